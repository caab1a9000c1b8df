/- Texts that a proof of this claim uses, joined: Lw.W147, Lw.W97, Lw.W98, Lw.W148, Lw.W149, Lw.W150, Lw.W151, Lw.W152, Lw.W153, Lw.W154, Lw.W155, Lw.W156, Lw.W157, Lw.W160, Lw.S33, Lw.W161. -/
import Derived.Test.YtkhdnmaebokedaaGreatGb
import Derived.Test.YtkhdnmaebokedaaGreatGa
import Derived.KernelRfl
set_option linter.all false
set_option maxHeartbeats 16000000
namespace Dv
attribute [local simp] List.replicate depth dCell dUse dInts dChoice dVar dProb tStart addO Ret
attribute [local congr] z1h z1j z17 z11 zr z18 zq


open Classical in
noncomputable def resKeep (p : Prob) (c : Cert) : D:=if OkP p then .tup [.bool (decide (chkC p c = 0)),dI 0] else .tup [.bool false,dI 270]

theorem r222 (p : Prob) (c : Cert) (S : Small p) (M : SmC c) : runP E (dL E) 222 [dProb p,dCert c] = some (resKeep p c):=by
 refine zc c222 (by simp) ?_
 have h15:=r15 p S
 have h216:=r216 p c S M
 simp only [dProb,dInts,dCert] at h15 h216
 unfold resKeep
 by_cases ok : OkP p
 rotate_left
 ·have e : ck p = 270:=by simp [ck,ok]
  simp [t222,n222,h15,e,ok,zh]
 have e : ck p = 0:=by simp [ck,ok]
 obtain ⟨x,hx⟩ : ∃ x,x = chkC p c:=⟨_,rfl⟩
 rw [<- hx] at h216 ⊢
 by_cases h : x = 0
 ·simp [t222,n222,h15,e,ok,zh,h216,h]
 ·have h' : (x == 0) = false:=by simp [h]
  simp [t222,n222,h15,e,ok,zh,h216,h,h']

def prob0 : Prob:=⟨[],[],[]⟩
open Classical in
noncomputable def resRep (p : Prob) (i : Int) (v : Var) : D:=if OkP p then (if 0 <= i /\ i < p.vars.length then (if OkP (putVar p i.toNat v) then .tup [dProb (putVar p i.toNat v),dI 0] else .tup [dProb prob0,dI 270]) else .tup [dProb prob0,dI 330]) else .tup [dProb prob0,dI 270]

theorem r214 (p : Prob) (i : Int) (v : Var) (S : Small p) (M : ∀ j,j < p.vars.length -> Mid (putVar p j v)) : runP E (dL E) 214 [dProb p,dI i,dVar v] = some (resRep p i v):=by
 refine zc c214 (by simp) ?_
 have h15:=r15 p S
 simp only [dProb,dInts] at h15
 unfold resRep prob0
 by_cases ok : OkP p
 rotate_left
 ·have e : ck p = 270:=by simp [ck,ok]
  simp [t214,n214,h15,e,ok]
 have e : ck p = 0:=by simp [ck,ok]
 by_cases h1 : i < 0
 ·have h2 : ¬ (0 <= i /\ i < p.vars.length):=by omega
  simp [t214,n214,h15,e,ok,h1,h2]
 by_cases h2 : i < p.vars.length
 rotate_left
 ·have h3 : ¬ (0 <= i /\ i < p.vars.length):=by omega
  have h4 : (p.vars.length : Int) <= i:=by omega
  simp [t214,n214,h15,e,ok,h1,h3,h4]
 obtain ⟨j,rfl⟩ : ∃ j : Nat,i = (j : Int):=⟨i.toNat,by omega⟩
 have hj : j < p.vars.length:=by omega
 have h3 : (0 : Int) <= j /\ (j : Int) < p.vars.length:=by omega
 have h4 : ¬ (p.vars.length : Int) <= j:=by omega
 have h5 : ¬ (j : Int) < 0:=by omega
 have h224:=r224 p j v hj (by have:=S.vars; omega)
 have g:=g15 (putVar p j v) (M j hj)
 rw [Int.toNat_natCast]
 obtain ⟨Q,hQ⟩ : ∃ Q,Q = putVar p j v:=⟨_,rfl⟩
 rw [<- hQ] at h224 g ⊢
 simp only [dProb,dInts,dVar] at h224 g
 by_cases okq : OkP Q
 ·have e2 : ck Q = 0:=by simp [ck,okq]
  rw [e2] at g
  simp [t214,n214,h15,e,ok,h3,h4,h5,hj,h224,g,okq]
 ·have e2 : ck Q = 270:=by simp [ck,okq]
  rw [e2] at g
  simp [t214,n214,h15,e,ok,h3,h4,h5,hj,h224,g,okq]

theorem zqb {E : Env} {a : TC} {Q : Ex -> List D -> List Obj -> Prop} {env : List D} {hp : List Obj} (I : Nat -> List D -> List Obj -> Prop) (k : Nat) (h0 : I k env hp)
  (step : ∀ k env hp,I k env hp -> wT E a (fun ex env' hp'=>match ex with
   | .normal=>∃ k',k' < k /\ I k' env' hp'
   | ex=>Q ex env' hp') env hp) : wT E (.loop a) Q env hp:=⟨I,k,h0,step⟩

theorem SmS.exam {p : Prob} {s : Srch} (M : SmS p s) (hs : OkS p s) : SmS p (exam p s):=by
 by_cases hn : s.opn = []
 ·rw [z4n hn]; exact M
 have h1:=z5s hn hs.opn
 have h2:=M.most
 have h3 : (Dv.exam p s).leaves.length <= s.leaves.length + 1:=by
  obtain ⟨l,b,hl⟩ : ∃ l b,s.opn = l ++ [b]:=⟨s.opn.dropLast,s.opn.getLast hn,(List.dropLast_concat_getLast hn).symm⟩
  rw [z30 hl]
  unfold examB
  split
  ·split <;> simp
  ·split <;> simp
 exact ⟨by omega⟩
theorem SmS.iter {p : Prob} (ok : OkP p) : ∀ {n : Nat} {s : Srch},SmS p s -> OkS p s -> SmS p (iter p n s)
 | 0,_,h,_=>h
 | n + 1,s,h,hs=>SmS.iter (n:=n) (s:=Dv.exam p s) ok (h.exam hs) (hs.exam ok)

theorem s150 (p : Prob) (s : Srch) (S : Small p) (ok : OkP p) (M : SmS p s) (hs : OkS p s) (k : Nat) (caps : List D) (more : Nat -> Bool) (hp0 : List Obj) (K : Nat -> List Obj -> Prop)
  (hm : ∀ n hp,K n hp -> ∃ hp',runS E (dL E) k caps hp = some (.bool (more n),hp') /\ K (n + 1) hp' /\ ∀ j o,hp0.length <= j -> At hp j o -> At hp' j o)
  (hK1 : ∀ n hp r,K n hp -> K n (hp ++ r)) (hK2 : ∀ n hp j o,K n hp -> hp0.length <= j -> K n (hp.set j o)) (h0 : K 0 hp0) :
  ∃ d hp',runS E (dL E) 150 [dProb p,dSrch s,.fn k caps] hp0 = some (d,hp') /\ ∃ n ns sp1 sp2,(∀ j,j < n -> more j = true) /\ ((iter p n s).opn = [] \/ more n = false) /\ (iter p n s).leaves = s.leaves ++ ns /\ (∀ x,x ∈ ns -> x.mult = []) /\
   d = .agg [.imm sp1 ((iter p n s).opn.map dInts),dInts (iter p n s).best,dInts (iter p n s).value,.imm sp2 (dLs s.leaves ns)] /\ ∃ m,K m hp':=by
 obtain ⟨R,hR⟩ : ∃ R : D -> List Obj -> Prop,R = fun d hp'=>∃ n ns sp1 sp2,(∀ j,j < n -> more j = true) /\ ((iter p n s).opn = [] \/ more n = false) /\ (iter p n s).leaves = s.leaves ++ ns /\ (∀ x,x ∈ ns -> x.mult = []) /\
   d = .agg [.imm sp1 ((iter p n s).opn.map dInts),dInts (iter p n s).best,dInts (iter p n s).value,.imm sp2 (dLs s.leaves ns)] /\ ∃ m,K m hp':=⟨_,rfl⟩
 have key : ∃ d hp',runS E (dL E) 150 [dProb p,dSrch s,.fn k caps] hp0 = some (d,hp') /\ R d hp':=by
  refine z2r c150 (args:=[dProb p,dSrch s,.fn k caps]) (hp:=hp0) (R:=R) (by simp) ?_
  have m1:=M.opn
  have h165:=r165 s.opn m1
  have h166:=r166 s.leaves
  simp [t150,n150,h165,h166,zh]
  obtain ⟨B,hB⟩ : ∃ B,B = hp0.length:=⟨_,rfl⟩
  rw [<- hB] at hm hK2 ⊢
  refine zqb (fun m env hp=>∃ (x8 x9 x10 x11 x12 x13 x14 x15 x16 x17 x18 x19 x20 x21 x22 x23 x24 x25 x26 x27 x28 x29 x30 x31 : D) (i : Nat) (ns : List Leaf) (sp1 sp2 : Spare),env = [dProb p,dSrch s,.fn k caps,.loc B 0,.loc (B + 1) 0,.loc (B + 1 + 1) 0,.loc (B + 3) 0,.fn 167 [.loc (B + 1) 0],x8,x9,x10,x11,x12,x13,x14,x15,x16,x17,x18,x19,x20,x21,x22,x23,x24,x25,x26,x27,x28,x29,x30,x31] /\
   m = wO p (iter p i s).opn /\ (∀ j,j < i -> more j = true) /\ (iter p i s).leaves = s.leaves ++ ns /\ (∀ x,x ∈ ns -> x.mult = []) /\ At hp B (.cells (dProb p).cellsL) /\
   At hp (B + 1) (.cells [.imm .none (s.opn.map dInts),dInts (iter p i s).best,dInts (iter p i s).value,.imm sp2 (dLs s.leaves ns)]) /\ At hp (B + 1 + 1) (.cells [.imm .exact [],.imm .exact [],.imm .exact [],.imm .exact []]) /\
   At hp (B + 3) (.cells [.imm sp1 ((iter p i s).opn.map dInts)]) /\ Room (B + 4) hp sp2 (s.leaves.length + ns.length) 3 /\ K i hp) (wO p s.opn)
   ⟨_,_,_,_,_,_,_,_,_,_,_,_,_,_,_,_,_,_,_,_,_,_,_,_,0,[],.none,.exact,rfl,rfl,fun j h=>absurd h (by omega),by simp [iter],fun x h=>(by cases h),by rw [hB]; simp [At],by rw [hB]; simp [At,iter,dLs],by rw [hB,Nat.add_assoc]; simp [At],by rw [hB]; simp [At,iter],.inl rfl,hK1 _ _ _ h0⟩ ?_
  rintro m env hp ⟨x8,x9,x10,x11,x12,x13,x14,x15,x16,x17,x18,x19,x20,x21,x22,x23,x24,x25,x26,x27,x28,x29,x30,x31,i,ns,sp1,sp2,rfl,hmm,hmore,hlv,hmu,g0,g1,g2,g3,hr,hK⟩
  have okt : OkS p (iter p i s):=OkS.iter ok hs
  have Mt : SmS p (iter p i s):=SmS.iter ok M hs
  have it1 : iter p (i + 1) s = exam p (iter p i s):=zl5
  have hRt : ∀ (hp' : List Obj) (sp1 : Spare),K i hp' \/ K (i + 1) hp' -> ((iter p i s).opn = [] \/ more i = false) -> R (.agg [.imm sp1 ((iter p i s).opn.map dInts),dInts (iter p i s).best,dInts (iter p i s).value,.imm sp2 (dLs s.leaves ns)]) hp':=fun hp' sp1 h h'=>by
   rw [hR]
   exact ⟨i,ns,sp1,sp2,hmore,h',hlv,hmu,rfl,h.elim (fun h=>⟨_,h⟩) fun h=>⟨_,h⟩⟩
  obtain ⟨t,ht⟩ : ∃ t,t = iter p i s:=⟨_,rfl⟩
  rw [<- ht] at hmm hlv g1 g3 okt Mt it1 hRt
  have hl1:=g1.lt
  have hl2:=g2.lt
  have G : ∀ (hq : List Obj),At hq (B + 1) (.cells [.imm .none (s.opn.map dInts),dInts t.best,dInts t.value,.imm sp2 (dLs s.leaves ns)]) -> At hq (B + 1 + 1) (.cells [.imm .exact [],.imm .exact [],.imm .exact [],.imm .exact []]) ->
   (∀ x,(hq.set (B + 1) x)[B + 1]? = some x) /\ (∀ x,(hq.set (B + 1) x)[B + 1 + 1]? = some (.cells [.imm .exact [],.imm .exact [],.imm .exact [],.imm .exact []])) /\ ∀ x y,((hq.set (B + 1) x).set (B + 1 + 1) y)[B + 1 + 1]? = some y:=fun hq a1 a2=>
   ⟨fun x=>List.getElem?_set_self a1.lt,fun x=>(a2.ne (by omega)).eq,fun x y=>List.getElem?_set_self (by rw [List.length_set]; exact a2.lt)⟩
  by_cases hno : t.opn = []
  ·obtain ⟨q1,q2,q3⟩:=G hp g1 g2
   rw [hno] at g3
   have hRt2:=fun hp' h=>hRt hp' sp1 h (.inl hno)
   rw [hno] at hRt2
   simp [g0.eq,g1.eq,g2.eq,g3.eq,zk,z1v,↓q1,↓q2,↓q3]
   exact hRt2 _ (.inl (hK2 _ _ _ _ (hK2 _ _ _ _ hK (by omega)) (by omega)))
  obtain ⟨l,b,hl⟩ : ∃ l b,t.opn = l ++ [b]:=⟨t.opn.dropLast,t.opn.getLast hno,(List.dropLast_concat_getLast hno).symm⟩
  have okb:=okt.opn b (by rw [hl]; simp)
  have hll : l.length <= 1000000000:=by have:=Mt.opn; rw [hl] at this; simp at this; omega
  have h168:=r168 l b hll
  obtain ⟨hp2,e1,e2,e3⟩:=hm i hp hK
  have h0l : (0 : Int) < l.length + 1:=by omega
  have a0:=e3 _ _ (by omega) g0
  have a1:=e3 _ _ (by omega) g1
  have a2:=e3 _ _ (by omega) g2
  have a3:=e3 _ _ (by omega) g3
  cases hmi : more i with
  | false=>
   obtain ⟨q1,q2,q3⟩:=G hp2 a1 a2
   rw [hmi] at e1
   rw [hl] at g3 a3
   have hRt2:=fun hp' h=>hRt hp' sp1 h (.inr hmi)
   rw [hl] at hRt2
   simp only [List.map_append,List.map_cons,List.map_nil,dInts] at hRt2
   simp [g0.eq,g1.eq,g2.eq,g3.eq,a0.eq,a1.eq,a2.eq,a3.eq,e1,h0l,zk,z1v,↓q1,↓q2,↓q3]
   exact hRt2 _ (.inr (hK2 _ _ _ _ (hK2 _ _ _ _ e2 (by omega)) (by omega)))
  | true=>
  rw [hmi] at e1
  rw [<- hl] at h168
  have h0n : ¬ t.opn.length = 0:=fun h=>hno (List.eq_nil_of_length_eq_zero h)
  have h0l : 0 < t.opn.length:=by omega
  obtain ⟨hp3,h3⟩ : ∃ hp3,hp3 = hp2.set (B + 3) (.cells [.imm .exact (l.map dInts)]):=⟨_,rfl⟩
  have b0:=a0.ne (j:=B + 3) (x:=.cells [.imm .exact (l.map dInts)]) (by omega)
  have b1:=a1.ne (j:=B + 3) (x:=.cells [.imm .exact (l.map dInts)]) (by omega)
  have b2:=a2.ne (j:=B + 3) (x:=.cells [.imm .exact (l.map dInts)]) (by omega)
  rw [<- h3] at b0 b1 b2
  have b3 : At hp3 (B + 3) (.cells [.imm .exact (l.map dInts)]):=by rw [h3]; exact At.self a3.lt
  have bK : K (i + 1) hp3:=by rw [h3]; exact hK2 _ _ _ _ e2 (by omega)
  have bR : Room (B + 4) hp3 sp2 (s.leaves.length + ns.length) 3:=by
   rcases hr with h | ⟨k,h1,h2,h4⟩
   ·exact .inl h
   ·refine .inr ⟨k,h1,h2,?_⟩
    rw [h3]
    exact (e3 _ _ (by omega) h4).ne (by omega)
  clear e3 a0 a1 a2 hK hr
  have hu:=z30 (p:=p) hl
  have hmore2 : ∀ j,j < i + 1 -> more j = true:=fun j hj=>by
   by_cases e : j = i
   ·rw [e]; exact hmi
   ·exact hmore j (by omega)
  have hles:=z5s hno okt.opn
  rw [<- it1] at hu hles
  have hnl : s.leaves.length + ns.length <= 1000000000:=by
   have:=Mt.lvs; rw [hlv,List.length_append] at this; exact this
  have hb20 : b.length <= 20:=by have:=okb.len; have:=S.vars; omega
  obtain ⟨V,hV⟩ : ∃ V,V = boundL p b:=⟨_,rfl⟩
  have h87:=r87 V t.value (by rw [hV]; simp [boundL]) (by
   rcases okt.val with ⟨e,_⟩ | ⟨_,e⟩
   ·rw [e]; simp
   ·rw [e]; simp [boundL])
  by_cases he : b.length = p.vars.length
  ·have he' : (b.length : Int) = p.vars.length:=by omega
   have h22:=r22 p b S hb20
   have wb : Whole p b:=⟨ok,okb,he⟩
   simp only [resV,if_pos wb,<- hV] at h22
   simp only [examB,if_pos he,bet,<- hV] at hu
   simp only [dProb,dInts] at h22 h87 h168
   by_cases hbt : (decide (t.value.length = 0) || decide (cmpL V t.value < 0)) = true
   ·rw [if_pos hbt] at hu
    obtain ⟨hp4,h4⟩ : ∃ hp4,hp4 = hp3.set (B + 1) (.cells [.imm .none (s.opn.map dInts),dInts b,dInts V,.imm sp2 (dLs s.leaves ns)]):=⟨_,rfl⟩
    obtain ⟨q1,_,_⟩:=G hp3 b1 b2
    have d0:=b0.ne (j:=B + 1) (x:=.cells [.imm .none (s.opn.map dInts),dInts b,dInts V,.imm sp2 (dLs s.leaves ns)]) (by omega)
    have d1 : At hp4 (B + 1) (.cells [.imm .none (s.opn.map dInts),dInts b,dInts V,.imm sp2 (dLs s.leaves ns)]):=by rw [h4]; exact At.self b1.lt
    have d2:=b2.ne (j:=B + 1) (x:=.cells [.imm .none (s.opn.map dInts),dInts b,dInts V,.imm sp2 (dLs s.leaves ns)]) (by omega)
    have d3:=b3.ne (j:=B + 1) (x:=.cells [.imm .none (s.opn.map dInts),dInts b,dInts V,.imm sp2 (dLs s.leaves ns)]) (by omega)
    rw [<- h4] at d0 d2 d3
    have dK : K (i + 1) hp4:=by rw [h4]; exact hK2 _ _ _ _ bK (by omega)
    have dR : Room (B + 4) hp4 sp2 (s.leaves.length + ns.length) 3:=by
     rcases bR with h | ⟨k,h1,h2,h5⟩
     ·exact .inl h
     ·exact .inr ⟨k,h1,h2,by rw [h4]; exact h5.ne (by omega)⟩
    obtain ⟨d,hp5,f1,f0,sp',f2,f3,f4,f5⟩:=s167 (i:=B + 1) (C:=B + 4) (hp:=hp4) b 1 s.leaves ns hnl d1 dR (by have:=d3.lt; omega) (by omega)
    simp only [dInts] at f1 h4
    have fin : ∃ k',k' < m /\
   ∃ x,
    k' = wO p (iter p x s).opn /\
     (∀ (j : Nat),j < x -> more j = true) /\
      ∃ x_1,
       (iter p x s).leaves = s.leaves ++ x_1 /\
        (∀ (x : Leaf),x ∈ x_1 -> x.mult = []) /\
         At hp5 B (.cells (dProb p).cellsL) /\
          ∃ x_2 x_3,
           At hp5 (B + 1) (.cells [.imm .none (s.opn.map dInts),dInts (iter p x s).best,dInts (iter p x s).value,.imm x_3 (dLs s.leaves x_1)]) /\
            At hp5 (B + 1 + 1) (.cells [.imm .exact [],.imm .exact [],.imm .exact [],.imm .exact []]) /\
             At hp5 (B + 3) (.cells [.imm x_2 ((iter p x s).opn.map dInts)]) /\
              Room (B + 4) hp5 x_3 (s.leaves.length + x_1.length) 3 /\ K x hp5:=
     ⟨_,by omega,i + 1,rfl,hmore2,ns ++ [⟨b,1,[]⟩],by rw [hu]; simp [hlv],fun x hx=>(by
      rcases List.mem_append.1 hx with hx | hx
      ·exact hmu x hx
      ·rw [List.mem_singleton.1 hx]),f4.at (by omega) (by omega) d0,.exact,sp',by rw [hu]; exact f2,f4.at (by omega) (by omega) d2,by rw [hu]; exact f4.at (by omega) (by omega) d3,by rw [List.length_append]; exact f3,f4 (K (i + 1)) (hK1 _) (fun hp j o h hj=>hK2 _ _ _ _ h (by omega)) dK⟩
    by_cases c1 : t.value = []
    ·simp [g0.eq,g1.eq,g2.eq,g3.eq,a3.eq,e1,h0l,zk,z1v,h168,<- h3,b0.eq,b1.eq,he',h22,c1,↓q1,<- h4,f1,zn f0]
     exact fin
    ·have c2 : cmpL V t.value < 0:=by
      have : ¬ t.value.length = 0:=fun h=>c1 (List.eq_nil_of_length_eq_zero h)
      simpa [this] using hbt
     simp [g0.eq,g1.eq,g2.eq,g3.eq,a3.eq,e1,h0l,zk,z1v,h168,<- h3,b0.eq,b1.eq,he',h22,h87,c1,c2,↓q1,<- h4,f1,zn f0]
     exact fin
   ·rw [if_neg hbt] at hu
    have c1 : ¬ t.value = []:=fun h=>hbt (by simp [h])
    have c2 : ¬ cmpL V t.value < 0:=fun h=>hbt (by simp [h])
    obtain ⟨d,hp5,f1,f0,sp',f2,f3,f4,f5⟩:=s167 (i:=B + 1) (C:=B + 4) (hp:=hp3) b 1 s.leaves ns hnl b1 bR (by have:=b3.lt; omega) (by omega)
    simp only [dInts] at f1
    simp [g0.eq,g1.eq,g2.eq,g3.eq,a3.eq,e1,h0l,zk,z1v,h168,<- h3,b0.eq,b1.eq,he',h22,h87,c1,c2,f1,zn f0]
    exact ⟨_,by omega,i + 1,rfl,hmore2,ns ++ [⟨b,1,[]⟩],by rw [hu]; simp [hlv],fun x hx=>(by
      rcases List.mem_append.1 hx with hx | hx
      ·exact hmu x hx
      ·rw [List.mem_singleton.1 hx]),f4.at (by omega) (by omega) b0,.exact,sp',by rw [hu]; exact f2,f4.at (by omega) (by omega) b2,by rw [hu]; exact f4.at (by omega) (by omega) b3,by rw [List.length_append]; exact f3,f4 (K (i + 1)) (hK1 _) (fun hp j o h hj=>hK2 _ _ _ _ h (by omega)) bK⟩
  have he' : ¬ (b.length : Int) = p.vars.length:=by omega
  have hlt : b.length < p.vars.length:=by have:=okb.len; omega
  have h3':=r3 p b S hb20
  simp only [resB,z5x ok okb,if_true,<- hV] at h3'
  simp only [examB,if_neg he,shut,<- hV] at hu
  simp only [dProb,dInts] at h3' h87 h168
  by_cases hsh : (decide (0 < t.value.length) && decide (0 <= cmpL V t.value)) = true
  ·rw [if_pos hsh] at hu
   have c1 : 0 < t.value.length:=by simp at hsh; exact hsh.1
   have c2 : 0 <= cmpL V t.value:=by simp at hsh; exact hsh.2
   obtain ⟨d,hp5,f1,f0,sp',f2,f3,f4,f5⟩:=s167 (i:=B + 1) (C:=B + 4) (hp:=hp3) b 2 s.leaves ns hnl b1 bR (by have:=b3.lt; omega) (by omega)
   simp only [dInts] at f1
   simp [g0.eq,g1.eq,g2.eq,g3.eq,a3.eq,e1,h0l,zk,z1v,h168,<- h3,b0.eq,b1.eq,he',h3',h87,c1,c2,f1,zn f0]
   exact ⟨_,by omega,i + 1,rfl,hmore2,ns ++ [⟨b,2,[]⟩],by rw [hu]; simp [hlv],fun x hx=>(by
      rcases List.mem_append.1 hx with hx | hx
      ·exact hmu x hx
      ·rw [List.mem_singleton.1 hx]),f4.at (by omega) (by omega) b0,.exact,sp',by rw [hu]; exact f2,f4.at (by omega) (by omega) b2,by rw [hu]; exact f4.at (by omega) (by omega) b3,by rw [List.length_append]; exact f3,f4 (K (i + 1)) (hK1 _) (fun hp j o h hj=>hK2 _ _ _ _ h (by omega)) bK⟩
  rw [if_neg hsh] at hu
  have h7:=r7 p b S hb20
  have h169:=r169 (nextL p b)
  obtain ⟨N,hN⟩ : ∃ N,N = nextL p b:=⟨_,rfl⟩
  simp only [resN,z5x ok okb,if_true,if_neg he,<- hN] at h7
  rw [<- hN] at h169 hu
  simp only [dProb,dInts] at h7
  have hc : ¬ 0 < t.value.length \/ (0 < t.value.length /\ cmpL V t.value < 0):=by
   by_cases c1 : 0 < t.value.length
   ·right
    have : ¬ 0 <= cmpL V t.value:=fun h=>hsh (by simp [c1,h])
    exact ⟨c1,by omega⟩
   ·exact .inl c1
  have hNl : N.length <= 8:=by
   rw [hN,zfr hlt]
   exact S.choices _ (List.getElem_mem hlt)
  rcases hc with c1 | ⟨c1,c2⟩
  ·simp [g0.eq,g1.eq,g2.eq,g3.eq,a3.eq,e1,h0l,zk,z1v,h168,<- h3,b0.eq,b1.eq,he',h3',c1,h7,h169]
   refine ⟨176,_,rfl,?_⟩
   intro L hL hcb
   obtain ⟨lp,hlp⟩ : ∃ lp,lp = hp3.length:=⟨_,rfl⟩
   rw [<- hlp] at hcb ⊢
   obtain ⟨J,hJ⟩ : ∃ J : List (List Int) -> List Obj -> Prop,J = fun rem hq=>∃ (dn W : List (List Int)) (sp : Spare),N.reverse = dn ++ rem /\ W = l ++ dn /\ At hq B (.cells (dProb p).cellsL) /\
    At hq (B + 1) (.cells [.imm .none (s.opn.map dInts),dInts t.best,dInts t.value,.imm sp2 (dLs s.leaves ns)]) /\ At hq (B + 1 + 1) (.cells [.imm .exact [],.imm .exact [],.imm .exact [],.imm .exact []]) /\
    At hq (B + 3) (.cells [.imm sp (W.map dInts)]) /\ Room (B + 4) hq sp W.length 1 /\ Room (B + 4) hq sp2 (s.leaves.length + ns.length) 3 /\ K (i + 1) hq /\ At hq lp (L false none):=⟨_,rfl⟩
   have hb3:=b3.lt
   obtain ⟨sl,ps,asg,body,hLe⟩:=hL
   have key2:=i176 N (by omega) lp J (fun _=>False) (by
    intro x rem hq hj
    rw [hJ] at hj
    obtain ⟨dn,W,sp,j1,jW,j2,j3,j4,j5,j6,j7,j8,j9⟩:=hj
    have hWl : W.length <= 1000000100:=by
     have:=congrArg List.length j1
     rw [List.length_reverse,List.length_append] at this
     rw [jW,List.length_append]; omega
    obtain ⟨W',hW'⟩ : ∃ W',W' = W ++ [x]:=⟨_,rfl⟩
    have hcat : List.map dInts W ++ [D.imm Spare.none (List.map dI x)] = List.map dInts W':=by rw [hW']; simp
    have hlen' : W'.length = W.length + 1:=by rw [hW']; simp
    have hap : ∀ y,appOk E 1 (List.map dInts W) [y]:=fun y=>by
     refine ⟨?_,?_,?_,z3f⟩ <;> simp [maxBytes]
     omega
    have z5:=j5.ne (j:=lp) (x:=L true none) (by omega)
    have l9:=j9.lt
    have noTok : ∀ k a b,At hq k (.tok a b) -> k ≠ lp:=fun k a b h e=>by
     subst e
     have:=h.eq.symm.trans j9.eq
     rw [hLe] at this
     simp at this
    obtain ⟨t',hp2',y1,y2⟩:=hcb [dInts x] hq (fun t' hp'=>t' = true /\ J rem hp') rfl j9 (by
     rcases j6 with rfl | ⟨k,rfl,jk,jk2⟩
     ·obtain ⟨T,hT⟩ : ∃ T,T = (hq.set lp (L true none) ++ [Obj.tok (W.length + 1) 1]).set (B + 3) (.cells [.imm (.tok hq.length) (W'.map dInts)]):=⟨_,rfl⟩
      have t1 : ∀ {m o},m ≠ lp -> m ≠ B + 3 -> At hq m o -> At T m o:=fun h1 h2 g=>by
       rw [hT]; exact ((g.ne (fun e=>h1 e.symm)).app).ne (fun e=>h2 e.symm)
      have t2 : At T lp (L true none):=by rw [hT]; exact ((At.self l9).app).ne (by omega)
      have t3 : At T (B + 3) (.cells [.imm (.tok hq.length) (W'.map dInts)]):=by rw [hT]; exact At.self (by simp; have:=j5.lt; omega)
      have t4 : At T hq.length (Obj.tok (W.length + 1) 1):=by
       rw [hT]
       refine At.ne ?_ (by have:=j5.lt; omega)
       have:=zz (hp:=hq.set lp (L true none)) (r:=[Obj.tok (W.length + 1) 1]) (k:=0)
       simpa [At] using this
      have tK : K (i + 1) T:=by rw [hT]; exact hK2 _ _ _ _ (hK1 _ _ _ (hK2 _ _ _ _ j8 (by omega))) (by omega)
      have tK2 : K (i + 1) (T.set lp (L false none)):=hK2 _ _ _ _ tK (by omega)
      have hJT : J rem (T.set lp (L false none)):=by
       rw [hJ]
       have n : ∀ {m o},m ≠ lp -> At T m o -> At (T.set lp (L false none)) m o:=fun h g=>g.ne (fun e=>h e.symm)
       refine ⟨dn ++ [x],W',.tok hq.length,by rw [j1]; simp,by rw [hW',jW]; simp,n (by omega) (t1 (by omega) (by omega) j2),n (by omega) (t1 (by omega) (by omega) j3),n (by omega) (t1 (by omega) (by omega) j4),n (by omega) t3,
        .inr ⟨_,rfl,by have:=j5.lt; omega,by rw [hlen',Nat.mul_one]; exact n (by omega) t4⟩,?_,tK2,At.self t2.lt⟩
       rcases j7 with h | ⟨k,h1,h2,h5⟩
       ·exact .inl h
       ·exact .inr ⟨k,h1,h2,n (noTok _ _ _ h5) (t1 (noTok _ _ _ h5) (by omega) h5)⟩
      simp [setAll,j9.eq,↓z5.eq,↓z5.appE,zt,z1f,hap,hcat,<- hT]
      exact ⟨t2.eq,hJT⟩
     ·have hkl:=noTok _ _ _ jk2
      have z6:=z5.ne (j:=k) (x:=.dead) (by omega)
      have z7:=jk2.ne (j:=lp) (x:=L true none) (fun e=>hkl e.symm)
      obtain ⟨T,hT⟩ : ∃ T,T = ((hq.set lp (L true none)).set k .dead ++ [Obj.tok (W.length + 1) 1]).set (B + 3) (.cells [.imm (.tok hq.length) (W'.map dInts)]):=⟨_,rfl⟩
      have t1 : ∀ {m o},m ≠ lp -> m ≠ B + 3 -> m ≠ k -> At hq m o -> At T m o:=fun h1 h2 h3 g=>by
       rw [hT]; exact (((g.ne (fun e=>h1 e.symm)).ne (fun e=>h3 e.symm)).app).ne (fun e=>h2 e.symm)
      have t2 : At T lp (L true none):=by rw [hT]; exact (((At.self l9).ne hkl).app).ne (by omega)
      have t3 : At T (B + 3) (.cells [.imm (.tok hq.length) (W'.map dInts)]):=by rw [hT]; exact At.self (by simp; have:=j5.lt; omega)
      have t4 : At T hq.length (Obj.tok (W.length + 1) 1):=by
       rw [hT]
       refine At.ne ?_ (by have:=j5.lt; omega)
       have:=zz (hp:=(hq.set lp (L true none)).set k .dead) (r:=[Obj.tok (W.length + 1) 1]) (k:=0)
       simpa [At] using this
      have tK : K (i + 1) T:=by rw [hT]; exact hK2 _ _ _ _ (hK1 _ _ _ (hK2 _ _ _ _ (hK2 _ _ _ _ j8 (by omega)) (by omega))) (by omega)
      have tK2 : K (i + 1) (T.set lp (L false none)):=hK2 _ _ _ _ tK (by omega)
      have hJT : J rem (T.set lp (L false none)):=by
       rw [hJ]
       have n : ∀ {m o},m ≠ lp -> At T m o -> At (T.set lp (L false none)) m o:=fun h g=>g.ne (fun e=>h e.symm)
       refine ⟨dn ++ [x],W',.tok hq.length,by rw [j1]; simp,by rw [hW',jW]; simp,n (by omega) (t1 (by omega) (by omega) (by omega) j2),n (by omega) (t1 (by omega) (by omega) (by omega) j3),n (by omega) (t1 (by omega) (by omega) (by omega) j4),n (by omega) t3,
        .inr ⟨_,rfl,by have:=j5.lt; omega,by rw [hlen',Nat.mul_one]; exact n (by have:=l9; omega) t4⟩,?_,tK2,At.self t2.lt⟩
       rcases j7 with h | ⟨k2,h1,h2,h5⟩
       ·exact .inl h
       ·have hkk : k2 ≠ k:=fun e=>by
         subst e
         have:=h5.eq.symm.trans jk2.eq
         simp at this
        exact .inr ⟨k2,h1,h2,n (noTok _ _ _ h5) (t1 (noTok _ _ _ h5) (by omega) hkk h5)⟩
      rw [Nat.mul_one] at z7
      simp [setAll,j9.eq,↓z5.eq,↓z6.appE,z7.eq,zt,z1u,hap,hcat,<- hT]
      exact ⟨t2.eq,hJT⟩)
    refine ⟨t',hp2',y1,fun _=>y2.2,fun h=>?_⟩
    rw [y2.1] at h; cases h) (hp:=hp3 ++ [L false none]) (by
    rw [hJ]
    exact ⟨[],l,.exact,by simp,by simp,b0.app,b1.app,b2.app,b3.app,.inl rfl,(by
     rcases bR with h | ⟨k,h1,h2,h5⟩
     ·exact .inl h
     ·exact .inr ⟨k,h1,h2,h5.app⟩),hK1 _ _ _ bK,by rw [hlp]; simp [At]⟩)
   obtain ⟨d,hp',k1,k2 | k2⟩:=key2
   ·rw [hJ] at k2
    obtain ⟨dn,W,sp,j1,jW,j2,j3,j4,j5,j6,j7,j8,j9⟩:=k2
    refine ⟨d,hp',k1,.inl ⟨j9.eq,?_⟩⟩
    rw [List.append_nil] at j1
    have noTok : ∀ k a b,At hp' k (.tok a b) -> k ≠ lp:=fun k a b h e=>by
     subst e
     have:=h.eq.symm.trans j9.eq
     rw [hLe] at this
     simp at this
    have n : ∀ {m o},m ≠ lp -> At hp' m o -> At (hp'.set lp .dead) m o:=fun h g=>g.ne (fun e=>h e.symm)
    rw [jW,<- j1] at j5
    simp
    exact ⟨_,by omega,i + 1,rfl,hmore2,ns,by rw [hu]; exact hlv,hmu,n (by omega) j2,sp,sp2,by rw [hu]; exact n (by omega) j3,n (by omega) j4,by rw [hu]; exact n (by omega) j5,(by
     rcases j7 with h | ⟨k,h1,h2,h5⟩
     ·exact .inl h
     ·exact .inr ⟨k,h1,h2,n (noTok _ _ _ h5) h5⟩),hK2 _ _ _ _ j8 (by omega)⟩
   ·exact k2.elim
  ·have c3 : ¬ 0 <= cmpL V t.value:=by omega
   simp [g0.eq,g1.eq,g2.eq,g3.eq,a3.eq,e1,h0l,zk,z1v,h168,<- h3,b0.eq,b1.eq,he',h3',h87,c1,c2,c3,h7,h169]
   refine ⟨176,_,rfl,?_⟩
   intro L hL hcb
   obtain ⟨lp,hlp⟩ : ∃ lp,lp = hp3.length:=⟨_,rfl⟩
   rw [<- hlp] at hcb ⊢
   obtain ⟨J,hJ⟩ : ∃ J : List (List Int) -> List Obj -> Prop,J = fun rem hq=>∃ (dn W : List (List Int)) (sp : Spare),N.reverse = dn ++ rem /\ W = l ++ dn /\ At hq B (.cells (dProb p).cellsL) /\
    At hq (B + 1) (.cells [.imm .none (s.opn.map dInts),dInts t.best,dInts t.value,.imm sp2 (dLs s.leaves ns)]) /\ At hq (B + 1 + 1) (.cells [.imm .exact [],.imm .exact [],.imm .exact [],.imm .exact []]) /\
    At hq (B + 3) (.cells [.imm sp (W.map dInts)]) /\ Room (B + 4) hq sp W.length 1 /\ Room (B + 4) hq sp2 (s.leaves.length + ns.length) 3 /\ K (i + 1) hq /\ At hq lp (L false none):=⟨_,rfl⟩
   have hb3:=b3.lt
   obtain ⟨sl,ps,asg,body,hLe⟩:=hL
   have key2:=i176 N (by omega) lp J (fun _=>False) (by
    intro x rem hq hj
    rw [hJ] at hj
    obtain ⟨dn,W,sp,j1,jW,j2,j3,j4,j5,j6,j7,j8,j9⟩:=hj
    have hWl : W.length <= 1000000100:=by
     have:=congrArg List.length j1
     rw [List.length_reverse,List.length_append] at this
     rw [jW,List.length_append]; omega
    obtain ⟨W',hW'⟩ : ∃ W',W' = W ++ [x]:=⟨_,rfl⟩
    have hcat : List.map dInts W ++ [D.imm Spare.none (List.map dI x)] = List.map dInts W':=by rw [hW']; simp
    have hlen' : W'.length = W.length + 1:=by rw [hW']; simp
    have hap : ∀ y,appOk E 1 (List.map dInts W) [y]:=fun y=>by
     refine ⟨?_,?_,?_,z3f⟩ <;> simp [maxBytes]
     omega
    have z5:=j5.ne (j:=lp) (x:=L true none) (by omega)
    have l9:=j9.lt
    have noTok : ∀ k a b,At hq k (.tok a b) -> k ≠ lp:=fun k a b h e=>by
     subst e
     have:=h.eq.symm.trans j9.eq
     rw [hLe] at this
     simp at this
    obtain ⟨t',hp2',y1,y2⟩:=hcb [dInts x] hq (fun t' hp'=>t' = true /\ J rem hp') rfl j9 (by
     rcases j6 with rfl | ⟨k,rfl,jk,jk2⟩
     ·obtain ⟨T,hT⟩ : ∃ T,T = (hq.set lp (L true none) ++ [Obj.tok (W.length + 1) 1]).set (B + 3) (.cells [.imm (.tok hq.length) (W'.map dInts)]):=⟨_,rfl⟩
      have t1 : ∀ {m o},m ≠ lp -> m ≠ B + 3 -> At hq m o -> At T m o:=fun h1 h2 g=>by
       rw [hT]; exact ((g.ne (fun e=>h1 e.symm)).app).ne (fun e=>h2 e.symm)
      have t2 : At T lp (L true none):=by rw [hT]; exact ((At.self l9).app).ne (by omega)
      have t3 : At T (B + 3) (.cells [.imm (.tok hq.length) (W'.map dInts)]):=by rw [hT]; exact At.self (by simp; have:=j5.lt; omega)
      have t4 : At T hq.length (Obj.tok (W.length + 1) 1):=by
       rw [hT]
       refine At.ne ?_ (by have:=j5.lt; omega)
       have:=zz (hp:=hq.set lp (L true none)) (r:=[Obj.tok (W.length + 1) 1]) (k:=0)
       simpa [At] using this
      have tK : K (i + 1) T:=by rw [hT]; exact hK2 _ _ _ _ (hK1 _ _ _ (hK2 _ _ _ _ j8 (by omega))) (by omega)
      have tK2 : K (i + 1) (T.set lp (L false none)):=hK2 _ _ _ _ tK (by omega)
      have hJT : J rem (T.set lp (L false none)):=by
       rw [hJ]
       have n : ∀ {m o},m ≠ lp -> At T m o -> At (T.set lp (L false none)) m o:=fun h g=>g.ne (fun e=>h e.symm)
       refine ⟨dn ++ [x],W',.tok hq.length,by rw [j1]; simp,by rw [hW',jW]; simp,n (by omega) (t1 (by omega) (by omega) j2),n (by omega) (t1 (by omega) (by omega) j3),n (by omega) (t1 (by omega) (by omega) j4),n (by omega) t3,
        .inr ⟨_,rfl,by have:=j5.lt; omega,by rw [hlen',Nat.mul_one]; exact n (by omega) t4⟩,?_,tK2,At.self t2.lt⟩
       rcases j7 with h | ⟨k,h1,h2,h5⟩
       ·exact .inl h
       ·exact .inr ⟨k,h1,h2,n (noTok _ _ _ h5) (t1 (noTok _ _ _ h5) (by omega) h5)⟩
      simp [setAll,j9.eq,↓z5.eq,↓z5.appE,zt,z1f,hap,hcat,<- hT]
      exact ⟨t2.eq,hJT⟩
     ·have hkl:=noTok _ _ _ jk2
      have z6:=z5.ne (j:=k) (x:=.dead) (by omega)
      have z7:=jk2.ne (j:=lp) (x:=L true none) (fun e=>hkl e.symm)
      obtain ⟨T,hT⟩ : ∃ T,T = ((hq.set lp (L true none)).set k .dead ++ [Obj.tok (W.length + 1) 1]).set (B + 3) (.cells [.imm (.tok hq.length) (W'.map dInts)]):=⟨_,rfl⟩
      have t1 : ∀ {m o},m ≠ lp -> m ≠ B + 3 -> m ≠ k -> At hq m o -> At T m o:=fun h1 h2 h3 g=>by
       rw [hT]; exact (((g.ne (fun e=>h1 e.symm)).ne (fun e=>h3 e.symm)).app).ne (fun e=>h2 e.symm)
      have t2 : At T lp (L true none):=by rw [hT]; exact (((At.self l9).ne hkl).app).ne (by omega)
      have t3 : At T (B + 3) (.cells [.imm (.tok hq.length) (W'.map dInts)]):=by rw [hT]; exact At.self (by simp; have:=j5.lt; omega)
      have t4 : At T hq.length (Obj.tok (W.length + 1) 1):=by
       rw [hT]
       refine At.ne ?_ (by have:=j5.lt; omega)
       have:=zz (hp:=(hq.set lp (L true none)).set k .dead) (r:=[Obj.tok (W.length + 1) 1]) (k:=0)
       simpa [At] using this
      have tK : K (i + 1) T:=by rw [hT]; exact hK2 _ _ _ _ (hK1 _ _ _ (hK2 _ _ _ _ (hK2 _ _ _ _ j8 (by omega)) (by omega))) (by omega)
      have tK2 : K (i + 1) (T.set lp (L false none)):=hK2 _ _ _ _ tK (by omega)
      have hJT : J rem (T.set lp (L false none)):=by
       rw [hJ]
       have n : ∀ {m o},m ≠ lp -> At T m o -> At (T.set lp (L false none)) m o:=fun h g=>g.ne (fun e=>h e.symm)
       refine ⟨dn ++ [x],W',.tok hq.length,by rw [j1]; simp,by rw [hW',jW]; simp,n (by omega) (t1 (by omega) (by omega) (by omega) j2),n (by omega) (t1 (by omega) (by omega) (by omega) j3),n (by omega) (t1 (by omega) (by omega) (by omega) j4),n (by omega) t3,
        .inr ⟨_,rfl,by have:=j5.lt; omega,by rw [hlen',Nat.mul_one]; exact n (by have:=l9; omega) t4⟩,?_,tK2,At.self t2.lt⟩
       rcases j7 with h | ⟨k2,h1,h2,h5⟩
       ·exact .inl h
       ·have hkk : k2 ≠ k:=fun e=>by
         subst e
         have:=h5.eq.symm.trans jk2.eq
         simp at this
        exact .inr ⟨k2,h1,h2,n (noTok _ _ _ h5) (t1 (noTok _ _ _ h5) (by omega) hkk h5)⟩
      rw [Nat.mul_one] at z7
      simp [setAll,j9.eq,↓z5.eq,↓z6.appE,z7.eq,zt,z1u,hap,hcat,<- hT]
      exact ⟨t2.eq,hJT⟩)
    refine ⟨t',hp2',y1,fun _=>y2.2,fun h=>?_⟩
    rw [y2.1] at h; cases h) (hp:=hp3 ++ [L false none]) (by
    rw [hJ]
    exact ⟨[],l,.exact,by simp,by simp,b0.app,b1.app,b2.app,b3.app,.inl rfl,(by
     rcases bR with h | ⟨k,h1,h2,h5⟩
     ·exact .inl h
     ·exact .inr ⟨k,h1,h2,h5.app⟩),hK1 _ _ _ bK,by rw [hlp]; simp [At]⟩)
   obtain ⟨d,hp',k1,k2 | k2⟩:=key2
   ·rw [hJ] at k2
    obtain ⟨dn,W,sp,j1,jW,j2,j3,j4,j5,j6,j7,j8,j9⟩:=k2
    refine ⟨d,hp',k1,.inl ⟨j9.eq,?_⟩⟩
    rw [List.append_nil] at j1
    have noTok : ∀ k a b,At hp' k (.tok a b) -> k ≠ lp:=fun k a b h e=>by
     subst e
     have:=h.eq.symm.trans j9.eq
     rw [hLe] at this
     simp at this
    have n : ∀ {m o},m ≠ lp -> At hp' m o -> At (hp'.set lp .dead) m o:=fun h g=>g.ne (fun e=>h e.symm)
    rw [jW,<- j1] at j5
    simp
    exact ⟨_,by omega,i + 1,rfl,hmore2,ns,by rw [hu]; exact hlv,hmu,n (by omega) j2,sp,sp2,by rw [hu]; exact n (by omega) j3,n (by omega) j4,by rw [hu]; exact n (by omega) j5,(by
     rcases j7 with h | ⟨k,h1,h2,h5⟩
     ·exact .inl h
     ·exact .inr ⟨k,h1,h2,n (noTok _ _ _ h5) h5⟩),hK2 _ _ _ _ j8 (by omega)⟩
   ·exact k2.elim
 rw [hR] at key
 exact key

theorem s151 {hp : List Obj} : runS E (dL E) 151 [] hp = some (.bool true,hp):=by
 obtain ⟨d,hp',h1,h2,h3⟩:=z2r c151 (args:=[]) (hp:=hp) (R:=fun d hp'=>d = .bool true /\ hp' = hp) (by simp) (by
  simp [t151,n151])
 rw [h1,h2,h3]

theorem zph : ∀ {vs : List Var},(∀ v,v ∈ vs -> v.choices.length <= 8) -> wgt vs <= 9 ^ vs.length
 | [],_=>by simp [wgt]
 | v :: vs,h=>by
  have h1:=zph (vs:=vs) fun w hw=>h w (by simp [hw])
  have h2:=h v (by simp)
  have h3:=zjr (vs:=vs)
  have h4 : v.choices.length * wgt vs <= 8 * wgt vs:=Nat.mul_le_mul_right _ h2
  simp only [wgt,List.length_cons,Nat.pow_succ]
  omega
theorem zn3 {p : Prob} (S : Small p) {b : List Int} : wB p b <= 531441:=by
 unfold wB
 have h1:=zph (vs:=p.vars.drop b.length) fun v hv=>S.choices v (List.mem_of_mem_drop hv)
 have h2 : (p.vars.drop b.length).length <= 6:=by have:=S.vars; simp; omega
 exact Nat.le_trans h1 (Nat.le_trans (Nat.pow_le_pow_right (by decide) h2) (by decide))
theorem zse {p : Prob} (S : Small p) : ∀ {l : List (List Int)},wO p l <= l.length * 531441
 | []=>by simp [wO]
 | b :: l=>by
  have h1:=zn3 S (b:=b)
  have h2:=zse S (l:=l)
  simp only [wO,List.length_cons]; omega
theorem SmS.of {p : Prob} (S : Small p) {s : Srch} (h1 : s.opn.length <= 1000) (h2 : s.leaves.length <= 100000000) : SmS p s:=⟨by
 have:=zse S (l:=s.opn)
 omega⟩
theorem zbm {p : Prob} (S : Small p) : SmS p startS:=SmS.of S (by decide) (by decide)

theorem r150 (p : Prob) (s : Srch) (S : Small p) (ok : OkP p) (M : SmS p s) (hs : OkS p s) : ∃ n,(iter p n s).opn = [] /\ runP E (dL E) 150 [dProb p,dSrch s,.fn 151 []] = some (dSrch (iter p n s)):=by
 obtain ⟨d,hp',f1,c,ns,sp1,sp2,f2,f3,f4,f5,f6,m,f7⟩:=s150 p s S ok M hs 151 [] (fun _=>true) [] (fun _ _=>True)
  (fun m hp _=>⟨hp,s151,trivial,fun j o _ h=>h⟩) (fun m hp r g=>trivial) (fun m hp j o g hj=>trivial) trivial
 have hz:=zo8 (hp:=hp') (n:=6) (ls:=s.leaves) (ns:=ns) f5
 rw [<- f4] at hz
 refine ⟨c,by simpa using f3,?_⟩
 have hk : E.keep 150 = false:=rfl
 unfold runP
 simp only [f1,f6,hk,frzK]
 simp [hz]

noncomputable def resSolve (p : Prob) : D:=if ck p = 0 then .tup [dCert (certS (solveS p)),dI 0] else .tup [dCert cert0,dI (ck p)]

theorem ck_ok {p : Prob} (h : ck p = 0) : OkP p:=by
 unfold ck at h
 split at h
 ·assumption
 ·cases h
theorem zj1 {p : Prob} (S : Small p) (ok : OkP p) : resCert p (solveS p) = .tup [dCert (certS (solveS p)),dI 0]:=by
 have h1 : OkS p (solveS p):=z3b.iter ok
 have h2:=z5a ok
 obtain ⟨w,e,_⟩:=z4f S ok
 have h3 : sk p (solveS p) = 0:=by simp [sk,ok,h1]
 unfold resCert
 rw [if_pos h3,if_pos ⟨by rw [h2]; rfl,by rw [e]; simp [boundL]⟩]

theorem r131 (p : Prob) (S : Small p) : runP E (dL E) 131 [dProb p] = some (resSolve p):=by
 refine zc c131 (by simp) ?_
 have h139:=r139 p S
 simp only [dProb] at h139
 unfold resStart at h139
 by_cases h : ck p = 0
 rotate_left
 ·rw [if_neg h] at h139
  simp [t131,n131,h139,h,resSolve,srch0,cert0]
 have ok:=ck_ok h
 rw [if_pos h] at h139
 obtain ⟨n,h1,h2⟩:=r150 p startS S ok (zbm S) z3b
 rw [znt ok h1] at h2
 have h133:=r133 p (solveS p) S ((zbm S).iter ok z3b)
 rw [zj1 S ok] at h133
 obtain ⟨V,hV⟩ : ∃ V,V = solveS p:=⟨_,rfl⟩
 rw [<- hV] at h2 h133
 simp only [dProb,dSrch,dInts] at h2 h133
 simp only [startS,dInts,List.map_cons,List.map_nil] at h2
 simp [t131,n131,h139,h,resSolve,<- hV,startS,h2,h133,certS,zh]

theorem zgh {p : Prob} {f : Nat} (h : ∀ (b : List Int) (s : RepS),b.length <= p.vars.length -> (exR p f b s).leaves.length <= s.leaves.length + wB p b) : ∀ (l : List (List Int)) (s : RepS),(∀ x,x ∈ l -> x.length <= p.vars.length) ->
  (l.foldl (fun s x=>exR p f x s) s).leaves.length <= s.leaves.length + wO p l
 | [],s,_=>by simp [wO]
 | x :: l,s,hl=>by
  have h1:=h x s (hl x (by simp))
  have h2:=zgh h l (exR p f x s) fun y hy=>hl y (by simp [hy])
  simp only [List.foldl_cons,wO]; omega
theorem zem {p : Prob} : ∀ (f : Nat) (b : List Int) (s : RepS),b.length <= p.vars.length -> (exR p f b s).leaves.length <= s.leaves.length + wB p b
 | 0,b,s,_=>by simp [exR]
 | f + 1,b,s,hb=>by
  have h1:=zb5 (p:=p) (b:=b)
  unfold exR
  by_cases e : b.length = p.vars.length
  ·rw [if_pos e]
   simp only [addL,List.length_append,List.length_singleton,z1o]; omega
  rw [if_neg e]
  split
  ·simp only [addL,List.length_append,List.length_singleton]; omega
  ·have hlt : b.length < p.vars.length:=by omega
   have h2:=zgh (p:=p) (f:=f) (fun b s hb=>zem f b s hb) (nextL p b) s fun x hx=>by
    obtain ⟨i,_,rfl⟩:=(z31 (p:=p) hlt).1 hx
    rw [List.length_append,List.length_singleton]; omega
   have h3:=zdd (p:=p) hlt
   omega

structure SmR (s : RepS) : Prop where
 best : s.best.length <= 20
 value : s.value.length <= 20
theorem zmh {p : Prob} {x : List Int} {s : RepS} (S : Small p) (h : SmR s) : SmR (betR p x s):=by
 unfold betR
 split
 ·rename_i hc
  exact ⟨by have:=hc.1.2.2; have:=S.vars; simp only; omega,by simp [boundL]⟩
 ·exact h
theorem zpt {p : Prob} (S : Small p) : ∀ (f : Nat) (b : List Int) (s : RepS),SmR s -> SmR (exR p f b s)
 | 0,b,s,h=>by simpa [exR] using h
 | f + 1,b,s,h=>by
  unfold exR
  split
  ·have:=zmh (x:=b) S h
   exact ⟨this.1,this.2⟩
  ·split
   ·exact ⟨h.1,h.2⟩
   ·have : ∀ (l : List (List Int)) (s : RepS),SmR s -> SmR (l.foldl (fun s x=>exR p f x s) s):=fun l=>by
     induction l with
     | nil=>intro s h; exact h
     | cons x l ih=>intro s h; exact ih _ (zpt S f x s h)
    exact this _ _ h

theorem r96 (l : List Int) (hl : l.length <= 1000000) : runP E (dL E) 96 [dInts l] = some (dInts l):=by
 refine zc c96 (by simp) ?_
 by_cases h0 : l = []
 ·subst h0
  simp [t96,n96,appendM,applyEf]
 ·have h1 : ¬ l.length = 0:=fun h=>h0 (List.eq_nil_of_length_eq_zero h)
  have hb : ((l.map dI).all fun d=>d.storable && d.cellsL.length == 1) = true:=zeh
  have hm : l.length * 9 <= maxBytes:=by unfold maxBytes; omega
  simp [t96,n96,appendM,applyEf,listOf,hb,h0,hm,fitsE,zge]

def brD (b : List Int) : D:=if b = [] then .imm .exact [] else dInts b
abbrev kLeaf (l : Leaf) : D:=.agg [brD l.branch,dI l.kind,.imm .exact []]
theorem z8v {b : List Int} : ∃ sp,brD b = .imm sp (b.map dI):=by
 unfold brD
 split
 ·rename_i h; exact ⟨_,by rw [h]; rfl⟩
 ·exact ⟨_,rfl⟩
theorem zrt {hp : List Obj} {n : Nat} {b : List Int} : frz hp (n + 2) (brD b) = some (dInts b):=by
 obtain ⟨sp,h⟩:=z8v (b:=b)
 rw [h,z3a,z3o]; rfl
theorem z9n {hp : List Obj} {n : Nat} : ∀ {l : List Leaf},(∀ x,x ∈ l -> x.mult = []) -> frzL (frz hp (n + 4)) (l.map kLeaf) = some (l.map dLeaf)
 | [],_=>rfl
 | x :: l,h=>by
  rw [List.map_cons,z14,z52]
  simp only [z14,z51,za,z3a,zrt,Option.map_some,z2f]
  rw [z9n fun y hy=>h y (by simp [hy])]
  simp [h x (by simp)]
theorem zio {l : List Leaf} : fitsE 3 (l.map kLeaf) = true:=by
 unfold fitsE
 rw [List.all_eq_true]
 intro x hx
 obtain ⟨r,_,rfl⟩:=List.mem_map.1 hx
 obtain ⟨sp,h⟩:=z8v (b:=r.branch)
 simp [kLeaf,h]
theorem zf6 {l : List Leaf} {x : D} (h : l.length <= 1000000000) : appOk E 32 (l.map kLeaf) [x]:=by
 refine ⟨?_,?_,?_,zio⟩ <;> simp [maxBytes]
 omega

def wkC (p : Prob) (s : RepS) (sb sv sp : Spare) (fn : D) : Obj:=.cells [.imm .none (p.cells.map dCell),.imm .none (p.capacity.map dInts),.imm .none (p.vars.map dVar),.imm sb (s.best.map dI),.imm sv (s.value.map dI),.imm sp (s.leaves.map kLeaf),.bool s.known,fn]

theorem s234 {W C : Nat} {hp : List Obj} {p : Prob} {s : RepS} {sb sv sp : Spare} {fn : D} (b : List Int) (kd : Int) (hn : s.leaves.length <= 1000000000)
  (g : At hp W (wkC p s sb sv sp fn)) (R : Room C hp sp s.leaves.length 3) (hC : C <= hp.length) (hW : W < C) :
  ∃ d hp',runS E (dL E) 234 [.loc W 0,brD b,dI kd] hp = some (d,hp') /\ isMark d = false /\ ∃ sp',At hp' W (wkC p (addL s b kd) sb sv sp' fn) /\ Room C hp' sp' (s.leaves.length + 1) 3 /\ Keep W C hp hp' /\ hp.length <= hp'.length:=by
 refine z2r c234 (args:=[.loc W 0,brD b,dI kd]) (hp:=hp) (R:=fun d hp'=>isMark d = false /\ ∃ sp',At hp' W (wkC p (addL s b kd) sb sv sp' fn) /\ Room C hp' sp' (s.leaves.length + 1) 3 /\ Keep W C hp hp' /\ hp.length <= hp'.length) (by simp) ?_
 have ha:=fun x=>zf6 (l:=s.leaves) (x:=x) hn
 have hl:=g.lt
 obtain ⟨sx,hx⟩:=z8v (b:=b)
 have hadd : (addL s b kd).leaves.map kLeaf = s.leaves.map kLeaf ++ [.agg [.imm sx (b.map dI),dI kd,.imm .exact []]]:=by simp [addL,kLeaf,hx]
 unfold wkC at g ⊢
 rw [hadd,hx]
 rcases R with rfl | ⟨k,rfl,hk,hk2⟩
 ·simp [t234,n234,g.eq,zt,z1f,ha,↓g.appE]
  refine ⟨_,At.self (by simp; omega),.inr ⟨hp.length,rfl,hC,At.ne (by simp [At]) (by omega)⟩,Keep.app.trans (Keep.set (.inl rfl))⟩
 ·have g2:=g.ne (j:=k) (x:=.dead) (by omega)
  simp [t234,n234,g.eq,zt,z1u,ha,hk2.eq,↓g2.appE]
  refine ⟨_,At.self (by simp; omega),.inr ⟨hp.length,rfl,hC,At.ne (by simp [At]) (by omega)⟩,((Keep.set (.inr hk)).trans Keep.app).trans (Keep.set (.inl rfl))⟩


theorem s235 {W : Nat} {hp : List Obj} {p : Prob} {s : RepS} {sb sv sp : Spare} {fn : D} (b : List Int) (S : Small p) (ok : OkP p) (okb : OkB p b) (M : SmR s)
  (g : At hp W (wkC p s sb sv sp fn)) : runS E (dL E) 235 [.loc W 0,brD b] hp = some (.bool (worse p b s),hp):=by
 have hb20 : b.length <= 20:=by have:=okb.len; have:=S.vars; omega
 have h3:=r3 p b S hb20
 have h9:=r9 p b S hb20
 unfold resB at h3
 unfold resL at h9
 rw [if_pos (z5x ok okb)] at h3 h9
 have hfl : (firstL p b).length <= 20:=by have:=okb.len; have:=S.vars; simp [firstL]; omega
 obtain ⟨A,hA⟩ : ∃ A,A = boundL p b:=⟨_,rfl⟩
 obtain ⟨F,hF⟩ : ∃ F,F = firstL p b:=⟨_,rfl⟩
 have h1:=r87 A s.value (by rw [hA]; simp [boundL]) (by have:=M.value; omega)
 have h2:=r87 F s.best (by rw [hF]; omega) (by have:=M.best; omega)
 obtain ⟨sx,hx⟩:=z8v (b:=b)
 rw [<- hA] at h3
 rw [<- hF] at h9
 have key : ∃ d hp',runS E (dL E) 235 [.loc W 0,brD b] hp = some (d,hp') /\ d = .bool (worse p b s) /\ hp' = hp:=by
  refine z2r c235 (args:=[.loc W 0,brD b]) (hp:=hp) (R:=fun d hp'=>d = .bool (worse p b s) /\ hp' = hp) (by simp) ?_
  unfold worse
  rw [<- hA,<- hF,hx]
  unfold wkC at g
  simp only [dProb,dInts] at h3 h9 h1 h2
  obtain ⟨c,hc⟩ : ∃ c,c = cmpL A s.value:=⟨_,rfl⟩
  rw [<- hc] at h1 ⊢
  by_cases h0 : c = 0
  ·simp [t235,n235,g.eq,h3,h9,h1,h2,h0]
  ·simp [t235,n235,g.eq,h3,h9,h1,h2,h0]
 obtain ⟨d,hp',e1,rfl,rfl⟩:=key
 exact e1

theorem s225 {W ip iw : Nat} {hp : List Obj} {p : Prob} {s : RepS} {sb sv sp sx : Spare} {fn : D} (x : List Int) (hxl : x.length <= 20) (S : Small p) (M : SmR s)
  (g : At hp W (wkC p s sb sv sp fn)) (g1 : At hp ip (.cells (dProb p).cellsL)) (g2 : At hp iw (.cells [.loc W 0])) (h1 : ip ≠ W) (h2 : iw ≠ W) :
  ∃ d hp',runS E (dL E) 225 [.imm sx (x.map dI),.loc ip 0,.loc iw 0] hp = some (d,hp') /\ isMark d = false /\ ∃ sb' sv',At hp' W (wkC p (betR p x s) sb' sv' sp fn) /\ Keep W hp.length hp hp' /\ hp.length <= hp'.length:=by
 refine z2r c225 (args:=[.imm sx (x.map dI),.loc ip 0,.loc iw 0]) (hp:=hp) (R:=fun d hp'=>isMark d = false /\ ∃ sb' sv',At hp' W (wkC p (betR p x s) sb' sv' sp fn) /\ Keep W hp.length hp hp' /\ hp.length <= hp'.length) (by simp) ?_
 have h22:=r22 p x S hxl
 simp only [dProb,dInts] at h22
 unfold resV at h22
 by_cases w : Whole p x
 rotate_left
 ·rw [if_neg w] at h22
  have e : betR p x s = s:=by unfold betR; rw [if_neg fun h=>w h.1]
  rw [e]
  simp [t225,n225,g1.eq,h22]
  exact ⟨⟨_,_,g⟩,Keep.refl⟩
 rw [if_pos w] at h22
 obtain ⟨A,hA⟩ : ∃ A,A = boundL p x:=⟨_,rfl⟩
 have k1:=r87 A s.value (by rw [hA]; simp [boundL]) (by have:=M.value; omega)
 have k2:=r87 x s.best (by omega) (by have:=M.best; omega)
 have k3:=r96 x (by omega)
 rw [<- hA] at h22
 simp only [dInts] at k1 k2 k3
 obtain ⟨c,hc⟩ : ∃ c,c = cmpL A s.value:=⟨_,rfl⟩
 rw [<- hc] at k1
 obtain ⟨c2,hc2⟩ : ∃ c,c = cmpL x s.best:=⟨_,rfl⟩
 rw [<- hc2] at k2
 by_cases hb : s.known = false \/ c < 0 \/ c = 0 /\ c2 < 0
 ·have e : betR p x s = ⟨x,A,true,s.leaves⟩:=by unfold betR; rw [<- hA,<- hc,<- hc2,if_pos ⟨w,hb⟩]
  rw [e]
  unfold wkC at g ⊢
  have gl:=g.lt
  have q3 : ∀ (r : List Obj) y,((hp ++ r).set W y)[W]? = some y:=fun r y=>(At.self (by simp; omega)).eq
  have q4 : ∀ (r : List Obj) y,((hp ++ r).set W y)[iw]? = some (.cells [.loc W 0]):=fun r y=>(g2.app.ne (Ne.symm h2)).eq
  have hK : ∀ (r : List Obj) y,Keep W hp.length hp ((hp ++ r).set W y):=fun r y=>Keep.app.trans (Keep.set (.inl rfl))
  have hS : ∀ (r : List Obj) y,At ((hp ++ r).set W y) W y:=fun r y=>At.self (by simp; omega)
  have fin : ∀ (a0 a1 a3 a4 a5 a6 a7 a8 a9 a10 : D) n1 n2 n3,chkT [a0,a1,.loc iw n1,a3,a4,a5,a6,a7,a8,a9,a10,.loc W n2,.loc W n3] [(2,11),(2,11),(2,12)] = true:=fun a0 a1 a3 a4 a5 a6 a7 a8 a9 a10 n1 n2 n3=>by
   simp [chkT,chk1,idsNe,did,h2]
  cases b1 : s.known with
  | false=>
   rw [b1] at g
   simp [t225,n225,g1.eq,g2.eq,g.eq,h22,k1,k2,k3,↓g2.appE,↓g.appE,↓q3,fin]
   exact ⟨⟨_,_,hS _ _⟩,hK _ _⟩
  | true=>
  rw [b1] at g hb
  by_cases b2 : c < 0
  ·simp [t225,n225,g1.eq,g2.eq,g.eq,h22,k1,k2,k3,b2,↓g2.appE,↓g.appE,↓q3,fin]
   exact ⟨⟨_,_,hS _ _⟩,hK _ _⟩
  ·have hb2 : c = 0 /\ c2 < 0:=by
    rcases hb with h | h | h
    ·cases h
    ·exact absurd h b2
    ·exact h
   obtain ⟨b3,b4⟩:=hb2
   simp [t225,n225,g1.eq,g2.eq,g.eq,h22,k1,k2,k3,b2,b3,b4,↓g2.appE,↓g.appE,↓q3,fin]
   exact ⟨⟨_,_,hS _ _⟩,hK _ _⟩
 ·have e : betR p x s = s:=by unfold betR; rw [<- hA,<- hc,<- hc2,if_neg fun h=>hb h.2]
  rw [e]
  unfold wkC at g ⊢
  have b1 : s.known = true:=by
   cases h : s.known with
   | true=>rfl
   | false=>exact absurd (.inl h) hb
  have b2 : ¬ c < 0:=fun h=>hb (.inr (.inl h))
  rw [b1] at g ⊢
  by_cases b3 : c = 0
  ·have b4 : ¬ c2 < 0:=fun h=>hb (.inr (.inr ⟨b3,h⟩))
   simp [t225,n225,g1.eq,g2.eq,g.eq,h22,k1,k2,b1,b2,b3,b4]
   exact ⟨⟨_,_,g⟩,Keep.refl⟩
  ·simp [t225,n225,g1.eq,g2.eq,g.eq,h22,k1,k2,b1,b2,b3]
   exact ⟨⟨_,_,g⟩,Keep.refl⟩

theorem Room.keep {W C : Nat} {hp hp' : List Obj} {sp : Spare} {n sz : Nat} (R : Room C hp sp n sz) (K : Keep W hp.length hp hp') (hW : W < C) : Room C hp' sp n sz:=by
 rcases R with h | ⟨k,h1,h2,h3⟩
 ·exact .inl h
 ·exact .inr ⟨k,h1,h2,K.at (by omega) h3.lt h3⟩
theorem Keep.le2 {W C C' : Nat} {hp hp' : List Obj} (h : Keep W C hp hp') (hC : C' <= C) : Keep W C' hp hp':=fun J h1 h2 h3=>h J h1 (fun hp j o hj hk=>h2 hp j o hj (by omega)) h3

theorem s226 {W C ip iw : Nat} {p : Prob} (S : Small p) (ok : OkP p) (h1 : ip ≠ W) (h2 : iw ≠ W) (l1 : ip < C) (l2 : iw < C) (l3 : W < C) : ∀ (f : Nat) (b : List Int) (s : RepS) (sb sv sp : Spare) (hp : List Obj),
  OkB p b -> p.vars.length - b.length < f -> okRep p s -> SmR s -> s.leaves.length + wB p b <= 1000000000 ->
  At hp W (wkC p s sb sv sp (.fn 225 [.loc ip 0,.loc iw 0])) -> At hp ip (.cells (dProb p).cellsL) -> At hp iw (.cells [.loc W 0]) -> Room C hp sp s.leaves.length 3 -> C <= hp.length ->
  ∃ d hp',runS E (dL E) 226 [.loc W 0,brD b] hp = some (d,hp') /\ isMark d = false /\ ∃ sb' sv' sp',At hp' W (wkC p (exR p f b s) sb' sv' sp' (.fn 225 [.loc ip 0,.loc iw 0])) /\ Room C hp' sp' (exR p f b s).leaves.length 3 /\ Keep W C hp hp' /\ hp.length <= hp'.length
 | 0,b,s,sb,sv,sp,hp,_,hf,_,_,_,_,_,_,_,_=>by omega
 | f + 1,b,s,sb,sv,sp,hp,okb,hf,okr,M,hc,g,g1,g2,R,hC=>by
  obtain ⟨Q,hQ⟩ : ∃ Q : List Obj -> Prop,Q = fun hp'=>∃ sb' sv' sp',At hp' W (wkC p (exR p (f + 1) b s) sb' sv' sp' (.fn 225 [.loc ip 0,.loc iw 0])) /\ Room C hp' sp' (exR p (f + 1) b s).leaves.length 3 /\ Keep W C hp hp' /\ hp.length <= hp'.length:=⟨_,rfl⟩
  have key : ∃ d hp',runS E (dL E) 226 [.loc W 0,brD b] hp = some (d,hp') /\ isMark d = false /\ Q hp':=by
   refine z2r c226 (args:=[.loc W 0,brD b]) (hp:=hp) (R:=fun d hp'=>isMark d = false /\ Q hp') (by simp) ?_
   obtain ⟨sx,hx⟩:=z8v (b:=b)
   have hb20 : b.length <= 20:=by have:=okb.len; have:=S.vars; omega
   have hwp:=zb5 (p:=p) (b:=b)
   have gc:=g
   unfold wkC at gc
   by_cases e : b.length = p.vars.length
   ·have e' : (b.length : Int) = p.vars.length:=by omega
    have hX : exR p (f + 1) b s = addL (betR p b s) b 1:=by rw [exR,if_pos e]
    obtain ⟨d1,hp1,a1,a2,sb1,sv1,a3,a4,a5⟩:=s225 (sx:=sx) b hb20 S M g g1 g2 h1 h2
    have R1:=R.keep a4 l3
    obtain ⟨d2,hp2,b1,b2,sp2,b3,b4,b5,b6⟩:=s234 b 1 (by rw [z1o]; omega) a3 (by rw [z1o]; exact R1) (by omega) l3
    have hQ2 : Q hp2:=by
     rw [hQ,hX]
     refine ⟨_,_,_,b3,?_,(a4.le2 hC).trans b5,by omega⟩
     have : (addL (betR p b s) b 1).leaves.length = (betR p b s).leaves.length + 1:=by simp [addL]
     rw [this]; exact b4
    rw [hx] at b1 ⊢
    simp [t226,n226,gc.eq,e',a1,zn a2,b1,zn b2,hQ2]
   have e' : ¬ (b.length : Int) = p.vars.length:=by omega
   have h235:=s235 b S ok okb M g
   by_cases hk : (s.known && worse p b s) = true
   ·have hX : exR p (f + 1) b s = addL s b 2:=by rw [exR,if_neg e,if_pos hk]
    obtain ⟨hk1,hk2⟩:=Bool.and_eq_true_iff.1 hk
    obtain ⟨d2,hp2,b1,b2,sp2,b3,b4,b5,b6⟩:=s234 b 2 (by omega) g R hC l3
    have hQ2 : Q hp2:=by
     rw [hQ,hX]
     refine ⟨_,_,_,b3,?_,b5,b6⟩
     have : (addL s b 2).leaves.length = s.leaves.length + 1:=by simp [addL]
     rw [this]; exact b4
    rw [hk2] at h235
    rw [hk1] at gc
    rw [hx] at b1 h235 ⊢
    simp [t226,n226,gc.eq,e',h235,b1,zn b2,hQ2]
   have hlt : b.length < p.vars.length:=by have:=okb.len; omega
   have hX : exR p (f + 1) b s = (nextL p b).foldl (fun s x=>exR p f x s) s:=by rw [exR,if_neg e,if_neg hk]
   have h7:=r7 p b S hb20
   unfold resN at h7
   rw [if_pos (z5x ok okb),if_neg e] at h7
   have hwn:=zdd (p:=p) hlt
   obtain ⟨N,hN⟩ : ∃ N,N = nextL p b:=⟨_,rfl⟩
   rw [<- hN] at h7 hX hwn
   simp only [dProb,dInts] at h7
   have hNm : ∀ x,x ∈ N -> OkB p x /\ x.length = b.length + 1:=fun x hx=>by
    rw [hN] at hx
    obtain ⟨j,hj,rfl⟩:=(z31 (p:=p) hlt).1 hx
    exact ⟨z77 okb hlt hj,by simp⟩
   obtain ⟨F,hF⟩ : ∃ F : Nat -> RepS,F = fun i=>(N.take i).foldl (fun s x=>exR p f x s) s:=⟨_,rfl⟩
   have hF0 : F 0 = s:=by rw [hF]; rfl
   have hFs : ∀ i (hi : i < N.length),F (i + 1) = exR p f N[i] (F i):=fun i hi=>by
    rw [hF]
    simp only
    rw [List.take_succ_eq_append_getElem hi,List.foldl_append]; rfl
   have hFe : F N.length = exR p (f + 1) b s:=by rw [hX,hF]; simp only [List.take_length]
   have hFok : ∀ i,i <= N.length -> okRep p (F i) /\ SmR (F i) /\ (F i).leaves.length <= s.leaves.length + wO p (N.take i):=fun i=>by
    induction i with
    | zero=>intro _; rw [hF0]; exact ⟨okr,M,by omega⟩
    | succ i ih=>
     intro hi
     obtain ⟨c1,c2,c3⟩:=ih (by omega)
     obtain ⟨o1,o2⟩:=hNm N[i] (List.getElem_mem _)
     rw [hFs i hi]
     have hcn:=zem (p:=p) f N[i] (F i) (by omega)
     refine ⟨(zen S ok f N[i] (F i) o1 (by omega) c1).ok,zpt S f _ _ c2,?_⟩
     rw [List.take_succ_eq_append_getElem hi,z94]
     simp only [wO]; omega
   have hwt : ∀ i (hi : i < N.length),wO p (N.take i) + wB p N[i] <= wO p N:=fun i hi=>by
    have : N = N.take i ++ N[i] :: N.drop (i + 1):=by rw [<- z9 hi,List.take_append_drop]
    have h2 : wO p N = wO p (N.take i) + wO p (N[i] :: N.drop (i + 1)):=by rw [<- z94,<- this]
    rw [h2]
    simp only [wO]; omega
   have hNl : N.length <= 1000000000:=by have:=zqe (p:=p) (l:=N); omega
   obtain ⟨D1,hD1⟩ : ∃ D1,D1 = brD b:=⟨_,rfl⟩
   rw [hx] at hD1
   have step : ∀ (i : Nat) (h : List Obj) (sb sv sp : Spare) (hi : i < N.length),At h W (wkC p (F i) sb sv sp (.fn 225 [.loc ip 0,.loc iw 0])) -> At h ip (.cells (dProb p).cellsL) -> At h iw (.cells [.loc W 0]) -> Room C h sp (F i).leaves.length 3 -> Keep W C hp h -> hp.length <= h.length ->
     ∃ d h',runS E (dL E) 226 [.loc W 0,.imm .none (N[i].map dI)] h = some (d,h') /\ isMark d = false /\ ∃ sb' sv' sp',At h' W (wkC p (F (i + 1)) sb' sv' sp' (.fn 225 [.loc ip 0,.loc iw 0])) /\ Room C h' sp' (F (i + 1)).leaves.length 3 /\ Keep W C hp h' /\ hp.length <= h'.length /\ At h' ip (.cells (dProb p).cellsL) /\ At h' iw (.cells [.loc W 0]):=fun i h sb sv sp hi a1 a2 a3 a4 a5 a6=>by
    obtain ⟨c1,c2,c3⟩:=hFok i (by omega)
    obtain ⟨o1,o2⟩:=hNm N[i] (List.getElem_mem _)
    have hw2:=hwt i hi
    obtain ⟨d,h',y1,y2,sb',sv',sp',y3,y4,y5,y6⟩:=s226 S ok h1 h2 l1 l2 l3 f N[i] (F i) sb sv sp h o1 (by omega) c1 c2 (by omega) a1 a2 a3 a4 (by omega)
    have hne : ¬ N[i] = []:=fun e=>by rw [e] at o2; simp at o2
    have hbr : brD N[i] = .imm .none (N[i].map dI):=by unfold brD; rw [if_neg hne]
    rw [hbr] at y1
    rw [<- hFs i hi] at y3 y4
    exact ⟨d,h',y1,y2,sb',sv',sp',y3,y4,a5.trans y5,by omega,y5.at h1 l1 a2,y5.at h2 l2 a3⟩
   have hw3 : s.known = true -> worse p b s = false:=fun h=>by
    rw [h] at hk
    simpa using hk
   rw [hx] at h235 ⊢
   cases hkn : s.known
   case' false=>
    rw [hkn] at gc
    simp [t226,n226,gc.eq,e',h7]
   case' true=>
    rw [hkn] at gc
    rw [hw3 hkn] at h235
    simp [t226,n226,gc.eq,e',h7,h235]
   all_goals
    refine z10 N.length (fun i env h=>(∃ (x1 x2 x3 x4 x5 x6 x7 x8 x9 x10 x11 x12 x16 x17 : D) (sb sv sp : Spare),env = [.loc W 0,x1,x2,x3,x4,x5,x6,x7,x8,x9,x10,x11,x12,.imm .none (N.map dInts),dI N.length,dI i,x16,x17] /\ At h W (wkC p (F i) sb sv sp (.fn 225 [.loc ip 0,.loc iw 0])) /\ At h ip (.cells (dProb p).cellsL) /\ At h iw (.cells [.loc W 0]) /\ Room C h sp (F i).leaves.length 3 /\ Keep W C hp h /\ hp.length <= h.length)) 0 (by omega)
     ⟨_,_,_,_,_,_,_,_,_,_,_,_,_,_,sb,sv,sp,rfl,by rw [hF0]; exact g,g1,g2,by rw [hF0]; exact R,Keep.refl,Nat.le_refl _⟩ ?_
    clear h235 gc
    rintro i env h hi ⟨x1,x2,x3,x4,x5,x6,x7,x8,x9,x10,x11,x12,x16,x17,sb,sv,sp,rfl,a1,a2,a3,a4,a5,a6⟩
    by_cases hli : i < N.length
    ·obtain ⟨d,h',y1,y2,sb',sv',sp',y3,y4,y5,y6,y7,y8⟩:=step i h sb sv sp hli a1 a2 a3 a4 a5 a6
     simp [hli,y1,zn y2,zf hli (by omega)]
     exact ⟨_,_,_,y3,y7,y8,y4,y5,y6⟩
    ·have : i = N.length:=by omega
     subst this
     have hQ2 : Q h:=by
      rw [hQ,<- hFe]
      exact ⟨_,_,_,a1,a4,a5,a6⟩
     simp [hQ2]
  rw [hQ] at key
  exact key

def certR (s : RepS) : Cert:=⟨s.best,s.value,s.leaves⟩
open Classical in
noncomputable def repC (p : Prob) (c : Cert) : Cert:=if chkC p c = 0 then c else certR (repS p c.best)
open Classical in
noncomputable def resRepair (p : Prob) (c : Cert) : D:=if OkP p then .tup [dCert (repC p c),dI 0] else .tup [dCert cert0,dI 270]

theorem zn1 {p : Prob} {s : RepS} {sb sv sp : Spare} {fn : D} {hp : List Obj} (h : ∀ x,x ∈ s.leaves -> x.mult = []) {n : Nat} :
  frz hp (n + 6) (.agg [.imm sb (s.best.map dI),.imm sv (s.value.map dI),.imm sp (s.leaves.map kLeaf)]) = some (dCert (certR s)):=by
 rw [z52]
 simp only [z14,z3a,z3o,z9n h,Option.map_some,za,z2f]
 rfl

theorem r215 (p : Prob) (c : Cert) (S : Small p) (M : SmC c) : runP E (dL E) 215 [dProb p,dCert c] = some (resRepair p c):=by
 refine zc c215 (by simp) ?_
 have h222:=r222 p c S M
 simp only [dProb,dInts,dCert] at h222
 unfold resKeep at h222
 unfold resRepair repC
 by_cases ok : OkP p
 rotate_left
 ·rw [if_neg ok] at h222
  simp [t215,n215,h222,ok,zh,cert0]
 rw [if_pos ok] at h222
 by_cases h0 : chkC p c = 0
 ·simp [t215,n215,h222,ok,zh,h0]
 have hd : decide (chkC p c = 0) = false:=by simp [h0]
 rw [hd] at h222
 simp only [if_neg h0,if_pos ok]
 have hg : (0 : Nat) <= 0:=Nat.le_refl _
 obtain ⟨H,hH⟩ : ∃ H : List Obj -> List Obj,H = fun r=>(.cells (dProb p).cellsL :: .cells (dCert c).cellsL :: .cells [.imm .exact [],.imm .exact [],.imm .exact []] :: wkC p ⟨[],[],false,[]⟩ .exact .exact .exact (.fn 225 [.loc 0 0,.loc 4 0]) :: .cells [.loc 3 0] :: r):=⟨_,rfl⟩
 have key : ∀ r,∃ d1 hp1,runS E (dL E) 225 [.imm .none (c.best.map dI),.loc 0 0,.loc 4 0] (H r) = some (d1,hp1) /\ isMark d1 = false /\ hp1[4]? = some (.cells [.loc 3 0]) /\ ∃ d2 hp2,runS E (dL E) 226 [.loc 3 0,.imm .exact []] hp1 = some (d2,hp2) /\ isMark d2 = false /\
   hp2[4]? = some (.cells [.loc 3 0]) /\ At hp2 2 (.cells [.imm .exact [],.imm .exact [],.imm .exact []]) /\ ∃ sb sv sp,At hp2 3 (wkC p (repS p c.best) sb sv sp (.fn 225 [.loc 0 0,.loc 4 0])):=fun r=>by
  have g0 : At (H r) 0 (.cells (dProb p).cellsL):=by rw [hH]; rfl
  have g2 : At (H r) 2 (.cells [.imm .exact [],.imm .exact [],.imm .exact []]):=by rw [hH]; rfl
  have g3 : At (H r) 3 (wkC p ⟨[],[],false,[]⟩ .exact .exact .exact (.fn 225 [.loc 0 0,.loc 4 0])):=by rw [hH]; rfl
  have g4 : At (H r) 4 (.cells [.loc 3 0]):=by rw [hH]; rfl
  have hl : 5 <= (H r).length:=by rw [hH]; simp
  have M0 : SmR ⟨[],[],false,[]⟩:=⟨by simp,by simp⟩
  obtain ⟨d1,hp1,a1,a2,sb,sv,a3,a4,a5⟩:=s225 (sx:=.none) c.best M.best S M0 g3 g0 g4 (by omega) (by omega)
  have b0:=a4.at (by omega) (by omega) g0
  have b2:=a4.at (by omega) (by omega) g2
  have b4:=a4.at (by omega) (by omega) g4
  have h0 : okRep p ⟨[],[],false,[]⟩:=fun h=>by cases h
  have hw:=zn3 S (b:=[])
  obtain ⟨d2,hp2,c1,c2,sb2,sv2,sp2,c3,c4,c5,c6⟩:=s226 S ok (C:=5) (W:=3) (ip:=0) (iw:=4) (by omega) (by omega) (by omega) (by omega) (by omega) (p.vars.length + 1) [] (betR p c.best ⟨[],[],false,[]⟩) sb sv .exact hp1
   zai (by simp) (zf1 h0) (zmh S M0) (by rw [z1o]; simp only [List.length_nil]; omega) a3 b0 b4 (.inl rfl) (by omega)
  exact ⟨d1,hp1,a1,a2,b4.eq,d2,hp2,c1,c2,(c5.at (by omega) (by omega) b4).eq,c5.at (by omega) (by omega) b2,sb2,sv2,sp2,c3⟩
 obtain ⟨d1,hp1,a1,a2,a3,d2,hp2,c1,c2,c3,c5,sb,sv,sp,c4⟩:=key [Obj.dead,Obj.dead,Obj.dead,Obj.dead,Obj.dead,Obj.dead,Obj.dead]
 rw [hH] at a1
 have hm : ∀ x,x ∈ (repS p c.best).leaves -> x.mult = []:=fun x hx=>((zbw S ok (old:=c.best)).2.2.2.1 x hx).2.2
 have hz:=fun hp=>zn1 (p:=p) (s:=repS p c.best) (sb:=sb) (sv:=sv) (sp:=sp) (fn:=.nilfn) (hp:=hp) hm (n:=5)
 unfold wkC at a1 c4
 have l5:=c5.lt
 have q2 : ∀ x,(hp2.set 2 x)[2]? = some x:=fun x=>(At.self l5).eq
 simp only [z2i,dProb,dCert] at a1
 obtain ⟨T,hT⟩ : ∃ T,T = repS p c.best:=⟨_,rfl⟩
 rw [<- hT] at c4 hz ⊢
 simp at a1 hz
 simp [t215,n215,h222,zh,a1,zn a2,a3,c1,zn c2,c3,c4.eq,c5.eq,↓q2,hz]

structure SmV (v : Var) : Prop where
 leaves : v.leaves.length <= 8
 choices : v.choices.length <= 8
 uses : ∀ c,c ∈ v.choices -> c.uses.length <= 12
structure MidV (v : Var) : Prop where
 leaves : v.leaves.length <= 9223372036854775807
 choices : v.choices.length <= 9223372036854775807
 uses : ∀ c,c ∈ v.choices -> c.uses.length <= 9223372036854775807
theorem SmV.mid {v : Var} (h : SmV v) : MidV v:=⟨by have:=h.leaves; omega,by have:=h.choices; omega,fun c hc=>by have:=h.uses c hc; omega⟩
theorem Small.var {p : Prob} (S : Small p) {v : Var} (hv : v ∈ p.vars) : SmV v:=⟨S.leaves v hv,S.choices v hv,S.uses v hv⟩
theorem Small.mid {p : Prob} (S : Small p) {v : Var} (V : MidV v) (j : Nat) : Mid (putVar p j v):=by
 have h : ∀ w,w ∈ p.vars.set j v -> MidV w:=fun w hw=>by
  rcases List.mem_or_eq_of_mem_set hw with h | rfl
  ·exact (S.var h).mid
  ·exact V
 exact ⟨S.cells,S.cap,S.rows,by simp only [putVar,List.length_set]; exact S.vars,fun w hw=>(h w hw).leaves,fun w hw=>(h w hw).choices,fun w hw=>(h w hw).uses⟩

theorem zfv {p : Prob} (h : lightB p = true) : Small p:=zct (by unfold lightB at h; exact (Bool.and_eq_true_iff.1 h).1)
theorem zfg {p : Prob} (S : Small p) (ok : OkP p) {c : Cert} (M : SmC c) : Acc p (repC p c) /\ SmC (repC p c):=by
 unfold repC
 by_cases h : chkC p c = 0
 ·rw [if_pos h]
  refine ⟨?_,M⟩
  unfold chkC at h
  split at h
  ·split at h
   ·assumption
   ·cases h
  ·cases h
 ·rw [if_neg h]
  obtain ⟨w,hv,_,hl,hd⟩:=zbw S ok (old:=c.best)
  have h3:=S.vars
  refine ⟨⟨w,hv.symm,fun l hm=>(hl l hm).2.1,hd,fun l hm=>(hl l hm).1⟩,?_⟩
  have hc : (repS p c.best).leaves.length <= 1000000:=by
   have h1:=zem (p:=p) (p.vars.length + 1) [] (betR p c.best ⟨[],[],false,[]⟩) (by simp)
   have h2:=zn3 S (b:=[])
   rw [z1o] at h1
   have e : (repS p c.best).leaves = (exR p (p.vars.length + 1) [] (betR p c.best ⟨[],[],false,[]⟩)).leaves:=rfl
   rw [e]
   simp only [List.length_nil] at h1
   omega
  exact ⟨by have:=w.2.2; show (repS p c.best).best.length <= 20; omega,by show (repS p c.best).value.length <= 1000; rw [hv]; simp [boundL],hc,fun l hm=>by
   obtain ⟨_,h5,h6⟩:=hl l hm
   exact ⟨by have:=h5.len; omega,by rw [h6]; exact ⟨by simp,fun _ hx=>by cases hx⟩⟩⟩
theorem zs4 {p : Prob} {c : Cert} (a : Acc p c) : chkC p c = 0:=by simp [chkC,a.whole,a]

theorem zh6 {x : D} (h : Typed E 17 x) : ∃ c,x = dChoice c /\ c.uses.length <= 9223372036854775807:=by
 obtain ⟨ds,rfl,h1⟩:=z2j h rfl
 obtain ⟨hl,hf⟩:=z2k h1 (fs:=[(0,2),(1,2),(2,2),(3,18)]) rfl
 obtain ⟨x,y,z,w,rfl⟩:=four hl
 obtain ⟨a,h2,o2⟩:=z28 (hf 0 _ rfl) rfl
 obtain ⟨b,h3,o3⟩:=z28 (hf 1 _ rfl) rfl
 obtain ⟨c,h4,o4⟩:=z28 (hf 2 _ rfl) rfl
 obtain ⟨els,h5,hn,h6⟩:=z2a (hf 3 _ rfl) (e:=19) rfl
 simp [E,tyTab] at h2 h3 h4 h5
 subst h2 h3 h4 h5
 obtain ⟨l,rfl,o⟩:=z39 (f:=dUse) (R:=okUse) (els:=els) fun x hx=>zpj (h6 x hx)
 have hm : Go.maxLen <= 9223372036854775807:=by decide
 exact ⟨⟨a,b,c,l⟩,rfl,by simp at hn; simp; omega⟩

theorem zqi {x : D} (h : Typed E 15 x) : ∃ v,x = dVar v /\ MidV v:=by
 obtain ⟨ds,rfl,h1⟩:=z2j h rfl
 obtain ⟨hl,hf⟩:=z2k h1 (fs:=[(0,2),(1,2),(2,6),(3,16)]) rfl
 obtain ⟨x,y,z,w,rfl⟩:=four hl
 obtain ⟨a,h2,o2⟩:=z28 (hf 0 _ rfl) rfl
 obtain ⟨b,h3,o3⟩:=z28 (hf 1 _ rfl) rfl
 obtain ⟨els0,h4,hn0,g4⟩:=z2a (hf 2 _ rfl) (e:=2) rfl
 obtain ⟨els,h5,hn,h6⟩:=z2a (hf 3 _ rfl) (e:=17) rfl
 simp [E,tyTab] at h2 h3 h4 h5
 subst h2 h3 h4 h5
 obtain ⟨l0,rfl,o0⟩:=z39 (f:=dI) (R:=i64) (els:=els0) fun x hx=>by
  obtain ⟨n,h2,o⟩:=z28 (z58 (g4 x hx) rfl) rfl
  simp at h2; exact ⟨n,h2,o⟩
 obtain ⟨l,rfl,o⟩:=z39 (f:=dChoice) (R:=fun c=>c.uses.length <= 9223372036854775807) (els:=els) fun x hx=>zh6 (h6 x hx)
 have hm : Go.maxLen <= 9223372036854775807:=by decide
 exact ⟨⟨a,b,l0,l⟩,rfl,by simp at hn0; simp; omega,by simp at hn; simp; omega,o⟩

theorem zfy {p : Prob} (ok : OkP p) : ∀ (n : Nat) (s : Srch),OkS p s -> wO p (iter p n s).opn + (iter p n s).leaves.length <= wO p s.opn + s.leaves.length
 | 0,s,_=>Nat.le_refl _
 | n + 1,s,hs=>by
  have h1:=zfy ok n (exam p s) (hs.exam ok)
  have e : iter p (n + 1) s = iter p n (exam p s):=rfl
  rw [e]
  refine Nat.le_trans h1 ?_
  by_cases hn : s.opn = []
  ·rw [z4n hn]; exact Nat.le_refl _
  have h2:=z5s hn hs.opn
  have h3 : (Dv.exam p s).leaves.length <= s.leaves.length + 1:=by
   obtain ⟨l,b,hl⟩ : ∃ l b,s.opn = l ++ [b]:=⟨s.opn.dropLast,s.opn.getLast hn,(List.dropLast_concat_getLast hn).symm⟩
   rw [z30 hl]
   unfold examB
   split
   ·split <;> simp
   ·split <;> simp
  omega

theorem zbo {p : Prob} (S : Small p) (ok : OkP p) : Acc p (certS (solveS p)) /\ SmC (certS (solveS p)):=by
 obtain ⟨w,hv,_⟩:=z4f S ok
 obtain ⟨hl,hd⟩:=zhd S ok
 have h3:=S.vars
 refine ⟨⟨w,hv.symm,fun l hm=>(hl l hm).2.1,hd,fun l hm=>(hl l hm).1⟩,?_⟩
 have hc : (solveS p).leaves.length <= 1000000:=by
  have h2:=zn3 S (b:=[])
  have h4 : wO p startS.opn + startS.leaves.length <= 531441:=by simp only [startS,wO,List.length_nil]; omega
  have h5 : (solveS p).leaves.length <= wO p startS.opn + startS.leaves.length:=by
   unfold solveS
   exact Nat.le_trans (Nat.le_add_left _ _) (zfy ok _ startS z3b)
  omega
 exact ⟨by have:=w.2.2; show (solveS p).best.length <= 20; omega,by show (solveS p).value.length <= 1000; rw [hv]; simp [boundL],hc,fun l hm=>by
  obtain ⟨_,h5,h6⟩:=hl l hm
  exact ⟨by have:=h5.len; omega,by rw [h6]; exact ⟨by simp,fun _ hx=>by cases hx⟩⟩⟩
theorem zh3 {p : Prob} (S : Small p) (ok : OkP p) {c : Cert} (a : Acc p c) : c.best = (solveS p).best /\ c.value = (solveS p).value:=by
 have h:=zm6 S ok a.whole (fun l hl=>⟨a.leaf l hl,a.branch l hl⟩) a.div
 obtain ⟨_,hv,_⟩:=z4f S ok
 exact ⟨h,by rw [<- a.value,hv,h]⟩

theorem r280 (l : Leaf) (L : SmL l) : runP E (dL E) 280 [dLeaf l,dLeaf l] = some (.bool true):=by
 refine zc c280 (by simp) ?_
 have h20:=r20 l.branch l.branch (by have:=L.branch; omega)
 have hm:=L.mult.len
 simp only [dInts,decide_true] at h20
 simp [t280,n280,h20]
 refine z10 l.mult.length (fun i env hp=>∃ (x6 x7 x8 : D) ,env = [dLeaf l,dLeaf l,.loc 0 0,.loc 1 0,.bool false,dI i,x6,x7,x8] /\ At hp 0 (.cells (dLeaf l).cellsL) /\ At hp 1 (.cells (dLeaf l).cellsL)) 0 (by omega) ⟨_,_,_,rfl,rfl,rfl⟩ ?_
 rintro i env hp hi ⟨x6,x7,x8,rfl,a1,a2⟩
 by_cases hlt : i < l.mult.length
 ·have h20:=r20 l.mult[i] l.mult[i] (by have:=L.mult.rows _ (List.getElem_mem hlt); omega)
  simp only [dInts,decide_true] at h20
  simp [hlt,zf hlt (by omega),↓a1.appE,↓a2.appE,a1.eq,a2.eq,h20]
  exact ⟨a1.app,a2.app⟩
 ·have : i = l.mult.length:=by omega
  subst this
  simp [a1.eq]

theorem r256 (c : Cert) (M : SmC c) : runP E (dL E) 256 [dCert c,dCert c] = some (.bool true):=by
 refine zc c256 (by simp) ?_
 have h20:=r20 c.best c.best (by have:=M.best; omega)
 have h20v:=r20 c.value c.value (by have:=M.value; omega)
 have hm:=M.leaves
 simp only [dInts,decide_true] at h20 h20v
 simp [t256,n256,h20,h20v]
 refine z10 c.leaves.length (fun i env hp=>∃ (x6 x7 x8 : D) ,env = [dCert c,dCert c,.loc 0 0,.loc 1 0,.bool false,dI i,x6,x7,x8] /\ At hp 0 (.cells (dCert c).cellsL) /\ At hp 1 (.cells (dCert c).cellsL)) 0 (by omega) ⟨_,_,_,rfl,rfl,rfl⟩ ?_
 rintro i env hp hi ⟨x6,x7,x8,rfl,a1,a2⟩
 by_cases hlt : i < c.leaves.length
 ·have h280:=r280 c.leaves[i] (M.leaf _ (List.getElem_mem hlt))
  simp only [dLeaf,dInts] at h280
  simp [hlt,zf hlt (by omega),↓a1.appE,↓a2.appE,a1.eq,a2.eq,h280]
  exact ⟨a1.app,a2.app⟩
 ·have : i = c.leaves.length:=by omega
  subst this
  simp [a1.eq]

theorem law261 (h1 : runP E (dL E) 212 [] = some (.bool true)) (p : Prob) (i : Int) (v : Var) (V : MidV v) : runP E (dL E) 261 [dProb p,dI i,dVar v] = some (.bool true):=by
 refine zc c261 (by simp) ?_
 have h2:=r129 p
 simp only [dProb,dInts] at h2
 cases hf : lightB p with
 | false=>simp [t261,n261,h1,h2,hf]
 | true=>
 rw [hf] at h2
 have S:=zfv hf
 have h131:=r131 p S
 unfold resSolve at h131
 have h214:=r214 p i v S (fun j _=>S.mid V j)
 unfold resRep prob0 at h214
 simp only [dProb,dInts,dVar] at h214
 by_cases ok : OkP p
 rotate_left
 ·rw [if_neg ok] at h214
  have e : ck p = 270:=by simp [ck,ok]
  rw [e] at h131
  simp only [dProb,dCert,cert0,dInts,List.map_nil] at h131
  simp at h131
  simp [t261,n261,h1,h2,h131,h214]
 have e : ck p = 0:=by simp [ck,ok]
 rw [if_pos e] at h131
 obtain ⟨Ao,Mo⟩:=zbo S ok
 obtain ⟨O,hO⟩ : ∃ O,O = certS (solveS p):=⟨_,rfl⟩
 rw [<- hO] at h131 Ao Mo
 simp only [dProb,dCert,dInts] at h131
 rw [if_pos ok] at h214
 by_cases hi : 0 <= i /\ i < p.vars.length
 rotate_left
 ·rw [if_neg hi] at h214
  simp [t261,n261,h1,h2,h131,h214,zh]
 rw [if_pos hi] at h214
 obtain ⟨Q,hQ⟩ : ∃ Q,Q = putVar p i.toNat v:=⟨_,rfl⟩
 rw [<- hQ] at h214
 by_cases okq : OkP Q
 rotate_left
 ·rw [if_neg okq] at h214
  simp [t261,n261,h1,h2,h131,h214,zh]
 rw [if_pos okq] at h214
 have h2q:=r129 Q
 simp only [dProb,dInts] at h2q
 cases hfq : lightB Q with
 | false=>
  rw [hfq] at h2q
  simp [t261,n261,h1,h2,h131,h214,h2q,zh]
 | true=>
 rw [hfq] at h2q
 have Sq:=zfv hfq
 have h131q:=r131 Q Sq
 unfold resSolve at h131q
 rw [if_pos (by simp [ck,okq])] at h131q
 obtain ⟨Aa,Ma⟩:=zbo Sq okq
 have h215b:=r215 Q O Sq Mo
 unfold resRepair at h215b
 rw [if_pos okq] at h215b
 obtain ⟨Ab,Mb⟩:=zfg Sq okq Mo
 obtain ⟨B,hB⟩ : ∃ B,B = repC Q O:=⟨_,rfl⟩
 rw [<- hB] at h215b Ab Mb
 have h215c:=r215 Q B Sq Mb
 unfold resRepair at h215c
 have hcB : repC Q B = B:=by unfold repC; rw [if_pos (zs4 Ab)]
 rw [if_pos okq,hcB] at h215c
 have h215d:=r215 p B S Mb
 unfold resRepair at h215d
 rw [if_pos ok] at h215d
 obtain ⟨Ad,Md⟩:=zfg S ok Mb
 obtain ⟨D',hD⟩ : ∃ D',D' = repC p B:=⟨_,rfl⟩
 rw [<- hD] at h215d Ad Md
 obtain ⟨b1,b2⟩:=zh3 Sq okq Ab
 obtain ⟨d1,d2⟩:=zh3 S ok Ad
 obtain ⟨A',hA⟩ : ∃ A',A' = certS (solveS Q):=⟨_,rfl⟩
 rw [<- hA] at h131q Aa Ma
 have a1 : A'.best = B.best:=by rw [hA,b1]; rfl
 have a2 : A'.value = B.value:=by rw [hA,b2]; rfl
 have o1 : D'.best = O.best:=by rw [hO,d1]; rfl
 have o2 : D'.value = O.value:=by rw [hO,d2]; rfl
 have k1:=r20 B.best B.best (by have:=Mb.best; omega)
 have k2:=r20 B.value B.value (by have:=Mb.value; omega)
 have k3:=r20 O.best O.best (by have:=Mo.best; omega)
 have k4:=r20 O.value O.value (by have:=Mo.value; omega)
 have k5:=r256 B Mb
 simp only [dProb,dCert,dInts,decide_true] at h131q h215b h215c h215d k1 k2 k3 k4 k5
 rw [a1,a2] at h131q
 rw [o1,o2] at h215d
 simp [t261,n261,h1,h2,h131,h214,h2q,h131q,h215b,h215c,h215d,k1,k2,k3,k4,k5,zh]

theorem repairSearch (h1 : runP E (dL E) 212 [] = some (.bool true)) : ∀ xs,TypedL E [0,2,15] xs -> ∃ n,runP E (dC E n) 261 xs = some (.bool true):=by
 intro xs h
 match xs,h with
 | [x,y,z],⟨t1,t2,t3,_⟩=>
  obtain ⟨p,rfl,_⟩:=zqj t1
  obtain ⟨i,rfl,_⟩:=zsj t2 rfl
  obtain ⟨v,rfl,V⟩:=zqi t3
  exact zaa (law261 h1 p i v V)
 | [],h=>exact h.elim
 | [_],h=>exact h.2.elim
 | [_,_],h=>exact h.2.2.elim
 | _ :: _ :: _ :: _ :: _,h=>exact h.2.2.2.elim

def c9E : Cell:=⟨false,0,9⟩
def nowE : Choice:=⟨0,0,0,[⟨c9E,1⟩]⟩
def svE : Var:=⟨0,0,[0],[nowE,⟨10,3,0,[]⟩]⟩
def swE : Var:=⟨0,0,[0],[nowE,⟨10,5,0,[]⟩]⟩
def freE : Var:=⟨0,0,[0],[⟨0,1,0,[]⟩]⟩
def spE : Prob:=⟨[c9E],[[1]],[svE,swE]⟩
def sqE : Prob:=⟨[c9E],[[1]],[freE,swE]⟩
def noE : Prob:=⟨[],[[]],[]⟩
def acE : Cert:=⟨[1,0],[0,10,3,0],[⟨[0,0],1,[]⟩,⟨[0,1],1,[]⟩,⟨[1,0],1,[]⟩,⟨[1,1],1,[]⟩]⟩
def bcE : Cert:=⟨[0,0],[0,0,1,0],[⟨[0,0],1,[]⟩,⟨[0,1],1,[]⟩]⟩
def ccE : Cert:=⟨[],[0,0,0,0],[⟨[],1,[]⟩]⟩

theorem up33 {k : Nat} {a : List D} {r : D} {n : Nat} (h : runP E (dC E n) k a = some r) : runP E (dL E) k a = some r:=z41 (fun _ _ _ h=>z3p _ _ _ h) h

theorem e221 : runP E (dL E) 221 [] = some (dProb spE):=up33 (n:=100) (by kernel_rfl)
theorem e215a : runP E (dL E) 215 [dProb spE,dCert cert0] = some (.tup [dCert acE,dI 0]):=up33 (n:=100) (by kernel_rfl)
theorem e214a : runP E (dL E) 214 [dProb spE,dI 0,dVar freE] = some (.tup [dProb sqE,dI 0]):=up33 (n:=100) (by kernel_rfl)
theorem e215b : runP E (dL E) 215 [dProb sqE,dCert acE] = some (.tup [dCert bcE,dI 0]):=up33 (n:=100) (by kernel_rfl)
theorem e222a : runP E (dL E) 222 [dProb spE,dCert acE] = some (.tup [.bool true,dI 0]):=up33 (n:=100) (by kernel_rfl)
theorem e222b : runP E (dL E) 222 [dProb sqE,dCert acE] = some (.tup [.bool false,dI 0]):=up33 (n:=100) (by kernel_rfl)
theorem e214b : runP E (dL E) 214 [dProb noE,dI 0,dVar freE] = some (.tup [dProb prob0,dI 330]):=up33 (n:=100) (by kernel_rfl)
theorem e222c : runP E (dL E) 222 [dProb spE,dCert cert0] = some (.tup [.bool false,dI 0]):=up33 (n:=100) (by kernel_rfl)
theorem e215c : runP E (dL E) 215 [dProb noE,dCert cert0] = some (.tup [dCert ccE,dI 0]):=up33 (n:=100) (by kernel_rfl)
theorem e215d : runP E (dL E) 215 [dProb prob0,dCert acE] = some (.tup [dCert cert0,dI 270]):=up33 (n:=100) (by kernel_rfl)
theorem e216a : runP E (dL E) 216 [dProb spE,dCert acE] = some (dI 0):=up33 (n:=100) (by kernel_rfl)
theorem e216b : runP E (dL E) 216 [dProb sqE,dCert bcE] = some (dI 0):=up33 (n:=100) (by kernel_rfl)
theorem e216c : runP E (dL E) 216 [dProb noE,dCert ccE] = some (dI 0):=up33 (n:=100) (by kernel_rfl)

theorem sane212 : runP E (dL E) 212 [] = some (.bool true):=by
 refine zc c212 (by simp) ?_
 have h1:=e221
 have h2:=e215a
 have h3:=e214a
 have h4:=e215b
 have h5:=e222a
 have h6:=e222b
 have h7:=e214b
 have h8:=e222c
 have h9:=e215c
 have h10:=e215d
 have h11:=e216a
 have h12:=e216b
 have h13:=e216c
 have h14:=fun l hl=>r20 l l hl
 simp only [decide_true] at h14
 have h15:=h14 [1,0] (by simp)
 have h16:=h14 [0,10,3,0] (by simp)
 have h17:=h14 [0,0] (by simp)
 have h18:=h14 [0,0,0,0] (by simp)
 simp only [dProb,dInts,dCert,cert0,prob0,spE,sqE,noE,svE,swE,freE,nowE,c9E,acE,bcE,ccE,dLeaf,dVar,dChoice,dUse,dCell,List.map_cons,List.map_nil] at h1 h2 h3 h4 h5 h6 h7 h8 h9 h10 h11 h12 h13 h15 h16 h17 h18
 simp [t212,n212,h1,h2,h3,h4,h5,h6,h7,h8,h9,h10,h11,h12,h13,h15,h16,h17,h18,z14,z2f]

end Dv

namespace Dv

theorem repairSearch' : ∀ xs,TypedL E [0,2,15] xs -> ∃ n,runP E (dC E n) 261 xs = some (.bool true):=repairSearch sane212
end Dv
