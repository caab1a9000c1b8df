/- Texts that a proof of this claim uses, joined: Lw.W147, Lw.W97, Lw.W98, Lw.W148, Lw.W149, Lw.W150, Lw.W151, Lw.W152, Lw.W153, Lw.W154, Lw.W155, Lw.W156, Lw.W157, Lw.W160, Lw.S33, Lw.W161. -/
import Derived.Test.YtkhdnmaebokedaaGreatGb
import Derived.Test.YtkhdnmaebokedaaGreatGa
import Derived.KernelRfl
set_option linter.all false
set_option maxHeartbeats 16000000
namespace Dv
attribute [local simp] List.replicate depth dCell dUse dInts dChoice dVar dProb tStart addO Ret
attribute [local congr] z1n z1p z18 z10 zu z19 zt


open Classical in
noncomputable def resKeep (p : Prob) (c : Cert) : D:=if OkP p then .tup [.bool (decide (chkC p c = 0)),dI 0] else .tup [.bool false,dI 270]

theorem r222 (p : Prob) (c : Cert) (S : Small p) (M : SmC c) : runP E (dL E) 222 [dProb p,dCert c] = some (resKeep p c):=by
 refine zc c222 (by simp) ?_
 have h15:=r15 p S
 have h216:=r216 p c S M
 simp only [dProb,dInts,dCert] at h15 h216
 unfold resKeep
 by_cases ok : OkP p
 rotate_left
 ·have e : ck p = 270:=by simp [ck,ok]
  simp [t222,n222,h15,e,ok,zh]
 have e : ck p = 0:=by simp [ck,ok]
 obtain ⟨x,hx⟩ : ∃ x,x = chkC p c:=⟨_,rfl⟩
 rw [<- hx] at h216 ⊢
 by_cases h : x = 0
 ·simp [t222,n222,h15,e,ok,zh,h216,h]
 ·have h' : (x == 0) = false:=by simp [h]
  simp [t222,n222,h15,e,ok,zh,h216,h,h']

def prob0 : Prob:=⟨[],[],[]⟩

theorem zpf {E : Env} {a : TC} {Q : Ex -> List D -> List Obj -> Prop} {env : List D} {hp : List Obj} (I : Nat -> List D -> List Obj -> Prop) (k : Nat) (h0 : I k env hp)
  (step : ∀ k env hp,I k env hp -> wT E a (fun ex env' hp'=>match ex with
   | .normal=>∃ k',k' < k /\ I k' env' hp'
   | ex=>Q ex env' hp') env hp) : wT E (.loop a) Q env hp:=⟨I,k,h0,step⟩

theorem SmS.exam {p : Prob} {s : Srch} (M : SmS p s) (hs : OkS p s) : SmS p (exam p s):=by
 by_cases hn : s.opn = []
 ·rw [z4c hn]; exact M
 have h1:=z5d hn hs.opn
 have h2:=M.most
 have h3 : (Dv.exam p s).leaves.length <= s.leaves.length + 1:=by
  obtain ⟨l,b,hl⟩ : ∃ l b,s.opn = l ++ [b]:=⟨s.opn.dropLast,s.opn.getLast hn,(List.dropLast_concat_getLast hn).symm⟩
  rw [z2s hl]
  unfold examB
  split
  ·split <;> simp
  ·split <;> simp
 exact ⟨by omega⟩
theorem SmS.iter {p : Prob} (ok : OkP p) : ∀ {n : Nat} {s : Srch},SmS p s -> OkS p s -> SmS p (iter p n s)
 | 0,_,h,_=>h
 | n + 1,s,h,hs=>SmS.iter (n:=n) (s:=Dv.exam p s) ok (h.exam hs) (hs.exam ok)

theorem s150 (p : Prob) (s : Srch) (S : Small p) (ok : OkP p) (M : SmS p s) (hs : OkS p s) (k : Nat) (caps : List D) (more : Nat -> Bool) (hp0 : List Obj) (K : Nat -> List Obj -> Prop)
  (hm : ∀ n hp,K n hp -> ∃ hp',runS E (dL E) k caps hp = some (.bool (more n),hp') /\ K (n + 1) hp' /\ ∀ j o,hp0.length <= j -> At hp j o -> At hp' j o)
  (hK1 : ∀ n hp r,K n hp -> K n (hp ++ r)) (hK2 : ∀ n hp j o,K n hp -> hp0.length <= j -> K n (hp.set j o)) (h0 : K 0 hp0) :
  ∃ d hp',runS E (dL E) 150 [dProb p,dSrch s,.fn k caps] hp0 = some (d,hp') /\ ∃ n ns sp1 sp2,(∀ j,j < n -> more j = true) /\ ((iter p n s).opn = [] \/ more n = false) /\ (iter p n s).leaves = s.leaves ++ ns /\ (∀ x,x ∈ ns -> x.mult = []) /\
   d = .agg [.imm sp1 ((iter p n s).opn.map dInts),dInts (iter p n s).best,dInts (iter p n s).value,.imm sp2 (dLs s.leaves ns)] /\ ∃ m,K m hp':=by
 obtain ⟨R,hR⟩ : ∃ R : D -> List Obj -> Prop,R = fun d hp'=>∃ n ns sp1 sp2,(∀ j,j < n -> more j = true) /\ ((iter p n s).opn = [] \/ more n = false) /\ (iter p n s).leaves = s.leaves ++ ns /\ (∀ x,x ∈ ns -> x.mult = []) /\
   d = .agg [.imm sp1 ((iter p n s).opn.map dInts),dInts (iter p n s).best,dInts (iter p n s).value,.imm sp2 (dLs s.leaves ns)] /\ ∃ m,K m hp':=⟨_,rfl⟩
 have key : ∃ d hp',runS E (dL E) 150 [dProb p,dSrch s,.fn k caps] hp0 = some (d,hp') /\ R d hp':=by
  refine z3s c150 (args:=[dProb p,dSrch s,.fn k caps]) (hp:=hp0) (R:=R) (by simp) ?_
  have m1:=M.opn
  have h165:=r165 s.opn m1
  have h166:=r166 s.leaves
  simp [t150,n150,h165,h166,zh]
  obtain ⟨B,hB⟩ : ∃ B,B = hp0.length:=⟨_,rfl⟩
  rw [<- hB] at hm hK2 ⊢
  refine zpf (fun m env hp=>∃ (x8 x9 x10 x11 x12 x13 x14 x15 x16 x17 x18 x19 x20 x21 x22 x23 x24 x25 x26 x27 x28 x29 x30 x31 : D) (i : Nat) (ns : List Leaf) (sp1 sp2 : Spare),env = [dProb p,dSrch s,.fn k caps,.loc B 0,.loc (B + 1) 0,.loc (B + 1 + 1) 0,.loc (B + 3) 0,.fn 167 [.loc (B + 1) 0],x8,x9,x10,x11,x12,x13,x14,x15,x16,x17,x18,x19,x20,x21,x22,x23,x24,x25,x26,x27,x28,x29,x30,x31] /\
   m = wO p (iter p i s).opn /\ (∀ j,j < i -> more j = true) /\ (iter p i s).leaves = s.leaves ++ ns /\ (∀ x,x ∈ ns -> x.mult = []) /\ At hp B (.cells (dProb p).cellsL) /\
   At hp (B + 1) (.cells [.imm .none (s.opn.map dInts),dInts (iter p i s).best,dInts (iter p i s).value,.imm sp2 (dLs s.leaves ns)]) /\ At hp (B + 1 + 1) (.cells [.imm .exact [],.imm .exact [],.imm .exact [],.imm .exact []]) /\
   At hp (B + 3) (.cells [.imm sp1 ((iter p i s).opn.map dInts)]) /\ Room (B + 4) hp sp2 (s.leaves.length + ns.length) 3 /\ K i hp) (wO p s.opn)
   ⟨_,_,_,_,_,_,_,_,_,_,_,_,_,_,_,_,_,_,_,_,_,_,_,_,0,[],.none,.exact,rfl,rfl,fun j h=>absurd h (by omega),by simp [iter],fun x h=>(by cases h),by rw [hB]; simp [At],by rw [hB]; simp [At,iter,dLs],by rw [hB,Nat.add_assoc]; simp [At],by rw [hB]; simp [At,iter],.inl rfl,hK1 _ _ _ h0⟩ ?_
  rintro m env hp ⟨x8,x9,x10,x11,x12,x13,x14,x15,x16,x17,x18,x19,x20,x21,x22,x23,x24,x25,x26,x27,x28,x29,x30,x31,i,ns,sp1,sp2,rfl,hmm,hmore,hlv,hmu,g0,g1,g2,g3,hr,hK⟩
  have okt : OkS p (iter p i s):=OkS.iter ok hs
  have Mt : SmS p (iter p i s):=SmS.iter ok M hs
  have it1 : iter p (i + 1) s = exam p (iter p i s):=zk9
  have hRt : ∀ (hp' : List Obj) (sp1 : Spare),K i hp' \/ K (i + 1) hp' -> ((iter p i s).opn = [] \/ more i = false) -> R (.agg [.imm sp1 ((iter p i s).opn.map dInts),dInts (iter p i s).best,dInts (iter p i s).value,.imm sp2 (dLs s.leaves ns)]) hp':=fun hp' sp1 h h'=>by
   rw [hR]
   exact ⟨i,ns,sp1,sp2,hmore,h',hlv,hmu,rfl,h.elim (fun h=>⟨_,h⟩) fun h=>⟨_,h⟩⟩
  obtain ⟨t,ht⟩ : ∃ t,t = iter p i s:=⟨_,rfl⟩
  rw [<- ht] at hmm hlv g1 g3 okt Mt it1 hRt
  have hl1:=g1.lt
  have hl2:=g2.lt
  have G : ∀ (hq : List Obj),At hq (B + 1) (.cells [.imm .none (s.opn.map dInts),dInts t.best,dInts t.value,.imm sp2 (dLs s.leaves ns)]) -> At hq (B + 1 + 1) (.cells [.imm .exact [],.imm .exact [],.imm .exact [],.imm .exact []]) ->
   (∀ x,(hq.set (B + 1) x)[B + 1]? = some x) /\ (∀ x,(hq.set (B + 1) x)[B + 1 + 1]? = some (.cells [.imm .exact [],.imm .exact [],.imm .exact [],.imm .exact []])) /\ ∀ x y,((hq.set (B + 1) x).set (B + 1 + 1) y)[B + 1 + 1]? = some y:=fun hq a1 a2=>
   ⟨fun x=>List.getElem?_set_self a1.lt,fun x=>(a2.ne (by omega)).eq,fun x y=>List.getElem?_set_self (by rw [List.length_set]; exact a2.lt)⟩
  by_cases hno : t.opn = []
  ·obtain ⟨q1,q2,q3⟩:=G hp g1 g2
   rw [hno] at g3
   have hRt2:=fun hp' h=>hRt hp' sp1 h (.inl hno)
   rw [hno] at hRt2
   simp [g0.eq,g1.eq,g2.eq,g3.eq,zj,z1r,↓q1,↓q2,↓q3]
   exact hRt2 _ (.inl (hK2 _ _ _ _ (hK2 _ _ _ _ hK (by omega)) (by omega)))
  obtain ⟨l,b,hl⟩ : ∃ l b,t.opn = l ++ [b]:=⟨t.opn.dropLast,t.opn.getLast hno,(List.dropLast_concat_getLast hno).symm⟩
  have okb:=okt.opn b (by rw [hl]; simp)
  have hll : l.length <= 1000000000:=by have:=Mt.opn; rw [hl] at this; simp at this; omega
  have h168:=r168 l b hll
  obtain ⟨hp2,e1,e2,e3⟩:=hm i hp hK
  have h0l : (0 : Int) < l.length + 1:=by omega
  have a0:=e3 _ _ (by omega) g0
  have a1:=e3 _ _ (by omega) g1
  have a2:=e3 _ _ (by omega) g2
  have a3:=e3 _ _ (by omega) g3
  cases hmi : more i with
  | false=>
   obtain ⟨q1,q2,q3⟩:=G hp2 a1 a2
   rw [hmi] at e1
   rw [hl] at g3 a3
   have hRt2:=fun hp' h=>hRt hp' sp1 h (.inr hmi)
   rw [hl] at hRt2
   simp only [List.map_append,List.map_cons,List.map_nil,dInts] at hRt2
   simp [g0.eq,g1.eq,g2.eq,g3.eq,a0.eq,a1.eq,a2.eq,a3.eq,e1,h0l,zj,z1r,↓q1,↓q2,↓q3]
   exact hRt2 _ (.inr (hK2 _ _ _ _ (hK2 _ _ _ _ e2 (by omega)) (by omega)))
  | true=>
  rw [hmi] at e1
  rw [<- hl] at h168
  have h0n : ¬ t.opn.length = 0:=fun h=>hno (List.eq_nil_of_length_eq_zero h)
  have h0l : 0 < t.opn.length:=by omega
  obtain ⟨hp3,h3⟩ : ∃ hp3,hp3 = hp2.set (B + 3) (.cells [.imm .exact (l.map dInts)]):=⟨_,rfl⟩
  have b0:=a0.ne (j:=B + 3) (x:=.cells [.imm .exact (l.map dInts)]) (by omega)
  have b1:=a1.ne (j:=B + 3) (x:=.cells [.imm .exact (l.map dInts)]) (by omega)
  have b2:=a2.ne (j:=B + 3) (x:=.cells [.imm .exact (l.map dInts)]) (by omega)
  rw [<- h3] at b0 b1 b2
  have b3 : At hp3 (B + 3) (.cells [.imm .exact (l.map dInts)]):=by rw [h3]; exact At.self a3.lt
  have bK : K (i + 1) hp3:=by rw [h3]; exact hK2 _ _ _ _ e2 (by omega)
  have bR : Room (B + 4) hp3 sp2 (s.leaves.length + ns.length) 3:=by
   rcases hr with h | ⟨k,h1,h2,h4⟩
   ·exact .inl h
   ·refine .inr ⟨k,h1,h2,?_⟩
    rw [h3]
    exact (e3 _ _ (by omega) h4).ne (by omega)
  clear e3 a0 a1 a2 hK hr
  have hu:=z2s (p:=p) hl
  have hmore2 : ∀ j,j < i + 1 -> more j = true:=fun j hj=>by
   by_cases e : j = i
   ·rw [e]; exact hmi
   ·exact hmore j (by omega)
  have hles:=z5d hno okt.opn
  rw [<- it1] at hu hles
  have hnl : s.leaves.length + ns.length <= 1000000000:=by
   have:=Mt.lvs; rw [hlv,List.length_append] at this; exact this
  have hb20 : b.length <= 20:=by have:=okb.len; have:=S.vars; omega
  obtain ⟨V,hV⟩ : ∃ V,V = boundL p b:=⟨_,rfl⟩
  have h87:=r87 V t.value (by rw [hV]; simp [boundL]) (by
   rcases okt.val with ⟨e,_⟩ | ⟨_,e⟩
   ·rw [e]; simp
   ·rw [e]; simp [boundL])
  by_cases he : b.length = p.vars.length
  ·have he' : (b.length : Int) = p.vars.length:=by omega
   have h22:=r22 p b S hb20
   have wb : Whole p b:=⟨ok,okb,he⟩
   simp only [resV,if_pos wb,<- hV] at h22
   simp only [examB,if_pos he,bet,<- hV] at hu
   simp only [dProb,dInts] at h22 h87 h168
   by_cases hbt : (decide (t.value.length = 0) || decide (cmpL V t.value < 0)) = true
   ·rw [if_pos hbt] at hu
    obtain ⟨hp4,h4⟩ : ∃ hp4,hp4 = hp3.set (B + 1) (.cells [.imm .none (s.opn.map dInts),dInts b,dInts V,.imm sp2 (dLs s.leaves ns)]):=⟨_,rfl⟩
    obtain ⟨q1,_,_⟩:=G hp3 b1 b2
    have d0:=b0.ne (j:=B + 1) (x:=.cells [.imm .none (s.opn.map dInts),dInts b,dInts V,.imm sp2 (dLs s.leaves ns)]) (by omega)
    have d1 : At hp4 (B + 1) (.cells [.imm .none (s.opn.map dInts),dInts b,dInts V,.imm sp2 (dLs s.leaves ns)]):=by rw [h4]; exact At.self b1.lt
    have d2:=b2.ne (j:=B + 1) (x:=.cells [.imm .none (s.opn.map dInts),dInts b,dInts V,.imm sp2 (dLs s.leaves ns)]) (by omega)
    have d3:=b3.ne (j:=B + 1) (x:=.cells [.imm .none (s.opn.map dInts),dInts b,dInts V,.imm sp2 (dLs s.leaves ns)]) (by omega)
    rw [<- h4] at d0 d2 d3
    have dK : K (i + 1) hp4:=by rw [h4]; exact hK2 _ _ _ _ bK (by omega)
    have dR : Room (B + 4) hp4 sp2 (s.leaves.length + ns.length) 3:=by
     rcases bR with h | ⟨k,h1,h2,h5⟩
     ·exact .inl h
     ·exact .inr ⟨k,h1,h2,by rw [h4]; exact h5.ne (by omega)⟩
    obtain ⟨d,hp5,f1,f0,sp',f2,f3,f4,f5⟩:=s167 (i:=B + 1) (C:=B + 4) (hp:=hp4) b 1 s.leaves ns hnl d1 dR (by have:=d3.lt; omega) (by omega)
    simp only [dInts] at f1 h4
    have fin : ∃ k',k' < m /\
   ∃ x,
    k' = wO p (iter p x s).opn /\
     (∀ (j : Nat),j < x -> more j = true) /\
      ∃ x_1,
       (iter p x s).leaves = s.leaves ++ x_1 /\
        (∀ (x : Leaf),x ∈ x_1 -> x.mult = []) /\
         At hp5 B (.cells (dProb p).cellsL) /\
          ∃ x_2 x_3,
           At hp5 (B + 1) (.cells [.imm .none (s.opn.map dInts),dInts (iter p x s).best,dInts (iter p x s).value,.imm x_3 (dLs s.leaves x_1)]) /\
            At hp5 (B + 1 + 1) (.cells [.imm .exact [],.imm .exact [],.imm .exact [],.imm .exact []]) /\
             At hp5 (B + 3) (.cells [.imm x_2 ((iter p x s).opn.map dInts)]) /\
              Room (B + 4) hp5 x_3 (s.leaves.length + x_1.length) 3 /\ K x hp5:=
     ⟨_,by omega,i + 1,rfl,hmore2,ns ++ [⟨b,1,[]⟩],by rw [hu]; simp [hlv],fun x hx=>(by
      rcases List.mem_append.1 hx with hx | hx
      ·exact hmu x hx
      ·rw [List.mem_singleton.1 hx]),f4.at (by omega) (by omega) d0,.exact,sp',by rw [hu]; exact f2,f4.at (by omega) (by omega) d2,by rw [hu]; exact f4.at (by omega) (by omega) d3,by rw [List.length_append]; exact f3,f4 (K (i + 1)) (hK1 _) (fun hp j o h hj=>hK2 _ _ _ _ h (by omega)) dK⟩
    by_cases c1 : t.value = []
    ·simp [g0.eq,g1.eq,g2.eq,g3.eq,a3.eq,e1,h0l,zj,z1r,h168,<- h3,b0.eq,b1.eq,he',h22,c1,↓q1,<- h4,f1,zw f0]
     exact fin
    ·have c2 : cmpL V t.value < 0:=by
      have : ¬ t.value.length = 0:=fun h=>c1 (List.eq_nil_of_length_eq_zero h)
      simpa [this] using hbt
     simp [g0.eq,g1.eq,g2.eq,g3.eq,a3.eq,e1,h0l,zj,z1r,h168,<- h3,b0.eq,b1.eq,he',h22,h87,c1,c2,↓q1,<- h4,f1,zw f0]
     exact fin
   ·rw [if_neg hbt] at hu
    have c1 : ¬ t.value = []:=fun h=>hbt (by simp [h])
    have c2 : ¬ cmpL V t.value < 0:=fun h=>hbt (by simp [h])
    obtain ⟨d,hp5,f1,f0,sp',f2,f3,f4,f5⟩:=s167 (i:=B + 1) (C:=B + 4) (hp:=hp3) b 1 s.leaves ns hnl b1 bR (by have:=b3.lt; omega) (by omega)
    simp only [dInts] at f1
    simp [g0.eq,g1.eq,g2.eq,g3.eq,a3.eq,e1,h0l,zj,z1r,h168,<- h3,b0.eq,b1.eq,he',h22,h87,c1,c2,f1,zw f0]
    exact ⟨_,by omega,i + 1,rfl,hmore2,ns ++ [⟨b,1,[]⟩],by rw [hu]; simp [hlv],fun x hx=>(by
      rcases List.mem_append.1 hx with hx | hx
      ·exact hmu x hx
      ·rw [List.mem_singleton.1 hx]),f4.at (by omega) (by omega) b0,.exact,sp',by rw [hu]; exact f2,f4.at (by omega) (by omega) b2,by rw [hu]; exact f4.at (by omega) (by omega) b3,by rw [List.length_append]; exact f3,f4 (K (i + 1)) (hK1 _) (fun hp j o h hj=>hK2 _ _ _ _ h (by omega)) bK⟩
  have he' : ¬ (b.length : Int) = p.vars.length:=by omega
  have hlt : b.length < p.vars.length:=by have:=okb.len; omega
  have h3':=r3 p b S hb20
  simp only [resB,z8j ok okb,if_true,<- hV] at h3'
  simp only [examB,if_neg he,shut,<- hV] at hu
  simp only [dProb,dInts] at h3' h87 h168
  by_cases hsh : (decide (0 < t.value.length) && decide (0 <= cmpL V t.value)) = true
  ·rw [if_pos hsh] at hu
   have c1 : 0 < t.value.length:=by simp at hsh; exact hsh.1
   have c2 : 0 <= cmpL V t.value:=by simp at hsh; exact hsh.2
   obtain ⟨d,hp5,f1,f0,sp',f2,f3,f4,f5⟩:=s167 (i:=B + 1) (C:=B + 4) (hp:=hp3) b 2 s.leaves ns hnl b1 bR (by have:=b3.lt; omega) (by omega)
   simp only [dInts] at f1
   simp [g0.eq,g1.eq,g2.eq,g3.eq,a3.eq,e1,h0l,zj,z1r,h168,<- h3,b0.eq,b1.eq,he',h3',h87,c1,c2,f1,zw f0]
   exact ⟨_,by omega,i + 1,rfl,hmore2,ns ++ [⟨b,2,[]⟩],by rw [hu]; simp [hlv],fun x hx=>(by
      rcases List.mem_append.1 hx with hx | hx
      ·exact hmu x hx
      ·rw [List.mem_singleton.1 hx]),f4.at (by omega) (by omega) b0,.exact,sp',by rw [hu]; exact f2,f4.at (by omega) (by omega) b2,by rw [hu]; exact f4.at (by omega) (by omega) b3,by rw [List.length_append]; exact f3,f4 (K (i + 1)) (hK1 _) (fun hp j o h hj=>hK2 _ _ _ _ h (by omega)) bK⟩
  rw [if_neg hsh] at hu
  have h7:=r7 p b S hb20
  have h169:=r169 (nextL p b)
  obtain ⟨N,hN⟩ : ∃ N,N = nextL p b:=⟨_,rfl⟩
  simp only [resN,z8j ok okb,if_true,if_neg he,<- hN] at h7
  rw [<- hN] at h169 hu
  simp only [dProb,dInts] at h7
  have hc : ¬ 0 < t.value.length \/ (0 < t.value.length /\ cmpL V t.value < 0):=by
   by_cases c1 : 0 < t.value.length
   ·right
    have : ¬ 0 <= cmpL V t.value:=fun h=>hsh (by simp [c1,h])
    exact ⟨c1,by omega⟩
   ·exact .inl c1
  have hNl : N.length <= 8:=by
   rw [hN,zf1 hlt]
   exact S.choices _ (List.getElem_mem hlt)
  rcases hc with c1 | ⟨c1,c2⟩
  ·simp [g0.eq,g1.eq,g2.eq,g3.eq,a3.eq,e1,h0l,zj,z1r,h168,<- h3,b0.eq,b1.eq,he',h3',c1,h7,h169]
   refine ⟨176,_,rfl,?_⟩
   intro L hL hcb
   obtain ⟨lp,hlp⟩ : ∃ lp,lp = hp3.length:=⟨_,rfl⟩
   rw [<- hlp] at hcb ⊢
   obtain ⟨J,hJ⟩ : ∃ J : List (List Int) -> List Obj -> Prop,J = fun rem hq=>∃ (dn W : List (List Int)) (sp : Spare),N.reverse = dn ++ rem /\ W = l ++ dn /\ At hq B (.cells (dProb p).cellsL) /\
    At hq (B + 1) (.cells [.imm .none (s.opn.map dInts),dInts t.best,dInts t.value,.imm sp2 (dLs s.leaves ns)]) /\ At hq (B + 1 + 1) (.cells [.imm .exact [],.imm .exact [],.imm .exact [],.imm .exact []]) /\
    At hq (B + 3) (.cells [.imm sp (W.map dInts)]) /\ Room (B + 4) hq sp W.length 1 /\ Room (B + 4) hq sp2 (s.leaves.length + ns.length) 3 /\ K (i + 1) hq /\ At hq lp (L false none):=⟨_,rfl⟩
   have hb3:=b3.lt
   obtain ⟨sl,ps,asg,body,hLe⟩:=hL
   have key2:=i176 N (by omega) lp J (fun _=>False) (by
    intro x rem hq hj
    rw [hJ] at hj
    obtain ⟨dn,W,sp,j1,jW,j2,j3,j4,j5,j6,j7,j8,j9⟩:=hj
    have hWl : W.length <= 1000000100:=by
     have:=congrArg List.length j1
     rw [List.length_reverse,List.length_append] at this
     rw [jW,List.length_append]; omega
    obtain ⟨W',hW'⟩ : ∃ W',W' = W ++ [x]:=⟨_,rfl⟩
    have hcat : List.map dInts W ++ [D.imm Spare.none (List.map dI x)] = List.map dInts W':=by rw [hW']; simp
    have hlen' : W'.length = W.length + 1:=by rw [hW']; simp
    have hap : ∀ y,appOk E 1 (List.map dInts W) [y]:=fun y=>by
     refine ⟨?_,?_,?_,z36⟩ <;> simp [maxBytes]
     omega
    have z5:=j5.ne (j:=lp) (x:=L true none) (by omega)
    have l9:=j9.lt
    have noTok : ∀ k a b,At hq k (.tok a b) -> k ≠ lp:=fun k a b h e=>by
     subst e
     have:=h.eq.symm.trans j9.eq
     rw [hLe] at this
     simp at this
    obtain ⟨t',hp2',y1,y2⟩:=hcb [dInts x] hq (fun t' hp'=>t' = true /\ J rem hp') rfl j9 (by
     rcases j6 with rfl | ⟨k,rfl,jk,jk2⟩
     ·obtain ⟨T,hT⟩ : ∃ T,T = (hq.set lp (L true none) ++ [Obj.tok (W.length + 1) 1]).set (B + 3) (.cells [.imm (.tok hq.length) (W'.map dInts)]):=⟨_,rfl⟩
      have t1 : ∀ {m o},m ≠ lp -> m ≠ B + 3 -> At hq m o -> At T m o:=fun h1 h2 g=>by
       rw [hT]; exact ((g.ne (fun e=>h1 e.symm)).app).ne (fun e=>h2 e.symm)
      have t2 : At T lp (L true none):=by rw [hT]; exact ((At.self l9).app).ne (by omega)
      have t3 : At T (B + 3) (.cells [.imm (.tok hq.length) (W'.map dInts)]):=by rw [hT]; exact At.self (by simp; have:=j5.lt; omega)
      have t4 : At T hq.length (Obj.tok (W.length + 1) 1):=by
       rw [hT]
       refine At.ne ?_ (by have:=j5.lt; omega)
       have:=zx (hp:=hq.set lp (L true none)) (r:=[Obj.tok (W.length + 1) 1]) (k:=0)
       simpa [At] using this
      have tK : K (i + 1) T:=by rw [hT]; exact hK2 _ _ _ _ (hK1 _ _ _ (hK2 _ _ _ _ j8 (by omega))) (by omega)
      have tK2 : K (i + 1) (T.set lp (L false none)):=hK2 _ _ _ _ tK (by omega)
      have hJT : J rem (T.set lp (L false none)):=by
       rw [hJ]
       have n : ∀ {m o},m ≠ lp -> At T m o -> At (T.set lp (L false none)) m o:=fun h g=>g.ne (fun e=>h e.symm)
       refine ⟨dn ++ [x],W',.tok hq.length,by rw [j1]; simp,by rw [hW',jW]; simp,n (by omega) (t1 (by omega) (by omega) j2),n (by omega) (t1 (by omega) (by omega) j3),n (by omega) (t1 (by omega) (by omega) j4),n (by omega) t3,
        .inr ⟨_,rfl,by have:=j5.lt; omega,by rw [hlen',Nat.mul_one]; exact n (by omega) t4⟩,?_,tK2,At.self t2.lt⟩
       rcases j7 with h | ⟨k,h1,h2,h5⟩
       ·exact .inl h
       ·exact .inr ⟨k,h1,h2,n (noTok _ _ _ h5) (t1 (noTok _ _ _ h5) (by omega) h5)⟩
      simp [setAll,j9.eq,↓z5.eq,↓z5.appE,z11,z1m,hap,hcat,<- hT]
      exact ⟨t2.eq,hJT⟩
     ·have hkl:=noTok _ _ _ jk2
      have z6:=z5.ne (j:=k) (x:=.dead) (by omega)
      have z7:=jk2.ne (j:=lp) (x:=L true none) (fun e=>hkl e.symm)
      obtain ⟨T,hT⟩ : ∃ T,T = ((hq.set lp (L true none)).set k .dead ++ [Obj.tok (W.length + 1) 1]).set (B + 3) (.cells [.imm (.tok hq.length) (W'.map dInts)]):=⟨_,rfl⟩
      have t1 : ∀ {m o},m ≠ lp -> m ≠ B + 3 -> m ≠ k -> At hq m o -> At T m o:=fun h1 h2 h3 g=>by
       rw [hT]; exact (((g.ne (fun e=>h1 e.symm)).ne (fun e=>h3 e.symm)).app).ne (fun e=>h2 e.symm)
      have t2 : At T lp (L true none):=by rw [hT]; exact (((At.self l9).ne hkl).app).ne (by omega)
      have t3 : At T (B + 3) (.cells [.imm (.tok hq.length) (W'.map dInts)]):=by rw [hT]; exact At.self (by simp; have:=j5.lt; omega)
      have t4 : At T hq.length (Obj.tok (W.length + 1) 1):=by
       rw [hT]
       refine At.ne ?_ (by have:=j5.lt; omega)
       have:=zx (hp:=(hq.set lp (L true none)).set k .dead) (r:=[Obj.tok (W.length + 1) 1]) (k:=0)
       simpa [At] using this
      have tK : K (i + 1) T:=by rw [hT]; exact hK2 _ _ _ _ (hK1 _ _ _ (hK2 _ _ _ _ (hK2 _ _ _ _ j8 (by omega)) (by omega))) (by omega)
      have tK2 : K (i + 1) (T.set lp (L false none)):=hK2 _ _ _ _ tK (by omega)
      have hJT : J rem (T.set lp (L false none)):=by
       rw [hJ]
       have n : ∀ {m o},m ≠ lp -> At T m o -> At (T.set lp (L false none)) m o:=fun h g=>g.ne (fun e=>h e.symm)
       refine ⟨dn ++ [x],W',.tok hq.length,by rw [j1]; simp,by rw [hW',jW]; simp,n (by omega) (t1 (by omega) (by omega) (by omega) j2),n (by omega) (t1 (by omega) (by omega) (by omega) j3),n (by omega) (t1 (by omega) (by omega) (by omega) j4),n (by omega) t3,
        .inr ⟨_,rfl,by have:=j5.lt; omega,by rw [hlen',Nat.mul_one]; exact n (by have:=l9; omega) t4⟩,?_,tK2,At.self t2.lt⟩
       rcases j7 with h | ⟨k2,h1,h2,h5⟩
       ·exact .inl h
       ·have hkk : k2 ≠ k:=fun e=>by
         subst e
         have:=h5.eq.symm.trans jk2.eq
         simp at this
        exact .inr ⟨k2,h1,h2,n (noTok _ _ _ h5) (t1 (noTok _ _ _ h5) (by omega) hkk h5)⟩
      rw [Nat.mul_one] at z7
      simp [setAll,j9.eq,↓z5.eq,↓z6.appE,z7.eq,z11,z27,hap,hcat,<- hT]
      exact ⟨t2.eq,hJT⟩)
    refine ⟨t',hp2',y1,fun _=>y2.2,fun h=>?_⟩
    rw [y2.1] at h; cases h) (hp:=hp3 ++ [L false none]) (by
    rw [hJ]
    exact ⟨[],l,.exact,by simp,by simp,b0.app,b1.app,b2.app,b3.app,.inl rfl,(by
     rcases bR with h | ⟨k,h1,h2,h5⟩
     ·exact .inl h
     ·exact .inr ⟨k,h1,h2,h5.app⟩),hK1 _ _ _ bK,by rw [hlp]; simp [At]⟩)
   obtain ⟨d,hp',k1,k2 | k2⟩:=key2
   ·rw [hJ] at k2
    obtain ⟨dn,W,sp,j1,jW,j2,j3,j4,j5,j6,j7,j8,j9⟩:=k2
    refine ⟨d,hp',k1,.inl ⟨j9.eq,?_⟩⟩
    rw [List.append_nil] at j1
    have noTok : ∀ k a b,At hp' k (.tok a b) -> k ≠ lp:=fun k a b h e=>by
     subst e
     have:=h.eq.symm.trans j9.eq
     rw [hLe] at this
     simp at this
    have n : ∀ {m o},m ≠ lp -> At hp' m o -> At (hp'.set lp .dead) m o:=fun h g=>g.ne (fun e=>h e.symm)
    rw [jW,<- j1] at j5
    simp
    exact ⟨_,by omega,i + 1,rfl,hmore2,ns,by rw [hu]; exact hlv,hmu,n (by omega) j2,sp,sp2,by rw [hu]; exact n (by omega) j3,n (by omega) j4,by rw [hu]; exact n (by omega) j5,(by
     rcases j7 with h | ⟨k,h1,h2,h5⟩
     ·exact .inl h
     ·exact .inr ⟨k,h1,h2,n (noTok _ _ _ h5) h5⟩),hK2 _ _ _ _ j8 (by omega)⟩
   ·exact k2.elim
  ·have c3 : ¬ 0 <= cmpL V t.value:=by omega
   simp [g0.eq,g1.eq,g2.eq,g3.eq,a3.eq,e1,h0l,zj,z1r,h168,<- h3,b0.eq,b1.eq,he',h3',h87,c1,c2,c3,h7,h169]
   refine ⟨176,_,rfl,?_⟩
   intro L hL hcb
   obtain ⟨lp,hlp⟩ : ∃ lp,lp = hp3.length:=⟨_,rfl⟩
   rw [<- hlp] at hcb ⊢
   obtain ⟨J,hJ⟩ : ∃ J : List (List Int) -> List Obj -> Prop,J = fun rem hq=>∃ (dn W : List (List Int)) (sp : Spare),N.reverse = dn ++ rem /\ W = l ++ dn /\ At hq B (.cells (dProb p).cellsL) /\
    At hq (B + 1) (.cells [.imm .none (s.opn.map dInts),dInts t.best,dInts t.value,.imm sp2 (dLs s.leaves ns)]) /\ At hq (B + 1 + 1) (.cells [.imm .exact [],.imm .exact [],.imm .exact [],.imm .exact []]) /\
    At hq (B + 3) (.cells [.imm sp (W.map dInts)]) /\ Room (B + 4) hq sp W.length 1 /\ Room (B + 4) hq sp2 (s.leaves.length + ns.length) 3 /\ K (i + 1) hq /\ At hq lp (L false none):=⟨_,rfl⟩
   have hb3:=b3.lt
   obtain ⟨sl,ps,asg,body,hLe⟩:=hL
   have key2:=i176 N (by omega) lp J (fun _=>False) (by
    intro x rem hq hj
    rw [hJ] at hj
    obtain ⟨dn,W,sp,j1,jW,j2,j3,j4,j5,j6,j7,j8,j9⟩:=hj
    have hWl : W.length <= 1000000100:=by
     have:=congrArg List.length j1
     rw [List.length_reverse,List.length_append] at this
     rw [jW,List.length_append]; omega
    obtain ⟨W',hW'⟩ : ∃ W',W' = W ++ [x]:=⟨_,rfl⟩
    have hcat : List.map dInts W ++ [D.imm Spare.none (List.map dI x)] = List.map dInts W':=by rw [hW']; simp
    have hlen' : W'.length = W.length + 1:=by rw [hW']; simp
    have hap : ∀ y,appOk E 1 (List.map dInts W) [y]:=fun y=>by
     refine ⟨?_,?_,?_,z36⟩ <;> simp [maxBytes]
     omega
    have z5:=j5.ne (j:=lp) (x:=L true none) (by omega)
    have l9:=j9.lt
    have noTok : ∀ k a b,At hq k (.tok a b) -> k ≠ lp:=fun k a b h e=>by
     subst e
     have:=h.eq.symm.trans j9.eq
     rw [hLe] at this
     simp at this
    obtain ⟨t',hp2',y1,y2⟩:=hcb [dInts x] hq (fun t' hp'=>t' = true /\ J rem hp') rfl j9 (by
     rcases j6 with rfl | ⟨k,rfl,jk,jk2⟩
     ·obtain ⟨T,hT⟩ : ∃ T,T = (hq.set lp (L true none) ++ [Obj.tok (W.length + 1) 1]).set (B + 3) (.cells [.imm (.tok hq.length) (W'.map dInts)]):=⟨_,rfl⟩
      have t1 : ∀ {m o},m ≠ lp -> m ≠ B + 3 -> At hq m o -> At T m o:=fun h1 h2 g=>by
       rw [hT]; exact ((g.ne (fun e=>h1 e.symm)).app).ne (fun e=>h2 e.symm)
      have t2 : At T lp (L true none):=by rw [hT]; exact ((At.self l9).app).ne (by omega)
      have t3 : At T (B + 3) (.cells [.imm (.tok hq.length) (W'.map dInts)]):=by rw [hT]; exact At.self (by simp; have:=j5.lt; omega)
      have t4 : At T hq.length (Obj.tok (W.length + 1) 1):=by
       rw [hT]
       refine At.ne ?_ (by have:=j5.lt; omega)
       have:=zx (hp:=hq.set lp (L true none)) (r:=[Obj.tok (W.length + 1) 1]) (k:=0)
       simpa [At] using this
      have tK : K (i + 1) T:=by rw [hT]; exact hK2 _ _ _ _ (hK1 _ _ _ (hK2 _ _ _ _ j8 (by omega))) (by omega)
      have tK2 : K (i + 1) (T.set lp (L false none)):=hK2 _ _ _ _ tK (by omega)
      have hJT : J rem (T.set lp (L false none)):=by
       rw [hJ]
       have n : ∀ {m o},m ≠ lp -> At T m o -> At (T.set lp (L false none)) m o:=fun h g=>g.ne (fun e=>h e.symm)
       refine ⟨dn ++ [x],W',.tok hq.length,by rw [j1]; simp,by rw [hW',jW]; simp,n (by omega) (t1 (by omega) (by omega) j2),n (by omega) (t1 (by omega) (by omega) j3),n (by omega) (t1 (by omega) (by omega) j4),n (by omega) t3,
        .inr ⟨_,rfl,by have:=j5.lt; omega,by rw [hlen',Nat.mul_one]; exact n (by omega) t4⟩,?_,tK2,At.self t2.lt⟩
       rcases j7 with h | ⟨k,h1,h2,h5⟩
       ·exact .inl h
       ·exact .inr ⟨k,h1,h2,n (noTok _ _ _ h5) (t1 (noTok _ _ _ h5) (by omega) h5)⟩
      simp [setAll,j9.eq,↓z5.eq,↓z5.appE,z11,z1m,hap,hcat,<- hT]
      exact ⟨t2.eq,hJT⟩
     ·have hkl:=noTok _ _ _ jk2
      have z6:=z5.ne (j:=k) (x:=.dead) (by omega)
      have z7:=jk2.ne (j:=lp) (x:=L true none) (fun e=>hkl e.symm)
      obtain ⟨T,hT⟩ : ∃ T,T = ((hq.set lp (L true none)).set k .dead ++ [Obj.tok (W.length + 1) 1]).set (B + 3) (.cells [.imm (.tok hq.length) (W'.map dInts)]):=⟨_,rfl⟩
      have t1 : ∀ {m o},m ≠ lp -> m ≠ B + 3 -> m ≠ k -> At hq m o -> At T m o:=fun h1 h2 h3 g=>by
       rw [hT]; exact (((g.ne (fun e=>h1 e.symm)).ne (fun e=>h3 e.symm)).app).ne (fun e=>h2 e.symm)
      have t2 : At T lp (L true none):=by rw [hT]; exact (((At.self l9).ne hkl).app).ne (by omega)
      have t3 : At T (B + 3) (.cells [.imm (.tok hq.length) (W'.map dInts)]):=by rw [hT]; exact At.self (by simp; have:=j5.lt; omega)
      have t4 : At T hq.length (Obj.tok (W.length + 1) 1):=by
       rw [hT]
       refine At.ne ?_ (by have:=j5.lt; omega)
       have:=zx (hp:=(hq.set lp (L true none)).set k .dead) (r:=[Obj.tok (W.length + 1) 1]) (k:=0)
       simpa [At] using this
      have tK : K (i + 1) T:=by rw [hT]; exact hK2 _ _ _ _ (hK1 _ _ _ (hK2 _ _ _ _ (hK2 _ _ _ _ j8 (by omega)) (by omega))) (by omega)
      have tK2 : K (i + 1) (T.set lp (L false none)):=hK2 _ _ _ _ tK (by omega)
      have hJT : J rem (T.set lp (L false none)):=by
       rw [hJ]
       have n : ∀ {m o},m ≠ lp -> At T m o -> At (T.set lp (L false none)) m o:=fun h g=>g.ne (fun e=>h e.symm)
       refine ⟨dn ++ [x],W',.tok hq.length,by rw [j1]; simp,by rw [hW',jW]; simp,n (by omega) (t1 (by omega) (by omega) (by omega) j2),n (by omega) (t1 (by omega) (by omega) (by omega) j3),n (by omega) (t1 (by omega) (by omega) (by omega) j4),n (by omega) t3,
        .inr ⟨_,rfl,by have:=j5.lt; omega,by rw [hlen',Nat.mul_one]; exact n (by have:=l9; omega) t4⟩,?_,tK2,At.self t2.lt⟩
       rcases j7 with h | ⟨k2,h1,h2,h5⟩
       ·exact .inl h
       ·have hkk : k2 ≠ k:=fun e=>by
         subst e
         have:=h5.eq.symm.trans jk2.eq
         simp at this
        exact .inr ⟨k2,h1,h2,n (noTok _ _ _ h5) (t1 (noTok _ _ _ h5) (by omega) hkk h5)⟩
      rw [Nat.mul_one] at z7
      simp [setAll,j9.eq,↓z5.eq,↓z6.appE,z7.eq,z11,z27,hap,hcat,<- hT]
      exact ⟨t2.eq,hJT⟩)
    refine ⟨t',hp2',y1,fun _=>y2.2,fun h=>?_⟩
    rw [y2.1] at h; cases h) (hp:=hp3 ++ [L false none]) (by
    rw [hJ]
    exact ⟨[],l,.exact,by simp,by simp,b0.app,b1.app,b2.app,b3.app,.inl rfl,(by
     rcases bR with h | ⟨k,h1,h2,h5⟩
     ·exact .inl h
     ·exact .inr ⟨k,h1,h2,h5.app⟩),hK1 _ _ _ bK,by rw [hlp]; simp [At]⟩)
   obtain ⟨d,hp',k1,k2 | k2⟩:=key2
   ·rw [hJ] at k2
    obtain ⟨dn,W,sp,j1,jW,j2,j3,j4,j5,j6,j7,j8,j9⟩:=k2
    refine ⟨d,hp',k1,.inl ⟨j9.eq,?_⟩⟩
    rw [List.append_nil] at j1
    have noTok : ∀ k a b,At hp' k (.tok a b) -> k ≠ lp:=fun k a b h e=>by
     subst e
     have:=h.eq.symm.trans j9.eq
     rw [hLe] at this
     simp at this
    have n : ∀ {m o},m ≠ lp -> At hp' m o -> At (hp'.set lp .dead) m o:=fun h g=>g.ne (fun e=>h e.symm)
    rw [jW,<- j1] at j5
    simp
    exact ⟨_,by omega,i + 1,rfl,hmore2,ns,by rw [hu]; exact hlv,hmu,n (by omega) j2,sp,sp2,by rw [hu]; exact n (by omega) j3,n (by omega) j4,by rw [hu]; exact n (by omega) j5,(by
     rcases j7 with h | ⟨k,h1,h2,h5⟩
     ·exact .inl h
     ·exact .inr ⟨k,h1,h2,n (noTok _ _ _ h5) h5⟩),hK2 _ _ _ _ j8 (by omega)⟩
   ·exact k2.elim
 rw [hR] at key
 exact key

theorem s151 {hp : List Obj} : runS E (dL E) 151 [] hp = some (.bool true,hp):=by
 obtain ⟨d,hp',h1,h2,h3⟩:=z3s c151 (args:=[]) (hp:=hp) (R:=fun d hp'=>d = .bool true /\ hp' = hp) (by simp) (by
  simp [t151,n151])
 rw [h1,h2,h3]

theorem zop : ∀ {vs : List Var},(∀ v,v ∈ vs -> v.choices.length <= 8) -> wgt vs <= 9 ^ vs.length
 | [],_=>by simp [wgt]
 | v :: vs,h=>by
  have h1:=zop (vs:=vs) fun w hw=>h w (by simp [hw])
  have h2:=h v (by simp)
  have h3:=ziu (vs:=vs)
  have h4 : v.choices.length * wgt vs <= 8 * wgt vs:=Nat.mul_le_mul_right _ h2
  simp only [wgt,List.length_cons,Nat.pow_succ]
  omega
theorem zrj {p : Prob} (S : Small p) {b : List Int} : wB p b <= 531441:=by
 unfold wB
 have h1:=zop (vs:=p.vars.drop b.length) fun v hv=>S.choices v (List.mem_of_mem_drop hv)
 have h2 : (p.vars.drop b.length).length <= 6:=by have:=S.vars; simp; omega
 exact Nat.le_trans h1 (Nat.le_trans (Nat.pow_le_pow_right (by decide) h2) (by decide))
theorem zrh {p : Prob} (S : Small p) : ∀ {l : List (List Int)},wO p l <= l.length * 531441
 | []=>by simp [wO]
 | b :: l=>by
  have h1:=zrj S (b:=b)
  have h2:=zrh S (l:=l)
  simp only [wO,List.length_cons]; omega
theorem SmS.of {p : Prob} (S : Small p) {s : Srch} (h1 : s.opn.length <= 1000) (h2 : s.leaves.length <= 100000000) : SmS p s:=⟨by
 have:=zrh S (l:=s.opn)
 omega⟩
theorem zb6 {p : Prob} (S : Small p) : SmS p startS:=SmS.of S (by decide) (by decide)

theorem r150 (p : Prob) (s : Srch) (S : Small p) (ok : OkP p) (M : SmS p s) (hs : OkS p s) : ∃ n,(iter p n s).opn = [] /\ runP E (dL E) 150 [dProb p,dSrch s,.fn 151 []] = some (dSrch (iter p n s)):=by
 obtain ⟨d,hp',f1,c,ns,sp1,sp2,f2,f3,f4,f5,f6,m,f7⟩:=s150 p s S ok M hs 151 [] (fun _=>true) [] (fun _ _=>True)
  (fun m hp _=>⟨hp,s151,trivial,fun j o _ h=>h⟩) (fun m hp r g=>trivial) (fun m hp j o g hj=>trivial) trivial
 have hz:=zne (hp:=hp') (n:=6) (ls:=s.leaves) (ns:=ns) f5
 rw [<- f4] at hz
 refine ⟨c,by simpa using f3,?_⟩
 have hk : E.keep 150 = false:=rfl
 unfold runP
 simp only [f1,f6,hk,frzK]
 simp [hz]

noncomputable def resSolve (p : Prob) : D:=if ck p = 0 then .tup [dCert (certS (solveS p)),dI 0] else .tup [dCert cert0,dI (ck p)]

theorem ck_ok {p : Prob} (h : ck p = 0) : OkP p:=by
 unfold ck at h
 split at h
 ·assumption
 ·cases h
theorem zi3 {p : Prob} (S : Small p) (ok : OkP p) : resCert p (solveS p) = .tup [dCert (certS (solveS p)),dI 0]:=by
 have h1 : OkS p (solveS p):=z32.iter ok
 have h2:=z4v ok
 obtain ⟨w,e,_⟩:=z43 S ok
 have h3 : sk p (solveS p) = 0:=by simp [sk,ok,h1]
 unfold resCert
 rw [if_pos h3,if_pos ⟨by rw [h2]; rfl,by rw [e]; simp [boundL]⟩]

theorem r131 (p : Prob) (S : Small p) : runP E (dL E) 131 [dProb p] = some (resSolve p):=by
 refine zc c131 (by simp) ?_
 have h139:=r139 p S
 simp only [dProb] at h139
 unfold resStart at h139
 by_cases h : ck p = 0
 rotate_left
 ·rw [if_neg h] at h139
  simp [t131,n131,h139,h,resSolve,srch0,cert0]
 have ok:=ck_ok h
 rw [if_pos h] at h139
 obtain ⟨n,h1,h2⟩:=r150 p startS S ok (zb6 S) z32
 rw [zmz ok h1] at h2
 have h133:=r133 p (solveS p) S ((zb6 S).iter ok z32)
 rw [zi3 S ok] at h133
 obtain ⟨V,hV⟩ : ∃ V,V = solveS p:=⟨_,rfl⟩
 rw [<- hV] at h2 h133
 simp only [dProb,dSrch,dInts] at h2 h133
 simp only [startS,dInts,List.map_cons,List.map_nil] at h2
 simp [t131,n131,h139,h,resSolve,<- hV,startS,h2,h133,certS,zh]

theorem Keep.le2 {W C C' : Nat} {hp hp' : List Obj} (h : Keep W C hp hp') (hC : C' <= C) : Keep W C' hp hp':=fun J h1 h2 h3=>h J h1 (fun hp j o hj hk=>h2 hp j o hj (by omega)) h3

def fewL (l : Leaf) : Bool:=l.mult.all (fun m=>decide (m.length <= 20)) && (decide (l.branch.length <= 20) && decide (l.mult.length <= 8))
def fewCe (c : Cert) : Bool:=c.leaves.all fewL && ((decide (c.best.length <= 20) && decide (c.value.length <= 20)) && decide (c.leaves.length <= 400))
theorem zqk {l : Leaf} (h : fewL l = true) : SmL l:=by
 simp only [fewL,Bool.and_eq_true,List.all_eq_true,decide_eq_true_eq] at h
 exact ⟨h.2.1,by have:=h.2.2; omega,fun m hm=>by have:=h.1 m hm; omega⟩
theorem znn {c : Cert} (h : fewCe c = true) : SmC c:=by
 simp only [fewCe,Bool.and_eq_true,List.all_eq_true,decide_eq_true_eq] at h
 obtain ⟨h1,⟨h2,h3⟩,h4⟩:=h
 exact ⟨h2,by omega,by omega,fun l hl=>zqk (h1 l hl)⟩

theorem r223 (l : Leaf) (hl : l.mult.length <= 9223372036854775807) : runP E (dL E) 223 [dLeaf l] = some (.bool (fewL l)):=by
 refine zc c223 (by simp) ?_
 simp [t223,n223]
 refine z2a l.mult.length (fun i=>∀ h : i < l.mult.length,l.mult[i].length <= 20)
  (fun i env hp=>∃ (x4 x5 : D) ,env = [dLeaf l,.loc 0 0,.bool false,dI i,x4,x5] /\ At hp 0 (.cells (dLeaf l).cellsL))
  ⟨_,_,rfl,rfl⟩ ?_ ?_
 ·rintro i env hp hi ⟨x4,x5,rfl,a1⟩ hall
  by_cases h : l.mult[i].length <= 20
  ·have h' : ¬ (20 : Int) < l.mult[i].length:=by omega
   simp [hi,a1.eq,h,h',zee hi hl]
   exact a1
  ·have h' : (20 : Int) < l.mult[i].length:=by omega
   have e : fewL l = false:=by
    unfold fewL
    have : (l.mult.all fun m=>decide (m.length <= 20)) = false:=by
     rw [List.all_eq_false]
     exact ⟨_,List.getElem_mem hi,by simpa using h⟩
    rw [this]; rfl
   simp [hi,a1.eq,h',e]
 ·rintro env hp ⟨x4,x5,rfl,a1⟩ hall
  have e : fewL l = (decide (l.branch.length <= 20) && decide (l.mult.length <= 8)):=by
   unfold fewL
   have : (l.mult.all fun m=>decide (m.length <= 20)) = true:=by
    rw [List.all_eq_true]
    intro m hm
    obtain ⟨i,hi,rfl⟩:=List.getElem_of_mem hm
    simpa using hall i hi hi
   rw [this]; rfl
  rw [e]
  by_cases k1 : l.branch.length <= 20
  ·have k1' : (l.branch.length : Int) <= 20:=by omega
   by_cases k2 : l.mult.length <= 8
   ·have k2' : (l.mult.length : Int) <= 8:=by omega
    simp [a1.eq,k1,k1',k2,k2']
   ·have k2' : ¬ (l.mult.length : Int) <= 8:=by omega
    simp [a1.eq,k1,k1',k2,k2']
  ·have k1' : ¬ (l.branch.length : Int) <= 20:=by omega
   simp [a1.eq,k1,k1']

theorem r213 (c : Cert) (hc : c.leaves.length <= 9223372036854775807) (hl : ∀ l,l ∈ c.leaves -> l.mult.length <= 9223372036854775807) : runP E (dL E) 213 [dCert c] = some (.bool (fewCe c)):=by
 refine zc c213 (by simp) ?_
 simp [t213,n213]
 refine z2a c.leaves.length (fun i=>∀ h : i < c.leaves.length,fewL c.leaves[i] = true)
  (fun i env hp=>∃ (x4 x5 : D) ,env = [dCert c,.loc 0 0,.bool false,dI i,x4,x5] /\ At hp 0 (.cells (dCert c).cellsL))
  ⟨_,_,rfl,rfl⟩ ?_ ?_
 ·rintro i env hp hi ⟨x4,x5,rfl,a1⟩ hall
  have h223:=r223 c.leaves[i] (hl _ (List.getElem_mem hi))
  simp only [dLeaf,dInts] at h223
  cases h : fewL c.leaves[i] with
  | true=>
   rw [h] at h223
   simp [hi,a1.eq,h223,zee hi hc,h]
   exact a1
  | false=>
   rw [h] at h223
   have e : fewCe c = false:=by
    unfold fewCe
    have : c.leaves.all fewL = false:=by
     rw [List.all_eq_false]
     exact ⟨_,List.getElem_mem hi,by rw [h]; simp⟩
    rw [this]; rfl
   simp [hi,a1.eq,h223,e]
 ·rintro env hp ⟨x4,x5,rfl,a1⟩ hall
  have e : fewCe c = ((decide (c.best.length <= 20) && decide (c.value.length <= 20)) && decide (c.leaves.length <= 400)):=by
   unfold fewCe
   have : c.leaves.all fewL = true:=by
    rw [List.all_eq_true]
    intro m hm
    obtain ⟨i,hi,rfl⟩:=List.getElem_of_mem hm
    exact hall i hi hi
   rw [this]; rfl
  rw [e]
  by_cases k1 : c.best.length <= 20
  ·have k1' : (c.best.length : Int) <= 20:=by omega
   by_cases k2 : c.value.length <= 20
   ·have k2' : (c.value.length : Int) <= 20:=by omega
    by_cases k3 : c.leaves.length <= 400
    ·have k3' : (c.leaves.length : Int) <= 400:=by omega
     simp [a1.eq,k1,k1',k2,k2',k3,k3']
    ·have k3' : ¬ (c.leaves.length : Int) <= 400:=by omega
     simp [a1.eq,k1,k1',k2,k2',k3,k3']
   ·have k2' : ¬ (c.value.length : Int) <= 20:=by omega
    simp [a1.eq,k1,k1',k2,k2']
  ·have k1' : ¬ (c.best.length : Int) <= 20:=by omega
   simp [a1.eq,k1,k1']

theorem zmw {p : Prob} (h : lightB p = true) : Small p:=zca (by unfold lightB at h; exact (Bool.and_eq_true_iff.1 h).1)
theorem zr7 {p : Prob} {c : Cert} (a : Acc p c) : chkC p c = 0:=by simp [chkC,a.whole,a]

theorem zm8 {x : D} (h : Typed E 32 x) : ∃ l,x = dLeaf l /\ l.mult.length <= 9223372036854775807:=by
 obtain ⟨ds,rfl,h1⟩:=z2b h rfl
 obtain ⟨hl,hf⟩:=z2c h1 (fs:=[(0,1),(1,2),(2,9)]) rfl
 obtain ⟨x,y,z,rfl⟩:=three hl
 obtain ⟨b,h2,_⟩:=z5l (hf 0 _ rfl) rfl
 obtain ⟨k,h3,_⟩:=z4e (hf 1 _ rfl) rfl
 obtain ⟨els,h4,hn,h6⟩:=z2u (hf 2 _ rfl) (e:=6) rfl
 simp [E,tyTab] at h2 h3 h4
 subst h2 h3 h4
 obtain ⟨l,rfl,_⟩:=z3f (f:=dInts) (R:=fun _=>True) (els:=els) fun x hx=>by
  obtain ⟨l,h5,_⟩:=z5l (z7b (h6 x hx) rfl) rfl
  simp at h5; exact ⟨l,h5,trivial⟩
 have hm : Go.maxLen <= 9223372036854775807:=by decide
 exact ⟨⟨b,k,l⟩,rfl,by simp at hn; simp; omega⟩

theorem zm9 {x : D} (h : Typed E 29 x) : ∃ c,x = dCert c /\ c.leaves.length <= 9223372036854775807 /\ ∀ l,l ∈ c.leaves -> l.mult.length <= 9223372036854775807:=by
 obtain ⟨ds,rfl,h1⟩:=z2b h rfl
 obtain ⟨hl,hf⟩:=z2c h1 (fs:=[(0,6),(1,6),(2,31)]) rfl
 obtain ⟨x,y,z,rfl⟩:=three hl
 obtain ⟨b,h2,_⟩:=z5l (hf 0 _ rfl) rfl
 obtain ⟨v,h3,_⟩:=z5l (hf 1 _ rfl) rfl
 obtain ⟨els,h4,hn,h6⟩:=z2u (hf 2 _ rfl) (e:=32) rfl
 simp [E,tyTab] at h2 h3 h4
 subst h2 h3 h4
 obtain ⟨l,rfl,o⟩:=z3f (f:=dLeaf) (R:=fun l=>l.mult.length <= 9223372036854775807) (els:=els) fun x hx=>zm8 (h6 x hx)
 have hm : Go.maxLen <= 9223372036854775807:=by decide
 exact ⟨⟨b,v,l⟩,rfl,by simp at hn; simp; omega,o⟩

theorem zf7 {p : Prob} (ok : OkP p) : ∀ (n : Nat) (s : Srch),OkS p s -> wO p (iter p n s).opn + (iter p n s).leaves.length <= wO p s.opn + s.leaves.length
 | 0,s,_=>Nat.le_refl _
 | n + 1,s,hs=>by
  have h1:=zf7 ok n (exam p s) (hs.exam ok)
  have e : iter p (n + 1) s = iter p n (exam p s):=rfl
  rw [e]
  refine Nat.le_trans h1 ?_
  by_cases hn : s.opn = []
  ·rw [z4c hn]; exact Nat.le_refl _
  have h2:=z5d hn hs.opn
  have h3 : (Dv.exam p s).leaves.length <= s.leaves.length + 1:=by
   obtain ⟨l,b,hl⟩ : ∃ l b,s.opn = l ++ [b]:=⟨s.opn.dropLast,s.opn.getLast hn,(List.dropLast_concat_getLast hn).symm⟩
   rw [z2s hl]
   unfold examB
   split
   ·split <;> simp
   ·split <;> simp
  omega

theorem zj4 {p : Prob} (S : Small p) (ok : OkP p) : Acc p (certS (solveS p)) /\ SmC (certS (solveS p)):=by
 obtain ⟨w,hv,_⟩:=z43 S ok
 obtain ⟨hl,hd⟩:=zgh S ok
 have h3:=S.vars
 refine ⟨⟨w,hv.symm,fun l hm=>(hl l hm).2.1,hd,fun l hm=>(hl l hm).1⟩,?_⟩
 have hc : (solveS p).leaves.length <= 1000000:=by
  have h2:=zrj S (b:=[])
  have h4 : wO p startS.opn + startS.leaves.length <= 531441:=by simp only [startS,wO,List.length_nil]; omega
  have h5 : (solveS p).leaves.length <= wO p startS.opn + startS.leaves.length:=by
   unfold solveS
   exact Nat.le_trans (Nat.le_add_left _ _) (zf7 ok _ startS z32)
  omega
 exact ⟨by have:=w.2.2; show (solveS p).best.length <= 20; omega,by show (solveS p).value.length <= 1000; rw [hv]; simp [boundL],hc,fun l hm=>by
  obtain ⟨_,h5,h6⟩:=hl l hm
  exact ⟨by have:=h5.len; omega,by rw [h6]; exact ⟨by simp,fun _ hx=>by cases hx⟩⟩⟩
theorem zom {p : Prob} (S : Small p) (ok : OkP p) {c : Cert} (a : Acc p c) : c.best = (solveS p).best /\ c.value = (solveS p).value:=by
 have h:=zle S ok a.whole (fun l hl=>⟨a.leaf l hl,a.branch l hl⟩) a.div
 obtain ⟨_,hv,_⟩:=z43 S ok
 exact ⟨h,by rw [<- a.value,hv,h]⟩

open Classical in
theorem law262 (h1 : runP E (dL E) 212 [] = some (.bool true)) (p : Prob) (c : Cert) (hc : c.leaves.length <= 9223372036854775807) (hl : ∀ l,l ∈ c.leaves -> l.mult.length <= 9223372036854775807) : runP E (dL E) 262 [dProb p,dCert c] = some (.bool true):=by
 refine zc c262 (by simp) ?_
 have h2:=r129 p
 have h213:=r213 c hc hl
 simp only [dProb,dInts,dCert] at h2 h213
 cases hf : lightB p with
 | false=>simp [t262,n262,h1,h2,hf,zh]
 | true=>
 rw [hf] at h2
 cases hg : fewCe c with
 | false=>
  rw [hg] at h213
  simp [t262,n262,h1,h2,h213,zh]
 | true=>
 rw [hg] at h213
 have S:=zmw hf
 have M:=znn hg
 have h222:=r222 p c S M
 have h216:=r216 p c S M
 have h131:=r131 p S
 unfold resSolve at h131
 unfold resKeep at h222
 simp only [dProb,dInts,dCert] at h222 h216
 by_cases ok : OkP p
 rotate_left
 ·have e : ck p = 270:=by simp [ck,ok]
  have e2 : chkC p c = 270:=by unfold chkC; rw [if_neg fun w=>ok w.1]
  rw [if_neg ok] at h222
  rw [e] at h131
  rw [e2] at h216
  simp only [dProb,dCert,cert0,dInts,List.map_nil] at h131
  simp at h131
  simp [t262,n262,h1,h2,h213,h222,h131,h216,zh]
 have e : ck p = 0:=by simp [ck,ok]
 rw [if_pos e] at h131
 rw [if_pos ok] at h222
 obtain ⟨Ao,Mo⟩:=zj4 S ok
 have ho:=zr7 Ao
 have h222b:=r222 p (certS (solveS p)) S Mo
 unfold resKeep at h222b
 rw [if_pos ok,ho] at h222b
 obtain ⟨O,hO⟩ : ∃ O,O = certS (solveS p):=⟨_,rfl⟩
 rw [<- hO] at h131 h222b Mo
 simp only [dProb,dCert,dInts] at h131 h222b
 simp at h222b
 by_cases hk : chkC p c = 0
 ·have A : Acc p c:=by
   unfold chkC at hk
   split at hk
   ·split at hk
    ·assumption
    ·cases hk
   ·cases hk
  obtain ⟨b1,b2⟩:=zom S ok A
  have o1 : c.best = O.best:=by rw [hO,b1]; rfl
  have o2 : c.value = O.value:=by rw [hO,b2]; rfl
  have k3:=r20 O.best O.best (by have:=Mo.best; omega)
  have k4:=r20 O.value O.value (by have:=Mo.value; omega)
  simp only [dInts,decide_true] at k3 k4
  rw [hk] at h216 h222
  rw [o1,o2] at h213 h222 h216
  simp at h222
  simp [t262,n262,h1,h2,h213,h222,h131,h216,h222b,o1,o2,k3,k4,zh]
 ·have hb : (chkC p c == 0) = false:=by simp [hk]
  have hd : decide (chkC p c = 0) = false:=by simp [hk]
  rw [hd] at h222
  simp [t262,n262,h1,h2,h213,h222,h131,h216,h222b,hb,hk,zh]

theorem repairKeeps (h1 : runP E (dL E) 212 [] = some (.bool true)) : ∀ xs,TypedL E [0,29] xs -> ∃ n,runP E (dC E n) 262 xs = some (.bool true):=by
 intro xs h
 match xs,h with
 | [x,y],⟨t1,t2,_⟩=>
  obtain ⟨p,rfl,_⟩:=zpm t1
  obtain ⟨c,rfl,hc,hl⟩:=zm9 t2
  exact z9v (law262 h1 p c hc hl)
 | [],h=>exact h.elim
 | [_],h=>exact h.2.elim
 | _ :: _ :: _ :: _,h=>exact h.2.2.elim

def c9E : Cell:=⟨false,0,9⟩
def nowE : Choice:=⟨0,0,0,[⟨c9E,1⟩]⟩
def svE : Var:=⟨0,0,[0],[nowE,⟨10,3,0,[]⟩]⟩
def swE : Var:=⟨0,0,[0],[nowE,⟨10,5,0,[]⟩]⟩
def freE : Var:=⟨0,0,[0],[⟨0,1,0,[]⟩]⟩
def spE : Prob:=⟨[c9E],[[1]],[svE,swE]⟩
def sqE : Prob:=⟨[c9E],[[1]],[freE,swE]⟩
def noE : Prob:=⟨[],[[]],[]⟩
def acE : Cert:=⟨[1,0],[0,10,3,0],[⟨[0,0],1,[]⟩,⟨[0,1],1,[]⟩,⟨[1,0],1,[]⟩,⟨[1,1],1,[]⟩]⟩
def bcE : Cert:=⟨[0,0],[0,0,1,0],[⟨[0,0],1,[]⟩,⟨[0,1],1,[]⟩]⟩
def ccE : Cert:=⟨[],[0,0,0,0],[⟨[],1,[]⟩]⟩

theorem up33 {k : Nat} {a : List D} {r : D} {n : Nat} (h : runP E (dC E n) k a = some r) : runP E (dL E) k a = some r:=z3t (fun _ _ _ h=>z3i _ _ _ h) h

theorem e221 : runP E (dL E) 221 [] = some (dProb spE):=up33 (n:=100) (by kernel_rfl)
theorem e215a : runP E (dL E) 215 [dProb spE,dCert cert0] = some (.tup [dCert acE,dI 0]):=up33 (n:=100) (by kernel_rfl)
theorem e214a : runP E (dL E) 214 [dProb spE,dI 0,dVar freE] = some (.tup [dProb sqE,dI 0]):=up33 (n:=100) (by kernel_rfl)
theorem e215b : runP E (dL E) 215 [dProb sqE,dCert acE] = some (.tup [dCert bcE,dI 0]):=up33 (n:=100) (by kernel_rfl)
theorem e222a : runP E (dL E) 222 [dProb spE,dCert acE] = some (.tup [.bool true,dI 0]):=up33 (n:=100) (by kernel_rfl)
theorem e222b : runP E (dL E) 222 [dProb sqE,dCert acE] = some (.tup [.bool false,dI 0]):=up33 (n:=100) (by kernel_rfl)
theorem e214b : runP E (dL E) 214 [dProb noE,dI 0,dVar freE] = some (.tup [dProb prob0,dI 330]):=up33 (n:=100) (by kernel_rfl)
theorem e222c : runP E (dL E) 222 [dProb spE,dCert cert0] = some (.tup [.bool false,dI 0]):=up33 (n:=100) (by kernel_rfl)
theorem e215c : runP E (dL E) 215 [dProb noE,dCert cert0] = some (.tup [dCert ccE,dI 0]):=up33 (n:=100) (by kernel_rfl)
theorem e215d : runP E (dL E) 215 [dProb prob0,dCert acE] = some (.tup [dCert cert0,dI 270]):=up33 (n:=100) (by kernel_rfl)
theorem e216a : runP E (dL E) 216 [dProb spE,dCert acE] = some (dI 0):=up33 (n:=100) (by kernel_rfl)
theorem e216b : runP E (dL E) 216 [dProb sqE,dCert bcE] = some (dI 0):=up33 (n:=100) (by kernel_rfl)
theorem e216c : runP E (dL E) 216 [dProb noE,dCert ccE] = some (dI 0):=up33 (n:=100) (by kernel_rfl)

theorem sane212 : runP E (dL E) 212 [] = some (.bool true):=by
 refine zc c212 (by simp) ?_
 have h1:=e221
 have h2:=e215a
 have h3:=e214a
 have h4:=e215b
 have h5:=e222a
 have h6:=e222b
 have h7:=e214b
 have h8:=e222c
 have h9:=e215c
 have h10:=e215d
 have h11:=e216a
 have h12:=e216b
 have h13:=e216c
 have h14:=fun l hl=>r20 l l hl
 simp only [decide_true] at h14
 have h15:=h14 [1,0] (by simp)
 have h16:=h14 [0,10,3,0] (by simp)
 have h17:=h14 [0,0] (by simp)
 have h18:=h14 [0,0,0,0] (by simp)
 simp only [dProb,dInts,dCert,cert0,prob0,spE,sqE,noE,svE,swE,freE,nowE,c9E,acE,bcE,ccE,dLeaf,dVar,dChoice,dUse,dCell,List.map_cons,List.map_nil] at h1 h2 h3 h4 h5 h6 h7 h8 h9 h10 h11 h12 h13 h15 h16 h17 h18
 simp [t212,n212,h1,h2,h3,h4,h5,h6,h7,h8,h9,h10,h11,h12,h13,h15,h16,h17,h18,z1c,z3h]

end Dv

namespace Dv

theorem repairKeeps' : ∀ xs,TypedL E [0,29] xs -> ∃ n,runP E (dC E n) 262 xs = some (.bool true):=repairKeeps sane212

end Dv
