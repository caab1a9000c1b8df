/- Texts that a proof of this claim uses, joined: Dv.SortH. -/
import Derived.Test.YtejanbpdkinjfaaDoorDvd
import Derived.Test.YtejanbpdkinjfaaDoorDva
import Derived.Shelf.SlSortCmp.NoneTotal
set_option linter.all false
namespace Dv
open Go (Value Program World Act Oper Operand Code Ending Exit)

def sortFn (n : Nat) : DFn:=⟨2,[],
 .seq (.region false [] [⟨some 2,.mark false (.c (.int .i64 0)),none⟩])
  (.ifp (.t 2) (.cond (.c .undef) .skip .skip)
   (.seq (.region false [] [⟨none,.prim n [.t 0,.t 1],none⟩]) .ret))⟩

theorem zn8 {E : Env} {p n : Nat} {ds : List D} {d : D} {os os' : List Obj} (h : finishF E (sortFn p) (dC E n (sortFn p).body (startF (sortFn p) ds os)) = some (d,os')) :
  d = .tup [] /\ ∃ x0 x1 d0,E.prim p [x0,x1] os = some (d0,os') /\ (x1 ≠ .undef -> ds = [x0,x1]):=by
 cases hrun : dC E n (sortFn p).body (startF (sortFn p) ds os) with
 | none=>rw [hrun] at h; simp [finishF] at h
 | some x=>
 obtain ⟨ex,st'⟩:=x
 rw [hrun] at h
 obtain ⟨m1,st1,rfl,h1,h2⟩:=z9c (fun m s e h=>(zo h).1) hrun
 obtain ⟨_,m2,rfl,g1⟩:=zo h1
 have hst1 : st1 = ⟨(startF (sortFn p) ds os).sl.set 2 (.tup [.undef,.int .i64 0]),os⟩:=by
  have : some (⟨(startF (sortFn p) ds os).sl.set 2 (.tup [.undef,.int .i64 0]),os⟩ : St) = some st1:=g1
  simpa using this.symm
 subst hst1
 simp only [dC] at h2
 have h2d : ds.length <= 2:=by
  rcases Nat.lt_or_ge 2 ds.length with hl | hl
  ·exfalso
   have hm : isMark (getO ((startF (sortFn p) ds os).sl.set 2 (.tup [.undef,.int .i64 0])) (.t 2)) = true:=by
    simp only [getO,List.getD_eq_getElem?_getD]
    rw [List.getElem?_set_self (by simp [startF]; omega)]; rfl
   rw [if_pos hm] at h2
   exact z99 h2
  ·exact hl
 have hset : (startF (sortFn p) ds os).sl.set 2 (.tup [.undef,.int .i64 0]) = (startF (sortFn p) ds os).sl:=by
  refine List.set_eq_of_length_le ?_
  simp [startF,sortFn]; omega
 rw [hset] at h2
 have hm : isMark (getO (startF (sortFn p) ds os).sl (.t 2)) = false:=by
  simp only [getO,List.getD_eq_getElem?_getD]
  rw [List.getElem?_eq_none (by simp [startF,sortFn]; omega)]; rfl
 rw [if_neg (by rw [hm]; simp)] at h2
 obtain ⟨m3,st3,hm3,h3,h4⟩:=z9c (fun m s e h=>(zo h).1) h2
 obtain ⟨_,m4,rfl,g3⟩:=zo h3
 obtain ⟨x0,x1,hsl,hds⟩ : ∃ x0 x1,(startF (sortFn p) ds os).sl = [x0,x1] /\ (x1 ≠ .undef -> ds = [x0,x1]):=by
  match ds,h2d with
  | [],_=>exact ⟨.undef,.undef,rfl,fun h=>absurd rfl h⟩
  | [x],_=>exact ⟨x,.undef,rfl,fun h=>absurd rfl h⟩
  | [x,y],_=>exact ⟨x,y,rfl,fun _=>rfl⟩
  | _ :: _ :: _ :: _,h=>simp at h
 rw [hsl] at g3
 simp only [z8,Option.bind_eq_some_iff] at g3
 obtain ⟨s1,q1,q6⟩:=g3
 simp only [stepOps,Option.some.injEq] at q6
 subst q6
 simp only [step1,wantedD,if_true] at q1
 split at q1
 case h_2=>simp at q1
 rename_i d1 hp1 e1
 simp only [Option.some.injEq] at q1
 subst q1
 simp only [stepOp,DOp.fin,finOp,List.map_cons,List.map_nil,getO,List.getD_cons_zero,List.getD_cons_succ] at e1
 have hm3' : m2 = m4 + 1 + 1:=hm3
 have h6 : Ex.ret = ex /\ (⟨[x0,x1],hp1⟩ : St) = st':=by simpa [dC,putO] using h4
 obtain ⟨rfl,rfl⟩:=h6
 simp only [finishF,sortFn,resD,Option.map_some,oneRes,Option.some.injEq,Prod.mk.injEq] at h
 obtain ⟨rfl,rfl⟩:=h
 exact ⟨rfl,x0,x1,d1,e1,hds⟩

theorem z9f {P : Program} {r : Option Nat} {f : Nat} {args : Array Value} {w : World} {R : Ending -> World -> Prop} (h : Go.Calls P f args w R) : Go.CallsIn (Fw r) 0 P f args w R:=by
 have h2 : Go.CallsIn Go.Fence.wide 0 P f args w R:=Go.callsIn_wide.2 h
 exact h2

open Go.Sort Go.Lib Go.Proofs
def encP2 (p : Int × Int) : List Value:=[.int .i64 p.1,.int .i64 p.2]
def cfP (x y : Int × Int) : Int:=if x.1 < y.1 then -1 else if y.1 < x.1 then 1 else if x.2 < y.2 then -1 else if y.2 < x.2 then 1 else 0
theorem ltP (x y : Int × Int) : ltOf cfP x y = pltB x y:=by
 unfold ltOf cfP pltB
 by_cases h1 : x.1 < y.1
 ·simp [h1]
 ·by_cases h2 : y.1 < x.1
  ·have : ¬ x.1 = y.1:=by omega
   simp [h1,h2,this]
  ·have : x.1 = y.1:=by omega
   by_cases h3 : x.2 < y.2
   ·simp [this,h3]
   ·by_cases h4 : y.2 < x.2 <;> simp [this,h3,h4]
theorem swoP : SWO (ltOf cfP) where
 irrefl x:=by rw [ltP]; unfold pltB; simp
 trans x y z h1 h2:=by rw [ltP] at *; unfold pltB at *; simp at *; omega
 ntrans x y z h1 h2:=by rw [ltP] at *; unfold pltB at *; simp at *; omega
theorem totP (x y : Int × Int) (h1 : ltOf cfP x y = false) (h2 : ltOf cfP y x = false) : x = y:=by
 rw [ltP] at *
 unfold pltB at *
 simp at *
 exact Prod.ext (by omega) (by omega)
theorem geP : (fun x y : Int × Int=>!ltOf cfP y x) = fun x y=>!pltB y x:=by
 funext x y
 rw [ltP]

theorem z2g (p : Int × Int) (l : List (Int × Int)) : unpairs (p :: l) = .int .i64 p.1 :: .int .i64 p.2 :: unpairs l:=rfl
theorem z2u : ∀ (l : List (Int × Int)),(unpairs l).length = l.length * 2
 | []=>rfl
 | p :: l=>by rw [z2g,List.length_cons,List.length_cons,z2u l,List.length_cons]; omega
theorem z7c : ∀ {cs : List D} {ps : List (Int × Int)},pairsOf cs = some ps -> cs = unpairs ps
 | [],ps,h=>by simp [pairsOf] at h; subst h; rfl
 | [x],ps,h=>by cases x <;> simp [pairsOf] at h
 | x :: y :: r,ps,h=>by
  unfold pairsOf at h
  split at h
  case h_1=>simp_all
  case h_3=>simp at h
  rename_i a b r' e
  simp only [List.cons.injEq] at e
  obtain ⟨rfl,rfl,rfl⟩:=e
  split at h
  case h_2=>simp at h
  rename_i l hl
  simp only [Option.some.injEq] at h
  subst h
  rw [z2g,<- z7c hl]
theorem z3o : ∀ {l : List (Int × Int)} {j : Nat} {d : D},(unpairs l)[j]? = some d -> ∃ n,d = .int .i64 n /\ (l.flatMap encP2)[j]? = some (.int .i64 n)
 | [],j,d,h=>by simp [unpairs] at h
 | p :: l,0,d,h=>by rw [z2g] at h; simp at h; exact ⟨p.1,h.symm,by simp [encP2]⟩
 | p :: l,1,d,h=>by rw [z2g] at h; simp at h; exact ⟨p.2,h.symm,by simp [encP2]⟩
 | p :: l,j + 2,d,h=>by
  rw [z2g] at h
  simp only [List.getElem?_cons_succ] at h
  obtain ⟨n,h1,h2⟩:=z3o h
  exact ⟨n,h1,by simp [encP2] at h2 ⊢; exact h2⟩
theorem z35 (l : List (Int × Int)) : (l.flatMap encP2).length = l.length * 2:=by
 induction l with
 | nil=>rfl
 | cons p l ih=>rw [List.flatMap_cons,List.length_append,ih,List.length_cons]; simp [encP2]; omega
theorem zda : ∀ {l : List (Int × Int)} {t : Nat} (h : t < l.length * 2),(l.flatMap encP2)[t]? = some ((encP2 (l[t / 2]'(by omega)))[t % 2]!)
 | [],t,h=>by simp at h
 | p :: l,0,h=>by simp [encP2]
 | p :: l,1,h=>by simp [encP2]
 | p :: l,t + 2,h=>by
  have:=zda (l:=l) (t:=t) (by simp at h; omega)
  have e1 : (t + 2) / 2 = t / 2 + 1:=by omega
  have e2 : (t + 2) % 2 = t % 2:=by omega
  simp only [e1,e2,List.getElem_cons_succ]
  rw [<- this]
  simp [encP2]
theorem zak (l : List (Int × Int)) : flatK encP2 2 l.toArray = (l.flatMap encP2).toArray:=by
 refine ext_get! (by rw [size_flatK,List.size_toArray,List.size_toArray,z35]) fun t ht=>?_
 have ht' : t < l.length * 2:=by simpa using ht
 rw [get_flatK _ _ _ _ (by simpa using ht')]
 have h1:=zda ht'
 have h2 : t < (l.flatMap encP2).toArray.size:=by rw [List.size_toArray,z35]; exact ht'
 rw [getElem!_pos (l.flatMap encP2).toArray t h2,getElem!_pos l.toArray (t / 2) (by simp; omega)]
 have h3 : (l.flatMap encP2)[t]'(by rw [z35]; exact ht') = (encP2 (l[t / 2]'(by omega)))[t % 2]!:=by
  rw [List.getElem?_eq_getElem (by rw [z35]; exact ht')] at h1
  exact Option.some.inj h1
 simp only [List.getElem_toArray]
 rw [h3]

section
variable {P : Program} {E : Env} {CL : CLink} {F : Phi} {T : Phi} {B : Nat} {ρ : Rho} {H : HS} {os : List Obj} {w : World} {pt : Nat × Nat}

def GL (W : World) : Prop:=∀ g cs,glTab.lookup g = some cs -> ∀ (j : Nat) k n,cs[j]? = some (k,n) -> cellOf W.heap g j = some (.int k n)

structure CmpOk (P : Program) (g : Nat) : Prop where
 enter : ∀ args w,(Go.callFunc g args).run P w = .ok (.enter g args) w
 run : ∀ (x y : Int × Int) (W : World),GL W -> Go.Calls P g #[.agg (encP2 x).toArray,.agg (encP2 y).toArray] W fun e w'=>e = .returned (.int .i64 (cfP x y)) /\ ∃ q os',w' = grow (W.drewN q) os'

theorem zl2 {hp hp' : Heap} (hs : hp.size <= hp'.size) (ho : ∀ b,b < hp.size -> hp'[b]? = hp[b]?) : hp' = hp ++ hp'.extract hp.size hp'.size:=by
 refine Array.ext_getElem? fun i=>?_
 by_cases h : i < hp.size
 ·rw [Array.getElem?_append_left h,ho i h]
 ·rw [Array.getElem?_append_right (by omega),Array.getElem?_extract]
  split
  ·congr 1; omega
  ·rw [Array.getElem?_eq_none (by omega)]
theorem CmpOk.of_sim (t : Tie P E T F) {g g' : Nat} (hf : F g = some g') (hrun : ∀ a b c d : Int,∃ n,runP E (dC E n) g' [.agg [.int .i64 a,.int .i64 b],.agg [.int .i64 c,.int .i64 d]] = some (.int .i64 (cfP (a,b) (c,d)))) : CmpOk P g where
 enter args w:=z4n t.ok hf args
 run x y W hG:=by
  obtain ⟨n,hn⟩:=hrun x.1 x.2 y.1 y.2
  have hb : HB (fun b _=>b < W.heap.size) W.heap:=⟨fun b o h=>h,fun g cs hg j k n hj=>⟨z6g (hG g cs hg j k n hj),hG g cs hg j k n hj⟩⟩
  have two : ∀ p : Int × Int,Rep F ρ0 (fun b _=>b < W.heap.size) W.heap (.agg (encP2 p).toArray) (.agg [.int .i64 p.1,.int .i64 p.2]):=fun p=>
   RepL.agg (vs:=encP2 p) (.cons (.int _ _) (.cons (.int _ _) .nil))
  have h:=za5 t n hf none (fun b _=>b < W.heap.size) W #[.agg (encP2 x).toArray,.agg (encP2 y).toArray] _ _ hn hb (.cons (two x) (.cons (two y) .nil))
  have h2 : Go.CallsIn Go.Fence.wide 0 P g #[.agg (encP2 x).toArray,.agg (encP2 y).toArray] W _:=h
  refine (Go.callsIn_wide.1 h2).mono fun e w' he=>?_
  cases e with
  | panicked c=>exact he.elim
  | outgrown=>exact he.elim
  | returned v=>
   obtain ⟨H',gr,⟨_,st⟩,hv⟩:=he
   refine ⟨by rw [hv.intv],w'.drawn - W.drawn,w'.heap.extract W.heap.size w'.heap.size,?_⟩
   have hh:=zl2 gr.size gr.old
   obtain ⟨e1,e2,e3,e4⟩:=st
   have e5 : w'.drawn = W.drawn + (w'.drawn - W.drawn):=by omega
   have key : w' = { W with heap:=w'.heap,drawn:=w'.drawn }:=by
    cases w'; cases W; simp only at e1 e2 e3; simp [e1,e2,e3]
   show w' = { W with heap:=W.heap ++ w'.heap.extract W.heap.size w'.heap.size,drawn:=W.drawn + (w'.drawn - W.drawn) }
   rw [<- hh,<- e5]
   exact key

structure SortOk (P : Program) (f g : Nat) : Prop where
 run : ∀ (blk cap : Nat) (ps : List (Int × Int)) (w : World),HoldsK encP2 2 w blk 0 ps.toArray -> blk < w.heap.size -> ps.length < 4611686018427387904 -> (∀ n (d : Array (Int × Int)) os,d.size = ps.length -> GL (sortWorldK encP2 2 w blk 0 n d os)) ->
  Go.Calls P f #[.slice (some ⟨blk,0,none⟩) ps.length cap,.func (.func g) #[] #[]] w fun e w'=>e = .returned (.tuple #[]) /\ ∃ n os,w' = sortWorldK encP2 2 w blk 0 n (psort ps).toArray os

theorem SortOk.of {ρ : Go.Shelf.Ren} {f g : Nat} (L : Go.Proofs.SlLaysF0.n6 P ρ) (hf : ρ.f 6 = f) (aE : ∀ w,(Go.isAgg (ρ.t 24)).run P w = .ok true w) (zE : ∀ w,(Go.sizeOf (ρ.t 24)).run P w = .ok 2 w) (C : CmpOk P g) : SortOk P f g:=by
 subst hf
 refine ⟨fun blk cap ps w hH hb hn hG=>?_⟩
 have hl : Go.Proofs.CmpLays P g #[] encP2 2 cfP blk 0 ps.toArray.size w:=fun m os dk hs x y=>by
  have:=C.run x y (sortWorldK encP2 2 w blk 0 m dk os) (hG m dk os (by simpa using hs))
  simpa using this
 have h:=Go.Proofs.AnyQ.slices_SortFunc_total L 2 aE zE encP2 (fun _=>rfl) (fun x v hv=>by simp [encP2] at hv; rcases hv with rfl | rfl <;> rfl) cfP swoP g #[] blk 0 cap ps.toArray w C.enter hl hH hb (by simpa using hn) totP
 rw [geP] at h
 simpa [psort] using h

theorem zk3 (l : List (Int × Int)) : (psort l).length = l.length:=List.length_mergeSort l

theorem z7a {blk el : Nat} {arr : Array Value} {F' : Array Value} {n : Nat} (hb : w.heap[blk]? = some (.cells arr el (0,0))) :
  Wrote w (putRow id (Go.Sort.ahead w n) blk 0 F') blk (putCells id 0 F' arr) el:=by
 have hlt : blk < w.heap.size:=z2m hb
 refine ⟨?_,fun b' hne=>?_,?_,⟨rfl,rfl,rfl,Nat.le_add_right _ _⟩⟩
 ·show (w.heap.modify blk _)[blk]? = _
  rw [Array.getElem?_modify,if_pos rfl,hb]
  rfl
 ·show (w.heap.modify blk _)[b']? = _
  rw [Array.getElem?_modify,if_neg (Ne.symm hne)]
 ·show (w.heap.modify blk _).size = _
  rw [Array.size_modify]

theorem zl6 {w1 : World} (os1 : Array Go.Obj) : Grew H H w1.heap (grow w1 os1).heap:=by
 refine ⟨?_,fun b hb=>?_,fun _ _ h=>h,fun _ _ h=>.inl h⟩
 ·show w1.heap.size <= (w1.heap ++ os1).size
  simp
 ·show (w1.heap ++ os1)[b]? = w1.heap[b]?
  rw [Array.getElem?_append_left hb]

theorem zgx {f f' p : Nat} {cmp : List Nat} {G : DFn} (hG : E.fn f' = some G) (he : G = sortFn p) (hmp : E.mp f' = false) (hp : E.prim p = sortD cmp)
  (hC : ∀ g k,F g = some k -> cmp.contains k = true -> SortOk P f g) (hN : ∀ (p : Option Go.Addr) (cap : Nat) (fv : Value) (w : World),Go.Calls P f #[.slice p 0 cap,fv] w fun e w'=>e = .returned (.tuple #[]) /\ w' = w) : Hatch P E T F pt f f':=by
 intro n KC K r B ρ H os os' w vals ds d h S hr
 subst he
 simp only [runS,hG,hmp,finishQ] at h
 obtain ⟨rfl,x0,x1,d0,hprim,hds⟩:=zn8 h
 rw [hp] at hprim
 have vals2 : ∀ {x0 x1 : D},ds = [x0,x1] -> ∃ v0 v1,vals = #[v0,v1] /\ Rep F ρ H w.heap v0 x0 /\ Rep F ρ H w.heap v1 x1:=by
  rintro x0 x1 rfl
  have hl:=hr.1
  obtain ⟨v0,v1,hvals⟩ : ∃ v0 v1,vals = #[v0,v1]:=by
   match hl' : vals.toList with
   | [x,y]=>exact ⟨x,y,by cases vals; simp at hl'; rw [hl']⟩
   | []=>rw [hl'] at hl; simp at hl
   | [_]=>rw [hl'] at hl; simp at hl
   | _ :: _ :: _ :: _=>rw [hl'] at hl; simp at hl
  subst hvals
  exact ⟨v0,v1,rfl,hr.2 0 v0 x0 rfl rfl,hr.2 1 v1 x1 rfl rfl⟩
 have fin0 : ∀ (p : Option Go.Addr) (cap : Nat) (fv : Value),vals = #[.slice p 0 cap,fv] -> os' = os -> Go.CallsIn (Fw r) 0 P f vals w (StatR (CLk T F true) F B ρ H os w (.tup []) os'):=by
  rintro p cap fv rfl rfl
  refine z9f ((hN p cap fv w).mono ?_)
  rintro e w' ⟨rfl,rfl⟩
  exact ⟨Nat.le_refl _,ρ,H,PostT.refl S,.tup #[] [] rfl (fun j v d h=>by simp at h)⟩
 unfold sortD at hprim
 split at hprim
 ·rename_i os _ _ k hxs
  simp only [List.cons.injEq,and_true] at hxs
  obtain ⟨rfl,rfl⟩:=hxs
  have hds:=hds (by simp)
  obtain ⟨v0,v1,hvals,h0,h1⟩:=vals2 hds
  split at hprim
  case isFalse=>simp at hprim
  simp only [Option.some.injEq,Prod.mk.injEq] at hprim
  obtain ⟨a,cap,rfl,_⟩:=z4g h0
  exact fin0 a cap v1 hvals hprim.2.symm
 ·rename_i os _ _ id len ag gr k hxs
  simp only [List.cons.injEq,and_true] at hxs
  obtain ⟨rfl,rfl⟩:=hxs
  have hds:=hds (by simp)
  obtain ⟨v0,v1,hvals,h0,h1⟩:=vals2 hds
  split at hprim
  case isFalse=>simp at hprim
  rename_i hk
  split at hprim
  case h_2=>simp at hprim
  rename_i cs hos
  split at hprim
  case isFalse=>simp at hprim
  rename_i hlen
  obtain ⟨hlen,hbnd⟩:=hlen
  split at hprim
  case h_2=>simp at hprim
  rename_i ps hps
  simp only [Option.some.injEq,Prod.mk.injEq] at hprim
  obtain ⟨_,rfl⟩:=hprim
  have hcs:=z7c hps
  have hpl : ps.length = len:=by
   have:=congrArg List.length hcs
   rw [z2u,hlen] at this; omega
  cases h0 with
  | sl _ _ _ _ _ _ b cc cap a hid hl ha hcc=>
  cases h1 with
  | fn gf _ cvs _ hF hs _=>
  obtain ⟨arr,el,r1,r2,r3,r4,r5⟩:=S.row hid (by simp [rowOf,hos] : rowOf os id = some cs)
  by_cases hz : len = 0
  ·subst hz
   have hp0 : ps = []:=List.eq_nil_of_length_eq_zero hpl
   subst hp0
   refine fin0 a cap _ hvals ?_
   have : unpairs (psort []) = cs:=by rw [hcs]; simp [psort]
   rw [this]
   refine List.ext_getElem? fun i=>?_
   rw [List.getElem?_set]
   split
   ·rename_i e; subst e; rw [if_pos (List.getElem?_eq_some_iff.1 hos).1,hos]
   ·rfl
  ·have hcv : cvs = #[]:=by
    simp only [List.length_nil] at hs
    exact Array.eq_empty_of_size_eq_zero hs
   subst hcv
   have ha:=ha hz
   subst ha
   have hblk : b < w.heap.size:=z2m r1
   have hH : HoldsK encP2 2 w b 0 ps.toArray:=by
    unfold HoldsK
    rw [zak]
    intro j hj
    rw [List.size_toArray,z35] at hj
    rw [Nat.zero_add]
    have hjc : j < cs.length:=by rw [hcs,z2u]; exact hj
    have hja : j < arr.size:=by omega
    obtain ⟨n,hd1,hd2⟩:=z3o (l:=ps) (j:=j) (d:=cs[j]) (by rw [<- hcs]; exact List.getElem?_eq_getElem hjc)
    have hrep:=r4 j arr[j] cs[j] (Array.getElem?_eq_getElem hja) (List.getElem?_eq_getElem hjc)
    rw [hd1] at hrep
    have hv : arr[j] = .int .i64 n:=hrep.intv
    have he2 : ((ps.flatMap encP2).toArray[j]!) = .int .i64 n:=by
     have hj2 : j < (ps.flatMap encP2).toArray.size:=by rw [List.size_toArray,z35]; exact hj
     rw [getElem!_pos _ j hj2]
     simp only [List.getElem_toArray]
     rw [List.getElem?_eq_getElem (by rw [z35]; exact hj)] at hd2
     exact Option.some.inj hd2
    constructor
    ·rw [cell?_eq]
     unfold cellOf
     rw [r1]
     simp only []
     rw [Array.getElem?_eq_getElem hja,hv,he2]
     rfl
    ·unfold World.frozen?
     rw [r1]
     simp
   have hbig : ps.length < 4611686018427387904:=by
    rw [hpl]; omega
   have hGL : ∀ n (d : Array (Int × Int)) os1,d.size = ps.length -> GL (sortWorldK encP2 2 w b 0 n d os1):=by
    intro n d os1 _ g cs' hg j k n' hj
    obtain ⟨h1,h2⟩:=S.hb.gl g cs' hg j k n' hj
    have hne : g ≠ b:=fun e=>S.mutH id cs b cc j hos hid (e ▸ h1)
    have hlt:=z6g h2
    have hw:=z7a (w:=w) (F':=flatK encP2 2 d) (n:=n) r1
    have e1 : (sortWorldK encP2 2 w b 0 n d os1).heap[g]? = w.heap[g]?:=by
     show ((putRow _root_.id (Go.Sort.ahead w n) b 0 (flatK encP2 2 d)).heap ++ os1)[g]? = w.heap[g]?
     rw [Array.getElem?_append_left (by rw [hw.size]; exact hlt),hw.other g hne]
    unfold cellOf at h2 ⊢
    rw [e1]; exact h2
   have hcall:=(hC gf k hF hk).run b cap ps w hH hblk hbig hGL
   rw [hpl] at hcall
   subst hvals
   refine z9f (hcall.mono ?_)
   rintro e w' ⟨rfl,m,os1,rfl⟩
   have hplen:=zk3 ps
   have hw:=z7a (w:=w) (F':=((psort ps).flatMap encP2).toArray) (n:=m) r1
   obtain ⟨w1,hw1⟩ : ∃ w1,w1 = putRow _root_.id (Go.Sort.ahead w m) b 0 ((psort ps).flatMap encP2).toArray:=⟨_,rfl⟩
   have hsw : sortWorldK encP2 2 w b 0 m (psort ps).toArray os1 = grow w1 os1:=by
    unfold sortWorldK putRowK
    rw [zak,hw1]
   rw [hsw]
   rw [<- hw1] at hw
   have hcl : (unpairs (psort ps)).length = cs.length:=by rw [z2u,hplen,hcs,z2u]
   have hpost:=S.write (cs':=unpairs (psort ps)) hos hid hw (by simp [putCells,r2]) (by rw [hcl]; simpa [putCells] using r3) (fun j v d hv hd=>by
    obtain ⟨n,e1,e2⟩:=z3o hd
    have hj : j < ((psort ps).flatMap encP2).length:=(List.getElem?_eq_some_iff.1 e2).1
    subst e1
    unfold putCells at hv
    rw [Array.getElem?_mapIdx] at hv
    cases ha2 : arr[j]? with
    | none=>rw [ha2] at hv; simp at hv
    | some x=>
     rw [ha2] at hv
     simp only [Option.map_some,Option.some.injEq] at hv
     rw [if_pos ⟨Nat.zero_le _,by simpa using hj⟩] at hv
     rw [Nat.sub_zero,getElem!_pos _ j (by simpa using hj)] at hv
     simp only [List.getElem_toArray,_root_.id] at hv
     rw [List.getElem?_eq_getElem hj] at e2
     rw [<- hv,Option.some.inj e2]
     exact .int _ _) (fun d hd=>by
    obtain ⟨j,hj⟩:=List.mem_iff_getElem?.1 hd
    obtain ⟨n,e1,_⟩:=z3o hj
    rw [e1]; rfl)
   have p1 : PostT (CLk T F true) F B (fun i=>i < os.length) ρ H w ρ H w1 (os.set id (.cells (unpairs (psort ps)))):=hpost.toT S (LiveIn.set hos rfl) hw.still
   have p2:=p1.trans (Grew.postT (K:=fun i=>i < os.length) p1.sr (zl6 (H:=H) (w1:=w1) os1) trivial ⟨rfl,rfl,rfl,Nat.le_refl _⟩)
   exact ⟨by simp,ρ,H,p2,.tup #[] [] rfl (fun j v d h=>by simp at h)⟩
 ·simp at hprim

end
end Dv
