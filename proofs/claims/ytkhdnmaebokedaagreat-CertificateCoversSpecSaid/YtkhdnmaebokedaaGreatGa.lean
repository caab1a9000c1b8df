/- Texts that a proof of this claim uses, joined: Lw.W9, Lw.W10, Lw.W11, Lw.W20, Lw.W21, Lw.W22, Lw.W24, Lw.W25, Lw.W26, Lw.W34, Lw.W36, Lw.W35, Lw.W39, Lw.Ty, Lw.S27, Lw.R20, Lw.W40, Lw.W31, Lw.W13, Lw.W27, Lw.S28, Lw.W37, Lw.W14, Lw.W15, Lw.W16, Lw.W17, Lw.W38, Lw.W33, Lw.W80, Lw.W81, Lw.W45, Lw.W82, Lw.W50, Lw.W51, Lw.W52, Lw.W53, Lw.W54, Lw.W55, Lw.W56, Lw.W57, Lw.W47, Lw.W65, Lw.W66. -/
import Derived.Test.YtkhdnmaebokedaaGreatWb
import Derived.Test.YtkhdnmaebokedaaGreatWa
import Derived.Test.YtkhdnmaebokedaaGreatLwa
import Derived.Test.YtkhdnmaebokedaaGreatTc
import Derived.Test.YtkhdnmaebokedaaGreatDvd
import Derived.KernelRfl
set_option linter.all false
set_option maxHeartbeats 16000000
namespace Dv
attribute [local simp] List.replicate depth dCell dUse dInts dChoice dVar dProb tStart addO Ret
attribute [local congr] z1h z1l z12 zr zn z14 zm


def wr (n : Int) : Int:=Go.IntKind.i64.wrap n

def addU (p : Prob) (r : List Int) (u : Use) : List Int:=r.set (atS u.cell p.cells 0).toNat (wr (r.getD (atS u.cell p.cells 0).toNat 0 + u.places))

def usesAt (v : Var) (n : Int) : List Use:=(v.choices.getD n.toNat ⟨0,0,0,[]⟩).uses

def usesIn : List Var -> List Int -> Int -> List Use
 | v :: vs,n :: ns,leaf=>(if v.leaves.contains leaf then usesAt v n else []) ++ usesIn vs ns leaf
 | _,_,_=>[]

def dem (p : Prob) (b : List Int) (leaf : Int) : List Int:=(usesIn p.vars b leaf).foldl (addU p) (List.replicate p.cells.length 0)

theorem zay {p : Prob} {r : List Int} {u : Use} : (addU p r u).length = r.length:=by simp [addU]
theorem z30 {p : Prob} : ∀ {l : List Use} {r : List Int},(l.foldl (addU p) r).length = r.length
 | [],_=>rfl
 | u :: l,r=>by simp only [List.foldl_cons]; rw [z30,zay]

theorem zgb {c : Cell} : ∀ {l : List Cell} {i : Nat},c ∈ l -> (i : Int) <= atS c l i /\ atS c l i < i + l.length
 | x :: l,i,h=>by
  unfold atS
  by_cases e : x = c
  ·simp [e]; omega
  ·have hm : c ∈ l:=by
    rcases List.mem_cons.1 h with h | h
    ·exact absurd h.symm e
    ·exact h
   have:=zgb (i:=i + 1) hm
   simp only [if_neg e,List.length_cons]
   omega

theorem r104 (p : Prob) (b : List Int) : runP E (dL E) 104 [dProb p,dInts b] = some (.fn 123 [.iptr [dInts b],.iptr (dProb p).cellsL]):=by
 refine zb c104 (by simp) ?_
 simp [t104,n104]

def itemsV (v : Var) (n : Int) : List (Int × Use):=v.leaves.flatMap fun leaf=>(usesAt v n).map fun u=>(leaf,u)

def itemsP : List Var -> List Int -> List (Int × Use)
 | v :: vs,n :: ns=>itemsV v n ++ itemsP vs ns
 | _,_=>[]

theorem i123 (p : Prob) (b : List Int) (S : Small p) (hb : b.length <= 20) (ok : OkP p) (okb : OkB p b) (l : Nat) (J : List (Int × Use) -> List Obj -> Prop) (Fin : List Obj -> Prop)
  (hext : ∀ rem hp o,J rem hp -> J rem (hp ++ [o]))
  (hy : ∀ x rem hp,J (x :: rem) hp -> ∃ t hp',runY (dL E) l [dI x.1,dUse x.2] hp = some (.bool t,hp') /\ (t = true -> J rem hp') /\ (t = false -> Fin hp')) {hp : List Obj}
  (h0 : J (itemsP p.vars b) hp) :
  ∃ d hp',runS E (dL E) 123 [.yld l,.iptr [dInts b],.iptr (dProb p).cellsL] hp = some (d,hp') /\ (J [] hp' \/ Fin hp'):=by
 refine z97 c123 (R:=fun _ hp'=>J [] hp' \/ Fin hp') (by simp) ?_
 have s3:=S.vars
 have hbl:=okb.len
 simp [t123,n123]
 refine zz b.length (fun i env hp=>∃ (x3 x4 x5 x6 x10 x11 x12 x13 x14 x15 x16 x17 x18 x19 x20 x21 : D),env = [.yld l,.iptr [dInts b],.iptr (dProb p).cellsL,x3,x4,x5,x6,dInts b,dI b.length,dI i,x10,x11,x12,x13,x14,x15,x16,x17,x18,x19,x20,x21] /\
  J (itemsP (p.vars.drop i) (b.drop i)) hp) 0 (by omega) ⟨_,_,_,_,_,_,_,_,_,_,_,_,_,_,_,_,rfl,by simpa using h0⟩ ?_
 rintro i env hp hi ⟨x3,x4,x5,x6,x10,x11,x12,x13,x14,x15,x16,x17,x18,x19,x20,x21,rfl,hJ⟩
 by_cases hlt : i < b.length
 rotate_left
 ·have : i = b.length:=by omega
  subst this
  have : itemsP (p.vars.drop b.length) (b.drop b.length) = []:=by
   rw [List.drop_length]; cases p.vars.drop b.length <;> rfl
  rw [this] at hJ
  simp [hJ]
 have hi' : i < p.vars.length:=by omega
 have okv:=ok.vars _ (List.getElem_mem hi')
 have hw:=okb.each i hlt hi'
 rw [z9 hlt,z9 hi'] at hJ
 obtain ⟨m,hm⟩ : ∃ m : Nat,b[i] = m:=⟨b[i].toNat,by unfold wi at hw; omega⟩
 have hm' : m < p.vars[i].choices.length:=by unfold wi at hw; omega
 have hus : usesAt p.vars[i] b[i] = p.vars[i].choices[m].uses:=by
  rw [hm]; simp [usesAt,hm']
 have l1:=S.leaves _ (List.getElem_mem hi')
 have l3:=S.uses _ (List.getElem_mem hi') _ (List.getElem_mem hm')
 obtain ⟨us,hus'⟩ : ∃ us,us = p.vars[i].choices[m].uses:=⟨_,rfl⟩
 obtain ⟨rest,hrest⟩ : ∃ rest,rest = itemsP (p.vars.drop (i + 1)) (b.drop (i + 1)):=⟨_,rfl⟩
 simp only [itemsP,itemsV,hus,<- hus',<- hrest] at hJ
 simp [hlt,hi',hm]
 refine zz p.vars[i].leaves.length (fun j env hp=>∃ (x5 x6 x10 x14 x15 x16 x17 x18 x19 x20 x21 : D),env = [.yld l,.iptr [dInts b],.iptr (dProb p).cellsL,dI i,dI m,x5,x6,dInts b,dI b.length,dI i,x10,dInts p.vars[i].leaves,dI p.vars[i].leaves.length,dI j,x14,x15,x16,x17,x18,x19,x20,x21] /\
  J (((p.vars[i].leaves.drop j).flatMap fun leaf=>us.map fun u=>(leaf,u)) ++ rest) hp) 0 (by omega) ⟨_,_,_,_,_,_,_,_,_,_,_,rfl,by simpa using hJ⟩ ?_
 rintro j env hp hj ⟨x5,x6,x10,x14,x15,x16,x17,x18,x19,x20,x21,rfl,hJ⟩
 by_cases hlt2 : j < p.vars[i].leaves.length
 rotate_left
 ·have : j = p.vars[i].leaves.length:=by omega
  subst this
  simp only [List.drop_length,List.flatMap_nil,List.nil_append] at hJ
  rw [hrest] at hJ
  simp [hlt,z6 hlt (by omega),hJ]
 rw [z9 hlt2] at hJ
 obtain ⟨rest2,hrest2⟩ : ∃ rest2,rest2 = ((p.vars[i].leaves.drop (j + 1)).flatMap fun leaf=>us.map fun u=>(leaf,u)) ++ rest:=⟨_,rfl⟩
 simp only [List.flatMap_cons,List.append_assoc,<- hrest2] at hJ
 simp [hlt2,hi',hm',<- hus']
 refine zz us.length (fun k env hp=>∃ (x6 x10 x14 x18 x19 x20 x21 : D),env = [.yld l,.iptr [dInts b],.iptr (dProb p).cellsL,dI i,dI m,dI p.vars[i].leaves[j],x6,dInts b,dI b.length,dI i,x10,dInts p.vars[i].leaves,dI p.vars[i].leaves.length,dI j,x14,.imm .none (us.map dUse),dI us.length,dI k,x18,x19,x20,x21] /\
  J ((us.drop k).map (fun u=>(p.vars[i].leaves[j],u)) ++ rest2) hp) 0 (by omega) ⟨_,_,_,_,_,_,_,rfl,by simpa using hJ⟩ ?_
 rintro k env hp hk ⟨x6,x10,x14,x18,x19,x20,x21,rfl,hJ⟩
 rw [<- hus'] at l3
 by_cases hlt3 : k < us.length
 rotate_left
 ·have : k = us.length:=by omega
  subst this
  simp only [List.drop_length,List.map_nil,List.nil_append] at hJ
  rw [hrest2] at hJ
  simp [hlt2,z6 hlt2 (by omega),hJ]
 rw [z9 hlt3] at hJ
 simp only [List.map_cons,List.cons_append] at hJ
 obtain ⟨t,hp2,hy1,hy2,hy3⟩:=hy _ _ _ (hext _ _ (.cells (dUse us[k]).cellsL) hJ)
 simp at hy1
 cases t with
 | true=>
  have hJ2:=hy2 rfl
  simp only [List.map_drop] at hJ2
  simp [hlt3,zg,zy,hy1,z6 hlt3 (by omega),hJ2]
 | false=>
  have hF:=hy3 rfl
  simp [hlt3,zg,zy,hy1,hF]

theorem zdn {a : Cell} : ltC a a = false:=by simp [ltC]

theorem zc4 {a b c : Cell} (h : ltC a b = true) (h' : ltC b c = true) : ltC a c = true:=by
 unfold ltC at *
 cases ha : a.airport <;> cases hb : b.airport <;> cases hc : c.airport <;> simp [ha,hb,hc] at h h' ⊢ <;> (repeat' split at h) <;> (repeat' split at h') <;> (repeat' split) <;> omega

theorem zaj {l : List Cell} (h : ∀ (i : Nat) (hi : i + 1 < l.length),ltC l[i] l[i + 1] = true) : ∀ (j i : Nat) (hj : j < l.length) (hij : i < j),ltC (l[i]'(by omega)) l[j] = true
 | j + 1,i,hj,hij=>by
  rcases Nat.lt_succ_iff_lt_or_eq.1 hij with h1 | rfl
  ·exact zc4 (zaj h j i (by omega) h1) (h j hj)
  ·exact h i hj

theorem zki {l : List Cell} (h : ∀ (i : Nat) (hi : i + 1 < l.length),ltC l[i] l[i + 1] = true) (j i : Nat) (hj : j < l.length) (hij : i < j) : l[i]'(by omega) ≠ l[j]:=by
 intro e
 have:=zaj h j i hj hij
 rw [e,zdn] at this; cases this

def nent (x : Cell × Nat) : D × D:=(dCell x.1,dI x.2)

theorem zfy {c x : Cell} : D.eqb (dCell c) (dCell x) = some (decide (c = x)):=by
 simp [D.eqb,eqL,atomEq]
 cases c; cases x; simp [Bool.beq_eq_decide_eq]

theorem zcl {c : Cell} : ∀ {l : List Cell} {n : Nat},mapFind (dCell c) ((l.zipIdx n).map nent) = some (if c ∈ l then some (dI (atS c l n)) else none)
 | [],n=>rfl
 | x :: l,n=>by
  simp only [List.zipIdx_cons,List.map_cons,mapFind,nent,zfy]
  by_cases h : c = x
  ·simp [h,atS]
  ·have h' : ¬ x = c:=fun e=>h e.symm
   simp only [h,decide_false,List.mem_cons,false_or,atS,if_neg h']
   exact zcl

theorem zez {c : Cell} {v : Nat} : ∀ {es : List (Cell × Nat)},c ∉ es.map (·.1) -> mapPut (dCell c) (dI v) (es.map nent) = some ((es ++ [(c,v)]).map nent)
 | [],_=>rfl
 | x :: es,h=>by
  simp only [List.map_cons,List.mem_cons,not_or] at h
  simp only [List.map_cons,mapPut,nent,zfy,h.1,decide_false]
  have ih:=zez (v:=v) h.2
  rw [ih]
  rfl

theorem zal {A : Type} {hp r : List A} {i : Nat} {o : A} (h : hp[i]? = some o) : (hp ++ r)[i]? = some o:=by
 rw [List.getElem?_append_left (List.getElem?_eq_some_iff.1 h).1,h]
theorem zc3 {A : Type} {hp : List A} {i : Nat} {o : A} (h : hp[i]? = some o) : i < hp.length:=(List.getElem?_eq_some_iff.1 h).1
theorem zcc {A : Type} {hp : List A} {i j : Nat} {x o : A} (h : hp[i]? = some o) (hn : j ≠ i) : (hp.set j x)[i]? = some o:=by
 rw [List.getElem?_set_ne hn,h]
theorem zko {A : Type} {hp : List A} {i : Nat} {x : A} (h : i < hp.length) : (hp.set i x)[i]? = some x:=by
 rw [List.getElem?_set_self h]
theorem z1f {A : Type} {hp r : List A} {k : Nat} : (hp ++ r)[hp.length + k]? = r[k]?:=by
 rw [List.getElem?_append_right (by omega)]; congr 1; omega
theorem z5b {A : Type} {hp r : List A} {k : Nat} {x : A} : (hp ++ r).set (hp.length + k) x = hp ++ r.set k x:=by
 rw [List.set_append_right _ _ (by omega)]; congr 2; omega
theorem z1i {A : Type} {hp r : List A} {i : Nat} {x : A} (h : i < hp.length) : (hp ++ r).set i x = hp.set i x ++ r:=List.set_append_left _ _ h

def At (hp : List Obj) (i : Nat) (o : Obj) : Prop:=hp[i]? = some o
theorem At.eq {hp : List Obj} {i : Nat} {o : Obj} (h : At hp i o) : hp[i]? = some o:=h
theorem At.app {hp r : List Obj} {i : Nat} {o : Obj} (h : At hp i o) : At (hp ++ r) i o:=zal h
theorem At.appE {hp r : List Obj} {i : Nat} {o : Obj} (h : At hp i o) : (hp ++ r)[i]? = some o:=zal h
theorem At.ne {hp : List Obj} {i j : Nat} {x o : Obj} (h : At hp i o) (hn : j ≠ i) : At (hp.set j x) i o:=zcc h hn
theorem At.lt {hp : List Obj} {i : Nat} {o : Obj} (h : At hp i o) : i < hp.length:=zc3 h
theorem At.self {hp : List Obj} {i : Nat} {o : Obj} (h : i < hp.length) : At (hp.set i o) i o:=zko h

def addI (p : Prob) (rows : List (List Int)) (x : Int × Use) : List (List Int):=rows.set x.1.toNat (addU p (rows.getD x.1.toNat []) x.2)

def demA (p : Prob) (b : List Int) : List (List Int):=(itemsP p.vars b).foldl (addI p) (List.replicate p.capacity.length (List.replicate p.cells.length 0))

theorem zcs : ∀ {l : List D},chunk 1 false l.length l = some l
 | []=>rfl
 | x :: r=>by
  simp only [List.length_cons,chunk,takeC,List.getElem?_cons_zero,ofCells,List.drop_succ_cons,List.drop_zero,zcs]

def ItemOk (p : Prob) (x : Int × Use) : Prop:=(0 <= x.1 /\ x.1.toNat < p.capacity.length) /\ x.2.cell ∈ p.cells

theorem zai {p : Prob} (ok : OkP p) : ∀ {vs : List Var} {b : List Int},(∀ v,v ∈ vs -> v ∈ p.vars) -> ∀ x,x ∈ itemsP vs b -> ItemOk p x
 | [],_,_,x,h=>by simp [itemsP] at h
 | _ :: _,[],_,x,h=>by simp [itemsP] at h
 | v :: vs,n :: ns,hv,x,h=>by
  simp only [itemsP,List.mem_append] at h
  rcases h with h | h
  ·simp only [itemsV,List.mem_flatMap,List.mem_map] at h
   obtain ⟨leaf,hl,u,hu,rfl⟩:=h
   have okv:=ok.vars v (hv v (by simp))
   have h1:=okv.leaves leaf hl
   unfold wi at h1
   refine ⟨by simp only; omega,?_⟩
   unfold usesAt at hu
   by_cases hn : n.toNat < v.choices.length
   ·simp only [List.getD_eq_getElem?_getD,List.getElem?_eq_getElem hn,Option.getD_some] at hu
    exact ((okv.choices _ (List.getElem_mem hn)).uses _ hu).known
   ·simp [List.getD_eq_getElem?_getD,List.getElem?_eq_none (Nat.le_of_not_lt hn)] at hu
  ·exact zai ok (fun w hw=>hv w (by simp [hw])) x h

structure RowsAt (hp : List Obj) (rp c : Nat) (m : Nat) (rows : List (List Int)) : Prop where
 ptr : hp[rp]? = some (.cells ((List.range rows.length).map fun j=>.sl (c + 8 * j) 0 m 1 false true))
 row : ∀ (j : Nat) (h : j < rows.length),hp[c + 8 * j]? = some (.cells (rows[j].map dI))
 len : ∀ (j : Nat) (h : j < rows.length),rows[j].length = m

theorem RowsAt.app {hp r : List Obj} {rp c m : Nat} {rows : List (List Int)} (R : RowsAt hp rp c m rows) : RowsAt (hp ++ r) rp c m rows:=
 ⟨zal R.ptr,fun j h=>zal (R.row j h),R.len⟩
theorem RowsAt.other {hp : List Obj} {rp c m k : Nat} {o : Obj} {rows : List (List Int)} (R : RowsAt hp rp c m rows) (h1 : k ≠ rp) (h2 : ∀ j,j < rows.length -> k ≠ c + 8 * j) : RowsAt (hp.set k o) rp c m rows:=
 ⟨zcc R.ptr h1,fun j h=>zcc (R.row j h) (h2 j h),R.len⟩
theorem RowsAt.upd {hp : List Obj} {rp c m k : Nat} {r : List Int} {rows : List (List Int)} (R : RowsAt hp rp c m rows) (hk : k < rows.length) (hr : r.length = m) (hc : rp < c) : RowsAt (hp.set (c + 8 * k) (.cells (r.map dI))) rp c m (rows.set k r):=by
 refine ⟨by rw [List.length_set]; exact zcc R.ptr (by omega),fun j h=>?_,fun j h=>?_⟩
 ·rw [List.length_set] at h
  by_cases e : k = j
  ·subst e
   rw [zko (zc3 (R.row k hk))]
   simp
  ·rw [zcc (R.row j h) (by omega)]
   simp [List.getElem_set_ne e]
 ·rw [List.length_set] at h
  by_cases e : k = j
  ·subst e; simp [hr]
  ·simp [List.getElem_set_ne e,R.len j h]

theorem zks {hp : List Obj} {n rp c m : Nat} {rows : List (List Int)} (R : RowsAt hp rp c m rows) :
  frzL (frz hp (n + 2)) ((List.range rows.length).map fun j=>.sl (c + 8 * j) 0 m 1 false true) = some (rows.map dInts):=by
 have key : ∀ (k : Nat),k <= rows.length -> frzL (frz hp (n + 2)) ((List.range' (rows.length - k) k).map fun j=>.sl (c + 8 * j) 0 m 1 false true) = some ((rows.drop (rows.length - k)).map dInts):=by
  intro k
  induction k with
  | zero=>intro _; simp
  | succ k ih=>
   intro hk
   have hlt : rows.length - (k + 1) < rows.length:=by omega
   have e1 : rows.length - (k + 1) + 1 = rows.length - k:=by omega
   rw [List.range'_succ,e1,List.map_cons,z2k,ih (by omega),z9 hlt,e1]
   have h1:=R.row _ hlt
   have h2:=R.len _ hlt
   rw [zow,h1]
   simp only [z54,za,List.drop_zero,<- h2,z7d,z8g,Option.map_some,List.map_cons]
 have:=key rows.length (Nat.le_refl _)
 simpa [List.range_eq_range'] using this

theorem zci {n : Nat} : flat (List.replicate n (.imm .exact [])) = List.replicate n (.imm .exact []):=by
 induction n with
 | zero=>rfl
 | succ n ih=>rw [List.replicate_succ]; simp only [flat,List.flatMap_cons] at ih ⊢; rw [ih]; rfl

def heads (c m n i : Nat) : List D:=((List.range i).map fun j=>.sl (c + 8 * j) 0 m 1 false true) ++ List.replicate (n - i) (.imm .exact [])

theorem zkm {c m n i : Nat} (h : i <= n) : (heads c m n i).length = n:=by simp [heads]; omega
theorem zkl {c m n i : Nat} (h : i < n) : (heads c m n i).set i (.sl (c + 8 * i) 0 m 1 false true) = heads c m n (i + 1):=by
 unfold heads
 rw [List.set_append_right _ _ (by simp),List.range_succ,List.map_append,List.append_assoc]
 congr 1
 obtain ⟨k,hk⟩ : ∃ k,n - i = k + 1:=⟨n - i - 1,by omega⟩
 rw [hk,show n - (i + 1) = k from by omega,List.replicate_succ]
 simp

theorem r68 (p : Prob) (b : List Int) (S : Small p) (hb : b.length <= 20) (ok : OkP p) (okb : OkB p b) : runP E (dL E) 68 [dProb p,dInts b] = some (.imm .none ((demA p b).map dInts)):=by
 refine zb c68 (by simp) ?_
 have s1:=S.cells
 have s2:=S.cap
 simp [t68,n68]
 refine zz p.cells.length
  (fun i env hp=>∃ (x5 x6 x7 x8 x9 x10 x11 x15 x16 x17 x18 x19 x20 x21 x22 x23 x24 x25 x26 x27 x28 x29 : D) (h : List Obj),env = [dProb p,dInts b,.loc 0 0,.imm .exact [],.loc 2 0,x5,x6,x7,x8,x9,x10,x11,.imm .none (p.cells.map dCell),dI p.cells.length,dI i,x15,x16,x17,x18,x19,x20,x21,x22,x23,x24,x25,x26,x27,x28,x29] /\ hp = .cells (dProb p).cellsL :: .map ((p.cells.take i).zipIdx.map nent) :: .cells [.map (some 1)] :: h)
  0 (by omega) ⟨_,_,_,_,_,_,_,_,_,_,_,_,_,_,_,_,_,_,_,_,_,_,_,rfl,rfl⟩ ?_
 rintro i env hp hi ⟨x5,x6,x7,x8,x9,x10,x11,x15,x16,x17,x18,x19,x20,x21,x22,x23,x24,x25,x26,x27,x28,x29,h,rfl,rfl⟩
 by_cases hlt : i < p.cells.length
 ·have hnew : p.cells[i] ∉ ((p.cells.take i).zipIdx).map (·.1):=by
   intro hm
   rw [List.zipIdx_map_fst] at hm
   obtain ⟨j,hj,e⟩:=List.getElem_of_mem hm
   simp at hj e
   exact zki ok.incr i j hlt (by omega) e
  have hput:=zez (v:=i) hnew
  have hts : p.cells.take (i + 1) = p.cells.take i ++ [p.cells[i]]:=by simp
  have hz : ((p.cells.take (i + 1)).zipIdx) = (p.cells.take i).zipIdx ++ [(p.cells[i],i)]:=by
   rw [hts,List.zipIdx_append]
   simp [Nat.min_eq_left (Nat.le_of_lt hlt)]
  rw [<- hz] at hput
  simp at hput
  simp [hlt,zg,zy,hput,z6 hlt (by omega)]
 have hi' : i = p.cells.length:=by omega
 subst hi'
 have hmb : (p.capacity.length : Int) * 25 <= 17592186044416:=by omega
 have hmb2 : (p.cells.length : Int) * 9 <= 17592186044416:=by omega
 simp [maxBytes,hmb,zg,zy,zci]
 obtain ⟨c,hc⟩ : ∃ c,c = h.length + 1 + 1 + 1 + 2 + 5:=⟨_,rfl⟩
 obtain ⟨rp,hrp⟩ : ∃ rp,rp = h.length + 1 + 1 + 1:=⟨_,rfl⟩
 obtain ⟨sp,hsp⟩ : ∃ sp,sp = h.length + 1 + 1 + 1 + 1:=⟨_,rfl⟩
 refine zz p.capacity.length
  (fun i env hp=>∃ (x5 x6 x8 x9 x10 x11 x12 x13 x14 x15 x16 x17 x18 x21 x22 x23 x24 x25 x26 x27 x28 x29 : D) ,env = [dProb p,dInts b,.loc 0 0,.imm .exact [],.loc 2 0,x5,x6,.loc sp 0,x8,x9,x10,x11,x12,x13,x14,x15,x16,x17,x18,dI p.capacity.length,dI i,x21,x22,x23,x24,x25,x26,x27,x28,x29] /\
   hp.length + 5 = c + 8 * i /\ At hp 0 (.cells (dProb p).cellsL) /\ At hp 1 (.map (p.cells.zipIdx.map nent)) /\ At hp 2 (.cells [.map (some 1)]) /\
   At hp sp (.cells [.sl rp 0 p.capacity.length 1 false true]) /\ At hp rp (.cells (heads c p.cells.length p.capacity.length i)) /\
   ∀ j,j < i -> At hp (c + 8 * j) (.cells (List.replicate p.cells.length (dI 0))))
  0 (by omega) ⟨_,_,_,_,_,_,_,_,_,_,_,_,_,_,_,_,_,_,_,_,_,_,by rw [hsp]; rfl,by simp [hc],rfl,rfl,rfl,by rw [hsp,hrp]; simp [At],by rw [hrp]; simp [heads,At],by omega⟩ ?_
 rintro i env hp hi ⟨x5,x6,x8,x9,x10,x11,x12,x13,x14,x15,x16,x17,x18,x21,x22,x23,x24,x25,x26,x27,x28,x29,rfl,hlen,g0,g1,g2,gs,gr,grow⟩
 by_cases hlt2 : i < p.capacity.length
 ·have l0:=g0.lt
  have lr:=gr.lt
  have ls:=gs.lt
  have hi1 : i + 1 <= p.capacity.length:=hlt2
  have hh:=zkm (c:=c) (m:=p.cells.length) hi
  simp [hlt2,↓g0.appE,↓gs.appE,↓gr.appE,maxBytes,hmb2,z5b,z1i lr,hh,z1f,z6 hlt2 (by omega),hi1,hlen,zkl hlt2]
  have hl2 : 2 < hp.length:=g2.lt
  have hcl : c + 8 * i = hp.length + 5:=hlen.symm
  refine ⟨by omega,(g0.ne (by omega)).app,(g1.ne (by omega)).app,(g2.ne (by omega)).app,(gs.ne (by omega)).app,(At.self lr).app,fun j hj=>?_⟩
  by_cases hj' : j < i
  ·exact ((grow j hj').ne (by omega)).app
  ·have : j = i:=by omega
   subst this
   rw [hcl]
   have e : hp.length + 5 = (hp.set rp (.cells (heads c p.cells.length p.capacity.length (j + 1)))).length + 5:=by simp
   rw [e]
   exact z1f
 have hi2 : i = p.capacity.length:=by omega
 subst hi2
 have h104:=r104 p b
 simp only [dProb,dInts] at h104
 simp [g0.eq,h104]
 refine ⟨123,_,rfl,?_⟩
 intro L hL hcb
 have hl2 : 2 < hp.length:=g2.lt
 obtain ⟨l,hl⟩ : ∃ l,l = hp.length:=⟨_,rfl⟩
 rw [<- hl] at hcb ⊢
 obtain ⟨J,hJ⟩ : ∃ J : List (Int × Use) -> List Obj -> Prop,J = fun rem hp'=>∃ rows : List (List Int),rows.length = p.capacity.length /\ RowsAt hp' rp c p.cells.length rows /\ At hp' 0 (.cells (dProb p).cellsL) /\
  At hp' 1 (.map (p.cells.zipIdx.map nent)) /\ At hp' 2 (.cells [.map (some 1)]) /\ At hp' sp (.cells [.sl rp 0 p.capacity.length 1 false true]) /\ At hp' l (L false none) /\ (∀ x,x ∈ rem -> ItemOk p x) /\
  rem.foldl (addI p) rows = demA p b:=⟨_,rfl⟩
 have key:=i123 p b S hb ok okb l J (fun _=>False) (by
   rw [hJ]
   rintro rem hp' o ⟨rows,a1,a2,a3,a4,a5,a6,a7,a8,a9⟩
   exact ⟨rows,a1,a2.app,a3.app,a4.app,a5.app,a6.app,a7.app,a8,a9⟩) (by
   intro x rem hp1 hj
   rw [hJ] at hj
   obtain ⟨rows,a1,a2,a3,a4,a5,a6,a7,a8,a9⟩:=hj
   obtain ⟨⟨hx0,hx1⟩,hx2⟩:=a8 x (by simp)
   obtain ⟨leaf,u⟩:=x
   obtain ⟨k,rfl⟩ : ∃ k : Nat,leaf = k:=⟨leaf.toNat,by simp only at hx0; omega⟩
   simp only [Int.toNat_natCast] at hx1 hx2
   have hkr : k < rows.length:=by omega
   have hat:=zgb (i:=0) hx2
   obtain ⟨n,hn⟩ : ∃ n : Nat,atS u.cell p.cells 0 = n:=⟨(atS u.cell p.cells 0).toNat,by omega⟩
   have hnm : n < p.cells.length:=by omega
   have hfn:=zcl (c:=u.cell) (l:=p.cells) (n:=0)
   simp only [hx2,if_true,hn] at hfn
   have hrl:=a2.len k hkr
   have hnr : n < rows[k].length:=by omega
   have hn1 : n + 1 <= rows[k].length:=hnr
   have hl1:=a7.lt
   have L0:=(a3.ne (j:=l) (x:=L true none) (by omega))
   have L1:=(a4.ne (j:=l) (x:=L true none) (by omega))
   have L2:=(a5.ne (j:=l) (x:=L true none) (by omega))
   have L3:=(a6.ne (j:=l) (x:=L true none) (by omega))
   have R1:=a2.other (k:=l) (o:=L true none) (by omega) (fun j hj=>by omega)
   have L4 : At (hp1.set l (L true none)) rp _:=R1.ptr
   have L5 : At (hp1.set l (L true none)) (c + 8 * k) _:=R1.row k hkr
   have LU : ∀ r,(hp1.set l (L true none) ++ r)[hp1.length]? = r[0]?:=fun r=>by
    have:=z1f (hp:=hp1.set l (L true none)) (r:=r) (k:=0)
    simpa using this
   have L5l:=L5.lt
   rw [a1] at L4
   obtain ⟨t,hp2,e1,e2⟩:=hcb [dI k,dUse u] hp1 (fun t hp'=>t = true /\ J rem hp') rfl a7 (by
    simp [setAll,a7.eq,z1i hl1,↓L0.appE,↓L1.appE,↓L2.appE,↓L3.appE,↓L4.appE,↓L5.appE,LU,hx1,hnm,hfn,z1i L5l,hnr,hn1,↓a7.appE]
    have hadd : (rows[k].map dI).set n (.int .i64 (Go.IntKind.i64.wrap (rows[k][n] + u.places))) = (addU p rows[k] u).map dI:=by
     unfold addU
     rw [hn]
     simp [wr,hnr]
    rw [hadd]
    have S7 : At ((hp1.set l (L true none)).set (c + 8 * k) (.cells ((addU p rows[k] u).map dI))) l (L true none):=At.ne (At.self hl1) (by omega)
    refine ⟨S7.app,?_⟩
    rw [z1i S7.lt,hJ]
    have R2:=R1.upd (k:=k) (r:=addU p rows[k] u) hkr (by rw [zay,hrl]) (by omega)
    have R3:=R2.other (k:=l) (o:=L false none) (by omega) (fun j hj=>by rw [List.length_set] at hj; omega)
    refine ⟨rows.set k (addU p rows[k] u),by simp [a1],R3.app,((L0.ne (by omega)).ne (by omega)).app,((L1.ne (by omega)).ne (by omega)).app,((L2.ne (by omega)).ne (by omega)).app,
     ((L3.ne (by omega)).ne (by omega)).app,(At.self S7.lt).app,fun x hx=>a8 x (by simp [hx]),?_⟩
    rw [<- a9,List.foldl_cons]
    congr 1
    simp [addI,hkr])
   obtain ⟨rfl,e3⟩:=e2
   exact ⟨true,hp2,e1,fun _=>e3,fun h=>by cases h⟩) (hp:=hp ++ [L false none]) (by
   rw [hJ]
   refine ⟨List.replicate p.capacity.length (List.replicate p.cells.length 0),by simp,⟨?_,fun j h=>?_,fun j h=>by simp⟩,g0.app,g1.app,g2.app,gs.app,?_,zai ok (fun v hv=>hv),rfl⟩
   ·have:=gr.app (r:=[L false none])
    simpa [At,heads] using this
   ·simp only [List.length_replicate] at h
    have:=(grow j h).app (r:=[L false none])
    simpa [At] using this
   ·rw [hl]; simp [At])
 obtain ⟨d,hp',h1,h2⟩:=key
 rcases h2 with h2 | h2
 rotate_left
 ·exact h2.elim
 rw [hJ] at h2
 obtain ⟨rows,a1,a2,a3,a4,a5,a6,a7,a8,a9⟩:=h2
 simp only [List.foldl_nil] at a9
 subst a9
 refine ⟨d,hp',h1,.inl ⟨a7,?_⟩⟩
 have b6:=a6.ne (j:=l) (x:=.dead) (by omega)
 have b2:=a2.other (k:=l) (o:=.dead) (by omega) (fun j hj=>by omega)
 have hfr:=zks (n:=9) b2
 rw [a1] at hfr
 have hp2:=b2.ptr
 rw [a1] at hp2
 have hck:=zcs (l:=List.map (fun j=>D.sl (c + 8 * j) 0 p.cells.length 1 false true) (List.range p.capacity.length))
 rw [List.length_map,List.length_range] at hck
 simp [b6.eq,hp2,hck,hfr]

theorem zgf {p : Prob} {k : Nat} : ∀ {l : List (Int × Use)} {rows : List (List Int)},(∀ x,x ∈ l -> 0 <= x.1 /\ x.1.toNat < rows.length) -> (h : k < rows.length) ->
  (l.foldl (addI p) rows)[k]? = some (((l.filter fun x=>x.1 == (k : Int)).map (·.2)).foldl (addU p) rows[k])
 | [],rows,_,h=>by simp [h]
 | x :: l,rows,hl,h=>by
  obtain ⟨h0,h1⟩:=hl x (by simp)
  have hl' : ∀ y,y ∈ l -> 0 <= y.1 /\ y.1.toNat < (addI p rows x).length:=fun y hy=>by
   have:=hl y (by simp [hy])
   simpa [addI] using this
  have h' : k < (addI p rows x).length:=by simpa [addI] using h
  rw [List.foldl_cons,zgf hl' h']
  by_cases e : x.1 = (k : Int)
  ·have e' : x.1.toNat = k:=by omega
   rw [List.filter_cons_of_pos (by simp [e])]
   simp only [List.map_cons,List.foldl_cons,addI,e']
   simp [h]
  ·have e' : x.1.toNat ≠ k:=by omega
   rw [List.filter_cons_of_neg (by simp [e])]
   simp only [addI]
   rw [List.getElem_set_ne e']

theorem z8l {k : Int} {us : List Use} : ∀ {ls : List Int},ls.Nodup -> ((ls.flatMap fun leaf=>us.map fun u=>(leaf,u)).filter fun x=>x.1 == k).map (·.2) = if ls.contains k then us else []
 | [],_=>rfl
 | a :: ls,h=>by
  rw [List.nodup_cons] at h
  rw [List.flatMap_cons,List.filter_append,List.map_append,z8l h.2]
  by_cases e : a = k
  ·subst e
   have h1 : ls.contains a = false:=by simpa using h.1
   have h2 : ((us.map fun u=>(a,u)).filter fun x=>x.1 == a) = us.map fun u=>(a,u):=by
    rw [List.filter_eq_self]
    intro x hx
    obtain ⟨u,_,rfl⟩:=List.mem_map.1 hx
    simp
   have h3 : (List.map ((fun x : Int × Use=>x.2) ∘ fun u=>(a,u)) us) = us:=by
    have : ((fun x : Int × Use=>x.2) ∘ fun u=>(a,u)) = id:=rfl
    rw [this,List.map_id]
   rw [h2,h1,List.map_map,h3]
   simp
  ·have h2 : ((us.map fun u=>(a,u)).filter fun x=>x.1 == k) = []:=by
    rw [List.filter_eq_nil_iff]
    intro x hx
    obtain ⟨u,_,rfl⟩:=List.mem_map.1 hx
    simpa using e
   have h3 : (a :: ls).contains k = ls.contains k:=by
    have h4 : ¬ k = a:=fun h=>e h.symm
    by_cases h5 : k ∈ ls <;> simp [h4,h5]
   rw [h2,h3]
   simp

theorem zc8 {l : List Int} (h : ∀ (i : Nat) (hi : i + 1 < l.length),l[i] < l[i + 1]) : l.Nodup:=by
 rw [List.nodup_iff_pairwise_ne,List.pairwise_iff_getElem]
 intro i j hi hj hij
 have h1:=zak h j (i + 1) hj hij
 have h2:=h i (by omega)
 omega

theorem z6v {p : Prob} (ok : OkP p) {k : Int} : ∀ {vs : List Var} {b : List Int},(∀ v,v ∈ vs -> v ∈ p.vars) -> ((itemsP vs b).filter fun x=>x.1 == k).map (·.2) = usesIn vs b k
 | [],_,_=>by simp [itemsP,usesIn]
 | _ :: _,[],_=>by simp [itemsP,usesIn]
 | v :: vs,n :: ns,hv=>by
  simp only [itemsP,itemsV,usesIn,List.filter_append,List.map_append]
  rw [z8l (zc8 (ok.vars v (hv v (by simp))).incr),z6v ok (fun w hw=>hv w (by simp [hw]))]

theorem znq {p : Prob} {b : List Int} : (demA p b).length = p.capacity.length:=by
 unfold demA
 have : ∀ (l : List (Int × Use)) (rows : List (List Int)),(l.foldl (addI p) rows).length = rows.length:=by
  intro l
  induction l with
  | nil=>intro rows; rfl
  | cons x l ih=>intro rows; rw [List.foldl_cons,ih]; simp [addI]
 rw [this]; simp

theorem zg5 {p : Prob} (ok : OkP p) {b : List Int} {k : Nat} (h : k < p.capacity.length) : (demA p b)[k]? = some (dem p b k):=by
 unfold demA
 rw [zgf (fun x hx=>by have:=(zai ok (fun v hv=>hv) x hx).1; simpa using this) (by simpa using h)]
 rw [z6v ok (fun v hv=>hv)]
 simp [dem]

open Classical in
noncomputable def resQ (p : Prob) (b : List Int) (leaf : Int) : D:=if bk p b 270 = 0 then (if 0 <= leaf /\ leaf <= p.capacity.length - 1 then .tup [dInts (dem p b leaf),dI 0] else .tup [dInts [],dI 270]) else .tup [dInts [],dI 270]

theorem zih {p : Prob} {b : List Int} {e : Int} (h0 : bk p b e = 0) (he : e ≠ 0) : OkP p /\ OkB p b:=by
 unfold bk at h0
 by_cases h1 : OkP p
 ·by_cases h2 : OkB p b
  ·exact ⟨h1,h2⟩
  ·simp [h1,h2] at h0; exact absurd h0 he
 ·simp [h1] at h0
theorem zcv {p : Prob} {b : List Int} {e : Int} (h1 : OkP p) (h2 : OkB p b) : bk p b e = 0:=by simp [bk,h1,h2]
theorem zlp {p : Prob} {b : List Int} (h : bk p b 270 ≠ 0) : bk p b 270 = 270:=by
 unfold bk at h ⊢
 by_cases h1 : OkP p
 ·by_cases h2 : OkB p b
  ·simp [h1,h2] at h
  ·simp [h1,h2]
 ·simp [h1]

theorem r14 (p : Prob) (b : List Int) (leaf : Int) (S : Small p) (hb : b.length <= 20) : runP E (dL E) 14 [dProb p,dInts b,dI leaf] = some (resQ p b leaf):=by
 refine zb c14 (by simp) ?_
 have h66:=r66 p b S hb
 have s2:=S.cap
 have hcw:=z7 (n:=(p.capacity.length : Int) - 1) ⟨by omega,by omega⟩
 simp only [dProb,dInts] at h66
 simp [t14,n14,h66]
 by_cases h0 : bk p b 270 = 0
 rotate_left
 ·have e:=zlp h0
  simp [e,resQ]
 obtain ⟨ok,okb⟩:=zih h0 (by decide)
 have h68:=r68 p b S hb ok okb
 simp only [dProb,dInts] at h68
 by_cases h1 : 0 <= leaf /\ leaf <= p.capacity.length - 1
 rotate_left
 ·simp [h0,resQ,r67,hcw,h1]
 obtain ⟨k,rfl⟩ : ∃ k : Nat,leaf = k:=⟨leaf.toNat,by omega⟩
 have hk : k < p.capacity.length:=by omega
 have hg:=zg5 ok (b:=b) hk
 have h1':=h1.2
 simp [h0,resQ,r67,hcw,h1',h68,hg]

def mn (a b : Int) : Int:=if b < a then b else a
def mx (a b : Int) : Int:=if a < b then b else a

def minC (a c : Choice) : Choice:=⟨mn a.delay c.delay,mn a.cost c.cost,mn a.changes c.changes,a.uses⟩

theorem r122 (c0 : Choice) (cs : List Choice) (hl : cs.length <= 1000) : runP E (dL E) 122 [dChoice c0,.imm .none (cs.map dChoice)] = some (dChoice (cs.foldl minC c0)):=by
 refine zb c122 (by simp) ?_
 generalize hB : cs.foldl minC c0 = R
 simp [t122,n122]
 refine zz cs.length (fun i env hp=>∃ (x4 x8 x9 : D) (a : Choice) (h : List Obj) (z : List D),env = [dChoice c0,.imm .none (cs.map dChoice),.loc 0 0,.loc 1 0,x4,.imm .none (cs.map dChoice),dI cs.length,dI i,x8,x9] /\
  hp = .cells (dChoice a).cellsL :: .cells z :: h /\ z.length = 4 /\ (cs.drop i).foldl minC a = R) 0 (by omega) ⟨_,_,_,c0,_,_,rfl,rfl,rfl,by simpa using hB⟩ ?_
 rintro i env hp hi ⟨x4,x8,x9,a,h,z,rfl,rfl,hz,hR⟩
 obtain ⟨z0,z1,z2,z3,rfl⟩:=four hz
 by_cases hlt : i < cs.length
 ·rw [z9 hlt,List.foldl_cons] at hR
  simp [hlt,zg,zy,z6 hlt (by omega)]
  exact ⟨minC a cs[i],_,_,⟨⟨rfl,rfl,rfl,rfl⟩,rfl,rfl⟩,rfl,hR⟩
 ·have : i = cs.length:=by omega
  subst this
  simp only [List.drop_length,List.foldl_nil] at hR
  subst hR
  simp

theorem zfm {A : Type} {hp r : List A} {k m : Nat} : (hp ++ r)[hp.length + k + m]? = r[k + m]?:=by
 rw [Nat.add_assoc]; exact z1f
theorem zew {A : Type} {hp r : List A} {k m : Nat} {x : A} : (hp ++ r).set (hp.length + k + m) x = hp ++ r.set (k + m) x:=by
 rw [Nat.add_assoc]; exact z5b
theorem zgr {A : Type} {f : A -> D} {l : List A} (h : 1 <= l.length) (hs : headFits 4 (l.map f) = true) : sliceD E 16 (.imm .none (l.map f)) (some (.int .i64 1)) none none = some (.imm .none ((l.drop 1).map f)):=by
 have e : (l.map f).length = l.length:=by simp
 simp [sliceD,bnd,sliceSpare,e,h,hs]
 rw [List.take_of_length_le (by simp)]
theorem ze3 {l : List Choice} : headFits 4 (l.map dChoice) = true:=by cases l <;> rfl

theorem zn5 {A : Type} {hp : List A} {i : Nat} {x : A} (h : i < hp.length) : (hp.set i x)[i]? = some x:=List.getElem?_set_self h

def pick (v : Var) : Option Int -> Choice
 | some n=>v.choices.getD n.toNat ⟨0,0,0,[]⟩
 | none=>(v.choices.drop 1).foldl minC (v.choices.getD 0 ⟨0,0,0,[]⟩)

def picks : List Var -> List Int -> List (Int × Choice)
 | [],_=>[]
 | v :: vs,b=>(v.leaves.length,pick v b.head?) :: picks vs b.tail

theorem zl1 {A : Type} {J : List A -> List Obj -> Prop} (hext : ∀ rem hp r,J rem hp -> J rem (hp ++ r)) {rem : List A} {hp r H : List Obj} (h : hp ++ r = H) (hJ : J rem hp) : J rem H:=h ▸ hext _ _ _ hJ

theorem r63 (p : Prob) (b : List Int) : runP E (dL E) 63 [dProb p,dInts b] = some (.fn 102 [.iptr (dProb p).cellsL,.iptr [dInts b]]):=by
 refine zb c63 (by simp) ?_
 simp [t63,n63]

theorem i102 (p : Prob) (b : List Int) (S : Small p) (hb : b.length <= 20) (ok : OkP p) (okb : OkB p b) (l : Nat) (J : List (Int × Choice) -> List Obj -> Prop) (Fin : List Obj -> Prop)
  (hext : ∀ rem hp r,J rem hp -> J rem (hp ++ r))
  (hy : ∀ x rem hp,J (x :: rem) hp -> ∃ t hp',runY (dL E) l [dI x.1,dChoice x.2] hp = some (.bool t,hp') /\ (t = true -> J rem hp') /\ (t = false -> Fin hp')) {hp : List Obj}
  (h0 : J (picks p.vars b) hp) :
  ∃ d hp',runS E (dL E) 102 [.yld l,.iptr (dProb p).cellsL,.iptr [dInts b]] hp = some (d,hp') /\ (J [] hp' \/ Fin hp'):=by
 refine z97 c102 (R:=fun _ hp'=>J [] hp' \/ Fin hp') (by simp) ?_
 have s3:=S.vars
 have hbl:=okb.len
 simp [t102,n102]
 refine zz p.vars.length (fun i env hp=>∃ (x3 x4 x5 x9 x10 x11 x12 x13 x14 : D) ,env = [.yld l,.iptr (dProb p).cellsL,.iptr [dInts b],x3,x4,x5,.imm .none (p.vars.map dVar),dI p.vars.length,dI i,x9,x10,x11,x12,x13,x14] /\
  J (picks (p.vars.drop i) (b.drop i)) hp) 0 (by omega) ⟨_,_,_,_,_,_,_,_,_,rfl,by simpa using h0⟩ ?_
 rintro i env hp hi ⟨x3,x4,x5,x9,x10,x11,x12,x13,x14,rfl,hJ⟩
 by_cases hlt : i < p.vars.length
 rotate_left
 ·have : i = p.vars.length:=by omega
  subst this
  simp only [List.drop_length,picks] at hJ
  simp [hJ]
 have okv:=ok.vars _ (List.getElem_mem hlt)
 have l2:=S.choices _ (List.getElem_mem hlt)
 rw [z9 hlt] at hJ
 simp only [picks,List.tail_drop,List.head?_drop] at hJ
 have hone:=okv.one
 have hc0 : 0 < p.vars[i].choices.length:=by omega
 obtain ⟨tl,htl⟩ : ∃ tl,tl = p.vars[i].choices.drop 1:=⟨_,rfl⟩
 have h122:=r122 p.vars[i].choices[0] tl (by rw [htl]; simp; omega)
 simp only [dChoice] at h122
 have hsl:=zgr (l:=p.vars[i].choices) (by omega) ze3
 rw [<- htl] at hsl
 by_cases hib : i < b.length
 ·have hw:=okb.each i hib hlt
  obtain ⟨m,hm⟩ : ∃ m : Nat,b[i] = m:=⟨b[i].toNat,by unfold wi at hw; omega⟩
  have hm' : m < p.vars[i].choices.length:=by unfold wi at hw; omega
  rw [List.getElem?_eq_getElem hib,hm] at hJ
  simp only [pick,Int.toNat_natCast,List.getD_eq_getElem?_getD,List.getElem?_eq_getElem hm',Option.getD_some] at hJ
  simp [hlt,↓z1f,↓z5b,↓zfm,↓zew,hc0,h122,hsl,hib,hm,hm']
  generalize hH : hp ++ _ = H
  have hJH:=zl1 hext hH hJ
  obtain ⟨t,hp2,hy1,hy2,hy3⟩:=hy _ _ _ hJH
  simp at hy1
  cases t with
  | true=>
   have hJ2:=hy2 rfl
   simp [hy1,z6 hlt (by omega),hJ2]
  | false=>
   have hF:=hy3 rfl
   simp [hy1,hF]
 ·rw [List.getElem?_eq_none (by omega)] at hJ
  simp only [pick,List.getD_eq_getElem?_getD,List.getElem?_eq_getElem hc0,Option.getD_some,<- htl] at hJ
  simp [hlt,↓z1f,↓z5b,↓zfm,↓zew,hc0,h122,hsl,hib]
  generalize hH : hp ++ _ = H
  have hJH:=zl1 hext hH hJ
  obtain ⟨t,hp2,hy1,hy2,hy3⟩:=hy _ _ _ hJH
  simp at hy1
  cases t with
  | true=>
   have hJ2:=hy2 rfl
   simp [hy1,z6 hlt (by omega),hJ2]
  | false=>
   have hF:=hy3 rfl
   simp [hy1,hF]

end Dv

namespace Dv

theorem zix {n : Int} (h : i64 n) : wr n = n:=z7 h

theorem zam {r : List Int} {a : Nat} : r.getD a 0 ∈ r \/ r.getD a 0 = 0:=by
 by_cases h : a < r.length
 ·left; simp [List.getD_eq_getElem?_getD,List.getElem?_eq_getElem h]
 ·right; simp [List.getD_eq_getElem?_getD,List.getElem?_eq_none (Nat.le_of_not_lt h)]

theorem zft {p : Prob} : ∀ {l : List Use} {r : List Int} {k : Int},(∀ u,u ∈ l -> 0 <= u.places /\ u.places <= 8) -> 0 <= k -> (∀ x,x ∈ r -> 0 <= x /\ x <= k) -> k + 8 * l.length <= 1000000 ->
  ∀ x,x ∈ l.foldl (addU p) r -> 0 <= x /\ x <= k + 8 * l.length
 | [],r,k,_,_,hr,_,x,hx=>by
  have:=hr x hx
  simp only [List.length_nil]; omega
 | u :: l,r,k,hu,hk,hr,hb,x,hx=>by
  simp only [List.length_cons] at hb ⊢
  rw [List.foldl_cons] at hx
  have hu1:=hu u (by simp)
  have h1 : 0 <= r.getD (atS u.cell p.cells 0).toNat 0 /\ r.getD (atS u.cell p.cells 0).toNat 0 <= k:=by
   rcases zam (r:=r) (a:=(atS u.cell p.cells 0).toNat) with h | h
   ·exact hr _ h
   ·rw [h]; omega
  have:=zft (p:=p) (l:=l) (r:=addU p r u) (k:=k + 8) (fun v hv=>hu v (by simp [hv])) (by omega) (fun y hy=>by
   unfold addU at hy
   rcases List.mem_or_eq_of_mem_set hy with h | h
   ·have:=hr y h; omega
   ·rw [h,zix ⟨by omega,by omega⟩]; omega) (by omega) x hx
  omega

theorem zb4 {p : Prob} {v : Var} (okv : OkVar p v) {n : Int} : ∀ u,u ∈ usesAt v n -> OkUse p u:=by
 intro u hu
 unfold usesAt at hu
 by_cases hn : n.toNat < v.choices.length
 ·simp only [List.getD_eq_getElem?_getD,List.getElem?_eq_getElem hn,Option.getD_some] at hu
  exact (okv.choices _ (List.getElem_mem hn)).uses _ hu
 ·simp [List.getD_eq_getElem?_getD,List.getElem?_eq_none (Nat.le_of_not_lt hn)] at hu

theorem z90 {v : Var} {n : Int} (h : ∀ c,c ∈ v.choices -> c.uses.length <= 12) : (usesAt v n).length <= 12:=by
 unfold usesAt
 by_cases hn : n.toNat < v.choices.length
 ·simp only [List.getD_eq_getElem?_getD,List.getElem?_eq_getElem hn,Option.getD_some]
  exact h _ (List.getElem_mem hn)
 ·simp [List.getD_eq_getElem?_getD,List.getElem?_eq_none (Nat.le_of_not_lt hn)]

theorem z59 {p : Prob} {leaf : Int} : ∀ {vs : List Var} {b : List Int},(∀ v,v ∈ vs -> OkVar p v) -> ∀ u,u ∈ usesIn vs b leaf -> OkUse p u
 | [],_,_,u,h=>by simp [usesIn] at h
 | _ :: _,[],_,u,h=>by simp [usesIn] at h
 | v :: vs,n :: ns,hv,u,h=>by
  simp only [usesIn,List.mem_append] at h
  rcases h with h | h
  ·by_cases hc : v.leaves.contains leaf = true
   ·rw [if_pos hc] at h; exact zb4 (hv v (by simp)) u h
   ·rw [if_neg hc] at h; cases h
  ·exact z59 (fun w hw=>hv w (by simp [hw])) u h

theorem z5x {leaf : Int} : ∀ {vs : List Var} {b : List Int},(∀ v,v ∈ vs -> ∀ c,c ∈ v.choices -> c.uses.length <= 12) -> (usesIn vs b leaf).length <= 12 * vs.length
 | [],_,_=>by simp [usesIn]
 | _ :: _,[],_=>by simp [usesIn]
 | v :: vs,n :: ns,hv=>by
  have h1:=z5x (leaf:=leaf) (vs:=vs) (b:=ns) (fun w hw=>hv w (by simp [hw]))
  have h2:=z90 (v:=v) (n:=n) (hv v (by simp))
  simp only [usesIn,List.length_append,List.length_cons]
  by_cases hc : v.leaves.contains leaf = true
  ·rw [if_pos hc]; omega
  ·rw [if_neg hc]; simp only [List.length_nil]; omega

theorem zg4 {p : Prob} (S : Small p) (ok : OkP p) {b : List Int} {leaf : Int} : ∀ x,x ∈ dem p b leaf -> 0 <= x /\ x <= 576:=by
 intro x hx
 have h1:=z5x (leaf:=leaf) (vs:=p.vars) (b:=b) S.uses
 have s3:=S.vars
 have:=zft (p:=p) (l:=usesIn p.vars b leaf) (r:=List.replicate p.cells.length 0) (k:=0) (fun u hu=>(z59 ok.vars u hu).places |> fun h=>by unfold wi at h; omega) (by omega)
  (fun y hy=>by rw [(List.mem_replicate.1 hy).2]; omega) (by omega) x hx
 omega

def ovR : List Int -> List Int -> Int
 | d :: ds,c :: cs=>mx (d - c) 0 + ovR ds cs
 | _,_=>0
def ovL (p : Prob) (b : List Int) : Nat -> List (List Int) -> Int
 | _,[]=>0
 | k,c :: cs=>ovR (dem p b k) c + ovL p b (k + 1) cs
def ov (p : Prob) (b : List Int) : Int:=ovL p b 0 p.capacity

theorem mx0 {a : Int} : 0 <= mx a 0:=by unfold mx; split <;> omega
theorem z7z : ∀ {d c : List Int},0 <= ovR d c
 | [],_=>by simp [ovR]
 | _ :: _,[]=>by simp [ovR]
 | d :: ds,c :: cs=>by
  have:=z7z (d:=ds) (c:=cs)
  have:=mx0 (a:=d - c)
  simp only [ovR]; omega
theorem zot {k : Int} (hk : 0 <= k) : ∀ {d c : List Int},(∀ x,x ∈ d -> x <= k) -> (∀ x,x ∈ c -> 0 <= x) -> ovR d c <= k * d.length
 | [],_,_,_=>by simp [ovR]
 | d :: ds,[],_,_=>by
  simp only [ovR]
  exact Int.mul_nonneg hk (by omega)
 | d :: ds,c :: cs,hd,hc=>by
  have h1:=zot hk (d:=ds) (c:=cs) (fun x hx=>hd x (by simp [hx])) (fun x hx=>hc x (by simp [hx]))
  have h2:=hd d (by simp)
  have h3:=hc c (by simp)
  have h4 : mx (d - c) 0 <= k:=by unfold mx; split <;> omega
  simp only [ovR,List.length_cons]
  have : k * ((ds.length + 1 : Nat) : Int) = k * ds.length + k:=by rw [Int.natCast_add,Int.mul_add]; simp
  omega
theorem za8 {p : Prob} {b : List Int} : ∀ {cs : List (List Int)} {k : Nat},0 <= ovL p b k cs
 | [],_=>by simp [ovL]
 | c :: cs,k=>by
  have:=za8 (p:=p) (b:=b) (cs:=cs) (k:=k + 1)
  have:=z7z (d:=dem p b k) (c:=c)
  simp only [ovL]; omega
theorem zou {p : Prob} (S : Small p) (ok : OkP p) {b : List Int} : ∀ {cs : List (List Int)} {k : Nat},(∀ l,l ∈ cs -> l ∈ p.capacity) -> ovL p b k cs <= 7000 * cs.length
 | [],_,_=>by simp [ovL]
 | c :: cs,k,hm=>by
  have h1:=zou S ok (b:=b) (cs:=cs) (k:=k + 1) (fun l hl=>hm l (by simp [hl]))
  have s1:=S.cells
  have h2:=zot (k:=576) (by omega) (d:=dem p b k) (c:=c) (fun x hx=>(zg4 S ok x hx).2) (fun x hx=>by
   have:=(ok.cap c (hm c (by simp))).2 x hx; unfold wi at this; omega)
  have h3 : (dem p b k).length = p.cells.length:=by simp [dem,z30]
  rw [h3] at h2
  simp only [ovL,List.length_cons]; omega
theorem zrr {p : Prob} (S : Small p) (ok : OkP p) {b : List Int} : ov p b <= 28000:=by
 have:=zou S ok (b:=b) (cs:=p.capacity) (k:=0) (fun l hl=>hl)
 have:=S.cap
 unfold ov; omega

def bdC (c : Choice) : Prop:=(0 <= c.delay /\ c.delay <= 1048576) /\ (0 <= c.cost /\ c.cost <= 1048576) /\ (0 <= c.changes /\ c.changes <= 1048576)
theorem zp1 {p : Prob} {c : Choice} (h : OkChoice p c) : bdC c:=by
 obtain ⟨h1,h2,h3,_,_⟩:=h
 exact ⟨h1,h2,h3⟩
theorem zsp {a c : Choice} (h : bdC a) (h' : bdC c) : bdC (minC a c):=by
 unfold bdC minC mn at *
 simp only
 refine ⟨?_,?_,?_⟩ <;> split <;> omega
theorem zlw : ∀ {l : List Choice} {a : Choice},bdC a -> (∀ c,c ∈ l -> bdC c) -> bdC (l.foldl minC a)
 | [],_,h,_=>h
 | c :: l,a,h,h'=>by
  rw [List.foldl_cons]
  exact zlw (zsp h (h' c (by simp))) (fun d hd=>h' d (by simp [hd]))
theorem zqy : bdC ⟨0,0,0,[]⟩:=by unfold bdC; simp
theorem zlv {p : Prob} {v : Var} (okv : OkVar p v) {n : Nat} : bdC (v.choices.getD n ⟨0,0,0,[]⟩):=by
 by_cases hn : n < v.choices.length
 ·simp only [List.getD_eq_getElem?_getD,List.getElem?_eq_getElem hn,Option.getD_some]
  exact zp1 (okv.choices _ (List.getElem_mem hn))
 ·simp only [List.getD_eq_getElem?_getD,List.getElem?_eq_none (Nat.le_of_not_lt hn),Option.getD_none]
  exact zqy
theorem zlu {p : Prob} {v : Var} (okv : OkVar p v) {n : Option Int} : bdC (pick v n):=by
 cases n with
 | some n=>exact zlv okv
 | none=>exact zlw (zlv okv) (fun c hc=>zp1 (okv.choices c (List.mem_of_mem_drop hc)))

def sumC : List (Int × Choice) -> Int
 | []=>0
 | x :: r=>x.2.cost * x.1 + sumC r
def sumG : List (Int × Choice) -> Int
 | []=>0
 | x :: r=>x.2.changes * x.1 + sumG r
def maxD (a : Int) (l : List (Int × Choice)) : Int:=l.foldl (fun a x=>mx a x.2.delay) a

def bdP (x : Int × Choice) : Prop:=(0 <= x.1 /\ x.1 <= 8) /\ bdC x.2
theorem z7f {p : Prob} : ∀ {vs : List Var} {b : List Int},(∀ v,v ∈ vs -> OkVar p v /\ v.leaves.length <= 8) -> ∀ x,x ∈ picks vs b -> bdP x
 | [],_,_,x,h=>by simp [picks] at h
 | v :: vs,b,hv,x,h=>by
  simp only [picks,List.mem_cons] at h
  rcases h with rfl | h
  ·have:=hv v (by simp)
   exact ⟨⟨by simp only; omega,by simp only; omega⟩,zlu this.1⟩
  ·exact z7f (fun w hw=>hv w (by simp [hw])) x h
theorem z7y : ∀ {vs : List Var} {b : List Int},(picks vs b).length = vs.length
 | [],_=>rfl
 | v :: vs,b=>by simp [picks,z7y]

theorem z6r {a n : Int} (h1 : 0 <= a) (h2 : a <= 1048576) (h3 : 0 <= n) (h4 : n <= 8) : 0 <= a * n /\ a * n <= 8388608:=
 ⟨Int.mul_nonneg h1 h3,by have:=Int.mul_le_mul h2 h4 h3 (by omega); omega⟩
theorem z7n : ∀ {l : List (Int × Choice)},(∀ x,x ∈ l -> bdP x) -> 0 <= sumC l /\ sumC l <= 8388608 * l.length
 | [],_=>by simp [sumC]
 | x :: r,h=>by
  have h1:=z7n (l:=r) (fun y hy=>h y (by simp [hy]))
  obtain ⟨⟨a1,a2⟩,_,⟨b1,b2⟩,_⟩:=h x (by simp)
  have:=z6r b1 b2 a1 a2
  simp only [sumC,List.length_cons]; omega
theorem z7m : ∀ {l : List (Int × Choice)},(∀ x,x ∈ l -> bdP x) -> 0 <= sumG l /\ sumG l <= 8388608 * l.length
 | [],_=>by simp [sumG]
 | x :: r,h=>by
  have h1:=z7m (l:=r) (fun y hy=>h y (by simp [hy]))
  obtain ⟨⟨a1,a2⟩,_,_,⟨b1,b2⟩⟩:=h x (by simp)
  have:=z6r b1 b2 a1 a2
  simp only [sumG,List.length_cons]; omega

def boundL (p : Prob) (b : List Int) : List Int:=[ov p b,maxD 0 (picks p.vars b),sumC (picks p.vars b),sumG (picks p.vars b)]

end Dv

namespace Dv
attribute [local simp] List.replicate depth dCell dUse dInts dChoice dVar dProb tStart addO Ret
attribute [local congr] z1h z1l z12 zr zn z14 zm


def gdD (t : D) (b : Bool) : Bool:=match t with
 | .bool c=>c == b
 | _=>false
theorem z71 {c b : Bool} : gdD (.bool c) b = (c == b):=rfl
theorem z1j {E : Env} {cP : Nat -> List D -> Option D} {cS cY : Nat -> List D -> List Obj -> Option (D × List Obj)} {base : Nat} {env : List D} {hp : List Obj} {x : Xp} {b : Bool} {dst : Option Nat} {op : DOp} {ks : Xs} {k : Option Nat} {r : List TS} :
  rTS E cP cS cY base (.eff (some (x,b)) dst op ks k :: r) env hp = ob (xv E cP env hp x) fun t=>if gdD t b = true then rTS E cP cS cY base (.eff none dst op ks k :: r) env hp else rTS E cP cS cY base r (putE env dst .undef) hp:=by
 simp only [rTS,gdT]
 cases xv E cP env hp x with
 | none=>rfl
 | some d=>
  cases d with
  | bool c=>cases c <;> cases b <;> rfl
  | _=>rfl

def Whole (p : Prob) (b : List Int) : Prop:=OkP p /\ OkB p b /\ b.length = p.vars.length
open Classical in
noncomputable def wk (p : Prob) (b : List Int) : Int:=if Whole p b then 0 else 270
theorem zol {p : Prob} {b : List Int} (h : Whole p b) : wk p b = 0:=by simp [wk,h]
theorem zj0 {p : Prob} {b : List Int} (h : ¬ Whole p b) : wk p b = 270:=by simp [wk,h]

theorem r83 (p : Prob) (b : List Int) (S : Small p) (hb : b.length <= 20) : runP E (dL E) 83 [dProb p,dInts b] = some (dI (wk p b)):=by
 refine zb c83 (by simp) ?_
 have h66:=r66 p b S hb
 simp only [dProb,dInts] at h66
 simp [t83,n83,h66]
 by_cases h0 : bk p b 270 = 0
 rotate_left
 ·have e : wk p b = 270:=zj0 fun h=>h0 (zcv h.1 h.2.1)
  simp [zlp h0,e]
 obtain ⟨ok,okb⟩:=zih h0 (by decide)
 by_cases h1 : b.length = p.vars.length
 ·have e : wk p b = 0:=zol ⟨ok,okb,h1⟩
  have h1' : (b.length : Int) = p.vars.length:=by omega
  simp [h0,h1',e]
 ·have e : wk p b = 270:=zj0 fun h=>h1 h.2.2
  have h1' : ¬ (b.length : Int) = p.vars.length:=by omega
  simp [h0,h1',e]

theorem r84 (p : Prob) (b : List Int) : runP E (dL E) 84 [dProb p,dInts b] = some (.fn 110 [.iptr (dProb p).cellsL,.iptr [dInts b]]):=by
 refine zb c84 (by simp) ?_
 simp [t84,n84]

structure Over where
 leaf : Int
 cell : Int
 more : Int

def ovIR (leaf : Nat) : Nat -> List Int -> List Int -> List Over
 | k,d :: ds,c :: cs=>(if 0 < d - c then [⟨leaf,k,d - c⟩] else []) ++ ovIR leaf (k + 1) ds cs
 | _,_,_=>[]
def ovIL (p : Prob) (b : List Int) : Nat -> List (List Int) -> List Over
 | _,[]=>[]
 | k,c :: cs=>ovIR k 0 (dem p b k) c ++ ovIL p b (k + 1) cs
def ovI (p : Prob) (b : List Int) : List Over:=ovIL p b 0 p.capacity

abbrev dPlace (x : Over) : D:=.agg [dI x.leaf,dI x.cell]


theorem i110 (p : Prob) (b : List Int) (S : Small p) (hb : b.length <= 20) (ok : OkP p) (okb : OkB p b) (l : Nat) (J : List Over -> List Obj -> Prop) (Fin : List Obj -> Prop)
  (hext : ∀ rem hp r,J rem hp -> J rem (hp ++ r))
  (hy : ∀ x rem hp,J (x :: rem) hp -> ∃ t hp',runY (dL E) l [dPlace x,dI x.more] hp = some (.bool t,hp') /\ (t = true -> J rem hp') /\ (t = false -> Fin hp')) {hp : List Obj}
  (h0 : J (ovI p b) hp) :
  ∃ d hp',runS E (dL E) 110 [.yld l,.iptr (dProb p).cellsL,.iptr [dInts b]] hp = some (d,hp') /\ (J [] hp' \/ Fin hp'):=by
 refine z97 c110 (R:=fun _ hp'=>J [] hp' \/ Fin hp') (by simp) ?_
 have s1:=S.cells
 have s2:=S.cap
 have h68:=r68 p b S hb ok okb
 have hAl:=znq (p:=p) (b:=b)
 simp only [dProb,dInts] at h68
 simp [t110,n110,h68,hAl]
 refine zz p.capacity.length (fun i env hp=>∃ (x3 x4 x5 x6 x7 x11 x12 x13 x14 x15 x16 x17 : D) ,env = [.yld l,.iptr (dProb p).cellsL,.iptr [dInts b],x3,x4,x5,x6,x7,.imm .none ((demA p b).map dInts),dI p.capacity.length,dI i,x11,x12,x13,x14,x15,x16,x17] /\
  J (ovIL p b i (p.capacity.drop i)) hp) 0 (by omega) ⟨_,_,_,_,_,_,_,_,_,_,_,_,rfl,by simpa [ovI] using h0⟩ ?_
 rintro i env hp hi ⟨x3,x4,x5,x6,x7,x11,x12,x13,x14,x15,x16,x17,rfl,hJ⟩
 by_cases hlt : i < p.capacity.length
 rotate_left
 ·have : i = p.capacity.length:=by omega
  subst this
  simp only [List.drop_length,ovIL] at hJ
  simp [hJ]
 have hget:=zg5 ok (b:=b) hlt
 have hgi : ∀ h : i < (demA p b).length,(demA p b)[i]'h = dem p b i:=fun h=>by
  rw [List.getElem?_eq_getElem h] at hget
  exact Option.some.inj hget
 have hcap:=ok.cap _ (List.getElem_mem hlt)
 have hdl : (dem p b i).length = p.cells.length:=by simp [dem,z30]
 have hdb:=zg4 S ok (b:=b) (leaf:=i)
 obtain ⟨d,hd⟩ : ∃ d,d = dem p b i:=⟨_,rfl⟩
 obtain ⟨c,hc⟩ : ∃ c,c = p.capacity[i]:=⟨_,rfl⟩
 obtain ⟨rest,hre⟩ : ∃ rest,rest = ovIL p b (i + 1) (p.capacity.drop (i + 1)):=⟨_,rfl⟩
 rw [z9 hlt] at hJ
 simp only [ovIL,<- hd,<- hc,<- hre] at hJ
 rw [<- hc] at hcap
 rw [<- hd] at hdl hdb
 simp [hlt,hAl,hgi,<- hd]
 refine zz d.length (fun j env hp=>∃ (x4 x5 x6 x7 x11 x15 x16 x17 : D) ,env = [.yld l,.iptr (dProb p).cellsL,.iptr [dInts b],dI i,x4,x5,x6,x7,.imm .none ((demA p b).map dInts),dI p.capacity.length,dI i,x11,dInts d,dI d.length,dI j,x15,x16,x17] /\
  J (ovIR i j (d.drop j) (c.drop j) ++ rest) hp) 0 (by omega) ⟨_,_,_,_,_,_,_,_,rfl,by simpa using hJ⟩ ?_
 rintro j env hp hj ⟨x4,x5,x6,x7,x11,x15,x16,x17,rfl,hJ⟩
 by_cases hlt2 : j < d.length
 rotate_left
 ·have : j = d.length:=by omega
  subst this
  simp only [List.drop_length,ovIR,List.nil_append] at hJ
  rw [hre] at hJ
  simp [z6 hlt (by omega),hlt,hJ]
 have hjc : j < c.length:=by omega
 have hjc' : j < p.capacity[i].length:=by rw [<- hc]; exact hjc
 have e1 : p.capacity[i][j] = c[j]:=by simp only [hc]
 rw [z9 hlt2,z9 hjc] at hJ
 simp only [ovIR] at hJ
 have hd1:=hdb _ (List.getElem_mem hlt2)
 have hc1:=hcap.2 _ (List.getElem_mem hjc)
 unfold wi at hc1
 have w1:=z7 (n:=d[j] - c[j]) ⟨by omega,by omega⟩
 by_cases hg : 0 < d[j] - c[j]
 ·have hg' : c[j] < d[j]:=by omega
  rw [if_pos hg] at hJ
  change J ((⟨(i : Int),(j : Int),d[j] - c[j]⟩ : Over) :: (ovIR i (j + 1) (d.drop (j + 1)) (c.drop (j + 1)) ++ rest)) hp at hJ
  obtain ⟨t,hp2,hy1,hy2,hy3⟩:=hy _ _ _ hJ
  simp at hy1
  cases t with
  | true=>
   have hJ2:=hy2 rfl
   simp [hlt,hlt2,hjc',e1,w1,z1j,z71,hg',hy1,z6 hlt2 (by omega),hJ2]
  | false=>
   have hF:=hy3 rfl
   simp [hlt,hlt2,hjc',e1,w1,z1j,z71,hg',hy1,hF]
 ·have hg' : ¬ c[j] < d[j]:=by omega
  rw [if_neg hg] at hJ
  simp only [List.nil_append] at hJ
  simp [hlt,hlt2,hjc',e1,w1,z1j,z71,hg',z6 hlt2 (by omega),hJ]

def sumI : List Over -> Int
 | []=>0
 | x :: r=>x.more + sumI r
theorem z9x : ∀ {l r : List Over},sumI (l ++ r) = sumI l + sumI r
 | [],r=>by simp [sumI]
 | x :: l,r=>by simp only [List.cons_append,sumI,z9x]; omega
theorem zoq {leaf : Nat} : ∀ {k : Nat} {d c : List Int},sumI (ovIR leaf k d c) = ovR d c
 | _,[],_=>by simp [ovIR,ovR,sumI]
 | _,_ :: _,[]=>by simp [ovIR,ovR,sumI]
 | k,d :: ds,c :: cs=>by
  simp only [ovIR,ovR,z9x,zoq]
  by_cases h : 0 < d - c
  ·have : mx (d - c) 0 = d - c:=by unfold mx; rw [if_neg (by omega)]
   rw [if_pos h,this]; simp [sumI]
  ·have : mx (d - c) 0 = 0:=by unfold mx; split <;> omega
   rw [if_neg h,this]; simp [sumI]
theorem zor {p : Prob} {b : List Int} : ∀ {cs : List (List Int)} {k : Nat},sumI (ovIL p b k cs) = ovL p b k cs
 | [],_=>by simp [ovIL,ovL,sumI]
 | c :: cs,k=>by simp only [ovIL,ovL,z9x,zoq,zor]
theorem zpo {p : Prob} {b : List Int} : sumI (ovI p b) = ov p b:=zor

def okO (p : Prob) (x : Over) : Prop:=0 < x.more /\ (0 <= x.leaf /\ x.leaf <= 1000) /\ 0 <= x.cell /\ x.cell <= 1000
theorem zrs {p : Prob} {leaf : Nat} (hl : leaf <= 1000) : ∀ {k : Nat} {d c : List Int},k + d.length <= 1000 -> ∀ x,x ∈ ovIR leaf k d c -> okO p x
 | _,[],_,_,x,h=>by simp [ovIR] at h
 | _,_ :: _,[],_,x,h=>by simp [ovIR] at h
 | k,d :: ds,c :: cs,hk,x,h=>by
  simp only [List.length_cons] at hk
  simp only [ovIR,List.mem_append] at h
  rcases h with h | h
  ·by_cases hg : 0 < d - c
   ·rw [if_pos hg] at h
    simp only [List.mem_singleton] at h
    subst h
    exact ⟨hg,⟨by simp only; omega,by simp only; omega⟩,by simp only; omega,by simp only; omega⟩
   ·rw [if_neg hg] at h; cases h
  ·exact zrs hl (by omega) x h
theorem zrt {p : Prob} {b : List Int} (h1 : p.cells.length <= 12) : ∀ {cs : List (List Int)} {k : Nat},k + cs.length <= 1000 -> ∀ x,x ∈ ovIL p b k cs -> okO p x
 | [],_,_,x,h=>by simp [ovIL] at h
 | c :: cs,k,hk,x,h=>by
  simp only [List.length_cons] at hk
  simp only [ovIL,List.mem_append] at h
  rcases h with h | h
  ·exact zrs (by omega) (by have : (dem p b k).length = p.cells.length:=(by simp [dem,z30]); omega) x h
  ·exact zrt h1 (by omega) x h

theorem zet : ∀ {l : List Over},(∀ x,x ∈ l -> 0 < x.more) -> 0 <= sumI l
 | [],_=>by simp [sumI]
 | x :: l,h=>by
  have h1:=h x (by simp)
  have h2:=zet (l:=l) fun y hy=>h y (by simp [hy])
  simp only [sumI]; omega

open Classical in
noncomputable def resV (p : Prob) (b : List Int) : D:=if Whole p b then .tup [dInts (boundL p b),dI 0] else .tup [dInts [],dI 270]

theorem r22 (p : Prob) (b : List Int) (S : Small p) (hb : b.length <= 20) : runP E (dL E) 22 [dProb p,dInts b] = some (resV p b):=by
 refine zb c22 (by simp) ?_
 have h83:=r83 p b S hb
 have s1:=S.cells
 have s2:=S.cap
 have s3:=S.vars
 simp only [dProb,dInts] at h83
 simp [t22,n22,h83]
 by_cases h0 : Whole p b
 rotate_left
 ·simp [zj0 h0,resV,h0]
 simp only [resV,h0,if_true]
 simp [zol h0]
 obtain ⟨ok,okb,hbl⟩:=h0
 have h84:=r84 p b
 simp only [dProb,dInts] at h84
 simp [h84]
 have hov:=zrr S ok (b:=b)
 obtain ⟨V,hV⟩ : ∃ V,V = ov p b:=⟨_,rfl⟩
 rw [<- hV] at hov
 have hbd:=z7f (vs:=p.vars) (b:=b) (fun v hv=>⟨ok.vars v hv,S.leaves v hv⟩)
 have hpl:=z7y (vs:=p.vars) (b:=b)
 have hCb:=z7n hbd
 have hGb:=z7m hbd
 obtain ⟨M,hM⟩ : ∃ M,M = maxD 0 (picks p.vars b):=⟨_,rfl⟩
 obtain ⟨C,hC⟩ : ∃ C,C = sumC (picks p.vars b):=⟨_,rfl⟩
 obtain ⟨G,hG⟩ : ∃ G,G = sumG (picks p.vars b):=⟨_,rfl⟩
 rw [<- hC] at hCb
 rw [<- hG] at hGb
 have hfin : boundL p b = [V,M,C,G]:=by rw [hV,hM,hC,hG]; rfl
 rw [hfin]
 clear hfin
 refine ⟨110,_,rfl,?_⟩
 intro L hL hcb
 obtain ⟨J,hJ⟩ : ∃ J : List Over -> List Obj -> Prop,J = fun rem hp'=>∃ (s : Int) (h' : List Obj),hp' = .cells (dProb p).cellsL :: .cells [dI s,dI 0,dI 0,dI 0] :: h' /\
  At h' 0 (L false none) /\ 0 <= s /\ s + sumI rem = V /\ (∀ x,x ∈ rem -> okO p x):=⟨_,rfl⟩
 have key:=i110 p b S hb ok okb 2 J (fun _=>False) (by
   rw [hJ]
   rintro rem hp' r ⟨s,h',rfl,a1,a2⟩
   exact ⟨s,h' ++ r,rfl,a1.app,a2⟩) (by
   intro x rem hp1 hj
   rw [hJ] at hj
   obtain ⟨s,h',rfl,a1,a2,a3,a4⟩:=hj
   have hx:=(a4 x (by simp)).1
   have hr2:=zet (l:=rem) (fun y hy=>(a4 y (by simp [hy])).1)
   simp only [sumI] at a3
   have w1:=z7 (n:=s + x.more) ⟨by omega,by omega⟩
   have hl1:=a1.lt
   obtain ⟨t,hp2,e1,e2⟩:=hcb [dPlace x,dI x.more] (.cells (dProb p).cellsL :: .cells [dI s,dI 0,dI 0,dI 0] :: h') (fun t hp'=>t = true /\ J rem hp') rfl (by simpa [At] using a1) (by
    simp [setAll,w1]
    refine ⟨a1,At.self hl1,?_⟩
    rw [hJ]
    exact ⟨s + x.more,_,rfl,At.self hl1,by omega,by omega,fun y hy=>a4 y (by simp [hy])⟩)
   obtain ⟨rfl,e3⟩:=e2
   exact ⟨true,hp2,e1,fun _=>e3,fun h=>by cases h⟩) (hp:=.cells (dProb p).cellsL :: .cells [dI 0,dI 0,dI 0,dI 0] :: [L false none]) (by
   rw [hJ]
   exact ⟨0,_,rfl,rfl,by omega,by rw [zpo,hV]; omega,zrt s1 (by omega)⟩)
 obtain ⟨d,hp',h1,h2⟩:=key
 rcases h2 with h2 | h2
 rotate_left
 ·exact h2.elim
 rw [hJ] at h2
 obtain ⟨s,h',rfl,a1,a2,a3,a4⟩:=h2
 simp only [sumI,Int.add_zero] at a3
 subst a3
 refine ⟨d,_,h1,.inl ⟨a1,?_⟩⟩
 simp
 refine zz p.vars.length (fun i env hp=>∃ (x6 x7 x8 x9 x10 x11 x12 x13 x14 x18 x19 x20 x21 x22 x23 : D) (v1 v2 v3 : Int) (h : List Obj),env = [dProb p,dInts b,.loc 0 0,.imm .exact [],dI 0,.loc 1 0,x6,x7,x8,x9,x10,x11,x12,x13,x14,dInts b,dI b.length,dI i,x18,x19,x20,x21,x22,x23] /\
  hp = .cells (dProb p).cellsL :: .cells [dI s,dI v1,dI v2,dI v3] :: h /\ 0 <= v2 /\ 0 <= v3 /\ maxD v1 (picks (p.vars.drop i) (b.drop i)) = M /\ v2 + sumC (picks (p.vars.drop i) (b.drop i)) = C /\
  v3 + sumG (picks (p.vars.drop i) (b.drop i)) = G) 0 (by omega) ⟨_,_,_,_,_,_,_,_,_,_,_,_,_,_,_,0,0,0,_,rfl,rfl,by omega,by omega,by simp [hM],by simp [hC],by simp [hG]⟩ ?_
 rintro i env hp hi ⟨x6,x7,x8,x9,x10,x11,x12,x13,x14,x18,x19,x20,x21,x22,x23,v1,v2,v3,h,rfl,rfl,a2,a3,a4,a5,a6⟩
 by_cases hlt2 : i < p.vars.length
 ·have hib : i < b.length:=by omega
  have okv:=ok.vars _ (List.getElem_mem hlt2)
  have l1:=S.leaves _ (List.getElem_mem hlt2)
  have hr:=z7f (vs:=p.vars.drop (i + 1)) (b:=b.drop (i + 1)) (fun v hv=>⟨ok.vars v (List.mem_of_mem_drop hv),S.leaves v (List.mem_of_mem_drop hv)⟩)
  have hr2:=z7n hr
  have hr3:=z7m hr
  have hbp:=zlu okv (n:=b[i]?)
  rw [z9 hlt2] at a4 a5 a6
  simp only [picks,List.tail_drop,List.head?_drop,sumC,sumG] at a4 a5 a6
  obtain ⟨n,hn⟩ : ∃ n : Int,n = p.vars[i].leaves.length:=⟨_,rfl⟩
  rw [<- hn] at a4 a5 a6
  obtain ⟨⟨d1,d2⟩,⟨c1,c2⟩,⟨g1,g2⟩⟩:=hbp
  obtain ⟨c,hc⟩ : ∃ c,c = pick p.vars[i] b[i]?:=⟨_,rfl⟩
  rw [<- hc] at a4 a5 a6 d1 d2 c1 c2 g1 g2
  have m1:=z6r c1 c2 (n:=n) (by omega) (by omega)
  have m2:=z6r g1 g2 (n:=n) (by omega) (by omega)
  have w1:=z7 (n:=c.cost * n) ⟨by omega,by omega⟩
  have w2:=z7 (n:=v2 + c.cost * n) ⟨by omega,by omega⟩
  have w3:=z7 (n:=c.changes * n) ⟨by omega,by omega⟩
  have w4:=z7 (n:=v3 + c.changes * n) ⟨by omega,by omega⟩
  have hmx : maxD (mx v1 c.delay) (picks (p.vars.drop (i + 1)) (b.drop (i + 1))) = M:=a4
  have hw:=okb.each i hib hlt2
  obtain ⟨m,hm⟩ : ∃ m : Nat,b[i] = m:=⟨b[i].toNat,by unfold wi at hw; omega⟩
  have hm' : m < p.vars[i].choices.length:=by unfold wi at hw; omega
  rw [List.getElem?_eq_getElem hib,hm] at hc
  simp only [pick,Int.toNat_natCast,List.getD_eq_getElem?_getD,List.getElem?_eq_getElem hm',Option.getD_some] at hc
  simp [hlt2,hib,hm,hm',↓z1f,↓z5b,<- hc,<- hn,w1,w2,w3,w4,z6 hib (by omega),z8r,zaw,chk1,did,idsNe]
  exact ⟨_,_,_,⟨rfl,rfl,rfl⟩,by omega,by omega,hmx,by omega,by omega⟩
 ·have : i = p.vars.length:=by omega
  subst this
  simp only [List.drop_length,picks,maxD,List.foldl_nil,sumC,sumG,Int.add_zero] at a4 a5 a6
  subst a4 a5 a6
  simp [chunk,hbl,sliceD,bnd]

def cmpL : List Int -> List Int -> Int
 | [],[]=>0
 | [],_ :: _=>-1
 | _ :: _,[]=>1
 | x :: xs,y :: ys=>if cmpI x y = 0 then cmpL xs ys else cmpI x y

theorem z1t {a b : Int} : cmpI a b = 0 ↔ a = b:=by unfold cmpI; split <;> (try split) <;> omega
theorem z68 {a b : Int} : cmpI a b < 0 ↔ a < b:=by unfold cmpI; split <;> (try split) <;> omega
theorem znv {a b : Int} : cmpI a b = -1 \/ cmpI a b = 0 \/ cmpI a b = 1:=by unfold cmpI; split <;> (try split) <;> omega

theorem r87 (a b : List Int) (ha : a.length <= 1000000) (hb : b.length <= 1000000) : runP E (dL E) 87 [dInts a,dInts b] = some (dI (cmpL a b)):=by
 refine zb c87 (by simp) ?_
 generalize hB : cmpL a b = B
 simp [t87,n87]
 refine zz a.length (fun i env hp=>∃ (x3 x4 x5 x6 x10 x11 x12 x13 : D) ,env = [dInts a,dInts b,dI 0,x3,x4,x5,x6,dInts a,dI a.length,dI i,x10,x11,x12,x13] /\ i <= b.length /\ cmpL (a.drop i) (b.drop i) = B) 0 (by omega) ⟨_,_,_,_,_,_,_,_,rfl,by omega,by simpa using hB⟩ ?_
 rintro i env hp hi ⟨x3,x4,x5,x6,x10,x11,x12,x13,rfl,hib,hc⟩
 by_cases hlt : i < a.length
 ·rw [z9 hlt] at hc
  by_cases h2 : i < b.length
  ·rw [z9 h2] at hc
   simp only [cmpL] at hc
   by_cases h0 : cmpI a[i] b[i] = 0
   ·rw [if_pos h0] at hc
    have h2' : ¬ b.length <= i:=by omega
    simp [hlt,h2,h2',r74,h0,z6 hlt (by omega)]
    exact ⟨by omega,hc⟩
   ·rw [if_neg h0] at hc
    have h2' : ¬ b.length <= i:=by omega
    rw [hc] at h0
    simp [hlt,h2,h2',r74,h0,hc]
  ·have hbd : b.drop i = []:=List.drop_of_length_le (by omega)
   rw [hbd] at hc
   simp only [cmpL] at hc
   have h2' : b.length <= i:=by omega
   simp [hlt,h2',hc]
 ·have hi' : i = a.length:=by omega
  subst hi'
  rw [List.drop_length] at hc
  by_cases h2 : a.length < b.length
  ·rw [z9 h2] at hc
   simp only [cmpL] at hc
   simp [h2,hc]
  ·have hbd : b.drop a.length = []:=List.drop_of_length_le (by omega)
   rw [hbd] at hc
   simp only [cmpL] at hc
   simp [h2,hc]

def resC (a b : List Int) : D:=if a.length = b.length then .tup [dI (cmpL a b),dI 0] else .tup [dI 0,dI 60]

theorem r30 (a b : List Int) (ha : a.length <= 1000000) (hb : b.length <= 1000000) : runP E (dL E) 30 [dInts a,dInts b] = some (resC a b):=by
 refine zb c30 (by simp) ?_
 have h87:=r87 a b ha hb
 simp only [dInts] at h87
 by_cases h : a.length = b.length
 ·simp [t30,n30,h,h87,resC]
 ·have h' : ¬ (a.length : Int) = b.length:=by omega
  simp [t30,n30,h,h',resC]


theorem z5u : ∀ {a : List Int},cmpL a a = 0
 | []=>rfl
 | x :: a=>by simp only [cmpL,z1t.2 rfl,if_true,z5u]
theorem z2b : ∀ {a b : List Int},a.length = b.length -> (cmpL a b = 0 ↔ a = b)
 | [],[],_=>by simp [cmpL]
 | [],_ :: _,h=>by simp at h
 | _ :: _,[],h=>by simp at h
 | x :: a,y :: b,h=>by
  have ih:=z2b (a:=a) (b:=b) (by simpa using h)
  simp only [cmpL]
  by_cases e : cmpI x y = 0
  ·rw [if_pos e,ih,z1t.1 e]; simp
  ·rw [if_neg e]
   have : x ≠ y:=fun h=>e (z1t.2 h)
   simp [e,this]
theorem znu : ∀ {a b : List Int},cmpL a b = -1 \/ cmpL a b = 0 \/ cmpL a b = 1
 | [],[]=>by simp [cmpL]
 | [],_ :: _=>by simp [cmpL]
 | _ :: _,[]=>by simp [cmpL]
 | x :: a,y :: b=>by
  simp only [cmpL]
  by_cases e : cmpI x y = 0
  ·rw [if_pos e]; exact znu
  ·rw [if_neg e]; exact znv
theorem z1c : ∀ {a b : List Int},cmpL b a = - cmpL a b
 | [],[]=>by simp [cmpL]
 | [],_ :: _=>by simp [cmpL]
 | _ :: _,[]=>by simp [cmpL]
 | x :: a,y :: b=>by
  have ih:=z1c (a:=a) (b:=b)
  have e : cmpI y x = - cmpI x y:=by unfold cmpI; split <;> split <;> (try split) <;> omega
  simp only [cmpL]
  by_cases h : cmpI x y = 0
  ·rw [if_pos h,if_pos (by omega),ih]
  ·rw [if_neg h,if_neg (by omega),e]
theorem z3g : ∀ {a b c : List Int},cmpL a b < 0 -> cmpL b c < 0 -> cmpL a c < 0
 | [],[],_,h,_=>by simp [cmpL] at h
 | [],_ :: _,[],_,h=>by simp [cmpL] at h
 | [],_ :: _,_ :: _,_,_=>by simp [cmpL]
 | _ :: _,[],_,h,_=>by simp [cmpL] at h
 | _ :: _,_ :: _,[],_,h=>by simp [cmpL] at h
 | x :: a,y :: b,z :: c,h1,h2=>by
  simp only [cmpL] at h1 h2 ⊢
  by_cases e1 : cmpI x y = 0
  ·rw [if_pos e1] at h1
   rw [z1t.1 e1]
   by_cases e2 : cmpI y z = 0
   ·rw [if_pos e2] at h2 ⊢
    exact z3g h1 h2
   ·rw [if_neg e2] at h2 ⊢; exact h2
  ·rw [if_neg e1] at h1
   by_cases e2 : cmpI y z = 0
   ·rw [<- z1t.1 e2,if_neg e1]; exact h1
   ·rw [if_neg e2] at h2
    have h3:=z68.1 h1
    have h4:=z68.1 h2
    have h5 : x < z:=by omega
    rw [if_neg (fun h=>by have:=z1t.1 h; omega)]
    exact z68.2 h5
theorem z67 : ∀ {a b : List Int},a.length = b.length -> (∀ n,a.getD n 0 <= b.getD n 0) -> cmpL a b <= 0
 | [],[],_,_=>by simp [cmpL]
 | [],_ :: _,h,_=>by simp at h
 | _ :: _,[],h,_=>by simp at h
 | x :: a,y :: b,h,hn=>by
  have h0:=hn 0
  simp only [List.getD_cons_zero] at h0
  simp only [cmpL]
  by_cases e : cmpI x y = 0
  ·rw [if_pos e]
   exact z67 (by simpa using h) fun n=>by have:=hn (n + 1); simpa using this
  ·rw [if_neg e]
   have : x < y:=by
    have : x ≠ y:=fun h=>e (z1t.2 h)
    omega
   have:=z68.2 this
   omega

def betterI (p : Prob) (a b : List Int) : Int:=if cmpL (boundL p a) (boundL p b) = 0 then cmpL a b else cmpL (boundL p a) (boundL p b)

open Classical in
noncomputable def resBt (p : Prob) (a b : List Int) : D:=if Whole p a /\ Whole p b then .tup [.bool (decide (betterI p a b < 0)),dI 0] else .tup [.bool false,dI 270]

theorem wrapM1 : Go.IntKind.i64.wrap 1 = 1:=by decide
theorem wrapM2 : Go.IntKind.i64.wrap 2 = 2:=by decide

theorem r24 (p : Prob) (a b : List Int) (S : Small p) (ha : a.length <= 20) (hb : b.length <= 20) : runP E (dL E) 24 [dProb p,dInts a,dInts b] = some (resBt p a b):=by
 refine zb c24 (by simp) ?_
 have h1:=r22 p a S ha
 have h2:=r22 p b S hb
 by_cases wa : Whole p a
 rotate_left
 ·have : ¬ (Whole p a /\ Whole p b):=fun h=>wa h.1
  simp only [resV,if_neg wa] at h1
  simp only [dProb,dInts] at h1
  simp [t24,n24,h1,resBt,this]
 by_cases wb : Whole p b
 rotate_left
 ·have : ¬ (Whole p a /\ Whole p b):=fun h=>wb h.2
  simp only [resV,if_pos wa] at h1
  simp only [resV,if_neg wb] at h2
  simp only [dProb,dInts] at h1 h2
  simp [t24,n24,h1,h2,resBt,this]
 have hab : Whole p a /\ Whole p b:=⟨wa,wb⟩
 simp only [resV,if_pos wa] at h1
 simp only [resV,if_pos wb] at h2
 have hlen : a.length = b.length:=by rw [wa.2.2,wb.2.2]
 have h30:=r30 a b (by omega) (by omega)
 have h31:=r30 (boundL p a) (boundL p b) (by simp [boundL]) (by simp [boundL])
 unfold resC at h30 h31
 rw [if_pos hlen] at h30
 rw [if_pos (show (boundL p a).length = (boundL p b).length from rfl)] at h31
 have hr : resBt p a b = .tup [.bool (decide (betterI p a b < 0)),dI 0]:=by unfold resBt; rw [if_pos hab]
 rw [hr]
 unfold betterI
 obtain ⟨v,hv⟩ : ∃ v,v = boundL p a:=⟨_,rfl⟩
 obtain ⟨w,hw⟩ : ∃ w,w = boundL p b:=⟨_,rfl⟩
 rw [<- hv] at h1 h31 ⊢
 rw [<- hw] at h2 h31 ⊢
 obtain ⟨q,hq⟩ : ∃ q,q = cmpL v w:=⟨_,rfl⟩
 obtain ⟨s,hs⟩ : ∃ s,s = cmpL a b:=⟨_,rfl⟩
 rw [<- hq] at h31 ⊢
 rw [<- hs] at h30 ⊢
 simp only [dProb,dInts] at h1 h2 h30 h31
 simp [t24,n24,h1,h2]
 refine zz 2 (fun i env hp=>∃ (x6 x7 x8 x9 x10 x11 x12 x13 x14 x18 x19 x20 x21 : D) (h : List Obj),env = [dProb p,dInts a,dInts b,.loc 0 0,.bool false,dI 0,x6,x7,x8,x9,x10,x11,x12,x13,x14,.imm .exact [.agg [dInts v,dInts w],.agg [dInts a,dInts b]],dI 2,dI i,x18,x19,x20,x21] /\
  hp = .cells (dProb p).cellsL :: h /\ (0 < i -> q = 0) /\ (1 < i -> s = 0)) 0 (by omega) ⟨_,_,_,_,_,_,_,_,_,_,_,_,_,_,rfl,rfl,by omega,by omega⟩ ?_
 rintro i env hp hi ⟨x6,x7,x8,x9,x10,x11,x12,x13,x14,x18,x19,x20,x21,h,rfl,rfl,f1,f2⟩
 by_cases h4 : i < 2
 ·obtain rfl | rfl : i = 0 \/ i = 1:=by omega
  ·by_cases hq0 : q = 0
   ·simp [h31,hq0,wrapM1]
   ·simp [h31,hq0]
  ·have hq0:=f1 (by omega)
   by_cases hs0 : s = 0
   ·simp [h30,hs0,hq0,wrapM2]
   ·simp [h30,hs0,hq0]
 ·have : i = 2:=by omega
  subst this
  have hq0:=f1 (by omega)
  have hs0:=f2 (by omega)
  simp [hq0,hs0]

theorem At.get0 {hp : List Obj} {o : Obj} (a : At hp 0 o) (h : 0 < hp.length) : hp[0]'h = o:=by
 have:=a.eq
 rw [List.getElem?_eq_getElem h] at this
 exact Option.some.inj this

end Dv

namespace Dv

theorem zj2 {x : D} {c : Nat} (h : Typed E c x) (hk : (E.ty c).k = .slice 2) : ∃ l,x = dInts l /\ okInts l:=by
 have ha : (E.ty c).ag = false:=by unfold TI.ag; rw [hk]
 obtain ⟨l,h3,ho⟩:=z41 (z28 h ha) hk
 simp only [List.cons.injEq,and_true] at h3
 exact ⟨l,h3,ho⟩
end Dv

namespace Dv
attribute [local simp] List.replicate depth dCell dUse dInts dChoice dVar dProb tStart addO Ret
attribute [local congr] z1h z1l z12 zr zn z14 zm


theorem r20 (a b : List Int) (hl : a.length <= 1000000) : runP E (dL E) 20 [dInts a,dInts b] = some (.bool (decide (a = b))):=by
 refine zb c20 (by simp) ?_
 generalize hB : decide (a = b) = B
 have hBf : a ≠ b -> B = false:=by intro h; rw [<- hB]; simp [h]
 have hBt : a = b -> B = true:=by intro h; rw [<- hB]; simp [h]
 simp [t20,n20]
 by_cases h : a.length = b.length
 rotate_left
 ·have hi : ¬ (a.length : Int) = b.length:=by omega
  simp [h,hi,hBf (fun e=>h (by rw [e]))]
 simp [h]
 obtain ⟨P,hP⟩ : ∃ P : Nat -> Prop,P = fun i=>∀ (h : i < a.length) (h' : i < b.length),a[i] = b[i]:=⟨_,rfl⟩
 refine zw a.length P
  (fun i env hp=>∃ (x4 x5 x6 : D) ,env = [dInts a,dInts b,.bool false,dI i,x4,x5,x6])
  ⟨_,_,_,rfl⟩ ?_ ?_
 ·rintro i env hp hi ⟨x4,x5,x6,rfl⟩ hall
  have hi' : i < b.length:=by omega
  by_cases k1 : a[i] = b[i]
  ·have hPi : P i:=by rw [hP]; exact fun _ _=>k1
   simp [hi,hi',k1,z6 hi (by omega),hPi]
  ·have hB':=hBf (fun e=>k1 (by subst e; rfl))
   simp [hi,hi',k1,hB']
 ·rintro env hp ⟨x4,x5,x6,rfl⟩ hall
  rw [hP] at hall
  have hab : a = b:=List.ext_getElem h fun i h1 h2=>hall i h1 h1 h2
  simp [hBt hab]

theorem z33 {p : Prob} {a b : List Int} : betterI p b a = - betterI p a b:=by
 unfold betterI
 rw [z1c (a:=boundL p a) (b:=boundL p b),z1c (a:=a) (b:=b)]
 by_cases h : cmpL (boundL p a) (boundL p b) = 0
 ·rw [if_pos h,if_pos (by omega)]
 ·rw [if_neg h,if_neg (by omega)]

theorem z32 {p : Prob} {a b : List Int} (h : a.length = b.length) : betterI p a b = 0 ↔ a = b:=by
 unfold betterI
 constructor
 ·intro h1
  by_cases h2 : cmpL (boundL p a) (boundL p b) = 0
  ·rw [if_pos h2] at h1
   exact (z2b h).1 h1
  ·rw [if_neg h2] at h1
   exact absurd h1 h2
 ·rintro rfl
  rw [if_pos z5u,z5u]

theorem zcw {p : Prob} {a b c : List Int} (h1 : betterI p a b < 0) (h2 : betterI p b c < 0) : betterI p a c < 0:=by
 unfold betterI at *
 by_cases e1 : cmpL (boundL p a) (boundL p b) = 0
 ·rw [if_pos e1] at h1
  have e:=(z2b (a:=boundL p a) (b:=boundL p b) rfl).1 e1
  rw [e]
  by_cases e2 : cmpL (boundL p b) (boundL p c) = 0
  ·rw [if_pos e2] at h2 ⊢
   exact z3g h1 h2
  ·rw [if_neg e2] at h2 ⊢; exact h2
 ·rw [if_neg e1] at h1
  by_cases e2 : cmpL (boundL p b) (boundL p c) = 0
  ·have e:=(z2b (a:=boundL p b) (b:=boundL p c) rfl).1 e2
   rw [<- e,if_neg e1]; exact h1
  ·rw [if_neg e2] at h2
   have:=z3g h1 h2
   rw [if_neg (by omega)]; exact this

end Dv

namespace Dv

theorem z7k {leaf i : Int} : ∀ {vs : List Var} {b : List Int} (h : b.length < vs.length),usesIn vs (b ++ [i]) leaf = usesIn vs b leaf ++ (if vs[b.length].leaves.contains leaf then usesAt vs[b.length] i else [])
 | v :: vs,[],_=>by
  cases vs <;> simp [usesIn]
 | v :: vs,n :: ns,h=>by
  have h' : ns.length < vs.length:=by simpa using h
  simp only [List.cons_append,usesIn,z7k h',List.append_assoc,List.length_cons,List.getElem_cons_succ]

theorem zfs {p : Prob} : ∀ {l : List Use} {r : List Int} {k : Int},(∀ u,u ∈ l -> 0 <= u.places /\ u.places <= 8) -> 0 <= k -> (∀ x,x ∈ r -> 0 <= x /\ x <= k) -> k + 8 * l.length <= 1000000 ->
  ∀ n,r.getD n 0 <= (l.foldl (addU p) r).getD n 0
 | [],r,k,_,_,hr,_,n=>by simp
 | u :: l,r,k,hu,hk,hr,hb,n=>by
  simp only [List.length_cons] at hb ⊢
  rw [List.foldl_cons]
  have hu1:=hu u (by simp)
  have h1 : 0 <= r.getD (atS u.cell p.cells 0).toNat 0 /\ r.getD (atS u.cell p.cells 0).toNat 0 <= k:=by
   rcases zam (r:=r) (a:=(atS u.cell p.cells 0).toNat) with h | h
   ·exact hr _ h
   ·rw [h]; omega
  have:=zfs (p:=p) (l:=l) (r:=addU p r u) (k:=k + 8) (fun v hv=>hu v (by simp [hv])) (by omega) (fun y hy=>by
   unfold addU at hy
   rcases List.mem_or_eq_of_mem_set hy with h | h
   ·have:=hr y h; omega
   ·rw [h,zix ⟨by omega,by omega⟩]; omega) (by omega) n
  refine Int.le_trans ?_ this
  unfold addU
  rw [zix ⟨by omega,by omega⟩]
  by_cases e : (atS u.cell p.cells 0).toNat = n
  ·subst e
   by_cases hn : (atS u.cell p.cells 0).toNat < r.length
   ·rw [List.getD_eq_getElem?_getD,List.getD_eq_getElem?_getD,List.getElem?_set_self hn,Option.getD_some,List.getElem?_eq_getElem hn,Option.getD_some]; omega
   ·rw [List.set_eq_of_length_le (by omega)]
    exact Int.le_refl _
  ·rw [List.getD_eq_getElem?_getD (l:=List.set _ _ _),List.getElem?_set_ne e,<- List.getD_eq_getElem?_getD]
   exact Int.le_refl _

theorem zsm {p : Prob} (S : Small p) (ok : OkP p) {b : List Int} {i leaf : Int} (h : b.length < p.vars.length) (n : Nat) : (dem p b leaf).getD n 0 <= (dem p (b ++ [i]) leaf).getD n 0:=by
 have e : dem p (b ++ [i]) leaf = (if p.vars[b.length].leaves.contains leaf then usesAt p.vars[b.length] i else []).foldl (addU p) (dem p b leaf):=by
  unfold dem
  rw [z7k h,List.foldl_append]
 rw [e]
 have okv:=ok.vars _ (List.getElem_mem h)
 have hl:=z90 (v:=p.vars[b.length]) (n:=i) (S.uses _ (List.getElem_mem h))
 by_cases hc : p.vars[b.length].leaves.contains leaf = true
 ·rw [if_pos hc]
  exact zfs (k:=576) (fun u hu=>(zb4 okv u hu).places |> fun h=>by unfold wi at h; omega) (by omega) (zg4 S ok) (by omega) n
 ·rw [if_neg hc]
  exact Int.le_refl _

theorem zq1 {a b : Int} (h : a <= b) : mx a 0 <= mx b 0:=by unfold mx; split <;> split <;> omega

theorem zf8 : ∀ {d d' c : List Int},d.length = d'.length -> (∀ n,d.getD n 0 <= d'.getD n 0) -> ovR d c <= ovR d' c
 | [],[],_,_,_=>by simp [ovR]
 | [],_ :: _,_,h,_=>by simp at h
 | _ :: _,[],_,h,_=>by simp at h
 | d :: ds,d' :: ds',[],_,_=>by simp [ovR]
 | d :: ds,d' :: ds',c :: cs,h,hn=>by
  have h1:=zf8 (d:=ds) (d':=ds') (c:=cs) (by simpa using h) (fun n=>by have:=hn (n + 1); simpa using this)
  have h2:=hn 0
  simp only [List.getD_cons_zero] at h2
  have h3:=zq1 (a:=d - c) (b:=d' - c) (by omega)
  simp only [ovR]; omega

theorem zfa {p : Prob} {b b' : List Int} (h : ∀ (leaf : Int) n,(dem p b leaf).getD n 0 <= (dem p b' leaf).getD n 0) : ∀ {cs : List (List Int)} {k : Nat},ovL p b k cs <= ovL p b' k cs
 | [],_=>by simp [ovL]
 | c :: cs,k=>by
  have h1:=zfa h (cs:=cs) (k:=k + 1)
  have h2:=zf8 (d:=dem p b k) (d':=dem p b' k) (c:=c) (by simp [dem,z30]) (h k)
  simp only [ovL]; omega

theorem zmq {p : Prob} (S : Small p) (ok : OkP p) {b : List Int} {i : Int} (h : b.length < p.vars.length) : ov p b <= ov p (b ++ [i]):=
 zfa fun leaf n=>zsm S ok h n

theorem z9a : ∀ {vs : List Var} {b : List Int} (h : b.length < vs.length),∃ pre post,picks vs b = pre ++ ((vs[b.length].leaves.length : Int),pick vs[b.length] none) :: post /\
  ∀ i,picks vs (b ++ [i]) = pre ++ ((vs[b.length].leaves.length : Int),pick vs[b.length] (some i)) :: post
 | v :: vs,[],_=>⟨[],picks vs [],rfl,fun _=>rfl⟩
 | v :: vs,n :: ns,h=>by
  have h' : ns.length < vs.length:=by simpa using h
  obtain ⟨pre,post,h1,h2⟩:=z9a h'
  refine ⟨((v.leaves.length : Int),pick v (some n)) :: pre,post,?_,fun i=>?_⟩
  ·simp only [picks,List.head?_cons,List.tail_cons,h1,List.length_cons,List.getElem_cons_succ,List.cons_append]
  ·simp only [List.cons_append,picks,List.head?_cons,List.tail_cons,h2 i,List.length_cons,List.getElem_cons_succ]

theorem z9z : ∀ {l r : List (Int × Choice)},sumC (l ++ r) = sumC l + sumC r
 | [],r=>by simp [sumC]
 | x :: l,r=>by simp only [List.cons_append,sumC,z9z]; omega
theorem z9y : ∀ {l r : List (Int × Choice)},sumG (l ++ r) = sumG l + sumG r
 | [],r=>by simp [sumG]
 | x :: l,r=>by simp only [List.cons_append,sumG,z9y]; omega
theorem zfd {a : Int} {l r : List (Int × Choice)} : maxD a (l ++ r) = maxD (maxD a l) r:=by simp [maxD]
theorem z3f {a : Int} {x : Int × Choice} {r : List (Int × Choice)} : maxD a (x :: r) = maxD (mx a x.2.delay) r:=rfl
theorem zc1 : ∀ {l : List (Int × Choice)} {a b : Int},a <= b -> maxD a l <= maxD b l
 | [],_,_,h=>h
 | x :: l,a,b,h=>by
  rw [z3f,z3f]
  exact zc1 (by unfold mx; split <;> split <;> omega)

theorem zfr (f : Choice -> Int) (hf : ∀ a c,f (minC a c) = mn (f a) (f c)) : ∀ (l : List Choice) (a : Choice),f (l.foldl minC a) <= f a /\ (∀ c,c ∈ l -> f (l.foldl minC a) <= f c) /\ (f (l.foldl minC a) = f a \/ ∃ c,c ∈ l /\ f (l.foldl minC a) = f c)
 | [],a=>⟨Int.le_refl _,fun c h=>by simp at h,.inl rfl⟩
 | x :: l,a=>by
  obtain ⟨h1,h2,h3⟩:=zfr f hf l (minC a x)
  rw [List.foldl_cons]
  have h4:=hf a x
  have h5 : mn (f a) (f x) <= f a /\ mn (f a) (f x) <= f x /\ (mn (f a) (f x) = f a \/ mn (f a) (f x) = f x):=by unfold mn; split <;> omega
  refine ⟨by omega,fun c hc=>?_,?_⟩
  ·rcases List.mem_cons.1 hc with rfl | hc
   ·omega
   ·exact h2 c hc
  ·rcases h3 with h3 | ⟨c,hc,h3⟩
   ·rcases h5.2.2 with h6 | h6
    ·exact .inl (by omega)
    ·exact .inr ⟨x,by simp,by omega⟩
   ·exact .inr ⟨c,by simp [hc],h3⟩

theorem za7 (f : Choice -> Int) (hf : ∀ a c,f (minC a c) = mn (f a) (f c)) {v : Var} (h1 : 1 <= v.choices.length) :
  (∀ i : Nat,i < v.choices.length -> f (pick v none) <= f (pick v (some i))) /\ ∃ i : Nat,i < v.choices.length /\ f (pick v none) = f (pick v (some i)):=by
 have h0 : 0 < v.choices.length:=by omega
 have e0 : v.choices.getD 0 ⟨0,0,0,[]⟩ = v.choices[0]:=by simp [List.getD_eq_getElem?_getD,List.getElem?_eq_getElem h0]
 have es : ∀ (i : Nat) (hi : i < v.choices.length),pick v (some i) = v.choices[i]:=fun i hi=>by simp [pick,List.getD_eq_getElem?_getD,List.getElem?_eq_getElem hi]
 have en : pick v none = (v.choices.drop 1).foldl minC v.choices[0]:=by simp only [pick,e0]
 obtain ⟨g1,g2,g3⟩:=zfr f hf (v.choices.drop 1) v.choices[0]
 rw [en]
 refine ⟨fun i hi=>?_,?_⟩
 ·rw [es i hi]
  cases i with
  | zero=>exact g1
  | succ i=>
   refine g2 _ ?_
   rw [List.mem_iff_getElem]
   exact ⟨i,by simp; omega,by simp [Nat.add_comm]⟩
 ·rcases g3 with g3 | ⟨c,hc,g3⟩
  ·exact ⟨0,h0,by rw [es 0 h0]; exact g3⟩
  ·obtain ⟨i,hi,e⟩:=List.mem_iff_getElem.1 hc
   simp only [List.length_drop] at hi
   refine ⟨i + 1,by omega,?_⟩
   rw [es (i + 1) (by omega),g3,<- e]
   simp [Nat.add_comm]

theorem zeh {p : Prob} (S : Small p) (ok : OkP p) {b : List Int} (h : b.length < p.vars.length) :
  (∀ i : Nat,i < p.vars[b.length].choices.length -> ∀ k,(boundL p b).getD k 0 <= (boundL p (b ++ [(i : Int)])).getD k 0) /\
  ∀ k,1 <= k -> ∃ i : Nat,i < p.vars[b.length].choices.length /\ (boundL p (b ++ [(i : Int)])).getD k 0 = (boundL p b).getD k 0:=by
 have okv:=ok.vars _ (List.getElem_mem h)
 have hone:=okv.one
 obtain ⟨pre,post,e1,e2⟩:=z9a h
 obtain ⟨a1,a2⟩:=za7 (·.delay) (fun _ _=>rfl) hone
 obtain ⟨b1,b2⟩:=za7 (·.cost) (fun _ _=>rfl) hone
 obtain ⟨c1,c2⟩:=za7 (·.changes) (fun _ _=>rfl) hone
 obtain ⟨v,hv⟩ : ∃ v,v = p.vars[b.length]:=⟨_,rfl⟩
 rw [<- hv] at e1 e2 a1 a2 b1 b2 c1 c2 ⊢
 have hn : (0 : Int) <= v.leaves.length:=by omega
 constructor
 ·intro i hi k
  unfold boundL
  rw [e1,e2]
  match k with
  | 0=>exact zmq S ok h
  | 1=>
   simp only [List.getD_cons_succ,List.getD_cons_zero,zfd,z3f]
   refine zc1 ?_
   have:=a1 i hi
   unfold mx; split <;> split <;> omega
  | 2=>
   simp only [List.getD_cons_succ,List.getD_cons_zero,z9z,sumC]
   have:=Int.mul_le_mul_of_nonneg_right (b1 i hi) hn
   omega
  | 3=>
   simp only [List.getD_cons_succ,List.getD_cons_zero,z9y,sumG]
   have:=Int.mul_le_mul_of_nonneg_right (c1 i hi) hn
   omega
  | k + 4=>simp
 ·intro k hk
  match k,hk with
  | 1,_=>
   obtain ⟨i,hi,e⟩:=a2
   refine ⟨i,hi,?_⟩
   unfold boundL
   rw [e1,e2]
   simp only [List.getD_cons_succ,List.getD_cons_zero,zfd,z3f,e]
  | 2,_=>
   obtain ⟨i,hi,e⟩:=b2
   refine ⟨i,hi,?_⟩
   unfold boundL
   rw [e1,e2]
   simp only [List.getD_cons_succ,List.getD_cons_zero,z9z,sumC,e]
  | 3,_=>
   obtain ⟨i,hi,e⟩:=c2
   refine ⟨i,hi,?_⟩
   unfold boundL
   rw [e1,e2]
   simp only [List.getD_cons_succ,List.getD_cons_zero,z9y,sumG,e]
  | k + 4,_=>exact ⟨0,by omega,by simp [boundL]⟩

theorem zmr {p : Prob} {b : List Int} (okb : OkB p b) (h : b.length < p.vars.length) {i : Nat} (hi : i < p.vars[b.length].choices.length) : OkB p (b ++ [(i : Int)]):=by
 refine ⟨by simp; omega,fun j hj hj'=>?_⟩
 by_cases e : j < b.length
 ·rw [List.getElem_append_left e]
  exact okb.each j e hj'
 ·have : j = b.length:=by simp at hj; omega
  subst this
  unfold wi
  simp; omega

end Dv

namespace Dv
attribute [local simp] List.replicate depth dCell dUse dInts dChoice dVar dProb tStart addO Ret
attribute [local congr] z1h z1l z12 zr zn z14 zm


theorem r62 (p : Prob) (b : List Int) (S : Small p) (hb : b.length <= 20) : runP E (dL E) 62 [dProb p,dInts b] = some (dI (bk p b 280)):=by
 refine zb c62 (by simp) ?_
 generalize hB : bk p b 280 = B
 have hB0 : ¬ OkP p -> B = 270:=by intro h; rw [<- hB]; simp [bk,h]
 have hBf : OkP p -> ¬ OkB p b -> B = 280:=by intro h h'; rw [<- hB]; simp [bk,h,h']
 have hBt : OkP p -> OkB p b -> B = 0:=by intro h h'; rw [<- hB]; simp [bk,h,h']
 have s3:=S.vars
 have h15:=r15 p S
 simp only [dProb] at h15
 simp [t62,n62,h15]
 by_cases h0 : OkP p
 rotate_left
 ·have e : ck p = 270:=by simp [ck,h0]
  simp [e,hB0 h0]
 have e : ck p = 0:=by simp [ck,h0]
 simp [e]
 by_cases h1 : p.vars.length < b.length
 ·simp [h1,hBf h0 (fun ok=>by have:=ok.len; omega)]
 have h1' : ¬ p.vars.length < b.length:=h1
 simp [h1']
 obtain ⟨P,hP⟩ : ∃ P : Nat -> Prop,P = fun i=>∀ (h : i < b.length) (h' : i < p.vars.length),wi b[i] 0 (p.vars[i].choices.length - 1):=⟨_,rfl⟩
 refine zw b.length P
  (fun i env hp=>∃ (x4 x5 x6 x7 x11 x12 : D) (h : List Obj),env = [dProb p,dInts b,.loc 0 0,dI 0,x4,x5,x6,x7,dInts b,dI b.length,dI i,x11,x12] /\ hp = .cells (dProb p).cellsL :: h)
  ⟨_,_,_,_,_,_,_,rfl,rfl⟩ ?_ ?_
 ·rintro i env hp hi ⟨x4,x5,x6,x7,x11,x12,h,rfl,rfl⟩ hall
  have hi' : i < p.vars.length:=by omega
  have l2:=S.choices _ (List.getElem_mem hi')
  have hcw:=z7 (n:=(p.vars[i].choices.length : Int) - 1) ⟨by omega,by omega⟩
  by_cases k1 : wi b[i] 0 (p.vars[i].choices.length - 1)
  ·obtain ⟨a1,a2,a3,a4⟩:=z6e k1
   have hPi : P i:=by rw [hP]; exact fun _ _=>k1
   have a5 : ¬ (p.vars[i].choices.length : Int) <= b[i]:=by omega
   simp [hi,hi',a1,a3,a5,z6 hi (by omega),hPi]
  ·have hB':=hBf h0 (fun ok=>k1 (ok.each i hi hi'))
   rcases z6f k1 with ⟨q1,q2⟩ | ⟨q1,q2,q3,q4⟩
   ·simp [hi,hi',q1,q2,hB']
   ·have a5 : (p.vars[i].choices.length : Int) <= b[i]:=by omega
    simp [hi,hi',q3,q4,a5,hB']
 ·rintro env hp ⟨x4,x5,x6,x7,x11,x12,h,rfl,rfl⟩ hall
  rw [hP] at hall
  simp [hBt h0 ⟨by omega,fun i hi hi'=>hall i hi hi hi'⟩]

open Classical in
noncomputable def resB (p : Prob) (b : List Int) : D:=if bk p b 280 = 0 then .tup [dInts (boundL p b),dI 0] else .tup [dInts [],dI (bk p b 280)]

theorem r3 (p : Prob) (b : List Int) (S : Small p) (hb : b.length <= 20) : runP E (dL E) 3 [dProb p,dInts b] = some (resB p b):=by
 refine zb c3 (by simp) ?_
 have h62:=r62 p b S hb
 have s1:=S.cells
 have s2:=S.cap
 have s3:=S.vars
 simp only [dProb,dInts] at h62
 simp [t3,n3,h62]
 by_cases h0 : bk p b 280 = 0
 rotate_left
 ·simp [h0,resB]
 obtain ⟨ok,okb⟩:=zih h0 (by decide)
 have hb0:=zcv (e:=270) ok okb
 simp only [resB,h0,if_true]
 simp [h0,maxBytes]
 have hov:=zrr S ok (b:=b)
 obtain ⟨V,hV⟩ : ∃ V,V = ov p b:=⟨_,rfl⟩
 rw [<- hV] at hov
 refine zz p.capacity.length (fun i env hp=>∃ (x5 x6 x7 x8 x9 x10 x11 x12 x13 x17 x18 x19 x20 x21 x22 x23 x24 x25 x26 : D) (v : Int) (h : List Obj),env = [dProb p,dInts b,.loc 0 0,.loc 1 0,dI 0,x5,x6,x7,x8,x9,x10,x11,x12,x13,.imm .none (p.capacity.map dInts),dI p.capacity.length,dI i,x17,x18,x19,x20,x21,x22,x23,x24,x25,x26] /\
  hp = .cells (dProb p).cellsL :: .cells [.sl 2 0 4 1 false true] :: .cells [dI v,dI 0,dI 0,dI 0] :: h /\ 0 <= v /\ v + ovL p b i (p.capacity.drop i) = V) 0 (by omega) ⟨_,_,_,_,_,_,_,_,_,_,_,_,_,_,_,_,_,_,_,0,_,rfl,rfl,by omega,by simp [hV,ov]⟩ ?_
 rintro i env hp hi ⟨x5,x6,x7,x8,x9,x10,x11,x12,x13,x17,x18,x19,x20,x21,x22,x23,x24,x25,x26,v,h,rfl,rfl,hv0,hv⟩
 by_cases hlt : i < p.capacity.length
 ·rw [z9 hlt] at hv
  simp only [ovL] at hv
  have hrest:=za8 (p:=p) (b:=b) (cs:=p.capacity.drop (i + 1)) (k:=i + 1)
  have hcap:=ok.cap _ (List.getElem_mem hlt)
  have h14:=r14 p b i S hb
  have hQ : resQ p b i = .tup [.imm .none ((dem p b i).map dI),dI 0]:=by
   have : (0 : Int) <= i /\ (i : Int) <= p.capacity.length - 1:=by omega
   unfold resQ
   rw [if_pos hb0,if_pos this]
  rw [hQ] at h14
  simp only [dProb,dInts] at h14
  have hdl : (dem p b i).length = p.cells.length:=by simp [dem,z30]
  have hdb:=zg4 S ok (b:=b) (leaf:=i)
  obtain ⟨d,hd⟩ : ∃ d,d = dem p b i:=⟨_,rfl⟩
  rw [<- hd] at h14 hdl hdb hv
  obtain ⟨c,hc⟩ : ∃ c,c = p.capacity[i]:=⟨_,rfl⟩
  rw [<- hc] at hcap hv
  simp [hlt,h14]
  simp only [<- hc]
  obtain ⟨rest,hre⟩ : ∃ rest,rest = ovL p b (i + 1) (p.capacity.drop (i + 1)):=⟨_,rfl⟩
  rw [<- hre] at hv hrest
  refine zz d.length (fun j env hp=>∃ (x7 x8 x9 x10 x11 x12 x13 x17 x18 x19 x23 x24 x25 x26 : D) (v : Int) (h : List Obj),env = [dProb p,dInts b,.loc 0 0,.loc 1 0,dI 0,dI i,dInts c,x7,x8,x9,x10,x11,x12,x13,.imm .none (p.capacity.map dInts),dI p.capacity.length,dI i,x17,x18,x19,dInts d,dI d.length,dI j,x23,x24,x25,x26] /\
   hp = .cells (dProb p).cellsL :: .cells [.sl 2 0 4 1 false true] :: .cells [dI v,dI 0,dI 0,dI 0] :: h /\ 0 <= v /\ v + (ovR (d.drop j) (c.drop j) + rest) = V) 0 (by omega) ⟨_,_,_,_,_,_,_,_,_,_,_,_,_,_,v,_,rfl,rfl,hv0,by simpa using hv⟩ ?_
  rintro j env hp hj ⟨x7,x8,x9,x10,x11,x12,x13,x17,x18,x19,x23,x24,x25,x26,v,h,rfl,rfl,hv0,hv⟩
  by_cases hlt2 : j < d.length
  ·have hjc : j < c.length:=by omega
   rw [z9 hlt2,z9 hjc] at hv
   simp only [ovR] at hv
   have hrp:=z7z (d:=d.drop (j + 1)) (c:=c.drop (j + 1))
   have hd1:=hdb _ (List.getElem_mem hlt2)
   have hc1:=hcap.2 _ (List.getElem_mem hjc)
   unfold wi at hc1
   have hm0:=mx0 (a:=d[j] - c[j])
   have w1:=z7 (n:=d[j] - c[j]) ⟨by omega,by omega⟩
   have w2:=z7 (n:=v + mx (d[j] - c[j]) 0) ⟨by omega,by omega⟩
   unfold mx at w2
   simp [hlt2,hjc,w1,w2,z6 hlt2 (by omega)]
   have hv' : v + mx (d[j] - c[j]) 0 + (ovR (d.drop (j + 1)) (c.drop (j + 1)) + rest) = V:=by omega
   exact ⟨Int.add_nonneg hv0 hm0,hv'⟩
  ·have : j = d.length:=by omega
   subst this
   simp only [List.drop_length,ovR,Int.zero_add] at hv
   simp [z6 hlt (by omega)]
   exact ⟨hv0,by rw [<- hre]; exact hv⟩
 ·have : i = p.capacity.length:=by omega
  subst this
  simp only [List.drop_length,ovL,Int.add_zero] at hv
  have h63:=r63 p b
  simp only [dProb,dInts] at h63
  simp [h63]
  refine ⟨102,_,rfl,?_⟩
  intro L hL hcb
  obtain ⟨l,hl⟩ : ∃ l,l = h.length:=⟨_,rfl⟩
  simp only [List.length_cons,<- hl] at hcb ⊢
  have hbd:=z7f (vs:=p.vars) (b:=b) (fun v hv=>⟨ok.vars v hv,S.leaves v hv⟩)
  have hpl:=z7y (vs:=p.vars) (b:=b)
  have hCb:=z7n hbd
  have hGb:=z7m hbd
  obtain ⟨M,hM⟩ : ∃ M,M = maxD 0 (picks p.vars b):=⟨_,rfl⟩
  obtain ⟨C,hC⟩ : ∃ C,C = sumC (picks p.vars b):=⟨_,rfl⟩
  obtain ⟨G,hG⟩ : ∃ G,G = sumG (picks p.vars b):=⟨_,rfl⟩
  rw [<- hC] at hCb
  rw [<- hG] at hGb
  obtain ⟨J,hJ⟩ : ∃ J : List (Int × Choice) -> List Obj -> Prop,J = fun rem hp'=>∃ (v1 v2 v3 : Int) (h' : List Obj),hp' = .cells (dProb p).cellsL :: .cells [.sl 2 0 4 1 false true] :: .cells [dI V,dI v1,dI v2,dI v3] :: h' /\
   At h' l (L false none) /\ 0 <= v2 /\ 0 <= v3 /\ maxD v1 rem = M /\ v2 + sumC rem = C /\ v3 + sumG rem = G /\ (∀ x,x ∈ rem -> bdP x):=⟨_,rfl⟩
  have key:=i102 p b S hb ok okb (l + 1 + 1 + 1) J (fun _=>False) (by
    rw [hJ]
    rintro rem hp' r ⟨v1,v2,v3,h',rfl,a1,a2⟩
    exact ⟨v1,v2,v3,h' ++ r,rfl,a1.app,a2⟩) (by
    intro x rem hp1 hj
    rw [hJ] at hj
    obtain ⟨v1,v2,v3,h',rfl,a1,a2,a3,a4,a5,a6,a7⟩:=hj
    obtain ⟨n,c⟩:=x
    have hx:=a7 (n,c) (by simp)
    have hr2:=z7n (l:=rem) (fun y hy=>a7 y (by simp [hy]))
    have hr3:=z7m (l:=rem) (fun y hy=>a7 y (by simp [hy]))
    simp only [sumC] at a5
    simp only [sumG] at a6
    obtain ⟨⟨n1,n2⟩,⟨d1,d2⟩,⟨c1,c2⟩,⟨g1,g2⟩⟩:=hx
    simp only at n1 n2 d1 d2 c1 c2 g1 g2
    have m1:=z6r c1 c2 n1 n2
    have m2:=z6r g1 g2 n1 n2
    have w1:=z7 (n:=c.cost * n) ⟨by omega,by omega⟩
    have w2:=z7 (n:=v2 + c.cost * n) ⟨by omega,by omega⟩
    have w3:=z7 (n:=c.changes * n) ⟨by omega,by omega⟩
    have w4:=z7 (n:=v3 + c.changes * n) ⟨by omega,by omega⟩
    have hl1:=a1.lt
    have LU : ∀ r,(h'.set l (L true none) ++ r)[h'.length]? = r[0]?:=fun r=>by
     have:=z1f (hp:=h'.set l (L true none)) (r:=r) (k:=0)
     simpa using this
    obtain ⟨t,hp2,e1,e2⟩:=hcb [dI n,dChoice c] (.cells (dProb p).cellsL :: .cells [.sl 2 0 4 1 false true] :: .cells [dI V,dI v1,dI v2,dI v3] :: h') (fun t hp'=>t = true /\ J rem hp') rfl (by simpa [At] using a1) (by
     simp [setAll,w1,w2,w3,w4,z1i hl1,LU,↓a1.appE]
     have T:=At.self (o:=L true none) hl1
     refine ⟨T.appE,?_⟩
     rw [z1i T.lt,hJ]
     exact ⟨mx v1 c.delay,v2 + c.cost * n,v3 + c.changes * n,_,rfl,(At.self T.lt).app,by omega,by omega,a4,by omega,by omega,fun y hy=>a7 y (by simp [hy])⟩)
    obtain ⟨rfl,e3⟩:=e2
    exact ⟨true,hp2,e1,fun _=>e3,fun h=>by cases h⟩) (hp:=.cells (dProb p).cellsL :: .cells [.sl 2 0 4 1 false true] :: .cells [dI v,dI 0,dI 0,dI 0] :: (h ++ [L false none])) (by
    rw [hJ]
    exact ⟨0,0,0,_,by rw [hv],by rw [hl]; simp [At],by omega,by omega,hM.symm,by omega,by omega,hbd⟩)
  obtain ⟨d,hp',h1,h2⟩:=key
  rcases h2 with h2 | h2
  rotate_left
  ·exact h2.elim
  rw [hJ] at h2
  obtain ⟨v1,v2,v3,h',rfl,a1,a2,a3,a4,a5,a6,a7⟩:=h2
  simp only [maxD,List.foldl_nil,sumC,sumG,Int.add_zero] at a4 a5 a6
  refine ⟨d,_,h1,.inl ⟨a1,?_⟩⟩
  simp [chunk,boundL,<- hV,<- hM,<- hC,<- hG,a4,a5,a6]

theorem zga {p : Prob} (S : Small p) {a : List Int} (h : Whole p a) : ∀ (m k : Nat),k + m = a.length -> ∀ n,(boundL p (a.take k)).getD n 0 <= (boundL p a).getD n 0:=by
 intro m
 induction m with
 | zero=>
  intro k hk n
  rw [List.take_of_length_le (by omega)]
  exact Int.le_refl _
 | succ m ih=>
  intro k hk n
  refine Int.le_trans ?_ (ih (k + 1) (by omega) n)
  have hlt : k < a.length:=by omega
  have hl : (a.take k).length = k:=by simp; omega
  have hv : (a.take k).length < p.vars.length:=by rw [hl]; have:=h.2.2; omega
  have hw:=h.2.1.each k hlt (by have:=h.2.2; omega)
  unfold wi at hw
  obtain ⟨i,hi⟩ : ∃ i : Nat,a[k] = i:=⟨a[k].toNat,by omega⟩
  have:=(zeh S h.1 hv).1 i (by simp only [hl]; omega) n
  rw [List.take_succ_eq_append_getElem hlt,hi]
  exact this

theorem zjy : ∀ {l : List (Int × Choice)} {a : Int},a <= maxD a l
 | [],_=>Int.le_refl _
 | x :: l,a=>by
  rw [z3f]
  exact Int.le_trans (by unfold mx; split <;> omega) zjy

theorem zqh {l : List Int} : fitsE 1 (l.map dI) = true:=by
 unfold fitsE
 rw [List.all_eq_true]
 intro d hd
 obtain ⟨n,_,rfl⟩:=List.mem_map.1 hd
 rfl

def nextL (p : Prob) (b : List Int) : List (List Int):=(List.range (p.vars.getD b.length ⟨0,0,[],[]⟩).choices.length).map fun (i : Nat)=>b ++ [(i : Int)]

def firstL (p : Prob) (b : List Int) : List Int:=b ++ List.replicate (p.vars.length - b.length) 0

theorem zsq {l : List Int} : ((l.map dI).all fun d=>d.storable && d.cellsL.length == 1) = true:=zqh

open Classical in
noncomputable def resL (p : Prob) (b : List Int) (x : D) : D:=if bk p b 280 = 0 then .tup [x,dI 0] else .tup [dInts [],dI (bk p b 280)]

theorem zbn : ∀ {b l : List Int} {o : Nat},o + b.length <= l.length -> setCells (l.map dI) o (b.map dI) = (l.take o ++ b ++ l.drop (o + b.length)).map dI
 | [],l,o,h=>by simp [z6j]
 | x :: b,l,o,h=>by
  simp only [List.length_cons] at h
  simp only [List.map_cons,z5c]
  rw [show (l.map dI).set o (dI x) = (l.set o x).map dI from by rw [List.map_set],zbn (by simp; omega)]
  have ht : (l.set o x).take o = l.take o:=List.ext_getElem? fun n=>by
   rw [List.getElem?_take,List.getElem?_take]
   by_cases h1 : n < o
   ·rw [if_pos h1,if_pos h1,List.getElem?_set_ne (by omega)]
   ·rw [if_neg h1,if_neg h1]
  have hd : (l.set o x).drop (o + 1 + b.length) = l.drop (o + 1 + b.length):=List.ext_getElem? fun n=>by
   rw [List.getElem?_drop,List.getElem?_drop,List.getElem?_set_ne (by omega)]
  have h1 : (l.set o x).take (o + 1) = l.take o ++ [x]:=by
   rw [List.take_succ_eq_append_getElem (by simp; omega),ht]
   simp
  rw [h1,hd,show o + (x :: b).length = o + 1 + b.length from by simp; omega]
  simp

theorem zqq {E : Env} {cP : Nat -> List D -> Option D} {cS cY : Nat -> List D -> List Obj -> Option (D × List Obj)} {hp : List Obj} {id t t2 : Nat} {g : Opd -> D} {x y : Opd} :
  stepOp E cP cS cY id g hp (.copy t t2 x y) = copyD E hp t t2 (g x) (g y):=rfl

theorem r9 (p : Prob) (b : List Int) (S : Small p) (hb : b.length <= 20) : runP E (dL E) 9 [dProb p,dInts b] = some (resL p b (dInts (firstL p b))):=by
 refine zb c9 (by simp) ?_
 have h62:=r62 p b S hb
 have s3:=S.vars
 simp only [dProb,dInts] at h62
 simp [t9,n9,h62]
 by_cases h0 : bk p b 280 = 0
 rotate_left
 ·simp [h0,resL]
 have hbl : b.length <= p.vars.length:=by
  unfold bk at h0
  by_cases h1 : OkP p
  ·by_cases h2 : OkB p b
   ·exact h2.len
   ·simp [h1,h2] at h0
  ·simp [h1] at h0
 simp only [resL,h0,if_true]
 have hmb : (p.vars.length : Int) * 9 <= 17592186044416:=by omega
 have hc:=zbn (b:=b) (l:=List.replicate p.vars.length 0) (o:=0) (by simpa using hbl)
 have hc' : setCells (List.replicate p.vars.length (dI 0)) 0 (List.map dI b) = (firstL p b).map dI:=by
  rw [<- List.map_replicate,hc]; simp [firstL]
 have hfl : (firstL p b).length = p.vars.length:=by simp [firstL]; omega
 have hch:=z7d (l:=firstL p b)
 rw [hfl] at hch
 have ht : (List.map dI b).take b.length = List.map dI b:=List.take_of_length_le (by simp)
 simp [h0,maxBytes,hmb,zqq,copyD,zsq,rowOf,hbl,Nat.min_eq_left hbl,ht,ze2,hc',hch]

theorem zi0 {p : Prob} {a : List Int} {k i : Nat} (hk : k <= a.length) (e : i < k) : (firstL p (a.take k))[i]? = a[i]?:=by
 unfold firstL
 rw [List.getElem?_append_left (by simp; omega),List.getElem?_take,if_pos e]
theorem zhz {p : Prob} {a : List Int} {k i : Nat} (hk : k <= a.length) (hl : a.length = p.vars.length) (e : ¬ i < k) (hi : i < p.vars.length) : (firstL p (a.take k))[i]? = some 0:=by
 unfold firstL
 rw [List.getElem?_append_right (by simp; omega),List.getElem?_replicate,if_pos (by simp; omega)]

theorem ze4 {p : Prob} {a : List Int} (h : Whole p a) {k : Nat} (hk : k <= a.length) (n : Nat) : (firstL p (a.take k)).getD n 0 <= a.getD n 0:=by
 obtain ⟨ok,okb,hl⟩:=h
 have hfl : (firstL p (a.take k)).length = p.vars.length:=by simp [firstL]; omega
 by_cases hn : n < p.vars.length
 ·rw [List.getD_eq_getElem?_getD,List.getD_eq_getElem?_getD]
  have hw:=okb.each n (by omega) hn
  unfold wi at hw
  by_cases e : n < k
  ·rw [zi0 hk e]; exact Int.le_refl _
  ·rw [zhz hk hl e hn,List.getElem?_eq_getElem (by omega),Option.getD_some,Option.getD_some]; omega
 ·rw [List.getD_eq_getElem?_getD,List.getD_eq_getElem?_getD,List.getElem?_eq_none (by omega),List.getElem?_eq_none (by omega)]
  exact Int.le_refl _

theorem zpz {p : Prob} : OkB p []:=⟨by simp,fun i h=>by simp at h⟩

end Dv

namespace Dv

structure Leaf where
 branch : List Int
 kind : Int
 mult : List (List Int)

structure Srch where
 opn : List (List Int)
 best : List Int
 value : List Int
 leaves : List Leaf

def bet (p : Prob) (b : List Int) (v : List Int) : Bool:=decide (v.length = 0) || decide (cmpL (boundL p b) v < 0)
def shut (p : Prob) (b : List Int) (v : List Int) : Bool:=decide (0 < v.length) && decide (0 <= cmpL (boundL p b) v)

def examB (p : Prob) (b : List Int) (s : Srch) : Srch:=
 if b.length = p.vars.length then (if bet p b s.value = true then ⟨s.opn,b,boundL p b,s.leaves ++ [⟨b,1,[]⟩]⟩ else ⟨s.opn,s.best,s.value,s.leaves ++ [⟨b,1,[]⟩]⟩)
 else if shut p b s.value = true then ⟨s.opn,s.best,s.value,s.leaves ++ [⟨b,2,[]⟩]⟩
 else ⟨s.opn ++ (nextL p b).reverse,s.best,s.value,s.leaves⟩

def exam (p : Prob) (s : Srch) : Srch:=match s.opn.getLast? with
 | none=>s
 | some b=>examB p b ⟨s.opn.dropLast,s.best,s.value,s.leaves⟩

theorem zas {p : Prob} {s : Srch} (h : s.opn = []) : exam p s = s:=by simp [exam,h]
theorem z8n {p : Prob} {s : Srch} {l : List (List Int)} {b : List Int} (h : s.opn = l ++ [b]) : exam p s = examB p b ⟨l,s.best,s.value,s.leaves⟩:=by simp [exam,h]

def iter (p : Prob) : Nat -> Srch -> Srch
 | 0,s=>s
 | n + 1,s=>iter p n (exam p s)

theorem zfg {p : Prob} {s : Srch} (h : s.opn = []) : ∀ {n : Nat},iter p n s = s
 | 0=>rfl
 | n + 1=>by rw [iter,zas h,zfg h]

def wgt : List Var -> Nat
 | []=>1
 | v :: vs=>1 + v.choices.length * wgt vs
def wB (p : Prob) (b : List Int) : Nat:=wgt (p.vars.drop b.length)
def wO (p : Prob) : List (List Int) -> Nat
 | []=>0
 | b :: l=>wB p b + wO p l

theorem zeq {p : Prob} : ∀ {l r : List (List Int)},wO p (l ++ r) = wO p l + wO p r
 | [],r=>by simp [wO]
 | b :: l,r=>by simp only [List.cons_append,wO,zeq]; omega
theorem zom {p : Prob} : ∀ {l : List (List Int)},wO p l.reverse = wO p l
 | []=>rfl
 | b :: l=>by rw [List.reverse_cons,zeq,zom]; simp only [wO]; omega
theorem zpb : ∀ {vs : List Var},1 <= wgt vs
 | []=>by simp [wgt]
 | v :: vs=>by simp only [wgt]; omega
theorem zon {p : Prob} {b : List Int} : 1 <= wB p b:=zpb
theorem zj1 {p : Prob} {w : Nat} : ∀ {l : List (List Int)},(∀ b,b ∈ l -> wB p b = w) -> wO p l = l.length * w
 | [],_=>by simp [wO]
 | b :: l,h=>by
  rw [wO,h b (by simp),zj1 fun c hc=>h c (by simp [hc]),List.length_cons,Nat.succ_mul]; omega

theorem z64 {p : Prob} {n : Nat} (h : n < p.vars.length) : p.vars.getD n ⟨0,0,[],[]⟩ = p.vars[n]:=by
 rw [List.getD_eq_getElem?_getD,List.getElem?_eq_getElem h,Option.getD_some]
theorem z4m {p : Prob} {b c : List Int} (h : b.length < p.vars.length) : c ∈ nextL p b ↔ ∃ i : Nat,i < p.vars[b.length].choices.length /\ c = b ++ [(i : Int)]:=by
 unfold nextL
 rw [z64 h,List.mem_map]
 constructor
 ·rintro ⟨i,hi,rfl⟩; exact ⟨i,by simpa using hi,rfl⟩
 ·rintro ⟨i,hi,rfl⟩; exact ⟨i,by simpa using hi,rfl⟩
theorem zmu {p : Prob} {b : List Int} (h : b.length < p.vars.length) : (nextL p b).length = p.vars[b.length].choices.length:=by
 unfold nextL
 rw [z64 h]; simp
theorem zpf {p : Prob} {b : List Int} (h : b.length < p.vars.length) : wO p (nextL p b) + 1 = wB p b:=by
 rw [zj1 (w:=wgt (p.vars.drop (b.length + 1))) fun c hc=>by
  obtain ⟨i,_,rfl⟩:=(z4m h).1 hc
  simp [wB],zmu h]
 unfold wB
 rw [z9 h,wgt]; omega

theorem zl2 {p : Prob} {s : Srch} (h : s.opn ≠ []) (ho : ∀ b,b ∈ s.opn -> OkB p b) : wO p (exam p s).opn + 1 <= wO p s.opn:=by
 obtain ⟨l,b,hl⟩ : ∃ l b,s.opn = l ++ [b]:=⟨s.opn.dropLast,s.opn.getLast h,(List.dropLast_concat_getLast h).symm⟩
 rw [z8n hl,hl,zeq]
 have h1 : wO p [b] = wB p b:=by simp [wO]
 have h2:=zon (p:=p) (b:=b)
 rw [h1]
 unfold examB
 split
 ·split
  ·simp only []; omega
  ·simp only []; omega
 ·rename_i hb
  have hlt : b.length < p.vars.length:=by have:=(ho b (by rw [hl]; simp)).len; omega
  split
  ·simp only []; omega
  ·simp only []
   have:=zpf hlt
   rw [zeq,zom]; omega


def okLeaf (p : Prob) (l : Leaf) : Prop:=OkB p l.branch /\ l.mult = [] /\ (l.kind = 1 /\ l.branch.length = p.vars.length \/ l.kind = 2)

structure OkS (p : Prob) (s : Srch) : Prop where
 opn : ∀ b,b ∈ s.opn -> OkB p b
 leaf : ∀ l,l ∈ s.leaves -> okLeaf p l
 val : s.value = [] /\ s.best = [] \/ Whole p s.best /\ s.value = boundL p s.best

theorem OkS.exam {p : Prob} {s : Srch} (ok : OkP p) (h : OkS p s) : OkS p (exam p s):=by
 by_cases hn : s.opn = []
 ·rw [zas hn]; exact h
 obtain ⟨l,b,hl⟩ : ∃ l b,s.opn = l ++ [b]:=⟨s.opn.dropLast,s.opn.getLast hn,(List.dropLast_concat_getLast hn).symm⟩
 rw [z8n hl]
 have hb:=h.opn b (by rw [hl]; simp)
 have ho : ∀ c,c ∈ l -> OkB p c:=fun c hc=>h.opn c (by rw [hl]; simp [hc])
 have hleaf : ∀ x : Leaf,okLeaf p x -> ∀ y,y ∈ s.leaves ++ [x] -> okLeaf p y:=fun x hx y hy=>by
  rcases List.mem_append.1 hy with hy | hy
  ·exact h.leaf y hy
  ·rw [List.mem_singleton.1 hy]; exact hx
 unfold examB
 split
 ·rename_i e
  have h1 : okLeaf p ⟨b,1,[]⟩:=⟨hb,rfl,.inl ⟨rfl,e⟩⟩
  split
  ·exact ⟨ho,hleaf _ h1,.inr ⟨⟨ok,hb,e⟩,rfl⟩⟩
  ·exact ⟨ho,hleaf _ h1,h.val⟩
 ·rename_i e
  have hlt : b.length < p.vars.length:=by have:=hb.len; omega
  split
  ·exact ⟨ho,hleaf _ ⟨hb,rfl,.inr rfl⟩,h.val⟩
  ·refine ⟨fun c hc=>?_,h.leaf,h.val⟩
   rcases List.mem_append.1 hc with hc | hc
   ·exact ho c hc
   ·obtain ⟨i,hi,rfl⟩:=(z4m hlt).1 (List.mem_reverse.1 hc)
    exact zmr hb hlt hi
theorem zfh {p : Prob} (ok : OkP p) : ∀ {n : Nat} {s : Srch},OkS p s -> wO p s.opn <= n -> (iter p n s).opn = []
 | 0,s,_,hn=>by
  cases h : s.opn with
  | nil=>exact h
  | cons b l=>
   rw [h,wO] at hn
   have:=zon (p:=p) (b:=b)
   omega
 | n + 1,s,h,hn=>by
  by_cases e : s.opn = []
  ·rw [zfg e]; exact e
  ·have:=zl2 e h.opn
   exact zfh (n:=n) (s:=Dv.exam p s) ok (h.exam ok) (by omega)

def startS : Srch:=⟨[[]],[],[],[]⟩
theorem zbk {p : Prob} : OkS p startS:=⟨fun b hb=>by
 rw [List.mem_singleton.1 hb]; exact zpz,fun l hl=>by simp [startS] at hl,.inl ⟨rfl,rfl⟩⟩
def solveS (p : Prob) : Srch:=iter p (wO p [[]]) startS
theorem zjc {p : Prob} (ok : OkP p) : (solveS p).opn = []:=zfh ok zbk (Nat.le_refl _)

theorem zea {a b c : List Int} (h1 : a.length = b.length) (h2 : b.length = c.length) (h3 : cmpL a b <= 0) (h4 : cmpL b c <= 0) : cmpL a c <= 0:=by
 by_cases e1 : cmpL a b = 0
 ·rw [(z2b h1).1 e1]; exact h4
 ·by_cases e2 : cmpL b c = 0
  ·rw [<- (z2b h2).1 e2]; exact h3
  ·have:=z3g (a:=a) (b:=b) (c:=c) (by omega) (by omega); omega
theorem zcx {p : Prob} {a b c : List Int} (h1 : a.length = b.length) (h2 : b.length = c.length) (h3 : betterI p a b <= 0) (h4 : betterI p b c <= 0) : betterI p a c <= 0:=by
 by_cases e1 : betterI p a b = 0
 ·rw [(z32 h1).1 e1]; exact h4
 ·by_cases e2 : betterI p b c = 0
  ·rw [<- (z32 h2).1 e2]; exact h3
  ·have:=zcw (p:=p) (a:=a) (b:=b) (c:=c) (by omega) (by omega); omega

end Dv

namespace Dv

def Bef (p : Prob) (b c : List Int) : Prop:=∀ x y,Whole p x -> Whole p y -> b <+: x -> c <+: y -> cmpL x y < 0

theorem zg9 : ∀ {b u v : List Int},cmpL (b ++ u) (b ++ v) = cmpL u v
 | [],_,_=>rfl
 | x :: b,u,v=>by simp only [List.cons_append,cmpL,z1t.2 rfl,if_true,zg9]
theorem zoa {p : Prob} {b : List Int} {i j : Int} (h : i < j) : Bef p (b ++ [i]) (b ++ [j]):=by
 rintro x y _ _ ⟨u,rfl⟩ ⟨v,rfl⟩
 rw [List.append_assoc,List.append_assoc,zg9]
 simp only [List.singleton_append,cmpL]
 have:=z68.2 h
 rw [if_neg (by omega)]; exact this

structure Inv (p : Prob) (s : Srch) : Prop where
 ok : OkS p s
 dom : ∀ x,Whole p x -> (∃ b,b ∈ s.opn /\ b <+: x) \/ s.value ≠ [] /\ betterI p s.best x <= 0
 ord : s.opn.reverse.Pairwise (Bef p)
 old : s.value ≠ [] -> ∀ b,b ∈ s.opn -> ∀ x,Whole p x -> b <+: x -> cmpL s.best x < 0
 leaf : ∀ l,l ∈ s.leaves -> s.value ≠ [] /\ 0 <= cmpL (boundL p l.branch) s.value /\ (l.kind = 1 /\ l.branch.length = p.vars.length /\ 0 <= betterI p l.branch s.best \/ l.kind = 2 /\ l.branch.length ≠ p.vars.length)
 cnt : ∀ x,Whole p x -> (s.opn ++ s.leaves.map (·.branch)).countP (fun b=>b.isPrefixOf x) = 1

theorem z8t {p : Prob} {b : List Int} : boundL p b ≠ []:=by simp [boundL]
theorem zbu {p : Prob} {b x : List Int} (hx : Whole p x) (hb : b.length = p.vars.length) (h : b <+: x) : b = x:=by
 obtain ⟨u,rfl⟩:=h
 have:=hx.2.2
 rw [List.length_append] at this
 have : u = []:=List.eq_nil_of_length_eq_zero (by omega)
 simp [this]
theorem zcu {p : Prob} (S : Small p) {b x : List Int} (hx : Whole p x) (h : b <+: x) : cmpL (boundL p b) (boundL p x) <= 0:=by
 obtain ⟨u,rfl⟩:=h
 have:=zga S hx u.length b.length (by simp)
 rw [List.take_left'] at this
 ·exact z67 rfl this
 ·rfl
theorem zf2 {p : Prob} {b x : List Int} (hx : Whole p x) (hlt : b.length < p.vars.length) (h : b <+: x) : ∃ i : Nat,i < p.vars[b.length].choices.length /\ b ++ [(i : Int)] <+: x:=by
 obtain ⟨u,rfl⟩:=h
 have hl:=hx.2.2
 rw [List.length_append] at hl
 cases u with
 | nil=>simp at hl; omega
 | cons k u=>
  have hw:=hx.2.1.each b.length (by simp) hlt
  rw [List.getElem_append_right (Nat.le_refl _)] at hw
  simp only [Nat.sub_self,List.getElem_cons_zero] at hw
  unfold wi at hw
  exact ⟨k.toNat,by omega,⟨u,by simp; omega⟩⟩

theorem isPre {b x : List Int} : b.isPrefixOf x = true ↔ b <+: x:=List.isPrefixOf_iff_prefix

theorem zlc {k : Nat} : ∀ {n : Nat},k < n -> (List.range n).countP (fun i=>decide (k = i)) = 1:=by
 intro n h
 have h1 : (List.range n).countP (fun i=>decide (k = i)) = (List.range n).count k:=by
  unfold List.count
  congr 1
  funext i
  by_cases e : k = i
  ·simp [e]
  ·have : ¬ i = k:=fun h=>e h.symm
   simp [e,this]
 rw [h1]
 exact List.Nodup.count List.nodup_range |>.trans (by simp [h])
theorem znt {p : Prob} {b x : List Int} (hx : Whole p x) (hlt : b.length < p.vars.length) : (nextL p b).countP (fun c=>c.isPrefixOf x) = [b].countP (fun c=>c.isPrefixOf x):=by
 by_cases h : b <+: x
 ·rw [List.countP_singleton,if_pos (isPre.2 h)]
  obtain ⟨k,hk,hp⟩:=zf2 hx hlt h
  unfold nextL
  rw [z64 hlt,List.countP_map]
  rw [show ((fun c : List Int=>c.isPrefixOf x) ∘ fun (i : Nat)=>b ++ [(i : Int)]) = fun i=>decide (k = i) from ?_]
  ·exact zlc hk
  funext i
  simp only [Function.comp]
  by_cases e : k = i
  ·subst e
   rw [isPre.2 hp]; simp
  ·simp only [e,decide_false]
   cases hh : (b ++ [(i : Int)]).isPrefixOf x with
   | false=>rfl
   | true=>
    obtain ⟨u,hu⟩:=isPre.1 hh
    obtain ⟨v,hv⟩:=hp
    rw [<- hv,List.append_assoc,List.append_assoc,List.append_cancel_left_eq] at hu
    simp only [List.singleton_append,List.cons.injEq] at hu
    omega
 ·rw [List.countP_singleton,if_neg (fun e=>h (isPre.1 e)),List.countP_eq_zero]
  intro c hc hh
  obtain ⟨i,_,rfl⟩:=(z4m hlt).1 hc
  exact h (List.IsPrefix.trans (List.prefix_append _ _) (isPre.1 hh))

theorem zjb {p : Prob} : Inv p startS where
 ok:=zbk
 dom:=fun x _=>.inl ⟨[],by simp [startS],List.nil_prefix⟩
 ord:=by simp [startS]
 old:=fun h=>absurd rfl h
 leaf:=fun l hl=>by simp [startS] at hl
 cnt:=fun x _=>by simp [startS]

theorem Inv.exam {p : Prob} (S : Small p) (ok : OkP p) {s : Srch} (I : Inv p s) : Inv p (exam p s):=by
 by_cases hn : s.opn = []
 ·rw [zas hn]; exact I
 obtain ⟨l,b,hl⟩ : ∃ l b,s.opn = l ++ [b]:=⟨s.opn.dropLast,s.opn.getLast hn,(List.dropLast_concat_getLast hn).symm⟩
 have hok:=I.ok.exam ok
 rw [z8n hl] at hok ⊢
 have hb:=I.ok.opn b (by rw [hl]; simp)
 have hord:=I.ord
 rw [hl,List.reverse_append] at hord
 simp only [List.reverse_singleton,List.singleton_append,List.pairwise_cons] at hord
 obtain ⟨hbl,hord⟩:=hord
 have hcnt:=I.cnt
 rw [hl] at hcnt
 have hdom:=I.dom
 have hold:=I.old
 rw [hl] at hold
 simp only [hl] at hdom
 have hbest : s.value ≠ [] -> Whole p s.best /\ s.value = boundL p s.best:=fun h=>by
  rcases I.ok.val with ⟨e,_⟩ | e
  ·exact absurd e h
  ·exact e
 have hc2 : ∀ x,Whole p x -> ∀ y : Leaf,y.branch = b -> (l ++ (s.leaves ++ [y]).map (·.branch)).countP (fun b=>b.isPrefixOf x) = 1:=fun x hx y hy=>by
  have:=hcnt x hx
  simp only [List.countP_append,List.map_append,List.map_cons,List.map_nil,hy] at this ⊢
  omega
 have hge0 : ∀ x,Whole p x -> b <+: x -> s.value ≠ [] -> 0 <= cmpL (boundL p b) s.value -> betterI p s.best x <= 0:=fun x hx hp hv h0=>by
  obtain ⟨w,e⟩:=hbest hv
  have h1:=zcu S hx hp
  have h2 : cmpL s.value (boundL p b) <= 0:=by rw [z1c]; omega
  have h3 : cmpL (boundL p s.best) (boundL p x) <= 0:=by rw [<- e]; exact zea (a:=s.value) (b:=boundL p b) (c:=boundL p x) (by rw [e]; rfl) rfl h2 h1
  unfold betterI
  split
  ·have:=hold hv b (by simp) x hx hp; omega
  ·exact h3
 unfold examB at hok ⊢
 by_cases e : b.length = p.vars.length
 ·rw [if_pos e] at hok ⊢
  have wb : Whole p b:=⟨ok,hb,e⟩
  by_cases hbt : bet p b s.value = true
  ·rw [if_pos hbt] at hok ⊢
   have hle : s.value ≠ [] -> betterI p b s.best < 0:=fun hv=>by
    obtain ⟨w,ev⟩:=hbest hv
    have h0 : ¬ s.value.length = 0:=fun h=>hv (List.eq_nil_of_length_eq_zero h)
    have : cmpL (boundL p b) s.value < 0:=by simpa [bet,h0] using hbt
    rw [ev] at this
    unfold betterI
    rw [if_neg (by omega)]; exact this
   refine ⟨hok,fun x hx=>?_,hord,fun _ c hc x hx hp=>?_,fun y hy=>⟨z8t,?_⟩,fun x hx=>hc2 x hx _ rfl⟩
   ·rcases hdom x hx with ⟨c,hc,hp⟩ | ⟨hv,h1⟩
    ·rcases List.mem_append.1 hc with hc | hc
     ·exact .inl ⟨c,hc,hp⟩
     ·rw [List.mem_singleton.1 hc] at hp
      rw [<- zbu hx e hp]
      exact .inr ⟨z8t,by rw [(z32 rfl).2 rfl]; exact Int.le_refl _⟩
    ·refine .inr ⟨z8t,?_⟩
     have:=hle hv
     exact zcx (e.trans (hbest hv).1.2.2.symm) ((hbest hv).1.2.2.trans hx.2.2.symm) (by simp only []; omega) h1
   ·exact hbl c (List.mem_reverse.2 hc) b x wb hx (List.prefix_refl _) hp
   ·rcases List.mem_append.1 hy with hy | hy
    ·obtain ⟨h1,h2,h3⟩:=I.leaf y hy
     obtain ⟨w,ev⟩:=hbest h1
     have hl1:=hle h1
     have h5 : cmpL (boundL p b) (boundL p s.best) <= 0:=by
      have h0 : ¬ s.value.length = 0:=fun h=>h1 (List.eq_nil_of_length_eq_zero h)
      have : cmpL (boundL p b) s.value < 0:=by simpa [bet,h0] using hbt
      rw [ev] at this; omega
     refine ⟨?_,?_⟩
     ·have h4 : cmpL s.value (boundL p y.branch) <= 0:=by rw [z1c]; omega
      rw [ev] at h4
      have:=zea (a:=boundL p b) (b:=boundL p s.best) (c:=boundL p y.branch) rfl rfl h5 h4
      rw [z1c]; simp only []; omega
     ·rcases h3 with ⟨k1,k2,k3⟩ | h3
      ·refine .inl ⟨k1,k2,?_⟩
       have h6 : betterI p s.best y.branch <= 0:=by rw [z33]; omega
       have:=zcx (e.trans w.2.2.symm) (w.2.2.trans k2.symm) (Int.le_of_lt hl1) h6
       rw [z33]; simp only []; omega
      ·exact .inr h3
    ·rw [List.mem_singleton.1 hy]
     refine ⟨by rw [z5u]; exact Int.le_refl _,.inl ⟨rfl,e,?_⟩⟩
     rw [(z32 rfl).2 rfl]; exact Int.le_refl _
  ·rw [if_neg hbt] at hok ⊢
   have hv : s.value ≠ []:=fun h=>hbt (by simp [bet,h])
   have h0 : ¬ s.value.length = 0:=fun h=>hv (List.eq_nil_of_length_eq_zero h)
   have hge : 0 <= cmpL (boundL p b) s.value:=by
    have : ¬ cmpL (boundL p b) s.value < 0:=by simpa [bet,h0] using hbt
    omega
   refine ⟨hok,fun x hx=>?_,hord,fun hv' c hc x hx hp=>hold hv' c (by simp [hc]) x hx hp,fun y hy=>⟨hv,?_⟩,fun x hx=>hc2 x hx _ rfl⟩
   ·rcases hdom x hx with ⟨c,hc,hp⟩ | h1
    ·rcases List.mem_append.1 hc with hc | hc
     ·exact .inl ⟨c,hc,hp⟩
     ·rw [List.mem_singleton.1 hc] at hp
      exact .inr ⟨hv,hge0 x hx hp hv hge⟩
    ·exact .inr h1
   ·rcases List.mem_append.1 hy with hy | hy
    ·exact (I.leaf y hy).2
    ·rw [List.mem_singleton.1 hy]
     refine ⟨hge,.inl ⟨rfl,e,?_⟩⟩
     have:=hge0 b wb (List.prefix_refl _) hv hge
     rw [z33]; simp only []; omega
 ·rw [if_neg e] at hok ⊢
  have hlt : b.length < p.vars.length:=by have:=hb.len; omega
  by_cases hs : shut p b s.value = true
  ·rw [if_pos hs] at hok ⊢
   obtain ⟨hv0,hge⟩ : 0 < s.value.length /\ 0 <= cmpL (boundL p b) s.value:=by simpa [shut] using hs
   have hv : s.value ≠ []:=fun h=>by rw [h] at hv0; simp at hv0
   refine ⟨hok,fun x hx=>?_,hord,fun hv' c hc x hx hp=>hold hv' c (by simp [hc]) x hx hp,fun y hy=>⟨hv,?_⟩,fun x hx=>hc2 x hx _ rfl⟩
   ·rcases hdom x hx with ⟨c,hc,hp⟩ | h1
    ·rcases List.mem_append.1 hc with hc | hc
     ·exact .inl ⟨c,hc,hp⟩
     ·rw [List.mem_singleton.1 hc] at hp
      exact .inr ⟨hv,hge0 x hx hp hv hge⟩
    ·exact .inr h1
   ·rcases List.mem_append.1 hy with hy | hy
    ·exact (I.leaf y hy).2
    ·rw [List.mem_singleton.1 hy]
     exact ⟨hge,.inr ⟨rfl,e⟩⟩
  ·rw [if_neg hs] at hok ⊢
   refine ⟨hok,fun x hx=>?_,?_,fun hv c hc x hx hp=>?_,I.leaf,fun x hx=>?_⟩
   ·rcases hdom x hx with ⟨c,hc,hp⟩ | h1
    ·rcases List.mem_append.1 hc with hc | hc
     ·exact .inl ⟨c,by simp [hc],hp⟩
     ·rw [List.mem_singleton.1 hc] at hp
      obtain ⟨i,hi,hq⟩:=zf2 hx hlt hp
      exact .inl ⟨_,List.mem_append_right _ (List.mem_reverse.2 ((z4m hlt).2 ⟨i,hi,rfl⟩)),hq⟩
    ·exact .inr h1
   ·simp only []
    rw [List.reverse_append,List.reverse_reverse,List.pairwise_append]
    refine ⟨?_,hord,fun c hc d hd x y hx hy h1 h2=>?_⟩
    ·unfold nextL
     rw [List.pairwise_map]
     exact List.Pairwise.imp (fun h=>zoa (by omega)) List.pairwise_lt_range
    ·obtain ⟨i,_,rfl⟩:=(z4m hlt).1 hc
     exact hbl d hd x y hx hy (List.IsPrefix.trans (List.prefix_append _ _) h1) h2
   ·rcases List.mem_append.1 hc with hc | hc
    ·exact hold hv c (by simp [hc]) x hx hp
    ·obtain ⟨i,_,rfl⟩:=(z4m hlt).1 (List.mem_reverse.1 hc)
     exact hold hv b (by simp) x hx (List.IsPrefix.trans (List.prefix_append _ _) hp)
   ·have h1:=hcnt x hx
    have h2:=znt hx hlt
    simp only [List.countP_append,List.countP_reverse] at h1 ⊢
    omega
theorem Inv.iter {p : Prob} (S : Small p) (ok : OkP p) : ∀ {n : Nat} {s : Srch},Inv p s -> Inv p (iter p n s)
 | 0,_,h=>h
 | n + 1,s,h=>Inv.iter (n:=n) (s:=Dv.exam p s) S ok (h.exam S ok)

theorem zl0 {p : Prob} (ok : OkP p) : Whole p (List.replicate p.vars.length 0):=by
 refine ⟨ok,⟨by simp,fun i h h'=>?_⟩,by simp⟩
 have:=(ok.vars _ (List.getElem_mem h')).one
 rw [List.getElem_replicate]
 unfold wi; omega

theorem zgq {p : Prob} (S : Small p) (ok : OkP p) : Whole p (solveS p).best /\ (solveS p).value = boundL p (solveS p).best /\ ∀ x,Whole p x -> betterI p (solveS p).best x <= 0:=by
 have I : Inv p (solveS p):=zjb.iter S ok
 have he:=zjc ok
 have hd : ∀ x,Whole p x -> (solveS p).value ≠ [] /\ betterI p (solveS p).best x <= 0:=fun x hx=>by
  rcases I.dom x hx with ⟨b,hb,_⟩ | h
  ·rw [he] at hb; cases hb
  ·exact h
 have hv:=(hd _ (zl0 ok)).1
 rcases I.ok.val with ⟨e,_⟩ | ⟨w,e⟩
 ·exact absurd e hv
 ·exact ⟨w,e,fun x hx=>(hd x hx).2⟩
theorem zgp {p : Prob} (S : Small p) (ok : OkP p) {x : List Int} (hx : Whole p x) (h : ∀ y,Whole p y -> betterI p x y <= 0) : x = (solveS p).best:=by
 obtain ⟨w,_,hb⟩:=zgq S ok
 have h1:=h _ w
 have h2:=hb _ hx
 rw [z33] at h2
 exact (z32 (p:=p) (hx.2.2.trans w.2.2.symm)).1 (by omega)

end Dv

namespace Dv
attribute [local simp] List.replicate depth dCell dUse dInts dChoice dVar dProb tStart addO Ret
attribute [local congr] z1h z1l z12 zr zn z14 zm


def room (p : Prob) (i k : Nat) (x : Int) : Prob:={ p with capacity:=p.capacity.set i ((p.capacity.getD i []).set k x) }

structure OkM (p : Prob) (m : List (List Int)) : Prop where
 len : m.length = p.capacity.length
 rows : ∀ l,l ∈ m -> l.length = p.cells.length /\ ∀ n,n ∈ l -> 0 <= n /\ n <= 65536

structure SmallM (m : List (List Int)) : Prop where
 len : m.length <= 40
 rows : ∀ l,l ∈ m -> l.length <= 60

def offM (n : Int) : Bool:=decide (n < 0) || decide (65536 < n)
def wrongM (p : Prob) (l : List Int) : Bool:=!decide (l.length = p.cells.length) || l.any offM

theorem r112 (n : Int) : runP E (dL E) 112 [dI n] = some (.bool (offM n)):=by
 refine zb c112 (by simp) ?_
 unfold offM
 by_cases h : n < 0 <;> simp [t112,n112,h]

theorem r93 (p : Prob) (l : List Int) (hl : l.length <= 1000000) (hc : p.cells.length <= 1000) : runP E (dL E) 93 [dInts l,.iptr (dProb p).cellsL] = some (.bool (wrongM p l)):=by
 refine zb c93 (by simp) ?_
 have h71:=r71 l 112 offM r112 hl
 simp only [dInts] at h71
 unfold wrongM
 by_cases h : l.length = p.cells.length
 ·simp [t93,n93,h,h71]
 ·have h' : ¬ (l.length : Int) = p.cells.length:=by omega
  simp [t93,n93,h,h']

theorem r113 (p : Prob) (L : List (List Int)) (hL : L.length <= 1000000) (hl : ∀ l,l ∈ L -> l.length <= 1000000) (hc : p.cells.length <= 1000) :
  runP E (dL E) 113 [.imm .none (L.map dInts),.fn 93 [.iptr (dProb p).cellsL]] = some (dI (idxI (wrongM p) L 0)):=by
 refine zb c113 (by simp) ?_
 generalize hB : idxI (wrongM p) L 0 = B
 simp [t113,n113]
 refine zz L.length (fun i env hp=>∃ (x3 x6 x7 : D) ,env = [.imm .none (L.map dInts),.fn 93 [.iptr (dProb p).cellsL],dI 0,x3,dI L.length,dI i,x6,x7] /\ idxI (wrongM p) (L.drop i) i = B) 0 (by omega) ⟨_,_,_,rfl,by simpa using hB⟩ ?_
 rintro i env hp hi ⟨x3,x6,x7,rfl,hm⟩
 by_cases hlt : i < L.length
 ·rw [z9 hlt] at hm
  have hk:=r93 p L[i] (hl _ (List.getElem_mem hlt)) hc
  simp only [dInts] at hk
  simp at hk
  simp only [idxI] at hm
  by_cases h : wrongM p L[i] = true
  ·rw [if_pos h] at hm
   clear hB
   subst hm
   simp [hlt,hk,h]
  ·rw [if_neg h] at hm
   have h' : wrongM p L[i] = false:=by simpa using h
   simp [hlt,hk,h',hm,z6 hlt (by omega)]
 ·have : i = L.length:=by omega
  subst this
  rw [List.drop_length] at hm
  simp only [idxI] at hm
  simp [hm]

theorem r94 (p : Prob) (L : List (List Int)) (hL : L.length <= 1000000) (hl : ∀ l,l ∈ L -> l.length <= 1000000) (hc : p.cells.length <= 1000) :
  runP E (dL E) 94 [.imm .none (L.map dInts),.fn 93 [.iptr (dProb p).cellsL]] = some (.bool (L.any (wrongM p))):=by
 refine zb c94 (by simp) ?_
 have h:=r113 p L hL hl hc
 simp at h
 simp [t94,n94,h,z79]

open Classical in
noncomputable def mk (p : Prob) (m : List (List Int)) : Int:=if OkP p then (if OkM p m then 0 else 290) else 270

theorem zjs {p : Prob} {m : List (List Int)} : OkM p m ↔ m.length = p.capacity.length /\ m.any (wrongM p) = false:=by
 constructor
 ·rintro ⟨h1,h2⟩
  refine ⟨h1,?_⟩
  rw [List.any_eq_false]
  intro l hl
  obtain ⟨a1,a2⟩:=h2 l hl
  unfold wrongM
  have : l.any offM = false:=by
   rw [List.any_eq_false]
   intro n hn
   have:=a2 n hn
   unfold offM
   simp; omega
  simp [a1,this]
 ·rintro ⟨h1,h2⟩
  rw [List.any_eq_false] at h2
  refine ⟨h1,fun l hl=>?_⟩
  have:=h2 l hl
  unfold wrongM at this
  simp at this
  obtain ⟨a1,a2⟩:=this
  refine ⟨a1,fun n hn=>?_⟩
  have:=a2 n hn
  unfold offM at this
  simp at this
  omega

theorem r41 (p : Prob) (m : List (List Int)) (S : Small p) (M : SmallM m) : runP E (dL E) 41 [dProb p,.imm .none (m.map dInts)] = some (dI (mk p m)):=by
 refine zb c41 (by simp) ?_
 have h15:=r15 p S
 have s1:=S.cells
 have s2:=S.cap
 have m1:=M.len
 simp only [dProb] at h15
 simp [t41,n41,h15]
 by_cases h0 : OkP p
 rotate_left
 ·have e : ck p = 270:=by simp [ck,h0]
  simp [e,mk,h0]
 have e : ck p = 0:=by simp [ck,h0]
 have h94:=r94 p m (by omega) (fun l hl=>by have:=M.rows l hl; omega) (by omega)
 simp at h94
 by_cases h1 : m.length = p.capacity.length
 rotate_left
 ·have h1' : ¬ (m.length : Int) = p.capacity.length:=by omega
  have hn : ¬ OkM p m:=fun h=>h1 h.len
  simp [e,h1',mk,h0,hn,z1j,z71]
 have h1' : (m.length : Int) = p.capacity.length:=by omega
 by_cases h2 : m.any (wrongM p) = true
 ·have hn : ¬ OkM p m:=fun h=>by have:=(zjs.1 h).2; rw [h2] at this; cases this
  rw [h2] at h94
  simp [e,h1',mk,h0,hn,z1j,z71,h94]
 ·have h2' : m.any (wrongM p) = false:=by simpa using h2
  have hn : OkM p m:=zjs.2 ⟨h1,h2'⟩
  rw [h2'] at h94
  simp [e,h1',mk,h0,hn,z1j,z71,h94]

open Classical in
noncomputable def dk (p : Prob) (b : List Int) (m : List (List Int)) : Int:=if OkP p then (if OkM p m /\ OkB p b then 0 else 290) else 270

theorem r89 (p : Prob) (b : List Int) (m : List (List Int)) (S : Small p) (hb : b.length <= 20) (M : SmallM m) : runP E (dL E) 89 [dProb p,dInts b,.imm .none (m.map dInts)] = some (dI (dk p b m)):=by
 refine zb c89 (by simp) ?_
 have h41:=r41 p m S M
 have s3:=S.vars
 simp only [dProb] at h41
 simp [t89,n89,h41]
 generalize hB : dk p b m = B
 by_cases h0 : OkP p
 rotate_left
 ·have e : mk p m = 270:=by simp [mk,h0]
  have e2 : B = 270:=by rw [<- hB]; simp [dk,h0]
  simp [e,e2]
 by_cases h1 : OkM p m
 rotate_left
 ·have e : mk p m = 290:=by simp [mk,h0,h1]
  have e2 : B = 290:=by rw [<- hB]; simp [dk,h0,h1]
  simp [e,e2]
 have e : mk p m = 0:=by simp [mk,h0,h1]
 have hBf : ¬ OkB p b -> B = 290:=by intro h; rw [<- hB]; simp [dk,h0,h1,h]
 have hBt : OkB p b -> B = 0:=by intro h; rw [<- hB]; simp [dk,h0,h1,h]
 simp [e]
 by_cases h2 : p.vars.length < b.length
 ·simp [h2,hBf (fun ok=>by have:=ok.len; omega)]
 simp [h2]
 obtain ⟨P,hP⟩ : ∃ P : Nat -> Prop,P = fun i=>∀ (h : i < b.length) (h' : i < p.vars.length),wi b[i] 0 (p.vars[i].choices.length - 1):=⟨_,rfl⟩
 refine zw b.length P
  (fun i env hp=>∃ (x5 x6 x7 x8 x9 x13 x14 : D) (h : List Obj),env = [dProb p,dInts b,.imm .none (m.map dInts),.loc 0 0,dI 0,x5,x6,x7,x8,x9,dInts b,dI b.length,dI i,x13,x14] /\ hp = .cells (dProb p).cellsL :: h)
  ⟨_,_,_,_,_,_,_,_,rfl,rfl⟩ ?_ ?_
 ·rintro i env hp hi ⟨x5,x6,x7,x8,x9,x13,x14,h,rfl,rfl⟩ hall
  have hi' : i < p.vars.length:=by omega
  by_cases k1 : wi b[i] 0 (p.vars[i].choices.length - 1)
  ·obtain ⟨a1,a2,a3,a4⟩:=z6e k1
   have hPi : P i:=by rw [hP]; exact fun _ _=>k1
   have a5 : ¬ (p.vars[i].choices.length : Int) <= b[i]:=by omega
   simp [hi,hi',a1,a3,a5,z6 hi (by omega),hPi]
  ·have hB':=hBf (fun ok=>k1 (ok.each i hi hi'))
   rcases z6f k1 with ⟨q1,q2⟩ | ⟨q1,q2,q3,q4⟩
   ·simp [hi,hi',q1,q2,hB']
   ·have a5 : (p.vars[i].choices.length : Int) <= b[i]:=by omega
    simp [hi,hi',q3,q4,a5,hB']
 ·rintro env hp ⟨x5,x6,x7,x8,x9,x13,x14,h,rfl,rfl⟩ hall
  rw [hP] at hall
  simp [hBt ⟨by omega,fun i hi hi'=>hall i hi hi hi'⟩]

def bI (b : Bool) : Int:=if b then 1 else 0

theorem r125 (c : Cell) : runP E (dL E) 125 [dCell c] = some (dI (bI c.airport)):=by
 refine zb c125 (by simp) ?_
 cases h : c.airport <;> simp [t125,n125,h,bI]

def cmpD (a b : Cell) : Int:=orI [cmpI (bI a.airport) (bI b.airport),cmpI a.index b.index,cmpI a.minute b.minute]

theorem r118 (a b : Cell) : runP E (dL E) 118 [dCell a,dCell b] = some (dI (cmpD a b)):=by
 refine zb c118 (by simp) ?_
 have h1:=r125 a
 have h2:=r125 b
 have h3:=r105 [cmpI (bI a.airport) (bI b.airport),cmpI a.index b.index,cmpI a.minute b.minute] (by simp)
 simp only [dCell] at h1 h2
 simp only [dInts,List.map_cons,List.map_nil] at h3
 unfold cmpD
 simp [t118,n118,h1,h2,r74,h3]

theorem z6x {a b : Int} : cmpI a b = 0 ↔ a = b:=by unfold cmpI; split <;> (try split) <;> omega
theorem zld {a b : Int} : cmpI a b < 0 ↔ a < b:=by unfold cmpI; split <;> (try split) <;> omega

theorem zby {x y z : Int} : orI [x,y,z] = if x = 0 then (if y = 0 then z else y) else x:=by
 simp only [orI]
 by_cases h1 : x = 0
 ·by_cases h2 : y = 0
  ·by_cases h3 : z = 0 <;> simp [h1,h2,h3]
  ·simp [h1,h2]
 ·simp [h1]

theorem zqs {a b : Cell} : cmpD a b < 0 ↔ ltC a b = true:=by
 unfold cmpD ltC
 rw [zby]
 have key : cmpI (bI a.airport) (bI b.airport) = 0 ↔ a.airport = b.airport:=by
  rw [z6x]; cases a.airport <;> cases b.airport <;> simp [bI]
 by_cases h1 : a.airport = b.airport
 ·rw [if_pos (key.2 h1)]
  simp only [h1,ne_eq,not_true_eq_false,if_false]
  by_cases h2 : a.index = b.index
  ·rw [if_pos (z6x.2 h2)]
   simp [h2,zld]
  ·rw [if_neg (fun h=>h2 (z6x.1 h))]
   simp [h2,zld]
 ·rw [if_neg (fun h=>h1 (key.1 h))]
  simp only [ne_eq,h1,not_false_eq_true,if_true]
  rw [zld]
  cases ha : a.airport <;> cases hb : b.airport <;> simp [bI,ha,hb] at h1 ⊢

theorem zle {a b : Cell} : cmpD a b = 0 ↔ a = b:=by
 unfold cmpD
 rw [zby]
 have key : cmpI (bI a.airport) (bI b.airport) = 0 ↔ a.airport = b.airport:=by
  rw [z6x]; cases a.airport <;> cases b.airport <;> simp [bI]
 constructor
 ·intro h
  by_cases h1 : cmpI (bI a.airport) (bI b.airport) = 0
  ·rw [if_pos h1] at h
   by_cases h2 : cmpI a.index b.index = 0
   ·rw [if_pos h2] at h
    have e1:=key.1 h1
    have e2:=z6x.1 h2
    have e3:=z6x.1 h
    cases a; cases b; simp_all
   ·rw [if_neg h2] at h; exact absurd h h2
  ·rw [if_neg h1] at h; exact absurd h h1
 ·rintro rfl
  rw [if_pos (key.2 rfl),if_pos (z6x.2 rfl)]
  exact z6x.2 rfl

theorem zog {l : List Cell} (hl : ∀ (i : Nat) (hi : i + 1 < l.length),ltC l[i] l[i + 1] = true) {k : Nat} (hk : k < l.length) : atS l[k] l 0 = k:=by
 have key : ∀ (l : List Cell) (s : Nat),(∀ (j i : Nat) (hj : j < l.length) (hij : i < j),l[i]'(by omega) ≠ l[j]) -> ∀ (k : Nat) (hk : k < l.length),atS l[k] l s = s + k:=by
  intro l
  induction l with
  | nil=>intro s _ k hk; simp at hk
  | cons x l ih=>
   intro s hne k hk
   cases k with
   | zero=>simp [atS]
   | succ k=>
    have h1:=hne (k + 1) 0 hk (by omega)
    simp only [List.getElem_cons_zero,List.getElem_cons_succ] at h1
    have h2:=ih (s + 1) (fun j i hj hij=>by
     have:=hne (j + 1) (i + 1) (by simpa using hj) (by omega)
     simpa using this) k (by simpa using hk)
    simp only [List.getElem_cons_succ,atS,if_neg h1,h2]
    omega
 have:=key l 0 (fun j i hj hij=>zki hl j i hj hij) k hk
 simpa using this

theorem zmy {l : List Cell} (hl : ∀ (i : Nat) (hi : i + 1 < l.length),ltC l[i] l[i + 1] = true) {i k : Nat} (hi : i < l.length) (hk : k < l.length) : ltC l[i] l[k] = true ↔ i < k:=by
 constructor
 ·intro h
  rcases Nat.lt_trichotomy i k with h1 | h1 | h1
  ·exact h1
  ·subst h1; rw [zdn] at h; cases h
  ·have:=zc4 h (zaj hl i k hi h1)
   rw [zdn] at this; cases this
 ·intro h; exact zaj hl k i hk h

abbrev dWork (p : Prob) (b : List Int) (g : Int) (m : List (List Int)) : D:=
 .agg [.imm .none (p.cells.map dCell),.imm .none (p.capacity.map dInts),.imm .none (p.vars.map dVar),dInts b,dI g,.imm .none (m.map dInts)]

theorem shr1 {E : Env} {t n : Nat} : binD E .shr t (.int .u64 (n : Int)) (.int .u64 1) = some (.int .u64 ((n / 2 : Nat) : Int)):=by
 have h1 : min (1 : Int).toNat Go.IntKind.u64.bits = 1:=by decide
 have h2 : (n : Int).fdiv (2 ^ 1) = ((n / 2 : Nat) : Int):=by
  rw [Int.fdiv_eq_ediv_of_nonneg _ (by decide)]; omega
 have h0 : (0 : Int) <= 1:=by decide
 simp only [binD,h1,h2,h0,if_true]

theorem wrapV {n : Nat} (h : n < 18446744073709551616) : Go.IntKind.u64.wrap (n : Int) = n:=by
 have : Go.IntKind.u64.wrap (n : Int) = (n : Int) % 18446744073709551616:=by
  first | rfl | simp [Go.IntKind.wrap,Go.IntKind.bits,Go.IntKind.signed]
 rw [this]; omega

theorem r117 (l : List Cell) (hl : ∀ (i : Nat) (hi : i + 1 < l.length),ltC l[i] l[i + 1] = true) (hn : l.length <= 1000) {k : Nat} (hk : k < l.length) :
  runP E (dL E) 117 [.imm .none (l.map dCell),dCell l[k],.fn 118 []] = some (.tup [dI k,.bool true]):=by
 refine zb c117 (by simp) ?_
 obtain ⟨c,hc⟩ : ∃ c,c = l[k]:=⟨_,rfl⟩
 rw [<- hc]
 have hcmp : ∀ (i : Nat) (hi : i < l.length),runP E (dL E) 118 [dCell l[i],dCell c] = some (dI (cmpD l[i] c)):=fun i hi=>r118 _ _
 have hlt : ∀ (i : Nat) (hi : i < l.length),(cmpD l[i] c < 0) ↔ i < k:=fun i hi=>by rw [zqs,hc]; exact zmy hl hi hk
 have hz : cmpD l[k] c = 0:=by rw [zle,hc]
 simp only [dCell] at hcmp
 simp [t117,n117]
 refine ⟨fun m env hp=>∃ (x9 x10 x11 : D) (i j : Nat) (h : List Obj),env = [.imm .none (l.map dCell),dCell c,.fn 118 [],.loc 0 0,dI 0,.bool false,dI l.length,dI i,dI j,x9,x10,x11] /\
  hp = .cells (dCell c).cellsL :: h /\ m = j - i /\ i <= k /\ k <= j /\ j <= l.length,l.length,⟨_,_,_,0,l.length,_,rfl,rfl,by omega,by omega,by omega,by omega⟩,?_⟩
 rintro m env hp ⟨x9,x10,x11,i,j,h,rfl,rfl,rfl,hi,hj,hjl⟩
 by_cases hij : i < j
 ·have w1:=z7 (n:=(i : Int) + j) ⟨by omega,by omega⟩
  have w2:=wrapV (n:=i + j) (by omega)
  rw [Int.natCast_add] at w2
  have s1:=shr1 (E:=E) (t:=12) (n:=i + j)
  rw [Int.natCast_add] at s1
  obtain ⟨q,hq⟩ : ∃ q,q = (i + j) / 2:=⟨_,rfl⟩
  rw [<- hq] at s1
  have hql : q < l.length:=by omega
  have w3:=z7 (n:=(q : Int)) ⟨by omega,by omega⟩
  have w4:=z7 (n:=(q : Int) + 1) ⟨by omega,by omega⟩
  have hcq:=hcmp q hql
  have hlq:=hlt q hql
  by_cases hqk : q < k
  ·have hneg:=hlq.2 hqk
   simp [hij,w1,w2,s1,convD,w3,hql,hcq,hneg,w4]
   exact ⟨j - (q + 1),by omega,_,_,_,q + 1,j,⟨by omega,rfl,rfl,rfl,rfl⟩,rfl,by omega,hj,hjl⟩
  ·have hneg : ¬ cmpD l[q] c < 0:=fun h=>hqk (hlq.1 h)
   simp [hij,w1,w2,s1,convD,w3,hql,hcq,hneg,w4]
   exact ⟨q - i,by omega,_,_,_,i,q,⟨rfl,rfl,rfl,rfl,rfl⟩,rfl,hi,by omega,by omega⟩
 ·have e1 : i = k:=by omega
  have e2 : j = k:=by omega
  subst e1 e2
  have hck:=hcmp _ hk
  simp [hk,hck,hz]

theorem r98 (p : Prob) (b : List Int) (g : Int) (m : List (List Int)) (c : Cell) (S : Small p) (ok : OkP p) (hc : c ∈ p.cells) : runP E (dL E) 98 [dWork p b g m,dCell c] = some (dI (atS c p.cells 0)):=by
 refine zb c98 (by simp) ?_
 obtain ⟨k,hk,rfl⟩:=List.getElem_of_mem hc
 have s1:=S.cells
 have h117:=r117 p.cells ok.incr (by omega) hk
 have hat:=zog ok.incr hk
 obtain ⟨c,hcc⟩ : ∃ c,c = p.cells[k]:=⟨_,rfl⟩
 rw [<- hcc] at h117 hat ⊢
 simp only [dCell] at h117
 simp [t98,n98,dWork,h117,hat]

def mu (m : List (List Int)) (leaf : Int) (k : Nat) : Int:=(m.getD leaf.toNat []).getD k 0

def prL (m : List (List Int)) (k : Nat) (pl : Int) : List Int -> Int
 | []=>0
 | leaf :: r=>mu m leaf k * pl + prL m k pl r
def prC (p : Prob) (m : List (List Int)) (leaves : List Int) : List Use -> Int
 | []=>0
 | u :: r=>prL m (atS u.cell p.cells 0).toNat u.places leaves + prC p m leaves r

theorem zq2 {p : Prob} {m : List (List Int)} (M : OkM p m) {leaf : Int} {k : Nat} : 0 <= mu m leaf k /\ mu m leaf k <= 65536:=by
 unfold mu
 by_cases h : leaf.toNat < m.length
 ·have e : m.getD leaf.toNat [] = m[leaf.toNat]:=by rw [List.getD_eq_getElem?_getD,List.getElem?_eq_getElem h,Option.getD_some]
  rw [e]
  rcases zam (r:=m[leaf.toNat]) (a:=k) with h1 | h1
  ·exact (M.rows _ (List.getElem_mem h)).2 _ h1
  ·rw [h1]; omega
 ·have e : m.getD leaf.toNat [] = []:=by rw [List.getD_eq_getElem?_getD,List.getElem?_eq_none (by omega),Option.getD_none]
  rw [e]; simp

theorem mul8 {a n : Int} (h1 : 0 <= a /\ a <= 65536) (h2 : 0 <= n /\ n <= 8) : 0 <= a * n /\ a * n <= 524288:=
 ⟨Int.mul_nonneg h1.1 h2.1,by have:=Int.mul_le_mul h1.2 h2.2 h2.1 (by omega); omega⟩

theorem zjo {p : Prob} {m : List (List Int)} (M : OkM p m) {k : Nat} {pl : Int} (hp : 0 <= pl /\ pl <= 8) : ∀ {l : List Int},0 <= prL m k pl l /\ prL m k pl l <= 524288 * l.length
 | []=>by simp [prL]
 | leaf :: r=>by
  have h1:=zjo M hp (k:=k) (l:=r)
  have h2:=mul8 (zq2 M (leaf:=leaf) (k:=k)) hp
  simp only [prL,List.length_cons]; omega
theorem zf3 {p : Prob} {m : List (List Int)} (M : OkM p m) {leaves : List Int} (hl : leaves.length <= 8) : ∀ {us : List Use},(∀ u,u ∈ us -> 0 <= u.places /\ u.places <= 8) -> 0 <= prC p m leaves us /\ prC p m leaves us <= 4194304 * us.length
 | [],_=>by simp [prC]
 | u :: r,h=>by
  have h1:=zf3 M hl (us:=r) fun v hv=>h v (by simp [hv])
  have h2:=zjo M (h u (by simp)) (k:=(atS u.cell p.cells 0).toNat) (l:=leaves)
  simp only [prC,List.length_cons]; omega

theorem zru {p : Prob} {m : List (List Int)} (M : OkM p m) {leaf k : Nat} (hl : leaf < p.capacity.length) (hk : k < p.cells.length) :
  ∃ (h1 : leaf < m.length) (h2 : k < m[leaf].length),m[leaf][k] = mu m leaf k:=by
 have h1 : leaf < m.length:=by rw [M.len]; exact hl
 have h2 : k < m[leaf].length:=by rw [(M.rows _ (List.getElem_mem h1)).1]; exact hk
 refine ⟨h1,h2,?_⟩
 unfold mu
 rw [Int.toNat_natCast,List.getD_eq_getElem?_getD (l:=m),List.getElem?_eq_getElem h1,Option.getD_some,List.getD_eq_getElem?_getD,List.getElem?_eq_getElem h2,Option.getD_some]

def cntB (b : List Int) (g : Int) (i k : Nat) (c : Choice) : Bool:=decide (c.delay <= g) && (decide (b.length <= i) || decide (b.getD i 0 = (k : Int)))

def candL (b : List Int) (g : Int) (i : Nat) : Nat -> List Choice -> List (Nat × Choice)
 | _,[]=>[]
 | k,c :: cs=>(if cntB b g i k c then [(k,c)] else []) ++ candL b g i (k + 1) cs

def stepK (f : Choice -> Int) (s : Option ((Nat × Choice) × Int)) (x : Nat × Choice) : Option ((Nat × Choice) × Int):=match s with
 | none=>some (x,f x.2)
 | some (y,n)=>if f x.2 < n then some (x,f x.2) else some (y,n)

def bestK (f : Choice -> Int) (l : List (Nat × Choice)) : Option ((Nat × Choice) × Int):=l.foldl (stepK f) none

def costOf (p : Prob) (m : List (List Int)) (v : Var) (q : Int) (c : Choice) : Int:=q * c.cost * v.leaves.length + prC p m v.leaves c.uses

theorem zla {p : Prob} {m : List (List Int)} {v : Var} (M : OkM p m) (hv : OkVar p v) (hl8 : v.leaves.length <= 8) (hu : ∀ c,c ∈ v.choices -> c.uses.length <= 12) {q : Int} (hq : q = 0 \/ q = 1) {c : Choice} (hc : c ∈ v.choices) :
  0 <= costOf p m v q c /\ costOf p m v q c <= 60000000 /\ 0 <= q * c.cost * v.leaves.length /\ q * c.cost * v.leaves.length <= 8388608:=by
 have okc:=hv.choices c hc
 have h1:=zf3 M hl8 (us:=c.uses) fun u hu=>(okc.uses u hu).places |> fun h=>by unfold wi at h; omega
 have h2:=hu c hc
 have h3:=okc.cost
 unfold wi at h3
 have h4:=z6r h3.1 h3.2 (n:=(v.leaves.length : Int)) (by omega) (by omega)
 unfold costOf
 rcases hq with rfl | rfl
 ·simp only [Int.zero_mul]; omega
 ·simp only [Int.one_mul]; omega

def leastOf (s : Option ((Nat × Choice) × Int)) : Int:=match s with
 | none=>0
 | some (_,n)=>n

def dotR : List Int -> List Int -> Int
 | x :: xs,y :: ys=>x * y + dotR xs ys
 | _,_=>0
def dotL : List (List Int) -> List (List Int) -> Int
 | a :: as,b :: bs=>dotR a b + dotL as bs
 | _,_=>0

def sumV (p : Prob) (b : List Int) (g : Int) (m : List (List Int)) (q : Int) : Nat -> List Var -> Option Int
 | _,[]=>some 0
 | i,v :: vs=>match bestK (costOf p m v q) (candL b g i 0 v.choices) with
  | none=>none
  | some (_,n)=>(sumV p b g m q (i + 1) vs).map (n + ·)

def sumD (p : Prob) (b : List Int) (g : Int) (m : List (List Int)) (q : Int) : Option Int:=(sumV p b g m q 0 p.vars).map (-(dotL m p.capacity) + ·)

theorem mulC {a n : Int} (h1 : 0 <= a /\ a <= 65536) (h2 : 0 <= n /\ n <= 4096) : 0 <= a * n /\ a * n <= 268435456:=
 ⟨Int.mul_nonneg h1.1 h2.1,by have:=Int.mul_le_mul h1.2 h2.2 h2.1 (by omega); omega⟩
theorem ze7 : ∀ {a b : List Int},(∀ x,x ∈ a -> 0 <= x /\ x <= 65536) -> (∀ x,x ∈ b -> 0 <= x /\ x <= 4096) -> 0 <= dotR a b /\ dotR a b <= 268435456 * a.length
 | [],_,_,_=>by simp [dotR]
 | _ :: _,[],_,_=>by simp only [dotR]; omega
 | x :: a,y :: b,h1,h2=>by
  have h3:=ze7 (a:=a) (b:=b) (fun z hz=>h1 z (by simp [hz])) (fun z hz=>h2 z (by simp [hz]))
  have h4:=mulC (h1 x (by simp)) (h2 y (by simp))
  simp only [dotR,List.length_cons]; omega
theorem ze8 : ∀ {a b : List (List Int)},(∀ l,l ∈ a -> l.length <= 12 /\ ∀ x,x ∈ l -> 0 <= x /\ x <= 65536) -> (∀ l,l ∈ b -> ∀ x,x ∈ l -> 0 <= x /\ x <= 4096) -> 0 <= dotL a b /\ dotL a b <= 3221225472 * a.length
 | [],_,_,_=>by simp [dotL]
 | _ :: _,[],_,_=>by simp only [dotL]; omega
 | x :: a,y :: b,h1,h2=>by
  have h3:=ze8 (a:=a) (b:=b) (fun z hz=>h1 z (by simp [hz])) (fun z hz=>h2 z (by simp [hz]))
  have h5:=h1 x (by simp)
  have h4:=ze7 (a:=x) (b:=y) h5.2 (h2 y (by simp))
  simp only [dotL,List.length_cons]; omega

theorem zch {f : Choice -> Int} : ∀ {l : List (Nat × Choice)} {s : Option ((Nat × Choice) × Int)} {x : Nat × Choice} {n : Int},(∀ y k,s = some (y,k) -> k = f y.2) -> l.foldl (stepK f) s = some (x,n) -> n = f x.2 /\ (x ∈ l \/ s = some (x,n))
 | [],s,x,n,hs,h=>by
  simp only [List.foldl_nil] at h
  exact ⟨hs _ _ h,.inr h⟩
 | z :: l,s,x,n,hs,h=>by
  rw [List.foldl_cons] at h
  have hs2 : ∀ y k,stepK f s z = some (y,k) -> k = f y.2:=by
   intro y k hy
   cases s with
   | none=>simp only [stepK,Option.some.injEq,Prod.mk.injEq] at hy; obtain ⟨rfl,rfl⟩:=hy; rfl
   | some t=>
    obtain ⟨t,tn⟩:=t
    simp only [stepK] at hy
    split at hy
    ·simp only [Option.some.injEq,Prod.mk.injEq] at hy; obtain ⟨rfl,rfl⟩:=hy; rfl
    ·simp only [Option.some.injEq,Prod.mk.injEq] at hy; obtain ⟨rfl,rfl⟩:=hy; exact hs _ _ rfl
  obtain ⟨h1,h2⟩:=zch (l:=l) hs2 h
  refine ⟨h1,?_⟩
  rcases h2 with h2 | h2
  ·exact .inl (by simp [h2])
  ·cases s with
   | none=>simp only [stepK,Option.some.injEq,Prod.mk.injEq] at h2; exact .inl (by rw [h2.1]; simp)
   | some t=>
    obtain ⟨t,tn⟩:=t
    simp only [stepK] at h2
    split at h2
    ·simp only [Option.some.injEq,Prod.mk.injEq] at h2; exact .inl (by rw [h2.1]; simp)
    ·exact .inr h2
theorem zax {b : List Int} {g : Int} {i : Nat} : ∀ {cs : List Choice} {k : Nat} {x : Nat × Choice},x ∈ candL b g i k cs -> x.2 ∈ cs /\ k <= x.1 /\ cs[x.1 - k]? = some x.2 /\ cntB b g i x.1 x.2 = true
 | [],_,_,h=>by simp [candL] at h
 | c :: cs,k,x,h=>by
  simp only [candL,List.mem_append] at h
  rcases h with h | h
  ·by_cases hc : cntB b g i k c = true
   ·rw [if_pos hc] at h
    simp only [List.mem_singleton] at h
    subst h
    exact ⟨by simp,Nat.le_refl _,by simp,hc⟩
   ·rw [if_neg hc] at h; cases h
  ·obtain ⟨h1,h2,h3,h4⟩:=zax h
   refine ⟨by simp [h1],by omega,?_,h4⟩
   have e : x.1 - k = (x.1 - (k + 1)) + 1:=by omega
   rw [e,List.getElem?_cons_succ]; exact h3
theorem zlt {f : Choice -> Int} {b : List Int} {g : Int} {i : Nat} {cs : List Choice} {x : Nat × Choice} {n : Int} (h : bestK f (candL b g i 0 cs) = some (x,n)) : n = f x.2 /\ x.2 ∈ cs /\ cs[x.1]? = some x.2 /\ cntB b g i x.1 x.2 = true:=by
 obtain ⟨h1,h2⟩:=zch (fun y k h=>by cases h) h
 rcases h2 with h2 | h2
 ·obtain ⟨a1,a2,a3,a4⟩:=zax h2
  exact ⟨h1,a1,by simpa using a3,a4⟩
 ·cases h2

def resS : Option Int -> D
 | none=>.tup [dI 0,.bool false]
 | some n=>.tup [dI n,.bool true]

open Classical in
noncomputable def resDB (p : Prob) (b : List Int) (g : Int) (m : List (List Int)) : D:=if dk p b m = 0 then (match sumD p b g m 1 with
 | none=>.tup [dI 0,.bool false,dI 0]
 | some n=>.tup [dI n,.bool true,dI 0]) else .tup [dI 0,.bool false,dI (dk p b m)]
def provD : Option Int -> Bool
 | none=>true
 | some n=>decide (0 < n)
open Classical in
noncomputable def resDP (p : Prob) (b : List Int) (g : Int) (m : List (List Int)) : D:=if dk p b m = 0 then .tup [.bool (provD (sumD p b g m 0)),dI 0] else .tup [.bool false,dI (dk p b m)]

theorem zql {p : Prob} {b : List Int} {m : List (List Int)} (h : dk p b m = 0) : OkP p /\ OkM p m /\ OkB p b:=by
 unfold dk at h
 by_cases h0 : OkP p
 ·rw [if_pos h0] at h
  by_cases h1 : OkM p m /\ OkB p b
  ·exact ⟨h0,h1⟩
  ·rw [if_neg h1] at h; simp at h
 ·rw [if_neg h0] at h; simp at h

end Dv

namespace Dv

def cntU (p : Prob) (n : Nat) : List Use -> Int
 | []=>0
 | u :: l=>(if (atS u.cell p.cells 0).toNat = n then u.places else 0) + cntU p n l
theorem zcg {p : Prob} : ∀ {l : List Use} {r : List Int} {k : Int},(∀ u,u ∈ l -> 0 <= u.places /\ u.places <= 8) -> 0 <= k -> (∀ x,x ∈ r -> 0 <= x /\ x <= k) -> k + 8 * l.length <= 1000000 ->
  ∀ n,n < r.length -> (l.foldl (addU p) r).getD n 0 = r.getD n 0 + cntU p n l
 | [],r,k,_,_,hr,_,n,hn=>by simp [cntU]
 | u :: l,r,k,hu,hk,hr,hb,n,hn=>by
  simp only [List.length_cons] at hb ⊢
  rw [List.foldl_cons]
  have hu1:=hu u (by simp)
  have h1 : 0 <= r.getD (atS u.cell p.cells 0).toNat 0 /\ r.getD (atS u.cell p.cells 0).toNat 0 <= k:=by
   rcases zam (r:=r) (a:=(atS u.cell p.cells 0).toNat) with h | h
   ·exact hr _ h
   ·rw [h]; omega
  have:=zcg (p:=p) (l:=l) (r:=addU p r u) (k:=k + 8) (fun v hv=>hu v (by simp [hv])) (by omega) (fun y hy=>by
   unfold addU at hy
   rcases List.mem_or_eq_of_mem_set hy with h | h
   ·have:=hr y h; omega
   ·rw [h,zix ⟨by omega,by omega⟩]; omega) (by omega) n (by rw [zay]; exact hn)
  rw [this]
  unfold addU
  rw [zix ⟨by omega,by omega⟩]
  simp only [cntU]
  by_cases e : (atS u.cell p.cells 0).toNat = n
  ·rw [if_pos e]
   subst e
   rw [List.getD_eq_getElem?_getD,List.getD_eq_getElem?_getD,List.getElem?_set_self hn,Option.getD_some,List.getElem?_eq_getElem hn,Option.getD_some]; omega
  ·rw [if_neg e,List.getD_eq_getElem?_getD (l:=List.set _ _ _),List.getElem?_set_ne e,<- List.getD_eq_getElem?_getD]; omega

theorem zqm {p : Prob} (S : Small p) (ok : OkP p) {b : List Int} {leaf : Int} {n : Nat} (hn : n < p.cells.length) : (dem p b leaf).getD n 0 = cntU p n (usesIn p.vars b leaf):=by
 have h1:=z5x (leaf:=leaf) (vs:=p.vars) (b:=b) S.uses
 have s3:=S.vars
 have:=zcg (p:=p) (l:=usesIn p.vars b leaf) (r:=List.replicate p.cells.length 0) (k:=0) (fun u hu=>(z59 ok.vars u hu).places |> fun h=>by unfold wi at h; omega) (by omega)
  (fun y hy=>by rw [(List.mem_replicate.1 hy).2]; omega) (by omega) n (by simpa using hn)
 unfold dem
 rw [this]
 simp [List.getD_eq_getElem?_getD,List.getElem?_replicate,hn]

def other (p : Prob) (vs : List Var) : Prob:={ p with vars:=vs }

end Dv

namespace Dv

def smI : Nat -> (Nat -> Int) -> Int
 | 0,_=>0
 | n + 1,f=>f 0 + smI n (fun i=>f (i + 1))
theorem za1 : ∀ {n : Nat} {f g : Nat -> Int},smI n (fun i=>f i + g i) = smI n f + smI n g
 | 0,_,_=>by simp [smI]
 | n + 1,f,g=>by
  have:=za1 (n:=n) (f:=fun i=>f (i + 1)) (g:=fun i=>g (i + 1))
  simp only [smI]; omega
theorem zbl : ∀ {n : Nat} {f g : Nat -> Int},(∀ i,i < n -> f i <= g i) -> smI n f <= smI n g
 | 0,_,_,_=>by simp [smI]
 | n + 1,f,g,h=>by
  have h1:=zbl (n:=n) (f:=fun i=>f (i + 1)) (g:=fun i=>g (i + 1)) fun i hi=>h (i + 1) (by omega)
  have h2:=h 0 (by omega)
  simp only [smI]; omega
theorem zbm {n : Nat} {f g : Nat -> Int} (h : ∀ i,i < n -> f i = g i) : smI n f = smI n g:=
 Int.le_antisymm (zbl fun i hi=>by rw [h i hi]; omega) (zbl fun i hi=>by rw [h i hi]; omega)
theorem z4i : ∀ {n : Nat},smI n (fun _=>0) = 0
 | 0=>rfl
 | n + 1=>by simp only [smI,z4i]; omega
theorem zd8 : ∀ {n a : Nat} {v : Int},a < n -> smI n (fun i=>if i = a then v else 0) = v
 | 0,_,_,h=>by omega
 | n + 1,0,v,_=>by
  have : smI n (fun i=>if i + 1 = 0 then v else 0) = 0:=(zbm fun i _=>by simp).trans z4i
  simp only [smI,if_true,this]; omega
 | n + 1,a + 1,v,h=>by
  have h1:=zd8 (n:=n) (a:=a) (v:=v) (by omega)
  have : smI n (fun i=>if i + 1 = a + 1 then v else 0) = v:=(zbm fun i _=>by simp).trans h1
  simp only [smI,this]
  have h0 : ¬ (0 = a + 1):=by omega
  rw [if_neg h0]; omega

def sL (f : Int -> Int) : List Int -> Int
 | []=>0
 | a :: l=>f a + sL f l
theorem zos {f g : Int -> Int} : ∀ {l : List Int},sL (fun a=>f a + g a) l = sL f l + sL g l
 | []=>by simp [sL]
 | a :: l=>by simp only [sL,zos]; omega
theorem zjg : ∀ {l : List Int},sL (fun _=>0) l = 0
 | []=>rfl
 | a :: l=>by simp only [sL,zjg]; omega

theorem zjd {f : Int -> Int} {n : Nat} : ∀ {l : List Int},l.Nodup -> (∀ a,a ∈ l -> 0 <= a /\ a < n) -> smI n (fun i=>if l.contains (i : Int) then f i else 0) = sL f l
 | [],_,_=>by simp [sL,z4i]
 | a :: l,hd,hb=>by
  rw [List.nodup_cons] at hd
  have h1:=zjd (f:=f) (n:=n) hd.2 fun x hx=>hb x (by simp [hx])
  have h2:=hb a (by simp)
  obtain ⟨k,rfl⟩ : ∃ k : Nat,a = k:=⟨a.toNat,by omega⟩
  have h3:=zd8 (n:=n) (a:=k) (v:=f k) (by omega)
  simp only [sL]
  rw [<- h1,<- h3,<- za1]
  refine zbm fun i _=>?_
  by_cases e : i = k
  ·subst e
   have : ¬ l.contains (i : Int) = true:=by simpa using hd.1
   simp [this,hd.1]
  ·have e' : ¬ ((i : Int) = (k : Int)):=by omega
   simp [e,e']

def rowP (p : Prob) (m : List (List Int)) (leaf : Int) : List Use -> Int
 | []=>0
 | u :: r=>mu m leaf (atS u.cell p.cells 0).toNat * u.places + rowP p m leaf r
theorem zey {p : Prob} {m : List (List Int)} {leaf : Int} : ∀ {a b : List Use},rowP p m leaf (a ++ b) = rowP p m leaf a + rowP p m leaf b
 | [],b=>by simp [rowP]
 | u :: a,b=>by simp only [List.cons_append,rowP,zey]; omega
theorem zjn {m : List (List Int)} {k : Nat} {pl : Int} : ∀ {l : List Int},prL m k pl l = sL (fun a=>mu m a k * pl) l
 | []=>rfl
 | a :: l=>by simp only [prL,sL,zjn]
theorem zjp {p : Prob} {m : List (List Int)} {l : List Int} : ∀ {us : List Use},prC p m l us = sL (fun a=>rowP p m a us) l
 | []=>by simp [prC,rowP,zjg]
 | u :: us=>by simp only [prC,rowP,zjn,zjp,<- zos]

theorem zho {l : List Int} (h : ∀ (i : Nat) (h : i + 1 < l.length),l[i] < l[i + 1]) : l.Nodup:=by
 have key : ∀ (d i : Nat) (hi : i + d + 1 < l.length),l[i]'(by omega) < l[i + d + 1]:=by
  intro d
  induction d with
  | zero=>intro i hi; exact h i hi
  | succ d ih=>intro i hi; exact Int.lt_trans (ih i (by omega)) (h (i + d + 1) hi)
 rw [List.nodup_iff_pairwise_ne,List.pairwise_iff_getElem]
 intro i j hi hj hij e
 have:=key (j - i - 1) i (by omega)
 have e2 : i + (j - i - 1) + 1 = j:=by omega
 simp only [e2] at this
 omega

def prA (p : Prob) (m : List (List Int)) : List Var -> List Int -> Int
 | v :: vs,n :: ns=>prC p m v.leaves (usesAt v n) + prA p m vs ns
 | _,_=>0
theorem zjq {p : Prob} {m : List (List Int)} : ∀ {vs : List Var} {xs : List Int},(∀ v,v ∈ vs -> OkVar p v) -> prA p m vs xs = smI p.capacity.length (fun i=>rowP p m i (usesIn vs xs i))
 | [],xs,_=>by
  have : ∀ (i : Int),usesIn [] xs i = []:=fun i=>by cases xs <;> rfl
  simp only [this,rowP,z4i,prA]
 | v :: vs,[],_=>by simp only [usesIn,rowP,z4i,prA]
 | v :: vs,n :: ns,h=>by
  have h1:=zjq (p:=p) (m:=m) (vs:=vs) (xs:=ns) fun w hw=>h w (by simp [hw])
  have hv:=h v (by simp)
  have h2:=zjd (f:=fun a=>rowP p m a (usesAt v n)) (n:=p.capacity.length) (zho hv.incr) (fun a ha=>by have:=hv.leaves a ha; unfold wi at this; omega)
  simp only [prA]
  rw [h1,zjp,<- h2,<- za1]
  refine zbm fun i _=>?_
  simp only [usesIn,zey]
  by_cases hc : v.leaves.contains (i : Int) = true
  ·rw [if_pos hc,if_pos hc]
  ·rw [if_neg hc,if_neg hc]; simp [rowP]

theorem zex {p : Prob} {m : List (List Int)} {leaf : Int} : ∀ {us : List Use},(∀ u,u ∈ us -> u.cell ∈ p.cells) -> rowP p m leaf us = smI p.cells.length (fun n=>mu m leaf n * cntU p n us)
 | [],_=>by simp [rowP,cntU,z4i]
 | u :: us,h=>by
  have h1:=zex (p:=p) (m:=m) (leaf:=leaf) (us:=us) fun w hw=>h w (by simp [hw])
  have h2:=zgb (i:=0) (h u (by simp))
  have h3:=zd8 (n:=p.cells.length) (a:=(atS u.cell p.cells 0).toNat) (v:=mu m leaf (atS u.cell p.cells 0).toNat * u.places) (by omega)
  simp only [rowP]
  rw [h1,<- h3,<- za1]
  refine zbm fun i _=>?_
  simp only [cntU,Int.mul_add]
  by_cases e : i = (atS u.cell p.cells 0).toNat
  ·rw [if_pos e,if_pos e.symm,e]
  ·rw [if_neg e,if_neg (Ne.symm e)]; simp

theorem zg1 : ∀ {a b : List Int} {n : Nat},a.length = n -> b.length = n -> dotR a b = smI n (fun i=>a.getD i 0 * b.getD i 0)
 | [],b,n,h,_=>by simp at h; subst h; simp [dotR,smI]
 | x :: a,[],n,h,h'=>by simp at h h'; omega
 | x :: a,y :: b,0,h,_=>by simp at h
 | x :: a,y :: b,n + 1,h,h'=>by
  have:=zg1 (a:=a) (b:=b) (n:=n) (by simpa using h) (by simpa using h')
  simp only [dotR,smI,this,List.getD_cons_zero,List.getD_cons_succ]
theorem zg2 : ∀ {a b : List (List Int)} {n : Nat},a.length = n -> b.length = n -> dotL a b = smI n (fun i=>dotR (a.getD i []) (b.getD i []))
 | [],b,n,h,_=>by simp at h; subst h; simp [dotL,smI]
 | x :: a,[],n,h,h'=>by simp at h h'; omega
 | x :: a,y :: b,0,h,_=>by simp at h
 | x :: a,y :: b,n + 1,h,h'=>by
  have:=zg2 (a:=a) (b:=b) (n:=n) (by simpa using h) (by simpa using h')
  simp only [dotL,smI,this,List.getD_cons_zero,List.getD_cons_succ]

theorem zf7 : ∀ {d c : List Int},d.length = c.length -> ovR d c = 0 -> ∀ n,d.getD n 0 <= c.getD n 0
 | [],[],_,_,n=>by simp
 | [],_ :: _,h,_,_=>by simp at h
 | _ :: _,[],h,_,_=>by simp at h
 | d :: ds,c :: cs,h,h0,n=>by
  simp only [ovR] at h0
  have h1:=z7z (d:=ds) (c:=cs)
  have h2:=mx0 (a:=d - c)
  cases n with
  | zero=>
   have : mx (d - c) 0 = 0:=by omega
   unfold mx at this
   simp only [List.getD_cons_zero]
   split at this <;> omega
  | succ n=>
   simp only [List.getD_cons_succ]
   exact zf7 (by simpa using h) (by omega) n
theorem zf9 {p : Prob} {x : List Int} : ∀ {cs : List (List Int)} {k : Nat},(∀ l,l ∈ cs -> l.length = p.cells.length) -> ovL p x k cs = 0 -> ∀ i,i < cs.length -> ∀ n,(dem p x ((k + i : Nat) : Int)).getD n 0 <= (cs.getD i []).getD n 0
 | [],_,_,_,i,hi=>by simp at hi
 | c :: cs,k,hl,h0,i,hi=>by
  simp only [ovL] at h0
  have h1:=z7z (d:=dem p x k) (c:=c)
  have h2:=za8 (p:=p) (b:=x) (cs:=cs) (k:=k + 1)
  cases i with
  | zero=>
   simp only [List.getD_cons_zero,Nat.add_zero]
   exact zf7 (by rw [hl c (by simp)]; simp [dem,z30]) (by omega)
  | succ i=>
   have:=zf9 (x:=x) (cs:=cs) (k:=k + 1) (fun l h=>hl l (by simp [h])) (by omega) i (by simpa using hi)
   intro n
   simp only [List.getD_cons_succ]
   have e : k + (i + 1) = k + 1 + i:=by omega
   rw [e]
   exact this n

theorem zrq {p : Prob} {m : List (List Int)} (S : Small p) (ok : OkP p) (M : OkM p m) {x : List Int} (h0 : ov p x = 0) : prA p m p.vars x <= dotL m p.capacity:=by
 rw [zjq ok.vars,zg2 M.len rfl]
 refine zbl fun i hi=>?_
 have him : i < m.length:=by rw [M.len]; exact hi
 have e1 : m.getD i [] = m[i]:=by rw [List.getD_eq_getElem?_getD,List.getElem?_eq_getElem him,Option.getD_some]
 have e2 : p.capacity.getD i [] = p.capacity[i]:=by rw [List.getD_eq_getElem?_getD,List.getElem?_eq_getElem hi,Option.getD_some]
 have l1:=(M.rows _ (List.getElem_mem him)).1
 have l2:=(ok.cap _ (List.getElem_mem hi)).1
 have hle:=zf9 (p:=p) (x:=x) (cs:=p.capacity) (k:=0) (fun l hl=>(ok.cap l hl).1) h0 i hi
 rw [e1,e2,zex (fun u hu=>(z59 ok.vars u hu).known),zg1 l1 l2]
 refine zbl fun n hn=>?_
 have h1:=hle n
 rw [Nat.zero_add,zqm S ok hn,e2] at h1
 have h2:=(zq2 M (leaf:=i) (k:=n)).1
 have h3 : mu m i n = m[i].getD n 0:=by unfold mu; rw [Int.toNat_natCast,e1]
 rw [h3] at h2 ⊢
 exact Int.mul_le_mul_of_nonneg_left h1 h2

end Dv

namespace Dv
attribute [local simp] List.replicate depth dCell dUse dInts dChoice dVar dProb tStart addO Ret
attribute [local congr] z1h z1l z12 zr zn z14 zm


theorem zfu {f : Choice -> Int} : ∀ {l : List (Nat × Choice)} {s : Option ((Nat × Choice) × Int)} {k : Int},((∃ y n,s = some (y,n) /\ n <= k) \/ ∃ x,x ∈ l /\ f x.2 = k) -> ∃ y n,l.foldl (stepK f) s = some (y,n) /\ n <= k
 | [],s,k,h=>by
  rcases h with h | ⟨x,hx,_⟩
  ·simpa using h
  ·cases hx
 | z :: l,s,k,h=>by
  rw [List.foldl_cons]
  refine zfu (l:=l) (k:=k) ?_
  rcases h with ⟨y,n,rfl,hn⟩ | ⟨x,hx,he⟩
  ·refine .inl ?_
   simp only [stepK]
   split
   ·exact ⟨_,_,rfl,by omega⟩
   ·exact ⟨_,_,rfl,hn⟩
  ·rcases List.mem_cons.1 hx with rfl | hx
   ·refine .inl ?_
    cases s with
    | none=>exact ⟨_,_,rfl,by omega⟩
    | some t=>
     obtain ⟨t,tn⟩:=t
     simp only [stepK]
     split
     ·exact ⟨_,_,rfl,by omega⟩
     ·exact ⟨_,_,rfl,by omega⟩
   ·exact .inr ⟨x,hx,he⟩

theorem zll {b : List Int} {g : Int} {i : Nat} : ∀ {cs : List Choice} {k0 k : Nat} {c : Choice},cs[k]? = some c -> cntB b g i (k0 + k) c = true -> (k0 + k,c) ∈ candL b g i k0 cs
 | [],_,_,_,h,_=>by simp at h
 | d :: cs,k0,0,c,h,hc=>by
  simp only [List.getElem?_cons_zero,Option.some.injEq] at h
  subst h
  simp only [Nat.add_zero] at hc ⊢
  simp [candL,hc]
 | d :: cs,k0,k + 1,c,h,hc=>by
  rw [List.getElem?_cons_succ] at h
  have e : k0 + (k + 1) = k0 + 1 + k:=by omega
  rw [e] at hc ⊢
  have:=zll h hc
  simp only [candL,List.mem_append]
  exact .inr this

def goodX (b : List Int) (g : Int) : Nat -> List Var -> List Int -> Prop
 | i,v :: vs,n :: ns=>(∃ c,v.choices[n.toNat]? = some c /\ cntB b g i n.toNat c = true) /\ goodX b g (i + 1) vs ns
 | _,[],[]=>True
 | _,_,_=>False

theorem zj5 {p : Prob} {b : List Int} {g : Int} {m : List (List Int)} {q : Int} : ∀ {vs : List Var} {xs : List Int} {i : Nat},goodX b g i vs xs -> ∃ N,sumV p b g m q i vs = some N /\ N <= q * sumC (picks vs xs) + prA p m vs xs
 | [],[],_,_=>⟨0,rfl,by simp [picks,sumC,prA]⟩
 | [],_ :: _,_,h=>h.elim
 | _ :: _,[],_,h=>h.elim
 | v :: vs,n :: ns,i,⟨⟨c,h1,h2⟩,h3⟩=>by
  obtain ⟨N,e,hN⟩:=zj5 (p:=p) (m:=m) (q:=q) h3
  have hm:=zll (k0:=0) h1 (by simpa using h2)
  obtain ⟨y,k,e2,hk⟩:=zfu (f:=costOf p m v q) (s:=none) (k:=costOf p m v q c) (.inr ⟨_,hm,rfl⟩)
  have hg : v.choices.getD n.toNat ⟨0,0,0,[]⟩ = c:=by rw [List.getD_eq_getElem?_getD,h1,Option.getD_some]
  refine ⟨k + N,?_,?_⟩
  ·simp only [sumV,bestK,e2,e,Option.map_some]
  ·simp only [picks,List.head?_cons,List.tail_cons,sumC,prA,pick,usesAt,hg]
   unfold costOf at hk
   rw [Int.mul_assoc] at hk
   rw [Int.mul_add]
   omega

theorem zfl {b : List Int} {g : Int} : ∀ {vs : List Var} {xs : List Int} {i : Nat},xs.length = vs.length -> (∀ (j : Nat) (h : j < vs.length) (h' : j < xs.length),∃ c,vs[j].choices[xs[j].toNat]? = some c /\ cntB b g (i + j) xs[j].toNat c = true) -> goodX b g i vs xs
 | [],[],_,_,_=>trivial
 | [],_ :: _,_,h,_=>by simp at h
 | _ :: _,[],_,h,_=>by simp at h
 | v :: vs,n :: ns,i,hl,h=>by
  refine ⟨h 0 (Nat.zero_lt_succ _) (Nat.zero_lt_succ _),zfl (by simpa using hl) fun j hj hj'=>?_⟩
  have:=h (j + 1) (by simpa using hj) (by simpa using hj')
  have e : i + 1 + j = i + (j + 1):=by omega
  rw [e]
  simpa using this

structure Keeps (p : Prob) (b : List Int) (g : Int) (x : List Int) : Prop where
 whole : Whole p x
 none : ov p x = 0
 len : b.length <= x.length
 pre : ∀ (i : Nat) (h : i < b.length) (h' : i < x.length),x[i] = b[i]
 del : ∀ (i : Nat) (h : i < p.vars.length) (h' : i < x.length),(p.vars[i].choices.getD x[i].toNat ⟨0,0,0,[]⟩).delay <= g

theorem weak {p : Prob} {b : List Int} {g : Int} {m : List (List Int)} {q : Int} {x : List Int} (S : Small p) (M : OkM p m) (K : Keeps p b g x) : ∃ n,sumD p b g m q = some n /\ n <= q * sumC (picks p.vars x):=by
 obtain ⟨ok,okx,hl⟩:=K.whole
 have hg : goodX b g 0 p.vars x:=zfl hl fun j hj hj'=>by
  have h1:=okx.each j hj' hj
  unfold wi at h1
  have hlt : x[j].toNat < p.vars[j].choices.length:=by omega
  have h2:=K.del j hj hj'
  rw [List.getD_eq_getElem?_getD,List.getElem?_eq_getElem hlt,Option.getD_some] at h2
  refine ⟨_,List.getElem?_eq_getElem hlt,?_⟩
  unfold cntB
  rw [Nat.zero_add]
  by_cases hb : j < b.length
  ·have h3:=K.pre j hb hj'
   have e : b.getD j 0 = ((x[j].toNat : Nat) : Int):=by rw [List.getD_eq_getElem?_getD,List.getElem?_eq_getElem hb,Option.getD_some,<- h3]; omega
   rw [e]
   simp [h2]
  ·simp [h2,Nat.le_of_not_lt hb]
 obtain ⟨N,e,hN⟩:=zj5 (p:=p) (m:=m) (q:=q) hg
 have h0:=zrq S ok M K.none
 refine ⟨-(dotL m p.capacity) + N,by unfold sumD; rw [e]; rfl,by omega⟩

end Dv
