/- Texts that a proof of this claim uses, joined: Lw.W6, Lw.W7, Lw.W8. -/
import Derived.Test.YtkhdnmaebokedaaGreatWa
set_option linter.all false
set_option maxHeartbeats 16000000
namespace Dv
attribute [local simp] List.replicate depth dCell dUse dInts dChoice dVar dProb tStart addO Ret
attribute [local congr] z1h z1l z12 zr zn z14 zm


structure Small (p : Prob) : Prop where
 cells : p.cells.length <= 12
 cap : p.capacity.length <= 4
 rows : ∀ l,l ∈ p.capacity -> l.length <= 16
 vars : p.vars.length <= 6
 leaves : ∀ v,v ∈ p.vars -> v.leaves.length <= 8
 choices : ∀ v,v ∈ p.vars -> v.choices.length <= 8
 uses : ∀ v,v ∈ p.vars -> ∀ c,c ∈ v.choices -> c.uses.length <= 12

theorem z5r {p : Prob} (h : fewB p = true) : Small p:=by
 simp only [fewB,Bool.and_eq_true,decide_eq_true_eq,List.all_eq_true] at h
 obtain ⟨⟨⟨⟨⟨h1,h2⟩,h3⟩,h4⟩,h5⟩,_⟩:=h
 have h6 : ∀ v,v ∈ p.vars -> v.leaves.length <= 8 /\ v.choices.length <= 8 /\ ∀ c,c ∈ v.choices -> c.uses.length <= 12:=fun v hv=>by
  have:=h5 v hv
  simp only [fewV,Bool.and_eq_true,decide_eq_true_eq,List.all_eq_true] at this
  exact ⟨this.1.1,this.1.2,this.2⟩
 exact ⟨h1,h2,h4,h3,fun v hv=>(h6 v hv).1,fun v hv=>(h6 v hv).2.1,fun v hv=>(h6 v hv).2.2⟩

structure OkP (p : Prob) : Prop where
 some : 1 <= p.capacity.length
 nonneg : ∀ c,c ∈ p.cells -> 0 <= c.index /\ 0 <= c.minute
 incr : ∀ (i : Nat) (h : i + 1 < p.cells.length),ltC p.cells[i] p.cells[i + 1] = true
 cap : ∀ l,l ∈ p.capacity -> l.length = p.cells.length /\ ∀ n,n ∈ l -> wi n 0 4096
 vars : ∀ v,v ∈ p.vars -> OkVar p v

open Classical in
noncomputable def ck (p : Prob) : Int:=if OkP p then 0 else 270

theorem r19 (p : Prob) (S : Small p) : runP E (dL E) 19 [dProb p] = some (dI (ck p)):=by
 refine zb c19 (by simp) ?_
 generalize hB : ck p = B
 have hBf : ¬ OkP p -> B = 270:=by intro h; rw [<- hB]; simp [ck,h]
 have hBt : OkP p -> B = 0:=by intro h; rw [<- hB]; simp [ck,h]
 have s1:=S.cells
 have s2:=S.cap
 have s3:=S.vars
 simp [t19,n19]
 have h1 : ¬ (4096 : Int) < p.cells.length:=by omega
 by_cases h2 : (p.capacity.length : Int) < 1
 ·simp [h1,h2,hBf (fun ok=>by have:=ok.some; omega)]
 have h3 : ¬ (32 : Int) < p.capacity.length:=by omega
 have h4 : ¬ (64 : Int) < p.vars.length:=by omega
 simp [h1,h2,h3,h4]
 obtain ⟨P,hP⟩ : ∃ P : Nat -> Prop,P = fun i=>∀ (h : i < p.cells.length),(0 <= p.cells[i].index /\ 0 <= p.cells[i].minute) /\ (0 < i -> ltC p.cells[i - 1] p.cells[i] = true):=⟨_,rfl⟩
 refine zw p.cells.length P
  (fun i env hp=>∃ (x4 x5 x6 x7 x8 x9 x10 x11 x12 x13 x14 x15 : D) (h : List Obj),env = [dProb p,.loc 0 0,dI 0,dI i,x4,x5,x6,x7,x8,x9,x10,x11,x12,x13,x14,x15] /\ hp = .cells (dProb p).cellsL :: h)
  ⟨_,_,_,_,_,_,_,_,_,_,_,_,_,rfl,rfl⟩ ?_ ?_
 ·rintro i env hp hi ⟨x4,x5,x6,x7,x8,x9,x10,x11,x12,x13,x14,x15,h,rfl,rfl⟩ hall
  have hBc : ¬ (0 <= p.cells[i].index /\ 0 <= p.cells[i].minute) -> B = 270:=fun hn=>hBf (fun ok=>hn (ok.nonneg _ (List.getElem_mem hi)))
  simp [hi]
  by_cases g1 : p.cells[i].index < 0
  ·simp [g1,hBc (by omega)]
  by_cases g2 : p.cells[i].minute < 0
  ·simp [g1,g2,hBc (by omega)]
  by_cases h0 : 0 < i
  ·have hi1 : i - 1 < p.cells.length:=by omega
   have h81:=r81 p.cells[i - 1] p.cells[i]
   simp at h81
   cases hlt : ltC p.cells[i - 1] p.cells[i] with
   | true=>
    have hPi : P i:=by rw [hP]; exact fun _=>⟨⟨by omega,by omega⟩,fun _=>hlt⟩
    simp [hi,hi1,g1,g2,h0,h81,hlt,z2o h0 (by omega),z6 hi (by omega),hPi]
   | false=>
    have hB':=hBf (fun ok=>by
     have:=ok.incr (i - 1) (by omega)
     simp [show i - 1 + 1 = i from by omega,hlt] at this)
    simp [hi,hi1,g1,g2,h0,h81,hlt,z2o h0 (by omega),hB']
  ·have hPi : P i:=by rw [hP]; exact fun _=>⟨⟨by omega,by omega⟩,fun h=>absurd h h0⟩
   simp [g1,g2,h0,z6 hi (by omega),hPi]
 rintro env hp ⟨x4,x5,x6,x7,x8,x9,x10,x11,x12,x13,x14,x15,h,rfl,rfl⟩ hcells
 rw [hP] at hcells
 simp
 clear hP P
 obtain ⟨P,hP⟩ : ∃ P : Nat -> Prop,P = fun i=>∀ (h : i < p.capacity.length),p.capacity[i].length = p.cells.length /\ ∀ n,n ∈ p.capacity[i] -> wi n 0 4096:=⟨_,rfl⟩
 refine zw p.capacity.length P
  (fun i env hp=>∃ (x3 x5 x6 x7 x8 x9 x10 x11 x12 x13 x14 x15 : D) (h : List Obj),env = [dProb p,.loc 0 0,dI 0,x3,dI i,x5,x6,x7,x8,x9,x10,x11,x12,x13,x14,x15] /\ hp = .cells (dProb p).cellsL :: h)
  ⟨_,_,_,_,_,_,_,_,_,_,_,_,_,rfl,rfl⟩ ?_ ?_
 ·rintro i env hp hi ⟨x3,x5,x6,x7,x8,x9,x10,x11,x12,x13,x14,x15,h,rfl,rfl⟩ hall
  have hBc : ¬ (p.capacity[i].length = p.cells.length /\ ∀ n,n ∈ p.capacity[i] -> wi n 0 4096) -> B = 270:=fun hn=>hBf (fun ok=>hn (ok.cap _ (List.getElem_mem hi)))
  simp [hi]
  by_cases g1 : p.capacity[i].length = p.cells.length
  rotate_left
  ·have g1' : ¬ (p.capacity[i].length : Int) = p.cells.length:=by omega
   simp [g1,g1',hBc (fun h=>g1 h.1)]
  simp [g1]
  obtain ⟨P2,hP2⟩ : ∃ P : Nat -> Prop,P = fun k=>∀ (h : k < p.capacity[i].length),wi p.capacity[i][k] 0 4096:=⟨_,rfl⟩
  refine zw p.cells.length P2
   (fun k env hp=>∃ (x3 x6 x7 x8 x9 x10 x11 x12 x13 x14 x15 : D) (h : List Obj),env = [dProb p,.loc 0 0,dI 0,x3,dI i,dI k,x6,x7,x8,x9,x10,x11,x12,x13,x14,x15] /\ hp = .cells (dProb p).cellsL :: h)
   ⟨_,_,_,_,_,_,_,_,_,_,_,_,rfl,rfl⟩ ?_ ?_
  ·rintro k env hp hk ⟨x3,x6,x7,x8,x9,x10,x11,x12,x13,x14,x15,h,rfl,rfl⟩ hall2
   have hk' : k < p.capacity[i].length:=by omega
   by_cases hw : wi p.capacity[i][k] 0 4096
   ·have hw' : ¬ (p.capacity[i][k] < 0 \/ (4096 : Int) < p.capacity[i][k]):=by unfold wi at hw; omega
    have hPk : P2 k:=by rw [hP2]; exact fun _=>hw
    simp [hi,hk,hk',r79,hw',z6 hk (by omega),hPk]
   ·have hw' : (p.capacity[i][k] < 0 \/ (4096 : Int) < p.capacity[i][k]):=by unfold wi at hw; omega
    simp [hi,hk,hk',r79,hw',hBc (fun h=>hw (h.2 _ (List.getElem_mem hk')))]
  ·rintro env hp ⟨x3,x6,x7,x8,x9,x10,x11,x12,x13,x14,x15,h,rfl,rfl⟩ hall2
   rw [hP2] at hall2
   have hPi : P i:=by rw [hP]; exact fun _=>⟨g1,z1z.2 fun k hk=>hall2 k (by omega) hk⟩
   simp [z6 hi (by omega),hPi]
 rintro env hp ⟨x3,x5,x6,x7,x8,x9,x10,x11,x12,x13,x14,x15,h,rfl,rfl⟩ hcap
 rw [hP] at hcap
 simp
 clear hP P
 obtain ⟨P,hP⟩ : ∃ P : Nat -> Prop,P = fun i=>∀ (h : i < p.vars.length),OkVar p p.vars[i]:=⟨_,rfl⟩
 refine zw p.vars.length P
  (fun i env hp=>∃ (x3 x4 x5 x7 x8 x9 x10 x11 x12 x13 x14 x15 : D) (h : List Obj),env = [dProb p,.loc 0 0,dI 0,x3,x4,x5,dI i,x7,x8,x9,x10,x11,x12,x13,x14,x15] /\ hp = .cells (dProb p).cellsL :: h)
  ⟨_,_,_,_,_,_,_,_,_,_,_,_,_,rfl,rfl⟩ ?_ ?_
 ·rintro i env hp hi ⟨x3,x4,x5,x7,x8,x9,x10,x11,x12,x13,x14,x15,h,rfl,rfl⟩ hall
  have hmem:=List.getElem_mem hi
  have h82:=r82 p p.vars[i] s1 s2 (S.leaves _ hmem) (S.choices _ hmem) (S.uses _ hmem)
  simp at h82
  by_cases hv : OkVar p p.vars[i]
  ·have hPi : P i:=by rw [hP]; exact fun _=>hv
   simp [hi,h82,hv,z6 hi (by omega),hPi]
  ·simp [hi,h82,hv,hBf (fun ok=>hv (ok.vars _ hmem))]
 rintro env hp ⟨x3,x4,x5,x7,x8,x9,x10,x11,x12,x13,x14,x15,h,rfl,rfl⟩ hvars
 rw [hP] at hvars
 have : B = 0:=hBt ⟨by omega,z1z.2 fun i hi=>(hcells i hi hi).1,fun i hi=>by
  have:=(hcells (i + 1) hi hi).2 (by omega)
  simpa using this,z1z.2 fun i hi=>hcap i hi hi,z1z.2 fun i hi=>hvars i hi hi⟩
 simp [this]

def kent (c : Cell) : D × D:=(dCell c,.bool true)

theorem zcm {c : Cell} : ∀ {es : List Cell},mapFind (dCell c) (es.map kent) = some (if c ∈ es then some (.bool true) else none)
 | []=>rfl
 | x :: es=>by
  have hq : D.eqb (dCell c) (dCell x) = some (decide (c = x)):=by
   simp [D.eqb,eqL,atomEq]
   cases c; cases x; simp [Bool.beq_eq_decide_eq]
  simp only [List.map_cons,mapFind,kent,hq]
  by_cases h : c = x
  ·simp [h]
  ·simp only [h,decide_false,List.mem_cons,false_or]
   exact zcm

theorem zf0 {c : Cell} : ∀ {es : List Cell},mapPut (dCell c) (.bool true) (es.map kent) = some ((if c ∈ es then es else es ++ [c]).map kent)
 | []=>rfl
 | x :: es=>by
  have hq : D.eqb (dCell c) (dCell x) = some (decide (c = x)):=by
   simp [D.eqb,eqL,atomEq]
   cases c; cases x; simp [Bool.beq_eq_decide_eq]
  simp only [List.map_cons,mapPut,kent,hq]
  by_cases h : c = x
  ·simp [h,kent]
  ·have ih:=zf0 (c:=c) (es:=es)
   simp only [h,decide_false,List.mem_cons,false_or]
   rw [ih]
   by_cases hm : c ∈ es <;> simp [hm,kent]

theorem z2y {A : Type} {c : A -> A -> Int} : ∀ {l : List A},incrB c l = true ↔ ∀ (i : Nat) (h : i + 1 < l.length),c l[i] l[i + 1] < 0
 | []=>⟨fun _ i h=>by simp at h,fun _=>rfl⟩
 | [_]=>⟨fun _ i h=>by simp at h,fun _=>rfl⟩
 | a :: b :: r=>by
  have ih:=z2y (c:=c) (l:=b :: r)
  simp only [incrB,Bool.and_eq_true,decide_eq_true_eq,ih]
  constructor
  ·rintro ⟨h1,h2⟩ i hi
   cases i with
   | zero=>exact h1
   | succ i=>exact h2 i (by simpa using hi)
  ·intro h
   exact ⟨h 0 (by simp),fun i hi=>h (i + 1) (by simpa using hi)⟩

theorem zat {a b : Int} : cmpI a b < 0 ↔ a < b:=by
 unfold cmpI
 (repeat' split) <;> omega

theorem zak {l : List Int} (h : ∀ (i : Nat) (hi : i + 1 < l.length),l[i] < l[i + 1]) : ∀ (j i : Nat) (hj : j < l.length) (hij : i <= j),l[i]'(by omega) <= l[j]
 | 0,i,hj,hij=>by
  have : i = 0:=by omega
  subst this; exact Int.le_refl _
 | j + 1,i,hj,hij=>by
  rcases Nat.lt_succ_iff_lt_or_eq.1 (Nat.lt_succ_of_le hij) with h1 | rfl
  ·have:=zak h j i (by omega) (by omega)
   have:=h j hj
   omega
  ·exact Int.le_refl _

theorem z6e {x lo hi : Int} (h : wi x lo hi) : lo <= x /\ x <= hi /\ ¬ x < lo /\ ¬ hi < x:=by unfold wi at h; omega
theorem z6f {x lo hi : Int} (h : ¬ wi x lo hi) : (x < lo /\ ¬ lo <= x) \/ (hi < x /\ ¬ x <= hi /\ lo <= x /\ ¬ x < lo):=by unfold wi at h; omega

theorem r71w (l : List Int) (hl : l.length <= 1000000) : ∃ q : Bool,(q = true ↔ ¬ ∀ n,n ∈ l -> wi n 0 4096) /\ runP E (dL E) 71 [.imm .none (l.map dI),.fn 72 []] = some (.bool q):=by
 refine ⟨_,?_,r71 l 72 (fun n=>!decide (0 <= n /\ n <= 4096)) r72 hl⟩
 rw [List.any_eq_true]
 constructor
 ·rintro ⟨n,hn,h⟩ hall
  have:=hall n hn
  unfold wi at this
  simp [this] at h
 ·intro h
  refine Classical.byContradiction fun hn=>h fun n hm=>?_
  unfold wi
  refine Classical.byContradiction fun hw=>hn ⟨n,hm,?_⟩
  simp only [hw,decide_false,Bool.not_false]

theorem r15 (p : Prob) (S : Small p) : runP E (dL E) 15 [dProb p] = some (dI (ck p)):=by
 refine zb c15 (by simp) ?_
 generalize hB : ck p = B
 have hBf : ¬ OkP p -> B = 270:=by intro h; rw [<- hB]; simp [ck,h]
 have hBt : OkP p -> B = 0:=by intro h; rw [<- hB]; simp [ck,h]
 have s1:=S.cells
 have s2:=S.cap
 have s3:=S.vars
 have h69:=r69 p.cells 70 cmpC r70 (by omega)
 simp [t15,n15,r67,h69]
 have h1 : ¬ (4096 : Int) < p.cells.length:=by omega
 by_cases h2 : (p.capacity.length : Int) < 1
 ·have h2' : ((p.capacity.length : Int) < 1 \/ (32 : Int) < p.capacity.length):=.inl h2
  simp [h1,h2',hBf (fun ok=>by have:=ok.some; omega)]
 have h2' : ¬ ((p.capacity.length : Int) < 1 \/ (32 : Int) < p.capacity.length):=by omega
 have h4 : ¬ (64 : Int) < p.vars.length:=by omega
 cases hinc : incrB cmpC p.cells with
 | false=>
  simp [h1,h2',h4,hBf (fun ok=>by
   have : incrB cmpC p.cells = true:=z2y.2 fun i hi=>by
    have:=ok.incr i hi
    rw [<- zae] at this; exact this
   rw [hinc] at this; cases this)]
 | true=>
 have hincr:=z2y.1 hinc
 simp [h1,h2',h4]
 obtain ⟨P,hP⟩ : ∃ P : Nat -> Prop,P = fun i=>∀ (h : i < p.cells.length),0 <= p.cells[i].index /\ 0 <= p.cells[i].minute:=⟨_,rfl⟩
 refine zw p.cells.length P
  (fun i env hp=>∃ (x4 x5 x6 x7 x8 x9 x10 x11 x15 x16 x17 x18 x19 x20 x21 x22 x23 x24 x25 x26 x27 x28 x29 x30 x31 x32 x33 x34 x35 x36 x37 x38 x39 x40 : D) (es : List Cell) (h : List Obj),env = [dProb p,.loc 0 0,dI 0,.map (some 1),x4,x5,x6,x7,x8,x9,x10,x11,.imm .none (p.cells.map dCell),dI p.cells.length,dI i,x15,x16,x17,x18,x19,x20,x21,x22,x23,x24,x25,x26,x27,x28,x29,x30,x31,x32,x33,x34,x35,x36,x37,x38,x39,x40] /\ hp = .cells (dProb p).cellsL :: .map (es.map kent) :: h /\ ∀ c,c ∈ es ↔ c ∈ p.cells.take i)
  ⟨_,_,_,_,_,_,_,_,_,_,_,_,_,_,_,_,_,_,_,_,_,_,_,_,_,_,_,_,_,_,_,_,_,_,[],_,rfl,rfl,by simp⟩ ?_ ?_
 ·rintro i env hp hi ⟨x4,x5,x6,x7,x8,x9,x10,x11,x15,x16,x17,x18,x19,x20,x21,x22,x23,x24,x25,x26,x27,x28,x29,x30,x31,x32,x33,x34,x35,x36,x37,x38,x39,x40,es,h,rfl,rfl,hes⟩ hall
  have hBc : ¬ (0 <= p.cells[i].index /\ 0 <= p.cells[i].minute) -> B = 270:=fun hn=>hBf (fun ok=>hn (ok.nonneg _ (List.getElem_mem hi)))
  simp [hi,zg,zy]
  by_cases g1 : p.cells[i].index < 0
  ·simp [g1,hBc (by omega)]
  by_cases g2 : p.cells[i].minute < 0
  ·simp [g1,g2,hBc (by omega)]
  have hPi : P i:=by rw [hP]; exact fun _=>⟨by omega,by omega⟩
  have hput:=zf0 (c:=p.cells[i]) (es:=es)
  simp at hput
  simp [g1,g2,zg,hput,z6 hi (by omega),hPi]
  refine ⟨_,rfl,fun c=>?_⟩
  have hts : p.cells.take (i + 1) = p.cells.take i ++ [p.cells[i]]:=by simp
  rw [hts,List.mem_append,<- hes c]
  by_cases hm : p.cells[i] ∈ es
  ·rw [if_pos hm]
   constructor
   ·exact .inl
   ·rintro (h | h)
    ·exact h
    ·simp at h; rw [h]; exact hm
  ·rw [if_neg hm,List.mem_append]
 rintro env hp ⟨x4,x5,x6,x7,x8,x9,x10,x11,x15,x16,x17,x18,x19,x20,x21,x22,x23,x24,x25,x26,x27,x28,x29,x30,x31,x32,x33,x34,x35,x36,x37,x38,x39,x40,es,h,rfl,rfl,hes⟩ hcells
 rw [hP] at hcells
 rw [List.take_length] at hes
 simp
 clear hP P
 obtain ⟨P,hP⟩ : ∃ P : Nat -> Prop,P = fun i=>∀ (h : i < p.capacity.length),p.capacity[i].length = p.cells.length /\ ∀ n,n ∈ p.capacity[i] -> wi n 0 4096:=⟨_,rfl⟩
 refine zw p.capacity.length P
  (fun i env hp=>∃ (x4 x5 x6 x7 x8 x9 x10 x11 x12 x13 x14 x15 x16 x17 x21 x22 x23 x24 x25 x26 x27 x28 x29 x30 x31 x32 x33 x34 x35 x36 x37 x38 x39 x40 : D) (h : List Obj),env = [dProb p,.loc 0 0,dI 0,.map (some 1),x4,x5,x6,x7,x8,x9,x10,x11,x12,x13,x14,x15,x16,x17,.imm .none (p.capacity.map dInts),dI p.capacity.length,dI i,x21,x22,x23,x24,x25,x26,x27,x28,x29,x30,x31,x32,x33,x34,x35,x36,x37,x38,x39,x40] /\ hp = .cells (dProb p).cellsL :: .map (es.map kent) :: h)
  ⟨_,_,_,_,_,_,_,_,_,_,_,_,_,_,_,_,_,_,_,_,_,_,_,_,_,_,_,_,_,_,_,_,_,_,_,rfl,rfl⟩ ?_ ?_
 ·rintro i env hp hi ⟨x4,x5,x6,x7,x8,x9,x10,x11,x12,x13,x14,x15,x16,x17,x21,x22,x23,x24,x25,x26,x27,x28,x29,x30,x31,x32,x33,x34,x35,x36,x37,x38,x39,x40,h,rfl,rfl⟩ hall
  have hBc : ¬ (p.capacity[i].length = p.cells.length /\ ∀ n,n ∈ p.capacity[i] -> wi n 0 4096) -> B = 270:=fun hn=>hBf (fun ok=>hn (ok.cap _ (List.getElem_mem hi)))
  obtain ⟨q,hq,h71⟩:=r71w p.capacity[i] (by have:=S.rows _ (List.getElem_mem hi); omega)
  simp [hi,h71]
  by_cases g1 : p.capacity[i].length = p.cells.length
  rotate_left
  ·have g1' : ¬ (p.capacity[i].length : Int) = p.cells.length:=by omega
   simp [g1,g1',hBc (fun h=>g1 h.1)]
  simp [g1]
  cases q with
  | false=>
   have g2 : ∀ n,n ∈ p.capacity[i] -> wi n 0 4096:=Classical.byContradiction fun h=>by
    have:=hq.2 h; cases this
   have hPi : P i:=by rw [hP]; exact fun _=>⟨g1,g2⟩
   simp [z6 hi (by omega),hPi]
  | true=>simp [hBc (fun h=>hq.1 rfl h.2)]
 rintro env hp ⟨x4,x5,x6,x7,x8,x9,x10,x11,x12,x13,x14,x15,x16,x17,x21,x22,x23,x24,x25,x26,x27,x28,x29,x30,x31,x32,x33,x34,x35,x36,x37,x38,x39,x40,h,rfl,rfl⟩ hcap
 rw [hP] at hcap
 simp
 clear hP P
 obtain ⟨P,hP⟩ : ∃ P : Nat -> Prop,P = fun i=>∀ (h : i < p.vars.length),OkVar p p.vars[i]:=⟨_,rfl⟩
 refine zw p.vars.length P
  (fun i env hp=>∃ (x4 x5 x6 x7 x8 x9 x10 x11 x12 x13 x14 x15 x16 x17 x18 x19 x20 x21 x22 x26 x27 x28 x29 x30 x31 x32 x33 x34 x35 x36 x37 x38 x39 x40 : D) (h : List Obj),env = [dProb p,.loc 0 0,dI 0,.map (some 1),x4,x5,x6,x7,x8,x9,x10,x11,x12,x13,x14,x15,x16,x17,x18,x19,x20,x21,x22,.imm .none (p.vars.map dVar),dI p.vars.length,dI i,x26,x27,x28,x29,x30,x31,x32,x33,x34,x35,x36,x37,x38,x39,x40] /\ hp = .cells (dProb p).cellsL :: .map (es.map kent) :: h)
  ⟨_,_,_,_,_,_,_,_,_,_,_,_,_,_,_,_,_,_,_,_,_,_,_,_,_,_,_,_,_,_,_,_,_,_,_,rfl,rfl⟩ ?_ ?_
 ·rintro i env hp hi ⟨x4,x5,x6,x7,x8,x9,x10,x11,x12,x13,x14,x15,x16,x17,x18,x19,x20,x21,x22,x26,x27,x28,x29,x30,x31,x32,x33,x34,x35,x36,x37,x38,x39,x40,h,rfl,rfl⟩ hall
  have hmem:=List.getElem_mem hi
  have hBv : ¬ OkVar p p.vars[i] -> B = 270:=fun hn=>hBf (fun ok=>hn (ok.vars _ hmem))
  have l1:=S.leaves _ hmem
  have l2:=S.choices _ hmem
  have h73:=r73 p.vars[i].leaves 74 cmpI r74 (by omega)
  have hcapw:=s2
  simp [hi,zg,zy,r67,h73]
  by_cases g1 : p.vars[i].leaves = []
  ·simp [g1,hBv (fun ok=>by have:=ok.some; rw [g1] at this; simp at this)]
  have g1l : p.vars[i].leaves.length ≠ 0:=fun h=>g1 (List.length_eq_zero_iff.1 h)
  by_cases g2 : (p.vars[i].choices.length : Int) < 1
  ·have g2' : ¬ (1 : Int) <= p.vars[i].choices.length:=by omega
   simp [g1,g2',hBv (fun ok=>by have:=ok.one; omega)]
  have g2' : (1 : Int) <= p.vars[i].choices.length:=by omega
  have g2'' : (p.vars[i].choices.length : Int) <= 96:=by omega
  cases g3 : incrB cmpI p.vars[i].leaves with
  | false=>
   simp [g1,g2',g2'',hBv (fun ok=>by
    have : incrB cmpI p.vars[i].leaves = true:=z2y.2 fun k hk=>zat.2 (ok.incr k hk)
    rw [g3] at this; cases this)]
  | true=>
  have g3':=z2y.1 g3
  have hl0 : 0 < p.vars[i].leaves.length:=by omega
  by_cases g4 : p.vars[i].leaves[0] < 0
  ·simp [g1,g2',g2'',hl0,zg,g4,hBv (fun ok=>by
    have:=ok.leaves _ (List.getElem_mem hl0)
    unfold wi at this; omega)]
  have hl1 : p.vars[i].leaves.length - 1 < p.vars[i].leaves.length:=by omega
  have hwp : Go.IntKind.i64.wrap ((p.vars[i].leaves.length : Int) - 1) = ((p.vars[i].leaves.length - 1 : Nat) : Int):=z2o hl0 (by omega)
  by_cases g5 : (p.capacity.length : Int) <= p.vars[i].leaves[p.vars[i].leaves.length - 1]
  ·simp [g1,g2',g2'',hl0,hl1,zg,g4,g5,hwp,hBv (fun ok=>by
    have:=ok.leaves _ (List.getElem_mem hl1)
    unfold wi at this; omega)]
  simp [g1,g2',g2'',hl0,hl1,zg,g4,g5,hwp]
  have hleaves : ∀ n,n ∈ p.vars[i].leaves -> wi n 0 (p.capacity.length - 1):=z1z.2 fun k hk=>by
   have e : ∀ (k : Nat) (hk : k + 1 < p.vars[i].leaves.length),p.vars[i].leaves[k] < p.vars[i].leaves[k + 1]:=fun k hk=>zat.1 (g3' k hk)
   have e1:=zak e k 0 hk (by omega)
   have e2:=zak e (p.vars[i].leaves.length - 1) k hl1 (by omega)
   unfold wi; omega
  obtain ⟨P2,hP2⟩ : ∃ P : Nat -> Prop,P = fun k=>∀ (h : k < p.vars[i].choices.length),OkChoice p p.vars[i].choices[k]:=⟨_,rfl⟩
  refine zw p.vars[i].choices.length P2
   (fun k env hp=>∃ (x4 x5 x7 x8 x9 x10 x11 x12 x13 x14 x15 x16 x17 x18 x19 x20 x21 x22 x26 x27 x28 x32 x33 x34 x35 x36 x37 x38 x39 x40 : D) (G : List Obj),env = [dProb p,.loc 0 0,dI 0,.map (some 1),x4,x5,.loc (h.length + 2) 0,x7,x8,x9,x10,x11,x12,x13,x14,x15,x16,x17,x18,x19,x20,x21,x22,.imm .none (p.vars.map dVar),dI p.vars.length,dI i,x26,x27,x28,.imm .none (p.vars[i].choices.map dChoice),dI p.vars[i].choices.length,dI k,x32,x33,x34,x35,x36,x37,x38,x39,x40] /\ hp = .cells (dProb p).cellsL :: .map (es.map kent) :: G /\ G[h.length]? = some (.cells (dVar p.vars[i]).cellsL))
   ⟨_,_,_,_,_,_,_,_,_,_,_,_,_,_,_,_,_,_,_,_,_,_,_,_,_,_,_,_,_,_,_,rfl,rfl,zg⟩ ?_ ?_
  ·rintro k env hp hk ⟨x4,x5,x7,x8,x9,x10,x11,x12,x13,x14,x15,x16,x17,x18,x19,x20,x21,x22,x26,x27,x28,x32,x33,x34,x35,x36,x37,x38,x39,x40,G,rfl,rfl,hG⟩ hall2
   have hBc : ¬ OkChoice p p.vars[i].choices[k] -> B = 270:=fun hn=>hBv (fun ok=>hn (ok.choices _ (List.getElem_mem hk)))
   have hmemk:=List.getElem_mem hk
   have l3:=S.uses _ hmem _ hmemk
   have h75:=r75 p.vars[i].choices[k].uses 76 (fun a b=>cmpC a.cell b.cell) r76 (by omega)
   simp [hk,zg,zy,r67,h75]
   by_cases k1 : wi p.vars[i].choices[k].delay 0 1048576
   rotate_left
   ·rcases z6f k1 with ⟨q1,q2⟩ | ⟨q1,q2,q3,q4⟩
    ·simp [q1,q2,hBc (fun ok=>k1 ok.delay)]
    ·simp [q1,q2,q3,q4,hBc (fun ok=>k1 ok.delay)]
   obtain ⟨a1,a2,a3,a4⟩:=z6e k1
   by_cases k2 : wi p.vars[i].choices[k].cost 0 1048576
   rotate_left
   ·rcases z6f k2 with ⟨q1,q2⟩ | ⟨q1,q2,q3,q4⟩
    ·simp [a1,a2,a3,a4,q1,q2,hBc (fun ok=>k2 ok.cost)]
    ·simp [a1,a2,a3,a4,q1,q2,q3,q4,hBc (fun ok=>k2 ok.cost)]
   obtain ⟨b1,b2,b3,b4⟩:=z6e k2
   by_cases k3 : wi p.vars[i].choices[k].changes 0 1048576
   rotate_left
   ·rcases z6f k3 with ⟨q1,q2⟩ | ⟨q1,q2,q3,q4⟩
    ·simp [a1,a2,a3,a4,b1,b2,b3,b4,q1,q2,hBc (fun ok=>k3 ok.changes)]
    ·simp [a1,a2,a3,a4,b1,b2,b3,b4,q1,q2,q3,q4,hBc (fun ok=>k3 ok.changes)]
   obtain ⟨c1,c2,c3,c4⟩:=z6e k3
   cases k4 : incrB (fun a b : Use=>cmpC a.cell b.cell) p.vars[i].choices[k].uses with
   | false=>
    simp [a1,a2,a3,a4,b1,b2,b3,b4,c1,c2,c3,c4,hBc (fun ok=>by
     have : incrB (fun a b : Use=>cmpC a.cell b.cell) p.vars[i].choices[k].uses = true:=z2y.2 fun q hq=>by
      have:=ok.incr q hq
      rw [<- zae] at this; exact this
     rw [k4] at this; cases this)]
   | true=>
   have k4':=z2y.1 k4
   simp [a1,a2,a3,a4,b1,b2,b3,b4,c1,c2,c3,c4,zg]
   obtain ⟨P3,hP3⟩ : ∃ P : Nat -> Prop,P = fun q=>∀ (h : q < p.vars[i].choices[k].uses.length),OkUse p p.vars[i].choices[k].uses[q]:=⟨_,rfl⟩
   have hGa : ∀ r,(G ++ r)[h.length]? = some (.cells (dVar p.vars[i]).cellsL):=fun r=>by
    rw [List.getElem?_append_left (List.getElem?_eq_some_iff.1 hG).1]; exact hG
   refine zw p.vars[i].choices[k].uses.length P3
    (fun q env hp=>∃ (x4 x5 x9 x10 x11 x12 x13 x14 x15 x16 x17 x18 x19 x20 x21 x22 x26 x27 x28 x32 x33 x34 x38 x39 x40 : D) (G2 : List Obj),env = [dProb p,.loc 0 0,dI 0,.map (some 1),x4,x5,.loc (h.length + 2) 0,.loc (G.length + 2) 0,dI 1048576,x9,x10,x11,x12,x13,x14,x15,x16,x17,x18,x19,x20,x21,x22,.imm .none (p.vars.map dVar),dI p.vars.length,dI i,x26,x27,x28,.imm .none (p.vars[i].choices.map dChoice),dI p.vars[i].choices.length,dI k,x32,x33,x34,.imm .none (p.vars[i].choices[k].uses.map dUse),dI p.vars[i].choices[k].uses.length,dI q,x38,x39,x40] /\ hp = .cells (dProb p).cellsL :: .map (es.map kent) :: G2 /\ G2[h.length]? = some (.cells (dVar p.vars[i]).cellsL))
    ⟨_,_,_,_,_,_,_,_,_,_,_,_,_,_,_,_,_,_,_,_,_,_,_,_,_,_,rfl,rfl,hGa _⟩ ?_ ?_
   ·rintro q env hp hq ⟨x4,x5,x9,x10,x11,x12,x13,x14,x15,x16,x17,x18,x19,x20,x21,x22,x26,x27,x28,x32,x33,x34,x38,x39,x40,G2,rfl,rfl,hG2⟩ hall3
    have hGb : ∀ r,(G2 ++ r)[h.length]? = some (.cells (dVar p.vars[i]).cellsL):=fun r=>by
     rw [List.getElem?_append_left (List.getElem?_eq_some_iff.1 hG2).1]; exact hG2
    have hBu : (¬ OkUse p p.vars[i].choices[k].uses[q]) -> B = 270:=fun hn=>hBc (fun ok=>hn (ok.uses _ (List.getElem_mem hq)))
    have hfind:=zcm (c:=p.vars[i].choices[k].uses[q].cell) (es:=es)
    simp at hfind
    simp [hq,zg,zy,r67,hfind]
    by_cases m1 : p.vars[i].choices[k].uses[q].cell ∈ es
    rotate_left
    ·simp [m1,hBu (fun ok=>m1 ((hes _).2 ok.known))]
    by_cases m2 : wi p.vars[i].choices[k].uses[q].places 1 8
    rotate_left
    ·rcases z6f m2 with ⟨q1,q2⟩ | ⟨q1,q2,q3,q4⟩
     ·simp [m1,q1,q2,hBu (fun ok=>m2 ok.places)]
     ·simp [m1,q1,q2,q3,q4,hBu (fun ok=>m2 ok.places)]
    obtain ⟨d1,d2,d3,d4⟩:=z6e m2
    have hPq : P3 q:=by rw [hP3]; exact fun _=>⟨(hes _).1 m1,m2⟩
    simp [m1,d1,d2,d3,d4,z6 hq (by omega),hPq]
    simpa using hGb _
   ·rintro env hp ⟨x4,x5,x9,x10,x11,x12,x13,x14,x15,x16,x17,x18,x19,x20,x21,x22,x26,x27,x28,x32,x33,x34,x38,x39,x40,G2,rfl,rfl,hG2⟩ hall3
    rw [hP3] at hall3
    have hPk : P2 k:=by
     rw [hP2]
     exact fun _=>⟨k1,k2,k3,z1z.2 fun q hq=>hall3 q hq hq,fun q hq=>by
      have:=k4' q hq
      rw [zae] at this; exact this⟩
    simp [z6 hk (by omega),hPk]
    simpa using hG2
  ·rintro env hp ⟨x4,x5,x7,x8,x9,x10,x11,x12,x13,x14,x15,x16,x17,x18,x19,x20,x21,x22,x26,x27,x28,x32,x33,x34,x35,x36,x37,x38,x39,x40,G,rfl,rfl,hG⟩ hall2
   rw [hP2] at hall2
   have hPi : P i:=by
    rw [hP]
    exact fun _=>⟨by omega,by omega,by omega,hleaves,fun k hk=>zat.1 (g3' k hk),z1z.2 fun k hk=>hall2 k hk hk⟩
   simp [z6 hi (by omega),hPi]
 rintro env hp ⟨x4,x5,x6,x7,x8,x9,x10,x11,x12,x13,x14,x15,x16,x17,x18,x19,x20,x21,x22,x26,x27,x28,x29,x30,x31,x32,x33,x34,x35,x36,x37,x38,x39,x40,h,rfl,rfl⟩ hvars
 rw [hP] at hvars
 have : B = 0:=hBt ⟨by omega,z1z.2 fun i hi=>hcells i hi hi,fun i hi=>by
  have:=hincr i hi
  rw [zae] at this; exact this,z1z.2 fun i hi=>hcap i hi hi,z1z.2 fun i hi=>hvars i hi hi⟩
 simp [this]

structure OkB (p : Prob) (b : List Int) : Prop where
 len : b.length <= p.vars.length
 each : ∀ (i : Nat) (h : i < b.length) (h' : i < p.vars.length),wi b[i] 0 (p.vars[i].choices.length - 1)

open Classical in
noncomputable def bk (p : Prob) (b : List Int) (e : Int) : Int:=if OkP p then (if OkB p b then 0 else e) else 270

open Classical in
theorem r78 (p : Prob) (b : List Int) (S : Small p) (hb : b.length <= 20) : runP E (dL E) 78 [dProb p,dInts b] = some (.bool (decide (OkB p b))):=by
 refine zb c78 (by simp) ?_
 generalize hB : decide (OkB p b) = B
 have hBf : ¬ OkB p b -> B = false:=by intro h; rw [<- hB]; simp [h]
 have hBt : OkB p b -> B = true:=by intro h; rw [<- hB]; simp [h]
 have s3:=S.vars
 simp [t78,n78]
 by_cases h1 : p.vars.length < b.length
 ·simp [h1,hBf (fun ok=>by have:=ok.len; omega)]
 have h1' : ¬ p.vars.length < b.length:=h1
 simp [h1']
 obtain ⟨P,hP⟩ : ∃ P : Nat -> Prop,P = fun i=>∀ (h : i < b.length) (h' : i < p.vars.length),wi b[i] 0 (p.vars[i].choices.length - 1):=⟨_,rfl⟩
 refine zw b.length P
  (fun i env hp=>∃ (x5 x6 x7 : D) (h : List Obj),env = [dProb p,dInts b,.loc 0 0,.bool false,dI i,x5,x6,x7] /\ hp = .cells (dProb p).cellsL :: h)
  ⟨_,_,_,_,rfl,rfl⟩ ?_ ?_
 ·rintro i env hp hi ⟨x5,x6,x7,h,rfl,rfl⟩ hall
  have hi' : i < p.vars.length:=by omega
  have l2:=S.choices _ (List.getElem_mem hi')
  have hcw:=z7 (n:=(p.vars[i].choices.length : Int) - 1) ⟨by omega,by omega⟩
  by_cases k1 : wi b[i] 0 (p.vars[i].choices.length - 1)
  ·obtain ⟨a1,a2,a3,a4⟩:=z6e k1
   have hPi : P i:=by rw [hP]; exact fun _ _=>k1
   simp [hi,hi',r79,hcw,a1,a2,a3,a4,z6 hi (by omega),hPi]
  ·have hB':=hBf (fun ok=>k1 (ok.each i hi hi'))
   rcases z6f k1 with ⟨q1,q2⟩ | ⟨q1,q2,q3,q4⟩
   ·simp [hi,hi',r79,hcw,q1,q2,hB']
   ·simp [hi,hi',r79,hcw,q1,q2,q3,q4,hB']
 ·rintro env hp ⟨x5,x6,x7,h,rfl,rfl⟩ hall
  rw [hP] at hall
  simp [hBt ⟨by omega,fun i hi hi'=>hall i hi hi hi'⟩]

theorem r66 (p : Prob) (b : List Int) (S : Small p) (hb : b.length <= 20) : runP E (dL E) 66 [dProb p,dInts b] = some (dI (bk p b 270)):=by
 refine zb c66 (by simp) ?_
 generalize hB : bk p b 270 = B
 have hBf : ¬ (OkP p /\ OkB p b) -> B = 270:=by
  intro h; rw [<- hB]; unfold bk
  by_cases h1 : OkP p
  ·have h2 : ¬ OkB p b:=fun h2=>h ⟨h1,h2⟩
   simp [h1,h2]
  ·simp [h1]
 have hBt : OkP p -> OkB p b -> B = 0:=by intro h h'; rw [<- hB]; simp [bk,h,h']
 have s3:=S.vars
 have h15:=r15 p S
 simp only [dProb] at h15
 simp [t66,n66,h15]
 by_cases h0 : OkP p
 rotate_left
 ·have e : ck p = 270:=by simp [ck,h0]
  simp [e,hBf (fun h=>h0 h.1)]
 have e : ck p = 0:=by simp [ck,h0]
 simp [e]
 by_cases h1 : p.vars.length < b.length
 ·simp [h1,hBf (fun ok=>by have:=ok.2.len; omega)]
 have h1' : ¬ p.vars.length < b.length:=h1
 simp [h1']
 obtain ⟨P,hP⟩ : ∃ P : Nat -> Prop,P = fun i=>∀ (h : i < b.length) (h' : i < p.vars.length),wi b[i] 0 (p.vars[i].choices.length - 1):=⟨_,rfl⟩
 refine zw b.length P
  (fun i env hp=>∃ (x4 x5 x6 x7 x8 x12 x13 : D) (h : List Obj),env = [dProb p,dInts b,.loc 0 0,dI 0,x4,x5,x6,x7,x8,dInts b,dI b.length,dI i,x12,x13] /\ hp = .cells (dProb p).cellsL :: h)
  ⟨_,_,_,_,_,_,_,_,rfl,rfl⟩ ?_ ?_
 ·rintro i env hp hi ⟨x4,x5,x6,x7,x8,x12,x13,h,rfl,rfl⟩ hall
  have hi' : i < p.vars.length:=by omega
  have l2:=S.choices _ (List.getElem_mem hi')
  have hcw:=z7 (n:=(p.vars[i].choices.length : Int) - 1) ⟨by omega,by omega⟩
  by_cases k1 : wi b[i] 0 (p.vars[i].choices.length - 1)
  ·obtain ⟨a1,a2,a3,a4⟩:=z6e k1
   have hPi : P i:=by rw [hP]; exact fun _ _=>k1
   simp [hi,hi',r67,hcw,a1,a2,a3,a4,z6 hi (by omega),hPi]
  ·have hB':=hBf (fun ok=>k1 (ok.2.each i hi hi'))
   rcases z6f k1 with ⟨q1,q2⟩ | ⟨q1,q2,q3,q4⟩
   ·simp [hi,hi',r67,hcw,q1,q2,hB']
   ·simp [hi,hi',r67,hcw,q1,q2,q3,q4,hB']
 ·rintro env hp ⟨x4,x5,x6,x7,x8,x12,x13,h,rfl,rfl⟩ hall
  rw [hP] at hall
  simp [hBt h0 ⟨by omega,fun i hi hi'=>hall i hi hi hi'⟩]

end Dv
