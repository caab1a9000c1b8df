/- Texts that a proof of this claim uses, joined: Lw.W1, Lw.W2, Lw.W3, Lw.W4, Lw.W5. -/
import Derived.Test.YtkhdnmaebokedaaGreatLwa
import Derived.Test.YtkhdnmaebokedaaGreatTc
set_option linter.all false
set_option maxHeartbeats 16000000
namespace Dv
attribute [simp] zpc wK zrh zpd wR wRp zrg wC zm9 zpt zpv zpu zmk zml zsi zo8 zqx zny zbe zec zi9 zi7 zhy zky znc zhw zhx zkv zng za zms zsf zqr xv_v xv_c zrb zit ziu ziv ziw zp3 zir zp5 zra zm6 zm5 zd1 zd2 zcz zd0 zb1 zim zin zio zij zik zil z9o z9p z9q zb0 zp6 zis bsliceV zm7 buildV zp4 zeroE fillE buildD fillD zp2 zm4 znx znb z8e z8f zao zqe zsj zna z4r z2k z8g zkt zfp zcd z8h zne ze2 zni z7d zo9 znz zo2 zo7 zo1 zo3 zo4 zo5 zo6 zo0 zlr zlq zls zph zpi zn0 zq5 z54 z6o zk5 zhb zhr zkk zhq zi5 ze6 zi3 zeg zj8 zlz zid zmg zoe zia zmd zob zie zmh zof zli zpp zqz zic zmf zod zef zj7 zly zib zme zoc zlj zpq zr0 z6a zmi zct zgk zii zee zj6 zlx zpm zpn zh4 zdh zr4 zsu zsr zoj zm2 zsv zst zss zr3 gOf_t gOf_c gOf_f zq6 zjj zjk zh2 zh1 zbz zhv zn7 zn8 zjw zjv znm zrc zgl zbh zb8 zb2 zgj z6j z5c zb9 za0 zbg zbf zd6 zd7 z8w zad zc5 zc2 zkc zhe zdu zhf zqk zei zow zes z1g z24 z3u zqg zh3 zhc zdx zhk zhi zhl zkg zkh zhj zca zhh zdw zdy zkf zn2 zq9 zq7 zqa zqb zsh zq8 zsg zmt zk1 zac wI zpe zbd zbc zjt zh5 ziq zjz zk0 ty_0 ty_1 ty_2 ty_3 ty_4 ty_6 ty_7 ty_9 ty_10 ty_11 ty_12 ty_13 ty_14 ty_15 ty_16 ty_17 ty_18 ty_19 ty_20 ty_21 ty_22 ty_23 ty_24 ty_25 ty_26 ty_27 ty_28 ty_29 ty_30 ty_31 ty_32 ty_33 ty_35 ty_41 ty_42 ty_43 ty_44 ty_45 ty_47 ty_48 ty_49 ty_50 ty_51 ty_52 ty_53 ty_54 ty_55 ty_56 ty_57 ty_58 ty_59 ty_60 ty_61 ty_62 ty_63 ty_64 zsc zsb zsa zs9 zs8 zs7 zs6 zs5 zs4 zs3 zs2 zs1 zs0 zrz zry zrx zrw zrv
attribute [local simp] List.replicate depth dCell dUse dInts dChoice dVar dProb tStart addO Ret
attribute [local congr] z1h z1l z12 zr zn z14 zm


theorem r67 (n lo hi : Int) : runP E (dL E) 67 [dI n,dI lo,dI hi] = some (.bool (decide (lo <= n /\ n <= hi))):=by
 refine zb c67 (by simp) ?_
 by_cases h : lo <= n <;> simp [t67,n67,h]

theorem r79 (n lo hi : Int) : runP E (dL E) 79 [dI n,dI lo,dI hi] = some (.bool (decide (lo <= n /\ n <= hi))):=by
 refine zb c79 (by simp) ?_
 by_cases h : lo <= n <;> simp [t79,n79,h]

theorem r107 (n : Int) : runP E (dL E) 107 [dI n] = some (.bool false):=by
 refine zb c107 (by simp) ?_
 simp [t107,n107]

def cmpI (a b : Int) : Int:=if a < b then -1 else if b < a then 1 else 0

theorem r74 (a b : Int) : runP E (dL E) 74 [dI a,dI b] = some (dI (cmpI a b)):=by
 refine zb c74 (by simp) ?_
 unfold cmpI
 by_cases h1 : a < b
 ·simp [t74,n74,r107,h1]
 ·by_cases h2 : b < a <;> simp [t74,n74,r107,h1,h2]

def orI : List Int -> Int
 | []=>0
 | x :: r=>if x ≠ 0 then x else orI r

theorem r105 (l : List Int) (hl : l.length <= 1000000) : runP E (dL E) 105 [dInts l] = some (dI (orI l)):=by
 refine zb c105 (by simp) ?_
 simp [t105,n105]
 refine zz l.length (fun i env hp=>∃ c3 c7 c8 : D,env = [dInts l,dI 0,dI 0,c3,dInts l,dI l.length,dI i,c7,c8] /\ orI (l.drop i) = orI l) 0 (Nat.zero_le _) ⟨_,_,_,rfl,rfl⟩ ?_
 rintro i env hp hi ⟨c3,c7,c8,rfl,hm⟩
 by_cases hlt : i < l.length
 ·rw [z9 hlt] at hm
  by_cases h0 : l[i] = 0
  ·simp [orI,h0] at hm
   simp [hlt,h0,z6 hlt (by omega),hm]
  ·simp [orI,h0] at hm
   have h0' : ¬ orI l = 0:=hm ▸ h0
   simp [hlt,hm,h0']
 ·have : i = l.length:=by omega
  subst this
  simp [orI] at hm
  simp [<- hm]

def cmpC (a b : Cell) : Int:=if a.airport ≠ b.airport then (if b.airport then -1 else 1) else orI [cmpI a.index b.index,cmpI a.minute b.minute]

theorem r70 (a b : Cell) : runP E (dL E) 70 [dCell a,dCell b] = some (dI (cmpC a b)):=by
 refine zb c70 (by simp) ?_
 unfold cmpC
 by_cases h : a.airport = b.airport
 ·have h105:=r105 [cmpI a.index b.index,cmpI a.minute b.minute] (by simp)
  simp [t70,n70,h,r74]
  simp at h105
  simp [h105]
 ·cases hb : b.airport <;> simp [t70,n70,h,hb] <;> simp [hb] at h <;> simp [h]

theorem r76 (a b : Use) : runP E (dL E) 76 [dUse a,dUse b] = some (dI (cmpC a.cell b.cell)):=by
 refine zb c76 (by simp) ?_
 have:=r70 a.cell b.cell
 skip
 simp [t76,n76,this]

theorem r72 (n : Int) : runP E (dL E) 72 [dI n] = some (.bool (!decide (0 <= n /\ n <= 4096))):=by
 refine zb c72 (by simp) ?_
 simp [t72,n72,r67]

def ltC (a b : Cell) : Bool:=if a.airport ≠ b.airport then b.airport else if a.index ≠ b.index then decide (a.index < b.index) else decide (a.minute < b.minute)

theorem r81 (a b : Cell) : runP E (dL E) 81 [dCell a,dCell b] = some (.bool (ltC a b)):=by
 refine zb c81 (by simp) ?_
 unfold ltC
 by_cases h : a.airport = b.airport
 ·by_cases h2 : a.index = b.index <;> simp [t81,n81,h,h2]
 ·have h' : (a.airport == b.airport) = false:=by simpa using h
  simp [t81,n81,h]

theorem zae (a b : Cell) : (cmpC a b < 0) = (ltC a b = true):=by
 unfold cmpC ltC
 by_cases h : a.airport = b.airport
 ·by_cases h2 : a.index = b.index
  ·simp only [h,h2,cmpI,orI]
   simp
   (repeat' split) <;> simp_all <;> omega
  ·simp only [h,cmpI,orI]
   simp [h2]
   (repeat' split) <;> simp_all <;> omega
 ·cases hb : b.airport <;> simp [h,hb] <;> simp [hb] at h <;> simp [h]

theorem z4h {n : Nat} (h : n <= 1000000000000) : Go.IntKind.i64.wrap (n : Int) = (n : Int):=z7 ⟨by omega,by omega⟩

def incrB {A : Type} (c : A -> A -> Int) : List A -> Bool
 | a :: b :: r=>decide (c a b < 0) && incrB c (b :: r)
 | _=>true

theorem z88 {A : Type} {c : A -> A -> Int} {l : List A} (h : l.length <= 1) : incrB c l = true:=by
 match l,h with
 | [],_=>rfl
 | [_],_=>rfl

theorem r69 (l : List Cell) (k : Nat) (c : Cell -> Cell -> Int) (hc : ∀ a b,runP E (dL E) k [dCell a,dCell b] = some (dI (c a b))) (hl : l.length <= 1000000) :
  runP E (dL E) 69 [.imm .none (l.map dCell),.fn k []] = some (.bool (incrB c l)):=by
 refine zb c69 (by simp) ?_
 simp [t69,n69]
 refine zz (l.length + 1) (fun i env hp=>∃ c4 c5 : D,env = [.imm .none (l.map dCell),.fn k [],.bool false,dI i,c4,c5] /\ ∃ j,i = j + 1 /\ incrB c (l.drop j) = incrB c l) 1 (by omega) ⟨_,_,rfl,0,rfl,rfl⟩ ?_
 rintro i env hp hi ⟨c4,c5,rfl,j,rfl,hm⟩
 by_cases hlt : j + 1 < l.length
 ·have hj : j < l.length:=by omega
  rw [z9 hj,z9 hlt] at hm
  have hk:=hc l[j] l[j + 1]
  have hlt' : (j : Int) + 1 < l.length:=by omega
  have hnn : (0 : Int) <= (j : Int) + 1:=by omega
  by_cases h0 : c l[j] l[j + 1] < 0
  ·simp [incrB,h0] at hm
   have h0' : ¬ 0 <= c l[j] l[j + 1]:=by omega
   simp [hlt,hlt',hj,hnn,z4h (n:=j) (by omega),z7 (n:=(j : Int) + 1) ⟨by omega,by omega⟩,z7 (n:=(j : Int) + 1 + 1) ⟨by omega,by omega⟩,hk,h0',hm]
  ·simp [incrB,h0] at hm
   have h0' : 0 <= c l[j] l[j + 1]:=by omega
   simp [hlt,hlt',hj,hnn,z4h (n:=j) (by omega),z7 (n:=(j : Int) + 1) ⟨by omega,by omega⟩,hk,h0',hm]
 ·have he : incrB c (l.drop j) = true:=z88 (by simp; omega)
  have hlt' : ¬ (j : Int) + 1 < l.length:=by omega
  rw [he] at hm
  simp [hlt,hlt',<- hm]

theorem r73 (l : List Int) (k : Nat) (c : Int -> Int -> Int) (hc : ∀ a b,runP E (dL E) k [dI a,dI b] = some (dI (c a b))) (hl : l.length <= 1000000) :
  runP E (dL E) 73 [.imm .none (l.map dI),.fn k []] = some (.bool (incrB c l)):=by
 refine zb c73 (by simp) ?_
 simp [t73,n73]
 refine zz (l.length + 1) (fun i env hp=>∃ c4 c5 : D,env = [.imm .none (l.map dI),.fn k [],.bool false,dI i,c4,c5] /\ ∃ j,i = j + 1 /\ incrB c (l.drop j) = incrB c l) 1 (by omega) ⟨_,_,rfl,0,rfl,rfl⟩ ?_
 rintro i env hp hi ⟨c4,c5,rfl,j,rfl,hm⟩
 by_cases hlt : j + 1 < l.length
 ·have hj : j < l.length:=by omega
  rw [z9 hj,z9 hlt] at hm
  have hk:=hc l[j] l[j + 1]
  have hlt' : (j : Int) + 1 < l.length:=by omega
  have hnn : (0 : Int) <= (j : Int) + 1:=by omega
  by_cases h0 : c l[j] l[j + 1] < 0
  ·simp [incrB,h0] at hm
   have h0' : ¬ 0 <= c l[j] l[j + 1]:=by omega
   simp [hlt,hlt',hj,hnn,z4h (n:=j) (by omega),z7 (n:=(j : Int) + 1) ⟨by omega,by omega⟩,z7 (n:=(j : Int) + 1 + 1) ⟨by omega,by omega⟩,hk,h0',hm]
  ·simp [incrB,h0] at hm
   have h0' : 0 <= c l[j] l[j + 1]:=by omega
   simp [hlt,hlt',hj,hnn,z4h (n:=j) (by omega),z7 (n:=(j : Int) + 1) ⟨by omega,by omega⟩,hk,h0',hm]
 ·have he : incrB c (l.drop j) = true:=z88 (by simp; omega)
  have hlt' : ¬ (j : Int) + 1 < l.length:=by omega
  rw [he] at hm
  simp [hlt,hlt',<- hm]

theorem r75 (l : List Use) (k : Nat) (c : Use -> Use -> Int) (hc : ∀ a b,runP E (dL E) k [dUse a,dUse b] = some (dI (c a b))) (hl : l.length <= 1000000) :
  runP E (dL E) 75 [.imm .none (l.map dUse),.fn k []] = some (.bool (incrB c l)):=by
 refine zb c75 (by simp) ?_
 simp [t75,n75]
 refine zz (l.length + 1) (fun i env hp=>∃ c4 c5 : D,env = [.imm .none (l.map dUse),.fn k [],.bool false,dI i,c4,c5] /\ ∃ j,i = j + 1 /\ incrB c (l.drop j) = incrB c l) 1 (by omega) ⟨_,_,rfl,0,rfl,rfl⟩ ?_
 rintro i env hp hi ⟨c4,c5,rfl,j,rfl,hm⟩
 by_cases hlt : j + 1 < l.length
 ·have hj : j < l.length:=by omega
  rw [z9 hj,z9 hlt] at hm
  have hk:=hc l[j] l[j + 1]
  have hlt' : (j : Int) + 1 < l.length:=by omega
  have hnn : (0 : Int) <= (j : Int) + 1:=by omega
  by_cases h0 : c l[j] l[j + 1] < 0
  ·simp [incrB,h0] at hm
   have h0' : ¬ 0 <= c l[j] l[j + 1]:=by omega
   simp [hlt,hlt',hj,hnn,z4h (n:=j) (by omega),z7 (n:=(j : Int) + 1) ⟨by omega,by omega⟩,z7 (n:=(j : Int) + 1 + 1) ⟨by omega,by omega⟩,hk,h0',hm]
  ·simp [incrB,h0] at hm
   have h0' : 0 <= c l[j] l[j + 1]:=by omega
   simp [hlt,hlt',hj,hnn,z4h (n:=j) (by omega),z7 (n:=(j : Int) + 1) ⟨by omega,by omega⟩,hk,h0',hm]
 ·have he : incrB c (l.drop j) = true:=z88 (by simp; omega)
  have hlt' : ¬ (j : Int) + 1 < l.length:=by omega
  rw [he] at hm
  simp [hlt,hlt',<- hm]

def idxI {A : Type} (f : A -> Bool) : List A -> Nat -> Int
 | [],_=>-1
 | x :: r,i=>if f x then i else idxI f r (i + 1)

theorem z79 {A : Type} {f : A -> Bool} : ∀ {l : List A} {i : Nat},decide (0 <= idxI f l i) = l.any f
 | [],i=>rfl
 | x :: r,i=>by
  simp only [idxI,List.any_cons]
  by_cases h : f x = true
  ·simp [h]
  ·have h2:=z79 (f:=f) (l:=r) (i:=i + 1)
   simp at h
   simpa [h] using h2

theorem r106 (l : List Int) (k : Nat) (f : Int -> Bool) (hf : ∀ x,runP E (dL E) k [dI x] = some (.bool (f x))) (hl : l.length <= 1000000) :
  runP E (dL E) 106 [dInts l,.fn k []] = some (dI (idxI f l 0)):=by
 refine zb c106 (by simp) ?_
 simp [t106,n106]
 refine zz l.length (fun i env hp=>∃ c3 c6 c7 : D,env = [dInts l,.fn k [],dI 0,c3,dI l.length,dI i,c6,c7] /\ idxI f (l.drop i) i = idxI f l 0) 0 (by omega) ⟨_,_,_,rfl,rfl⟩ ?_
 rintro i env hp hi ⟨c3,c6,c7,rfl,hm⟩
 by_cases hlt : i < l.length
 ·rw [z9 hlt] at hm
  have hk:=hf l[i]
  cases h0 : f l[i] with
  | true=>
   simp [idxI,h0] at hm
   simp [hlt,hk,h0,<- hm]
  | false=>
   simp [idxI,h0] at hm
   simp [hlt,hk,h0,z6 hlt (by omega),hm]
 ·have : i = l.length:=by omega
  subst this
  simp [idxI] at hm
  simp [<- hm]

theorem r71 (l : List Int) (k : Nat) (f : Int -> Bool) (hf : ∀ x,runP E (dL E) k [dI x] = some (.bool (f x))) (hl : l.length <= 1000000) :
  runP E (dL E) 71 [dInts l,.fn k []] = some (.bool (l.any f)):=by
 refine zb c71 (by simp) ?_
 simp [t71,n71,r106 l k f hf hl,z79]

def atS (c : Cell) : List Cell -> Nat -> Int
 | [],_=>-1
 | x :: l,i=>if x = c then i else atS c l (i + 1)

theorem r109 (l : List Cell) (c : Cell) (hl : l.length <= 1000000) : runP E (dL E) 109 [.imm .none (l.map dCell),dCell c] = some (dI (atS c l 0)):=by
 refine zb c109 (by simp) ?_
 simp [t109,n109]
 refine zz l.length (fun i env hp=>∃ (c5 c6 : D) (h : List Obj),env = [.imm .none (l.map dCell),dCell c,.loc 0 0,dI 0,dI i,c5,c6] /\ hp = .cells (dCell c).cellsL :: h /\ atS c (l.drop i) i = atS c l 0) 0 (by omega) ⟨_,_,_,rfl,rfl,rfl⟩ ?_
 rintro i env hp hi ⟨c5,c6,h,rfl,rfl,hm⟩
 by_cases hlt : i < l.length
 ·rw [z9 hlt] at hm
  have hiff : (l[i].airport = c.airport /\ l[i].index = c.index /\ l[i].minute = c.minute) ↔ l[i] = c:=by
   cases l[i]; cases c; simp
  by_cases h0 : l[i] = c
  ·simp [atS,h0] at hm
   simp [hlt,kindsL,eqL,atomEq,h0,<- hm]
  ·simp [atS,h0] at hm
   have h0':=fun hh=>h0 (hiff.1 hh)
   have h0b : (l[i].airport == c.airport && (l[i].index == c.index && l[i].minute == c.minute)) = false:=by simpa using h0'
   simp [hlt,kindsL,eqL,atomEq,h0b,z6 hlt (by omega),hm]
 ·have : i = l.length:=by omega
  subst this
  simp [atS] at hm
  simp [<- hm]

theorem zg {A : Type} {h r : List A} {x : A} : (h ++ x :: r)[h.length]? = some x:=by simp
theorem zy {A : Type} {h r : List A} {x y : A} : (h ++ x :: r).set h.length y = h ++ y :: r:=by simp

def manyL : List Var -> Int -> Int -> Int
 | [],_,n=>n
 | v :: r,lim,n=>if n < lim then manyL r lim (n * (if 1 < (v.choices.length : Int) then v.choices.length else 1)) else n

def manyP (p : Prob) (lim : Int) : Int:=if lim < manyL p.vars lim 1 then lim else manyL p.vars lim 1

theorem r61 (p : Prob) (lim : Int) (h8 : ∀ v,v ∈ p.vars -> v.choices.length <= 8) (hl : lim <= 2000) (hv : p.vars.length <= 6) :
  runP E (dL E) 61 [dProb p,dI lim] = some (dI (manyP p lim)):=by
 refine zb c61 (by simp) ?_
 unfold manyP
 simp [t61,n61]
 refine zz p.vars.length (fun i env hp=>∃ (n : Int) (c : D),env = [dProb p,dI lim,.loc 0 0,dI 0,dI n,dI i,c] /\ hp = [.cells (dProb p).cellsL] /\ 0 <= n /\ n <= 16000 /\ manyL (p.vars.drop i) lim n = manyL p.vars lim 1) 0 (Nat.zero_le _) ⟨1,.undef,rfl,rfl,by omega,by omega,rfl⟩ ?_
 rintro i env hp hi ⟨n,c,rfl,rfl,h0,h1,hm⟩
 by_cases hlt : i < p.vars.length
 ·rw [z9 hlt] at hm
  have hc8 : p.vars[i].choices.length <= 8:=h8 _ (List.getElem_mem hlt)
  by_cases hn : n < lim
  ·simp only [manyL,if_pos hn] at hm
   have hb : n * p.vars[i].choices.length <= 2000 * 8:=by
    have:=Int.mul_le_mul_of_nonneg_left (show (p.vars[i].choices.length : Int) <= 8 by omega) h0
    omega
   have hb0 : 0 <= n * p.vars[i].choices.length:=Int.mul_nonneg h0 (by omega)
   by_cases h1' : 1 < (p.vars[i].choices.length : Int)
   ·rw [if_pos h1'] at hm
    simp [hlt,hn,h1',z6 hlt (by omega),z7 (n:=n * p.vars[i].choices.length) ⟨by omega,by omega⟩]
    exact ⟨hb0,hb,hm⟩
   ·rw [if_neg h1'] at hm
    have hn1 : n * 1 = n:=Int.mul_one n
    simp only [Int.natCast_one,hn1] at hm
    simp [hlt,hn,h1',z6 hlt (by omega),z7 (n:=n) ⟨by omega,by omega⟩]
    exact ⟨h0,h1,hm⟩
  ·simp only [manyL,if_neg hn] at hm
   simp [hlt,hn]
   subst hm
   split <;> simp [*]
 ·have : i = p.vars.length:=by omega
  subst this
  simp [manyL] at hm
  subst hm
  simp

def fewV (v : Var) : Bool:=decide (v.leaves.length <= 8) && decide (v.choices.length <= 8) && v.choices.all fun c=>decide (c.uses.length <= 12)

def fewB (p : Prob) : Bool:=decide (p.cells.length <= 12) && decide (p.capacity.length <= 4) && decide (p.vars.length <= 6) && (p.capacity.all fun l=>decide (l.length <= 16)) && p.vars.all fewV && decide (manyP p 2000 < 2000)

theorem r2 (p : Prob) : runP E (dL E) 2 [dProb p] = some (.bool (fewB p)):=by
 refine zb c2 (by simp) ?_
 unfold fewB
 simp [t2,n2]
 by_cases h1' : (12 : Int) < p.cells.length
 ·have h1 : ¬ p.cells.length <= 12:=by omega
  simp [h1,h1']
 by_cases h2' : (4 : Int) < p.capacity.length
 ·have h2 : ¬ p.capacity.length <= 4:=by omega
  simp [h1',h2,h2']
 by_cases h3' : (6 : Int) < p.vars.length
 ·have h3 : ¬ p.vars.length <= 6:=by omega
  simp [h1',h2',h3,h3']
 have h1 : p.cells.length <= 12:=by omega
 have h2 : p.capacity.length <= 4:=by omega
 have h3 : p.vars.length <= 6:=by omega
 simp [h1,h1',h2,h2',h3,h3']
 refine zz p.capacity.length (fun i env hp=>∃ x4 x5 x6 x7 x8 x9 x10 x11 x12 x13 x14 : D,env = [dProb p,.loc 0 0,.bool false,dI i,x4,x5,x6,x7,x8,x9,x10,x11,x12,x13,x14] /\ hp = [.cells (dProb p).cellsL] /\
  ((p.capacity.drop i).all fun l=>decide (l.length <= 16)) = (p.capacity.all fun l=>decide (l.length <= 16))) 0 (by omega) ⟨_,_,_,_,_,_,_,_,_,_,_,rfl,rfl,rfl⟩ ?_
 rintro i env hp hi ⟨x4,x5,x6,x7,x8,x9,x10,x11,x12,x13,x14,rfl,rfl,hm⟩
 by_cases hlt : i < p.capacity.length
 ·rw [z9 hlt,List.all_cons] at hm
  by_cases h4 : p.capacity[i].length <= 16
  ·have h4' : ¬ (16 : Int) < p.capacity[i].length:=by omega
   simp only [h4,decide_true,Bool.true_and] at hm
   simp [hlt,h4',z6 hlt (by omega),hm]
  ·have h4' : (16 : Int) < p.capacity[i].length:=by omega
   simp only [h4,decide_false,Bool.false_and] at hm
   simp [hlt,h4',<- hm]
 have : i = p.capacity.length:=by omega
 subst this
 simp only [List.drop_length,List.all_nil] at hm
 simp [<- hm]
 refine zz p.vars.length (fun i env hp=>∃ (x3 x5 x6 x7 x8 x9 x10 x11 x12 x13 x14 : D) (h : List Obj),env = [dProb p,.loc 0 0,.bool false,x3,dI i,x5,x6,x7,x8,x9,x10,x11,x12,x13,x14] /\ hp = .cells (dProb p).cellsL :: h /\
  (p.vars.drop i).all fewV = p.vars.all fewV /\ ∀ j (hj : j < p.vars.length),j < i -> fewV p.vars[j] = true) 0 (by omega) ⟨_,_,_,_,_,_,_,_,_,_,_,_,rfl,rfl,rfl,fun j _ hj=>by omega⟩ ?_
 rintro i env hp hi ⟨x3,x5,x6,x7,x8,x9,x10,x11,x12,x13,x14,h,rfl,rfl,hv,hall⟩
 by_cases hlt : i < p.vars.length
 ·rw [z9 hlt,List.all_cons] at hv
  simp [hlt,zg,zy]
  by_cases g1' : (8 : Int) < p.vars[i].leaves.length
  ·have g1 : ¬ p.vars[i].leaves.length <= 8:=by omega
   simp only [fewV,g1,decide_false,Bool.false_and] at hv
   simp [g1',<- hv]
  by_cases g2' : (8 : Int) < p.vars[i].choices.length
  ·have g2 : ¬ p.vars[i].choices.length <= 8:=by omega
   simp only [fewV,g2,decide_false,Bool.false_and,Bool.and_false] at hv
   simp [g1',g2',<- hv]
  have g1 : p.vars[i].leaves.length <= 8:=by omega
  have g2 : p.vars[i].choices.length <= 8:=by omega
  simp [g1',g2']
  refine zz p.vars[i].choices.length (fun k env hp=>∃ (x3 x7 x8 x9 x10 x11 x12 x13 x14 : D),env = [dProb p,.loc 0 0,.bool false,x3,dI i,.loc (h.length + 1) 0,dI k,x7,x8,x9,x10,x11,x12,x13,x14] /\
   hp = .cells (dProb p).cellsL :: (h ++ [.cells (dVar p.vars[i]).cellsL]) /\
   ((p.vars[i].choices.drop k).all fun c=>decide (c.uses.length <= 12)) = (p.vars[i].choices.all fun c=>decide (c.uses.length <= 12))) 0 (by omega) ⟨_,_,_,_,_,_,_,_,_,rfl,rfl,rfl⟩ ?_
  rintro k env hp hk ⟨x3,x7,x8,x9,x10,x11,x12,x13,x14,rfl,rfl,hc⟩
  by_cases hlt2 : k < p.vars[i].choices.length
  ·rw [z9 hlt2,List.all_cons] at hc
   simp [hlt,hlt2,zg]
   by_cases g3' : (12 : Int) < p.vars[i].choices[k].uses.length
   ·have g3 : ¬ p.vars[i].choices[k].uses.length <= 12:=by omega
    simp only [g3,decide_false,Bool.false_and] at hc
    simp only [fewV,<- hc,Bool.and_false,Bool.false_and] at hv
    simp [g3']
    intro hh
    rw [List.all_eq_true.2 hh] at hv; cases hv
   ·have g3 : p.vars[i].choices[k].uses.length <= 12:=by omega
    simp only [g3,decide_true,Bool.true_and] at hc
    simp [g3',z6 hlt2 (by omega),hc]
  ·have : k = p.vars[i].choices.length:=by omega
   subst this
   simp only [List.drop_length,List.all_nil] at hc
   have hf : fewV p.vars[i] = true:=by simp [fewV,g1,g2,<- hc]
   rw [hf,Bool.true_and] at hv
   simp [zg,z6 hlt (by omega),hlt,hv]
   intro j hj hj'
   rcases Nat.lt_succ_iff_lt_or_eq.1 hj' with h' | rfl
   ·exact hall j hj h'
   ·exact hf
 ·have : i = p.vars.length:=by omega
  subst this
  simp only [List.drop_length,List.all_nil] at hv
  have h61:=r61 p 2000 (fun v hv=>by
   obtain ⟨j,hj,rfl⟩:=List.getElem_of_mem hv
   have:=hall j hj hj
   simp only [fewV,Bool.and_eq_true,decide_eq_true_eq] at this
   exact this.1.2) (by omega) h3
  simp [<- hv,h61]

section
variable {E : Env} {Q : Ex -> List D -> List Obj -> Prop} {env : List D} {hp : List Obj}

theorem wT_chk {a : TC} (n : Nat) (P : Nat -> Prop) (I : Nat -> List D -> List Obj -> Prop) (h0 : I 0 env hp)
  (good : ∀ i env hp,i < n -> I i env hp -> P i -> (∀ j,j < i -> P j) -> wT E a (fun ex env' hp'=>match ex with
   | .normal=>I (i + 1) env' hp'
   | _=>False) env hp)
  (bad : ∀ i env hp,i < n -> I i env hp -> ¬ P i -> wT E a (fun ex env' hp'=>match ex with
   | .normal=>False
   | ex=>Q ex env' hp') env hp)
  (last : ∀ env hp,I n env hp -> (∀ j,j < n -> P j) -> wT E a (fun ex env' hp'=>match ex with
   | .normal=>False
   | ex=>Q ex env' hp') env hp) : wT E (.loop a) Q env hp:=by
 refine zz n (fun i env hp=>I i env hp /\ ∀ j,j < i -> P j) 0 (Nat.zero_le _) ⟨h0,fun j hj=>by omega⟩ ?_
 rintro i env hp hi ⟨hI,hP⟩
 by_cases hlt : i < n
 ·by_cases hp' : P i
  ·refine z40 ?_ (good i env hp hlt hI hp' hP)
   intro ex env' hp'' h
   cases ex with
   | normal=>
    refine ⟨hlt,h,fun j hj=>?_⟩
    rcases Nat.lt_succ_iff_lt_or_eq.1 hj with h1 | rfl
    ·exact hP j h1
    ·exact hp'
   | exit _=>exact h.elim
   | ret=>exact h.elim
  ·refine z40 ?_ (bad i env hp hlt hI hp')
   intro ex env' hp'' h
   cases ex with
   | normal=>exact h.elim
   | exit _=>exact h
   | ret=>exact h
 ·have : i = n:=by omega
  subst this
  refine z40 ?_ (last env hp hI hP)
  intro ex env' hp'' h
  cases ex with
  | normal=>exact h.elim
  | exit _=>exact h
  | ret=>exact h

theorem zw {a : TC} (n : Nat) (P : Nat -> Prop) (I : Nat -> List D -> List Obj -> Prop) (h0 : I 0 env hp)
  (step : ∀ i env hp,i < n -> I i env hp -> (∀ j,j < i -> P j) -> wT E a (fun ex env' hp'=>match ex with
   | .normal=>P i /\ I (i + 1) env' hp'
   | ex=>Q ex env' hp') env hp)
  (last : ∀ env hp,I n env hp -> (∀ j,j < n -> P j) -> wT E a (fun ex env' hp'=>match ex with
   | .normal=>False
   | ex=>Q ex env' hp') env hp) : wT E (.loop a) Q env hp:=by
 refine zz n (fun i env hp=>I i env hp /\ ∀ j,j < i -> P j) 0 (Nat.zero_le _) ⟨h0,fun j hj=>by omega⟩ ?_
 rintro i env hp hi ⟨hI,hP⟩
 by_cases hlt : i < n
 ·refine z40 ?_ (step i env hp hlt hI hP)
  intro ex env' hp'' h
  cases ex with
  | normal=>
   refine ⟨hlt,h.2,fun j hj=>?_⟩
   rcases Nat.lt_succ_iff_lt_or_eq.1 hj with h1 | rfl
   ·exact hP j h1
   ·exact h.1
  | exit _=>exact h
  | ret=>exact h
 ·have : i = n:=by omega
  subst this
  refine z40 ?_ (last env hp hI hP)
  intro ex env' hp'' h
  cases ex with
  | normal=>exact h.elim
  | exit _=>exact h
  | ret=>exact h
end

theorem z2o {i : Nat} (h0 : 0 < i) (h : i <= 1000000000000) : Go.IntKind.i64.wrap ((i : Int) - 1) = ((i - 1 : Nat) : Int):=by
 rw [z7 ⟨by omega,by omega⟩]; omega

def wi (n lo hi : Int) : Prop:=lo <= n /\ n <= hi
instance {n lo hi : Int} : Decidable (wi n lo hi):=inferInstanceAs (Decidable (_ /\ _))

structure OkUse (p : Prob) (u : Use) : Prop where
 known : u.cell ∈ p.cells
 places : wi u.places 1 8

structure OkChoice (p : Prob) (c : Choice) : Prop where
 delay : wi c.delay 0 1048576
 cost : wi c.cost 0 1048576
 changes : wi c.changes 0 1048576
 uses : ∀ u,u ∈ c.uses -> OkUse p u
 incr : ∀ (i : Nat) (h : i + 1 < c.uses.length),ltC c.uses[i].cell c.uses[i + 1].cell = true

structure OkVar (p : Prob) (v : Var) : Prop where
 some : 1 <= v.leaves.length
 one : 1 <= v.choices.length
 most : v.choices.length <= 96
 leaves : ∀ n,n ∈ v.leaves -> wi n 0 (p.capacity.length - 1)
 incr : ∀ (i : Nat) (h : i + 1 < v.leaves.length),v.leaves[i] < v.leaves[i + 1]
 choices : ∀ c,c ∈ v.choices -> OkChoice p c

theorem zej {c : Cell} : ∀ {l : List Cell} {i : Nat},(atS c l i < 0) ↔ c ∉ l
 | [],i=>by simp [atS]
 | x :: l,i=>by
  unfold atS
  by_cases h : x = c
  ·simp [h]
  ·have h' : ¬ c = x:=fun e=>h e.symm
   simp [h,h',zej (l:=l)]

theorem z1z {A : Type} {l : List A} {P : A -> Prop} : (∀ x,x ∈ l -> P x) ↔ ∀ (i : Nat) (h : i < l.length),P l[i]:=by
 constructor
 ·intro h i hi; exact h _ (List.getElem_mem hi)
 ·intro h x hx
  obtain ⟨i,hi,rfl⟩:=List.getElem_of_mem hx
  exact h i hi

open Classical in
theorem r82 (p : Prob) (v : Var) (hc : p.cells.length <= 12) (hcap : p.capacity.length <= 4) (hl : v.leaves.length <= 8) (hch : v.choices.length <= 8) (hu : ∀ c,c ∈ v.choices -> c.uses.length <= 12) :
  runP E (dL E) 82 [dProb p,dVar v] = some (.bool (decide (OkVar p v))):=by
 refine zb c82 (by simp) ?_
 generalize hB : decide (OkVar p v) = B
 simp [t82,n82]
 by_cases h1 : (v.leaves.length : Int) < 1
 ·have : B = false:=by rw [<- hB]; simp; intro h; have:=h.some; omega
  simp [h1,this]
 by_cases h2 : (v.choices.length : Int) < 1
 ·have : B = false:=by rw [<- hB]; simp; intro h; have:=h.one; omega
  simp [h1,h2,this]
 have h3 : ¬ (96 : Int) < v.choices.length:=by omega
 simp [h1,h2,h3]
 have hBf : ¬ OkVar p v -> B = false:=by intro h; rw [<- hB]; simp [h]
 have hBt : OkVar p v -> B = true:=by intro h; rw [<- hB]; simp [h]
 have hcw:=z7 (n:=(p.capacity.length : Int) - 1) ⟨by omega,by omega⟩
 obtain ⟨P,hP⟩ : ∃ P : Nat -> Prop,P = fun i=>∀ (h : i < v.leaves.length),wi v.leaves[i] 0 (p.capacity.length - 1) /\ (0 < i -> v.leaves[i - 1] < v.leaves[i]):=⟨_,rfl⟩
 refine zw v.leaves.length P
  (fun i env hp=>∃ (x6 x7 x8 x9 x10 x11 x12 x13 x14 x15 x16 x17 x18 : D) (h : List Obj),env = [dProb p,dVar v,.loc 0 0,.loc 1 0,.bool false,dI i,x6,x7,x8,x9,x10,x11,x12,x13,x14,x15,x16,x17,x18] /\ hp = .cells (dProb p).cellsL :: .cells (dVar v).cellsL :: h)
  ⟨_,_,_,_,_,_,_,_,_,_,_,_,_,_,rfl,rfl⟩ ?_ ?_
 ·rintro i env hp hi ⟨x6,x7,x8,x9,x10,x11,x12,x13,x14,x15,x16,x17,x18,h,rfl,rfl⟩ hall
  by_cases hw : wi v.leaves[i] 0 (p.capacity.length - 1)
  ·have hw' : ¬ (v.leaves[i] < 0 \/ (p.capacity.length : Int) - 1 < v.leaves[i]):=by unfold wi at hw; omega
   by_cases h0 : 0 < i
   ·have hi1 : i - 1 < v.leaves.length:=by omega
    by_cases hlt : v.leaves[i - 1] < v.leaves[i]
    ·have hlt' : ¬ v.leaves[i] <= v.leaves[i - 1]:=by omega
     have hPi : P i:=by rw [hP]; exact fun _=>⟨hw,fun _=>hlt⟩
     simp [hi,hi1,h0,r79,hcw,hw',z2o h0 (by omega),hlt',z6 hi (by omega),hPi]
    ·have hB':=hBf (fun ok=>hlt (by
      have:=ok.incr (i - 1) (by omega)
      simpa [show i - 1 + 1 = i from by omega] using this))
     have hlt' : v.leaves[i] <= v.leaves[i - 1]:=by omega
     simp [hi,hi1,h0,r79,hcw,hw',z2o h0 (by omega),hlt',hB']
   ·have hPi : P i:=by rw [hP]; exact fun _=>⟨hw,fun h=>absurd h h0⟩
    simp [hi,h0,r79,hcw,hw',z6 hi (by omega),hPi]
  ·have hw' : (v.leaves[i] < 0 \/ (p.capacity.length : Int) - 1 < v.leaves[i]):=by unfold wi at hw; omega
   have hB':=hBf (fun ok=>hw (ok.leaves _ (List.getElem_mem hi)))
   simp [hi,r79,hcw,hw',hB']
 rintro env hp ⟨x6,x7,x8,x9,x10,x11,x12,x13,x14,x15,x16,x17,x18,h,rfl,rfl⟩ hleaves
 rw [hP] at hleaves
 simp
 clear hP P
 obtain ⟨P,hP⟩ : ∃ P : Nat -> Prop,P = fun i=>∀ (h : i < v.choices.length),OkChoice p v.choices[i]:=⟨_,rfl⟩
 refine zw v.choices.length P
  (fun i env hp=>∃ (x5 x7 x8 x9 x10 x11 x12 x13 x14 x15 x16 x17 x18 : D) (h : List Obj),env = [dProb p,dVar v,.loc 0 0,.loc 1 0,.bool false,x5,dI i,x7,x8,x9,x10,x11,x12,x13,x14,x15,x16,x17,x18] /\ hp = .cells (dProb p).cellsL :: .cells (dVar v).cellsL :: h)
  ⟨_,_,_,_,_,_,_,_,_,_,_,_,_,_,rfl,rfl⟩ ?_ ?_
 ·rintro i env hp hi ⟨x5,x7,x8,x9,x10,x11,x12,x13,x14,x15,x16,x17,x18,h,rfl,rfl⟩ hall
  have hBc : ¬ OkChoice p v.choices[i] -> B = false:=fun hn=>hBf (fun ok=>hn (ok.choices _ (List.getElem_mem hi)))
  simp [hi,zg,zy]
  by_cases hw1 : wi v.choices[i].delay 0 1048576
  rotate_left
  ·have hw' : (v.choices[i].delay < 0 \/ (1048576 : Int) < v.choices[i].delay):=by unfold wi at hw1; omega
   simp [r79,hw',hBc (fun ok=>hw1 ok.delay)]
  have hw1' : ¬ (v.choices[i].delay < 0 \/ (1048576 : Int) < v.choices[i].delay):=by unfold wi at hw1; omega
  by_cases hw2 : wi v.choices[i].cost 0 1048576
  rotate_left
  ·have hw' : (v.choices[i].cost < 0 \/ (1048576 : Int) < v.choices[i].cost):=by unfold wi at hw2; omega
   simp [r79,hw1',hw',hBc (fun ok=>hw2 ok.cost)]
  have hw2' : ¬ (v.choices[i].cost < 0 \/ (1048576 : Int) < v.choices[i].cost):=by unfold wi at hw2; omega
  by_cases hw3 : wi v.choices[i].changes 0 1048576
  rotate_left
  ·have hw' : (v.choices[i].changes < 0 \/ (1048576 : Int) < v.choices[i].changes):=by unfold wi at hw3; omega
   simp [r79,hw1',hw2',hw',hBc (fun ok=>hw3 ok.changes)]
  have hw3' : ¬ (v.choices[i].changes < 0 \/ (1048576 : Int) < v.choices[i].changes):=by unfold wi at hw3; omega
  simp [r79,hw1',hw2',hw3']
  have hul:=hu _ (List.getElem_mem hi)
  obtain ⟨P2,hP2⟩ : ∃ P : Nat -> Prop,P = fun k=>∀ (h : k < v.choices[i].uses.length),OkUse p v.choices[i].uses[k] /\ (0 < k -> ltC v.choices[i].uses[k - 1].cell v.choices[i].uses[k].cell = true):=⟨_,rfl⟩
  refine zw v.choices[i].uses.length P2
   (fun k env hp=>∃ (x5 x9 x10 x11 x12 x13 x14 x15 x16 x17 x18 : D) (h2 : List Obj),env = [dProb p,dVar v,.loc 0 0,.loc 1 0,.bool false,x5,dI i,.loc (h.length + 2) 0,dI k,x9,x10,x11,x12,x13,x14,x15,x16,x17,x18] /\
    hp = .cells (dProb p).cellsL :: .cells (dVar v).cellsL :: (h ++ .cells (dChoice v.choices[i]).cellsL :: h2))
   ⟨_,_,_,_,_,_,_,_,_,_,_,_,rfl,rfl⟩ ?_ ?_
  ·rintro k env hp hk ⟨x5,x9,x10,x11,x12,x13,x14,x15,x16,x17,x18,h2,rfl,rfl⟩ hall2
   have hBu : (¬ OkUse p v.choices[i].uses[k]) -> B = false:=fun hn=>hBc (fun ok=>hn (ok.uses _ (List.getElem_mem hk)))
   have hat:=r109 p.cells v.choices[i].uses[k].cell (by omega)
   simp at hat
   simp [hk,zg,zy,hat]
   by_cases hm : v.choices[i].uses[k].cell ∈ p.cells
   rotate_left
   ·have ha : atS v.choices[i].uses[k].cell p.cells 0 < 0:=zej.2 hm
    simp [ha,hBu (fun ok=>hm ok.known)]
   have ha : ¬ atS v.choices[i].uses[k].cell p.cells 0 < 0:=fun h=>zej.1 h hm
   by_cases hw : wi v.choices[i].uses[k].places 1 8
   rotate_left
   ·have hw' : (v.choices[i].uses[k].places < 1 \/ (8 : Int) < v.choices[i].uses[k].places):=by unfold wi at hw; omega
    simp [ha,r79,hw',hBu (fun ok=>hw ok.places)]
   have hw' : ¬ (v.choices[i].uses[k].places < 1 \/ (8 : Int) < v.choices[i].uses[k].places):=by unfold wi at hw; omega
   have hu1 : OkUse p v.choices[i].uses[k]:=⟨hm,hw⟩
   by_cases h0 : 0 < k
   ·have hk1 : k - 1 < v.choices[i].uses.length:=by omega
    have h81:=r81 v.choices[i].uses[k - 1].cell v.choices[i].uses[k].cell
    simp at h81
    cases hlt : ltC v.choices[i].uses[k - 1].cell v.choices[i].uses[k].cell with
    | true=>
     have hPk : P2 k:=by rw [hP2]; exact fun _=>⟨hu1,fun _=>hlt⟩
     simp [ha,r79,hw',h0,hk,hk1,zg,h81,hlt,z2o h0 (by omega),z6 hk (by omega),hPk]
    | false=>
     have hB':=hBc (fun ok=>by
      have:=ok.incr (k - 1) (by omega)
      simp [show k - 1 + 1 = k from by omega,hlt] at this)
     simp [ha,r79,hw',h0,hk,hk1,zg,h81,hlt,z2o h0 (by omega),hB']
   ·have hPk : P2 k:=by rw [hP2]; exact fun _=>⟨hu1,fun h=>absurd h h0⟩
    simp [ha,r79,hw',h0,hk,zg,z6 hk (by omega),hPk]
  ·rintro env hp ⟨x5,x9,x10,x11,x12,x13,x14,x15,x16,x17,x18,h2,rfl,rfl⟩ hall2
   have hPi : P i:=by
    rw [hP]
    intro _
    rw [hP2] at hall2
    exact ⟨hw1,hw2,hw3,z1z.2 fun k hk=>(hall2 k hk hk).1,fun k hk=>by
     have:=(hall2 (k + 1) hk hk).2 (by omega)
     simpa using this⟩
   simp [zg,z6 hi (by omega),hPi]
 rintro env hp ⟨x5,x7,x8,x9,x10,x11,x12,x13,x14,x15,x16,x17,x18,h,rfl,rfl⟩ hch2
 rw [hP] at hch2
 have : B = true:=hBt ⟨by omega,by omega,by omega,z1z.2 fun i hi=>(hleaves i hi hi).1,fun i hi=>by
  have:=(hleaves (i + 1) hi hi).2 (by omega)
  simpa using this,z1z.2 fun i hi=>hch2 i hi hi⟩
 simp [this]

end Dv
