/- Texts that a proof of this claim uses, joined: Lw.W147, Lw.W97, Lw.W98, Lw.W148, Lw.W149, Lw.W150, Lw.W151, Lw.W152, Lw.W153, Lw.W154, Lw.W155, Lw.W170, Lw.W46, Lw.W48, Lw.W173, Lw.W174, Lw.W172, Lw.W171, Lw.W156, Lw.W157, Lw.S31a, Lw.S31, Lw.W175. -/
import Derived.Test.YtkhdnmaebokedaaGreatGb
import Derived.Test.YtkhdnmaebokedaaGreatGa
import Derived.KernelRfl
set_option linter.all false
set_option maxHeartbeats 16000000
namespace Dv
attribute [local simp] List.replicate depth dCell dUse dInts dChoice dVar dProb tStart addO Ret
attribute [local congr] z1h z1l z12 zr zn z14 zm


theorem Keep.le2 {W C C' : Nat} {hp hp' : List Obj} (h : Keep W C hp hp') (hC : C' <= C) : Keep W C' hp hp':=fun J h1 h2 h3=>h J h1 (fun hp j o hj hk=>h2 hp j o hj (by omega)) h3

def fewL (l : Leaf) : Bool:=l.mult.all (fun m=>decide (m.length <= 20)) && (decide (l.branch.length <= 20) && decide (l.mult.length <= 8))
def fewCe (c : Cert) : Bool:=c.leaves.all fewL && ((decide (c.best.length <= 20) && decide (c.value.length <= 20)) && decide (c.leaves.length <= 400))
theorem zqi {l : Leaf} (h : fewL l = true) : SmL l:=by
 simp only [fewL,Bool.and_eq_true,List.all_eq_true,decide_eq_true_eq] at h
 exact ⟨h.2.1,by have:=h.2.2; omega,fun m hm=>by have:=h.1 m hm; omega⟩
theorem zar {c : Cert} (h : fewCe c = true) : SmC c:=by
 simp only [fewCe,Bool.and_eq_true,List.all_eq_true,decide_eq_true_eq] at h
 obtain ⟨h1,⟨h2,h3⟩,h4⟩:=h
 exact ⟨h2,by omega,by omega,fun l hl=>zqi (h1 l hl)⟩

theorem r223 (l : Leaf) (hl : l.mult.length <= 9223372036854775807) : runP E (dL E) 223 [dLeaf l] = some (.bool (fewL l)):=by
 refine zb c223 (by simp) ?_
 simp [t223,n223]
 refine zw l.mult.length (fun i=>∀ h : i < l.mult.length,l.mult[i].length <= 20)
  (fun i env hp=>∃ (x4 x5 : D) ,env = [dLeaf l,.loc 0 0,.bool false,dI i,x4,x5] /\ At hp 0 (.cells (dLeaf l).cellsL))
  ⟨_,_,rfl,rfl⟩ ?_ ?_
 ·rintro i env hp hi ⟨x4,x5,rfl,a1⟩ hall
  by_cases h : l.mult[i].length <= 20
  ·have h' : ¬ (20 : Int) < l.mult[i].length:=by omega
   simp [hi,a1.eq,h,h',z9r hi hl]
   exact a1
  ·have h' : (20 : Int) < l.mult[i].length:=by omega
   have e : fewL l = false:=by
    unfold fewL
    have : (l.mult.all fun m=>decide (m.length <= 20)) = false:=by
     rw [List.all_eq_false]
     exact ⟨_,List.getElem_mem hi,by simpa using h⟩
    rw [this]; rfl
   simp [hi,a1.eq,h',e]
 ·rintro env hp ⟨x4,x5,rfl,a1⟩ hall
  have e : fewL l = (decide (l.branch.length <= 20) && decide (l.mult.length <= 8)):=by
   unfold fewL
   have : (l.mult.all fun m=>decide (m.length <= 20)) = true:=by
    rw [List.all_eq_true]
    intro m hm
    obtain ⟨i,hi,rfl⟩:=List.getElem_of_mem hm
    simpa using hall i hi hi
   rw [this]; rfl
  rw [e]
  by_cases k1 : l.branch.length <= 20
  ·have k1' : (l.branch.length : Int) <= 20:=by omega
   by_cases k2 : l.mult.length <= 8
   ·have k2' : (l.mult.length : Int) <= 8:=by omega
    simp [a1.eq,k1,k1',k2,k2']
   ·have k2' : ¬ (l.mult.length : Int) <= 8:=by omega
    simp [a1.eq,k1,k1',k2,k2']
  ·have k1' : ¬ (l.branch.length : Int) <= 20:=by omega
   simp [a1.eq,k1,k1']

theorem r213 (c : Cert) (hc : c.leaves.length <= 9223372036854775807) (hl : ∀ l,l ∈ c.leaves -> l.mult.length <= 9223372036854775807) : runP E (dL E) 213 [dCert c] = some (.bool (fewCe c)):=by
 refine zb c213 (by simp) ?_
 simp [t213,n213]
 refine zw c.leaves.length (fun i=>∀ h : i < c.leaves.length,fewL c.leaves[i] = true)
  (fun i env hp=>∃ (x4 x5 : D) ,env = [dCert c,.loc 0 0,.bool false,dI i,x4,x5] /\ At hp 0 (.cells (dCert c).cellsL))
  ⟨_,_,rfl,rfl⟩ ?_ ?_
 ·rintro i env hp hi ⟨x4,x5,rfl,a1⟩ hall
  have h223:=r223 c.leaves[i] (hl _ (List.getElem_mem hi))
  simp only [dLeaf,dInts] at h223
  cases h : fewL c.leaves[i] with
  | true=>
   rw [h] at h223
   simp [hi,a1.eq,h223,z9r hi hc,h]
   exact a1
  | false=>
   rw [h] at h223
   have e : fewCe c = false:=by
    unfold fewCe
    have : c.leaves.all fewL = false:=by
     rw [List.all_eq_false]
     exact ⟨_,List.getElem_mem hi,by rw [h]; simp⟩
    rw [this]; rfl
   simp [hi,a1.eq,h223,e]
 ·rintro env hp ⟨x4,x5,rfl,a1⟩ hall
  have e : fewCe c = ((decide (c.best.length <= 20) && decide (c.value.length <= 20)) && decide (c.leaves.length <= 400)):=by
   unfold fewCe
   have : c.leaves.all fewL = true:=by
    rw [List.all_eq_true]
    intro m hm
    obtain ⟨i,hi,rfl⟩:=List.getElem_of_mem hm
    exact hall i hi hi
   rw [this]; rfl
  rw [e]
  by_cases k1 : c.best.length <= 20
  ·have k1' : (c.best.length : Int) <= 20:=by omega
   by_cases k2 : c.value.length <= 20
   ·have k2' : (c.value.length : Int) <= 20:=by omega
    by_cases k3 : c.leaves.length <= 400
    ·have k3' : (c.leaves.length : Int) <= 400:=by omega
     simp [a1.eq,k1,k1',k2,k2',k3,k3']
    ·have k3' : ¬ (c.leaves.length : Int) <= 400:=by omega
     simp [a1.eq,k1,k1',k2,k2',k3,k3']
   ·have k2' : ¬ (c.value.length : Int) <= 20:=by omega
    simp [a1.eq,k1,k1',k2,k2']
  ·have k1' : ¬ (c.best.length : Int) <= 20:=by omega
   simp [a1.eq,k1,k1']

theorem zav {p : Prob} {c : Cert} (h : chkC p c = 0) : Acc p c:=by
 unfold chkC at h
 split at h
 ·split at h
  ·assumption
  ·cases h
 ·cases h
theorem zeo {p : Prob} {c : Cert} (w : Whole p c.best) (h : ¬ Acc p c) : chkC p c = 310:=by simp [chkC,w,h]
theorem z5v {p : Prob} {c : Cert} (S : Small p) (a : Acc p c) : c.best = (solveS p).best:=
 zlg S a.whole.1 a.whole (fun l hl=>⟨a.leaf l hl,a.branch l hl⟩) a.div

theorem z7a {f : D -> Option D} : ∀ {a b : List D},frzL f (a ++ b) = ob (frzL f a) fun x=>ob (frzL f b) fun y=>some (x ++ y)
 | [],b=>by
  simp only [List.nil_append,z4r,za]
  cases frzL f b <;> rfl
 | x :: a,b=>by
  simp only [List.cons_append,z2k,z7a (a:=a) (b:=b)]
  cases f x with
  | none=>rfl
  | some x'=>
   simp only [za]
   cases frzL f a with
   | none=>rfl
   | some a'=>
    simp only [za]
    cases frzL f b <;> rfl

theorem zeu {t e : Nat} (hk : (E.ty t).k = .slice e) {l : List D} (hf : headFits (E.ty e).size l = true) {n : Nat} (h : n <= l.length) : sliceD E t (.imm .none l) (some (.int .i64 (n : Int))) none none = some (.imm .none (l.drop n)):=by
 simp only [sliceD,hk,bnd,Int.toNat_natCast,Option.map_none,sliceSpare,hf]
 have h0 : (0 : Int) <= n:=by omega
 simp only [h0,h,if_true,Nat.le_refl,and_self]
 rw [List.take_of_length_le (by simp)]
theorem za2 {t e : Nat} (hk : (E.ty t).k = .slice e) {l : List D} (hf : headFits (E.ty e).size l = true) {n : Nat} (h : n <= l.length) : sliceD E t (.imm .none l) none (some (.int .i64 (n : Int))) none = some (.imm .none (l.take n)):=by
 simp only [sliceD,hk,bnd,Int.toNat_natCast,Option.map_none,sliceSpare,hf]
 have h0 : (0 : Int) <= n:=by omega
 simp only [h0,h,if_true,Nat.le_refl,and_self,Nat.zero_le,List.drop_zero,Nat.sub_zero]
 by_cases e : n = l.length
 ·simp [e]
 ·simp [e]

theorem tmodM {m k : Nat} : Int.tmod (m : Int) (k : Int) = ((m % k : Nat) : Int):=by
 rw [Int.tmod_eq_emod_of_nonneg (by omega)]; omega
theorem wrapU {n : Nat} (h : n < 18446744073709551616) : Go.IntKind.u64.wrap (n : Int) = n:=by
 have : Go.IntKind.u64.wrap (n : Int) = (n : Int) % 18446744073709551616:=by
  first | rfl | simp [Go.IntKind.wrap,Go.IntKind.bits,Go.IntKind.signed]
 rw [this]; omega

def shortB (ls : List (List Int)) : Bool:=ls.all (fun b=>decide (b.length <= 20)) && decide (ls.length <= 100)
theorem r249 (ls : List (List Int)) (hl : ls.length <= 9223372036854775807) : runP E (dL E) 249 [.imm .none (ls.map dInts)] = some (.bool (shortB ls)):=by
 refine zb c249 (by simp) ?_
 simp [t249,n249]
 refine zw ls.length (fun i=>∀ h : i < ls.length,ls[i].length <= 20)
  (fun i env hp=>∃ (x3 x4 : D) ,env = [.imm .none (ls.map dInts),.bool false,dI i,x3,x4])
  ⟨_,_,rfl⟩ ?_ ?_
 ·rintro i env hp hi ⟨x3,x4,rfl⟩ hall
  by_cases h : ls[i].length <= 20
  ·have h' : ¬ (20 : Int) < ls[i].length:=by omega
   simp [hi,h,h',z9r hi hl]
  ·have h' : (20 : Int) < ls[i].length:=by omega
   have e : shortB ls = false:=by
    unfold shortB
    have : (ls.all fun b=>decide (b.length <= 20)) = false:=by
     rw [List.all_eq_false]
     exact ⟨_,List.getElem_mem hi,by simpa using h⟩
    rw [this]; rfl
   simp [hi,h',e]
 ·rintro env hp ⟨x3,x4,rfl⟩ hall
  have e : shortB ls = decide (ls.length <= 100):=by
   unfold shortB
   have : (ls.all fun b=>decide (b.length <= 20)) = true:=by
    rw [List.all_eq_true]
    intro m hm
    obtain ⟨i,hi,rfl⟩:=List.getElem_of_mem hm
    simpa using hall i hi hi
   rw [this]; rfl
  rw [e]
  by_cases k : ls.length <= 100
  ·have k' : (ls.length : Int) <= 100:=by omega
   simp [k,k']
  ·have k' : ¬ (ls.length : Int) <= 100:=by omega
   simp [k,k']

theorem zpx {b x : List Int} : b.isPrefixOf x = decide (b.length <= x.length /\ b = x.take b.length):=by
 rw [Bool.eq_iff_iff,List.isPrefixOf_iff_prefix,decide_eq_true_iff]
 constructor
 ·rintro ⟨t,rfl⟩; simp
 ·rintro ⟨h1,h2⟩
  refine ⟨x.drop b.length,?_⟩
  have:=List.take_append_drop b.length x
  rwa [<- h2] at this

theorem zm1 {l : List (List Int)} : ((l.map dInts).all fun d=>d.storable && d.cellsL.length == 1) = true:=by
 rw [List.all_eq_true]
 intro d hd
 obtain ⟨v,_,rfl⟩:=List.mem_map.1 hd
 rfl

theorem law259 (h1 : runP E (dL E) 248 [] = some (.bool true)) (p : Prob) (ls : List (List Int)) (x : List Int) (at' : Nat) (hat : at' < 18446744073709551616) (hl : ls.length <= 9223372036854775807) :
  runP E (dL E) 259 [dProb p,.imm .none (ls.map dInts),dInts x,.int .u64 at'] = some (.bool true):=by
 refine zb c259 (by simp) ?_
 have h2:=r2 p
 have h249:=r249 ls hl
 simp only [dProb] at h2
 cases hf : fewB p with
 | false=>rw [hf] at h2; simp [t259,n259,h1,h2]
 | true=>
 rw [hf] at h2
 cases hg : shortB ls with
 | false=>
  rw [hg] at h249
  simp [t259,n259,h1,h2,h249]
 | true=>
 rw [hg] at h249
 by_cases hx : (20 : Int) < x.length
 ·simp [t259,n259,h1,h2,h249,hx]
 have S:=z5r hf
 simp only [shortB,Bool.and_eq_true,List.all_eq_true,decide_eq_true_eq] at hg
 obtain ⟨g1,g2⟩:=hg
 have h230:=r230 p ls S (by omega)
 unfold resCov at h230
 by_cases ok : OkP p
 rotate_left
 ·rw [if_neg ok] at h230
  simp only [dProb] at h230
  simp [t259,n259,h1,h2,h249,hx,h230]
 rw [if_pos ok] at h230
 by_cases hb : ∀ b,b ∈ ls -> OkB p b
 rotate_left
 ·rw [if_neg hb] at h230
  simp only [dProb] at h230
  simp [t259,n259,h1,h2,h249,hx,h230]
 rw [if_pos hb] at h230
 cases hd : divD p (p.vars.length + 1) 0 ls with
 | false=>
  rw [hd] at h230
  simp only [dProb] at h230
  simp [t259,n259,h1,h2,h249,hx,h230]
 | true=>
 rw [hd] at h230
 have hne : ls ≠ []:=fun e=>by
  rw [e] at hd
  simp [divD] at hd
 have hn0 : ¬ ls.length = 0:=fun h=>hne (List.eq_nil_of_length_eq_zero h)
 have hlb : ((ls.length : Int) == 0) = false:=by
  have : ¬ (ls.length : Int) = 0:=by omega
  simpa using this
 obtain ⟨k,hk⟩ : ∃ k,k = at' % ls.length:=⟨_,rfl⟩
 have hkl : k < ls.length:=by rw [hk]; exact Nat.mod_lt _ (by omega)
 have u1:=wrapU (n:=ls.length) (by omega)
 have t1 : Int.tmod (at' : Int) (ls.length : Int) = (k : Int):=by rw [tmodM,<- hk]
 have w1:=z7 (n:=(k : Int)) ⟨by omega,by omega⟩
 have w2:=z7 (n:=(k : Int) + 1) ⟨by omega,by omega⟩
 obtain ⟨lt,hlt⟩ : ∃ lt,lt = ls.take k:=⟨_,rfl⟩
 obtain ⟨ld,hld⟩ : ∃ ld,ld = ls.drop (k + 1):=⟨_,rfl⟩
 have hcut : ls = lt ++ ls[k] :: ld:=by rw [hlt,hld]; simp
 have hmem : ∀ l,l ∈ lt ++ ld -> l ∈ ls:=fun l h=>by
  rw [hcut]
  rcases List.mem_append.1 h with h | h
  ·simp [h]
  ·simp [h]
 have q1 : lt.length <= 100:=by rw [hlt]; simp; omega
 have q2 : ld.length <= 100:=by rw [hld]; simp; omega
 have hL : divD p (p.vars.length + 1) 0 (lt ++ ld) = false:=by
  have hd':=hd
  rw [hcut] at hd'
  exact zg3 ok (fun b h=>hb b (by rw [hcut]; exact h)) hd'
 have hT : divD p (p.vars.length + 1) 0 (ls ++ [ls[k]]) = false:=zl5 ok hb (List.getElem_mem hkl) hd
 have h230l:=r230 p (lt ++ ld) S (by simp; omega)
 have h230t:=r230 p (ls ++ [ls[k]]) S (by simp; omega)
 unfold resCov at h230l h230t
 rw [if_pos ok,if_pos (fun b h=>hb b (hmem b h)),hL] at h230l
 rw [if_pos ok,if_pos (fun b h=>by
  rcases List.mem_append.1 h with h | h
  ·exact hb b h
  ·rw [List.mem_singleton.1 h]; exact hb _ (List.getElem_mem hkl)),hT] at h230t
 have hv1 : headFits 1 (ls.map dInts) = true:=by cases ls <;> rfl
 have sl2:=za2 (t:=4) (e:=1) rfl (l:=ls.map dInts) hv1 (n:=k) (by simp; omega)
 have sl3:=zeu (t:=4) (e:=1) rfl (l:=ls.map dInts) hv1 (n:=k + 1) (by simp; omega)
 rw [<- List.map_drop,<- hld] at sl3
 rw [<- List.map_take,<- hlt] at sl2
 simp only [Int.natCast_add,Int.natCast_one] at sl3
 have b1 : ∀ {x y : List (List Int)},x.length <= 100 -> y.length <= 100 -> appOk E 1 (x.map dInts) (y.map dInts):=fun hx hy=>by
  refine ⟨?_,?_,?_,z4s⟩ <;> simp [maxBytes]
  omega
 have b0 : ∀ {y : List (List Int)},y.length <= 100 -> appOk E 1 [] (y.map dInts):=fun hy=>b1 (x:=[]) (by simp) hy
 have b2 : appOk E 1 (ls.map dInts) [dInts ls[k]]:=b1 (y:=[ls[k]]) g2 (by simp)
 have h22x:=r22 p x S (by omega)
 unfold resV at h22x
 simp only [dProb,List.map_append,List.map_cons,List.map_nil] at h230 h230l h230t h22x
 by_cases w : Whole p x
 rotate_left
 ·rw [if_neg w] at h22x
  simp only [dInts] at h22x
  simp [t259,n259,h1,h2,h249,hx,h230,hlb,hn0,hne,u1,t1,convD,w1,w2,sl2,sl3,z1g,z24,z3u,zm1,b0 q1,b1 q1 q2,b0 g2,b2,z7a,h230l,h230t,h22x,hkl]
 rw [if_pos w] at h22x
 obtain ⟨B,hB⟩ : ∃ B,B = boundL p x:=⟨_,rfl⟩
 rw [<- hB] at h22x
 have hone : cntB' ls x = 1:=z65 w hb hd
 simp only [dInts] at h22x
 simp [t259,n259,h1,h2,h249,hx,h230,hlb,hn0,u1,t1,convD,w1,w2,sl2,sl3,z1g,z24,z3u,b0 q1,b1 q1 q2,b0 g2,b2,z7a,h230l,h230t,h22x,hkl]
 refine zz ls.length (fun i env h=>∃ (x0 x3 x4 x5 x6 x7 x8 x9 x10 x11 x12 x13 x16 x17 x18 x19 x20 x21 x22 x23 x24 x25 x26 x27 x28 x29 x30 x31 x32 x33 x34 : D) ,env = [x0,.imm .none (ls.map dInts),.imm .none (x.map dI),x3,x4,x5,x6,x7,x8,x9,x10,x11,x12,x13,dI (cntB' (ls.take i) x),dI i,x16,x17,x18,x19,x20,x21,x22,x23,x24,x25,x26,x27,x28,x29,x30,x31,x32,x33,x34]) 0 (by omega) ⟨_,_,_,_,_,_,_,_,_,_,_,_,_,_,_,_,_,_,_,_,_,_,_,_,_,_,_,_,_,_,_,rfl⟩ ?_
 rintro i env h hi ⟨x0,x3,x4,x5,x6,x7,x8,x9,x10,x11,x12,x13,x16,x17,x18,x19,x20,x21,x22,x23,x24,x25,x26,x27,x28,x29,x30,x31,x32,x33,x34,rfl⟩
 by_cases hlt : i < ls.length
 ·obtain ⟨c,hc⟩ : ∃ c,c = cntB' (ls.take i) x:=⟨_,rfl⟩
  have hcl : c <= 100:=by
   have h1 : cntB' (ls.take i) x <= (ls.take i).length:=List.countP_le_length
   have h2 : (ls.take i).length <= ls.length:=by simp; omega
   omega
  have hs : cntB' (ls.take (i + 1)) x = c + (if ls[i].isPrefixOf x then 1 else 0):=by
   unfold cntB' at hc ⊢
   rw [List.take_succ_eq_append_getElem hlt,List.countP_append,<- hc,List.countP_cons,List.countP_nil,Nat.zero_add]
  have w3:=z7 (n:=(c : Int) + 1) ⟨by omega,by omega⟩
  rw [zpx] at hs
  rw [<- hc]
  by_cases hle : ls[i].length <= x.length
  ·have hle' : (ls[i].length : Int) <= x.length:=by omega
   have hn1 : headFits 1 (x.map dI) = true:=by cases x <;> rfl
   have sl:=za2 (t:=6) (e:=2) rfl (l:=x.map dI) hn1 (n:=ls[i].length) (by simpa using hle)
   rw [<- List.map_take] at sl
   have h20:=r20 ls[i] (x.take ls[i].length) (by have:=g1 _ (List.getElem_mem hlt); omega)
   simp only [dInts] at h20
   obtain ⟨t,ht⟩ : ∃ t,t = x.take ls[i].length:=⟨_,rfl⟩
   rw [<- ht] at sl h20 hs
   by_cases he : ls[i] = t
   ·rw [if_pos (by simpa using ⟨hle,he⟩)] at hs
    rw [show decide (ls[i] = t) = true from by simpa using he] at h20
    simp [hlt,hle',sl,h20,z6 hlt (by omega),w3,hs]
   ·rw [if_neg (by simp; intro _ e; exact he e)] at hs
    rw [show decide (ls[i] = t) = false from by simpa using he] at h20
    simp [hlt,hle',sl,h20,z6 hlt (by omega),hs]
  ·have hle' : ¬ (ls[i].length : Int) <= x.length:=by omega
   rw [if_neg (by simp; intro h; omega)] at hs
   simp [hlt,hle',z6 hlt (by omega),hs]
 ·have hi' : i = ls.length:=by omega
  subst hi'
  rw [List.take_length,hone]
  simp

theorem r265 (p : Prob) (S : Small p) (ok : OkP p) : ∀ (f depth : Nat) (l : List (List Int)),p.vars.length - depth < f -> depth <= p.vars.length -> l.length <= 1000000 -> (∀ b,b ∈ l -> OkB p b /\ depth <= b.length) ->
  runP E (dL E) 265 [dProb p,.imm .none (l.map dInts),dI depth] = some (.bool (divD p f depth l))
 | 0,depth,l,hf,_,_,_=>by omega
 | f + 1,depth,l,hf,hd,hl,hb=>by
  refine zb c265 (by simp) ?_
  have s3:=S.vars
  by_cases hne : l = []
  ·subst hne
   have hD : divD p (f + 1) depth [] = false:=by simp [divD]
   rw [hD]
   simp [t265,n265]
  have hl0 : ¬ l.length = 0:=fun h=>hne (List.eq_nil_of_length_eq_zero h)
  have hlb : ((l.length : Int) == 0) = false:=by
   have : ¬ (l.length : Int) = 0:=by omega
   simpa using this
  simp [t265,n265,hlb,hne]
  refine zw l.length (fun i=>∀ h : i < l.length,l[i].length ≠ depth)
   (fun i env hp=>∃ (x0 x6 x7 x8 x9 x10 x11 x12 x13 x14 x15 x16 : D) ,env = [x0,.imm .none (l.map dInts),dI depth,.loc 0 0,.bool false,dI i,x6,x7,x8,x9,x10,x11,x12,x13,x14,x15,x16] /\ At hp 0 (.cells (dProb p).cellsL)) ⟨_,_,_,_,_,_,_,_,_,_,_,_,rfl,rfl⟩ ?_ ?_
  ·rintro i env hp hi ⟨x0,x6,x7,x8,x9,x10,x11,x12,x13,x14,x15,x16,rfl,a1⟩ hall
   by_cases h : l[i].length = depth
   ·have e : divD p (f + 1) depth l = decide (l.length = 1):=by
     unfold divD
     rw [if_pos (List.any_eq_true.2 ⟨_,List.getElem_mem hi,by simpa using h⟩)]
    have h2 : ((l.length : Int) == 1) = decide (l.length = 1):=by
     by_cases h1 : l.length = 1
     ·simp [h1]
     ·have : ¬ (l.length : Int) = 1:=by omega
      simp [h1,this]
    simp [hi,h,e,h2]
   ·have h' : ¬ (l[i].length : Int) = depth:=by omega
    simp [hi,h,h',z6 hi (by omega)]
    exact a1
  rintro env hp ⟨x0,x6,x7,x8,x9,x10,x11,x12,x13,x14,x15,x16,rfl,a1⟩ hall
  have hgt : ∀ b,b ∈ l -> depth < b.length:=fun b hb'=>by
   have h1:=(hb b hb').2
   obtain ⟨i,hi,rfl⟩:=List.getElem_of_mem hb'
   have:=hall i hi hi
   omega
  obtain ⟨b0,hb0⟩:=List.exists_mem_of_ne_nil l hne
  have hdv : depth < p.vars.length:=by have:=hgt b0 hb0; have:=(hb b0 hb0).1.len; omega
  have hany : (l.any fun b=>decide (b.length = depth)) = false:=by
   rw [List.any_eq_false]
   intro b hb'
   have:=hgt b hb'
   simp; omega
  have hD : divD p (f + 1) depth l = (List.range p.vars[depth].choices.length).all fun k=>divD p f (depth + 1) (prt depth l k):=by
   rw [divD,if_neg (by rw [hany]; simp),if_neg (by simpa using hne)]
   rw [z64 hdv]; rfl
  have hm : p.vars[depth].choices.length <= 96:=(ok.vars _ (List.getElem_mem hdv)).most
  have hd2 : (depth : Int) < p.vars.length:=by omega
  simp
  obtain ⟨cn,hcn⟩ : ∃ cn,cn = p.vars[depth].choices.length:=⟨_,rfl⟩
  refine zw cn (fun k=>divD p f (depth + 1) (prt depth l k) = true)
   (fun k env hp=>∃ (x0 x5 x7 x8 x9 x10 x11 x12 x13 x14 x15 x16 : D) ,env = [x0,.imm .none (l.map dInts),dI depth,.loc 0 0,.bool false,x5,dI k,x7,x8,x9,x10,x11,x12,x13,x14,x15,x16] /\ At hp 0 (.cells (dProb p).cellsL)) ⟨_,_,_,_,_,_,_,_,_,_,_,_,rfl,a1⟩ ?_ ?_
  ·rintro k env hp hk ⟨x0,x5,x7,x8,x9,x10,x11,x12,x13,x14,x15,x16,rfl,a1⟩ hall2
   simp [a1.eq,hdv,<- hcn,hk]
   refine zz l.length (fun i env h=>∃ (x0 x5 x9 x10 x11 x12 x13 x14 x15 x16 : D) (sp : Spare),env = [x0,.imm .none (l.map dInts),dI depth,.loc 0 0,.bool false,x5,dI k,.imm sp ((prt depth (l.take i) k).map dInts),dI i,x9,x10,x11,x12,x13,x14,x15,x16] /\
    At h 0 (.cells (dProb p).cellsL) /\ Room 1 h sp (prt depth (l.take i) k).length 1) 0 (by omega) ⟨_,_,_,_,_,_,_,_,_,_,.exact,rfl,a1,.inl rfl⟩ ?_
   rintro i env h hi ⟨x0,x5,x9,x10,x11,x12,x13,x14,x15,x16,sp,rfl,b1,b2⟩
   by_cases hlt : i < l.length
   ·have hbd:=hgt _ (List.getElem_mem hlt)
    have htk : prt depth (l.take (i + 1)) k = prt depth (l.take i) k ++ (if l[i].getD depth 0 = (k : Int) then [l[i]] else []):=by
     rw [List.take_succ_eq_append_getElem hlt,zf1]
    have hgd : l[i].getD depth 0 = l[i][depth]:=by rw [List.getD_eq_getElem?_getD,List.getElem?_eq_getElem hbd]; rfl
    rw [hgd] at htk
    have hWl : (prt depth (l.take i) k).length <= 1000000:=by
     have h1:=za6 (depth:=depth) (l:=l.take i) (k:=k)
     have h2 : (l.take i).length <= l.length:=by simp; omega
     omega
    obtain ⟨W',hT⟩ : ∃ W',prt depth (l.take (i + 1)) k = W':=⟨_,rfl⟩
    obtain ⟨W,hW⟩ : ∃ W,prt depth (l.take i) k = W:=⟨_,rfl⟩
    rw [hT,hW] at htk
    rw [hW] at hWl b2 ⊢
    by_cases e : l[i][depth] = (k : Int)
    ·rw [if_pos e] at htk
     have hcat : List.map dInts W ++ [D.imm Spare.none (List.map dI l[i])] = List.map dInts W':=by rw [htk]; simp
     have hlen : W'.length = W.length + 1:=by rw [htk]; simp
     have hap : ∀ y,appOk E 1 (List.map dInts W) [y]:=fun y=>by
      refine ⟨?_,?_,?_,z4s⟩ <;> simp [maxBytes]
      omega
     rcases b2 with rfl | ⟨t,rfl,ht,ht2⟩
     ·simp [hlt,hbd,e,z1g,z24,hap,z6 hlt (by omega),hcat,↓hT]
      have l1:=b1.lt
      repeat apply Exists.intro
      exact ⟨by and_intros <;> rfl,b1.app,.inr ⟨h.length,rfl,by omega,by rw [hlen,Nat.mul_one]; simp [At]⟩⟩
     ·rw [Nat.mul_one] at ht2
      simp [hlt,hbd,e,z1g,z3u,hap,z6 hlt (by omega),hcat,↓hT,ht2.eq]
      have l1:=b1.lt
      repeat apply Exists.intro
      exact ⟨by and_intros <;> rfl,(b1.ne (by omega)).app,.inr ⟨h.length,rfl,by omega,by rw [hlen,Nat.mul_one]; simp [At]⟩⟩
    ·rw [if_neg e,List.append_nil] at htk
     simp [hlt,hbd,e,z6 hlt (by omega),↓hT,htk]
     repeat apply Exists.intro
     exact ⟨by and_intros <;> rfl,b1,b2⟩
   ·have hi' : i = l.length:=by omega
    subst hi'
    have h265:=r265 p S ok f (depth + 1) (prt depth l k) (by omega) (by omega) (by have:=za6 (depth:=depth) (l:=l) (k:=k); omega) (fun b hb'=>by
     have:=(List.mem_filter.1 hb').1
     exact ⟨(hb b this).1,hgt b this⟩)
    obtain ⟨W,hW⟩ : ∃ W,prt depth l k = W:=⟨_,rfl⟩
    have w1:=z7 (n:=(depth : Int) + 1) ⟨by omega,by omega⟩
    rw [List.take_length,hW]
    rw [hW] at h265
    simp only [dProb,Int.natCast_add,Int.natCast_one] at h265
    cases hv : divD p f (depth + 1) W with
    | true=>
     rw [hv] at h265
     simp [b1.eq,h265,w1,z6 hk (by omega)]
     exact b1
    | false=>
     rw [hv] at h265
     have e : divD p (f + 1) depth l = false:=by
      rw [hD,List.all_eq_false]
      exact ⟨k,by simpa using (hcn ▸ hk),by rw [hW,hv]; simp⟩
     simp [b1.eq,h265,w1,e]
  ·rintro env hp ⟨x0,x5,x7,x8,x9,x10,x11,x12,x13,x14,x15,x16,rfl,a1⟩ hall2
   have e : divD p (f + 1) depth l = true:=by
    rw [hD,List.all_eq_true]
    intro k hk
    exact hall2 k (by rw [hcn]; simpa using hk)
   simp [a1.eq,hdv,<- hcn,e]

open Classical in
theorem r250 (p : Prob) (ls : List (List Int)) (S : Small p) (hl : ls.length <= 100) (hs : ∀ b,b ∈ ls -> b.length <= 20) : runP E (dL E) 250 [dProb p,.imm .none (ls.map dInts)] = some (resCov p ls):=by
 refine zb c250 (by simp) ?_
 have h19:=r19 p S
 simp only [dProb] at h19
 unfold resCov
 by_cases ok : OkP p
 rotate_left
 ·have e : ck p = 270:=by simp [ck,ok]
  rw [e] at h19
  simp [t250,n250,h19,ok]
 have e : ck p = 0:=by simp [ck,ok]
 rw [e] at h19
 rw [if_pos ok]
 obtain ⟨R,hR⟩ : ∃ R,R = (if ∀ b,b ∈ ls -> OkB p b then D.tup [.bool (divD p (p.vars.length + 1) 0 ls),dI 0] else .tup [.bool false,dI 310]):=⟨_,rfl⟩
 rw [<- hR]
 simp [t250,n250,h19]
 refine zw ls.length (fun i=>∀ h : i < ls.length,OkB p ls[i])
  (fun i env hp=>∃ (x0 x5 x7 x8 x9 : D) ,env = [x0,.imm .none (ls.map dInts),.loc 0 0,.bool false,dI 0,x5,dI i,x7,x8,x9] /\ At hp 0 (.cells (dProb p).cellsL)) ⟨_,_,_,_,_,rfl,rfl⟩ ?_ ?_
 ·rintro i env hp hi ⟨x0,x5,x7,x8,x9,rfl,a1⟩ hall
  have h78:=r78 p ls[i] S (hs _ (List.getElem_mem hi))
  simp only [dProb,dInts] at h78
  by_cases h : OkB p ls[i]
  ·rw [show decide (OkB p ls[i]) = true from by simpa using h] at h78
   simp [hi,↓a1.appE,h78,h,z6 hi (by omega)]
   exact a1.app
  ·rw [show decide (OkB p ls[i]) = false from by simpa using h] at h78
   have hR' : R = .tup [.bool false,dI 310]:=by
    rw [hR,if_neg fun hh=>h (hh _ (List.getElem_mem hi))]
   simp [hi,↓a1.appE,h78,hR']
 ·rintro env hp ⟨x0,x5,x7,x8,x9,rfl,a1⟩ hall
  have hok : ∀ b,b ∈ ls -> OkB p b:=fun b hb=>by
   obtain ⟨i,hi,rfl⟩:=List.getElem_of_mem hb
   exact hall i hi hi
  have h265:=r265 p S ok (p.vars.length + 1) 0 ls (by omega) (by omega) (by omega) (fun b hb=>⟨hok b hb,by omega⟩)
  rw [if_pos hok] at hR
  simp only [dProb,Int.natCast_zero] at h265
  simp [a1.eq,h265,hR]

theorem law247 (h1 : runP E (dL E) 248 [] = some (.bool true)) (p : Prob) (ls : List (List Int)) (hl : ls.length <= 9223372036854775807) :
  runP E (dL E) 247 [dProb p,.imm .none (ls.map dInts)] = some (.bool true):=by
 refine zb c247 (by simp) ?_
 have h2:=r2 p
 have h249:=r249 ls hl
 simp only [dProb] at h2
 cases hf : fewB p with
 | false=>rw [hf] at h2; simp [t247,n247,h1,h2]
 | true=>
 rw [hf] at h2
 cases hg : shortB ls with
 | false=>
  rw [hg] at h249
  simp [t247,n247,h1,h2,h249]
 | true=>
 rw [hg] at h249
 have S:=z5r hf
 simp only [shortB,Bool.and_eq_true,List.all_eq_true,decide_eq_true_eq] at hg
 have h230:=r230 p ls S (by omega)
 have h250:=r250 p ls S hg.2 hg.1
 obtain ⟨x,y,hx⟩ : ∃ x y,resCov p ls = .tup [.bool x,dI y]:=by
  unfold resCov
  split
  ·split
   ·exact ⟨_,_,rfl⟩
   ·exact ⟨_,_,rfl⟩
  ·exact ⟨_,_,rfl⟩
 rw [hx] at h230 h250
 simp only [dProb] at h230 h250
 simp [t247,n247,h1,h2,h249,h230,h250]

def lcells (l : Leaf) : List D:=[dInts l.branch,dI l.kind,.imm .none (l.mult.map dInts)]
theorem z8j : ∀ {l : List Leaf},flat (l.map dLeaf) = l.flatMap lcells
 | []=>rfl
 | v :: l=>by
  have:=z8j (l:=l)
  simp only [flat] at this
  simp only [List.map_cons,flat,List.flatMap_cons,this]
  rfl
theorem z9c : ∀ {l : List Leaf},(l.flatMap lcells).length = l.length * 3
 | []=>rfl
 | v :: l=>by rw [List.flatMap_cons,List.length_append,z9c,List.length_cons]; simp [lcells]; omega
theorem z9b : ∀ {l : List Leaf} {i : Nat} {k : Int} (h : i < l.length),(l.flatMap lcells).set (i * 3 + 1) (dI k) = (l.set i { l[i] with kind:=k }).flatMap lcells
 | v :: l,0,k,_=>by simp [lcells]
 | v :: l,i + 1,k,h=>by
  have h' : i < l.length:=by simpa using h
  have:=z9b (l:=l) (i:=i) (k:=k) h'
  rw [List.flatMap_cons,List.set_append_right _ _ (by simp [lcells]; omega)]
  rw [show (i + 1) * 3 + 1 - (lcells v).length = i * 3 + 1 from by simp [lcells]; omega,this]
  simp
theorem zd5 {v : Leaf} {r : List D} : takeC (lcells v ++ r) 0 3 = some (lcells v):=by simp [lcells,takeC]
theorem z6y : ∀ {l : List Leaf},chunk 3 true l.length (l.flatMap lcells) = some (l.map dLeaf)
 | []=>rfl
 | v :: l=>by
  rw [List.flatMap_cons,List.length_cons,chunk,zd5]
  have : ((lcells v ++ l.flatMap lcells).drop 3) = l.flatMap lcells:=by simp [lcells]
  simp only [this,z6y]
  rfl
theorem zcj {l : List Leaf} : fitsE 3 (l.map dLeaf) = true:=by
 unfold fitsE
 rw [List.all_eq_true]
 intro d hd
 obtain ⟨v,_,rfl⟩:=List.mem_map.1 hd
 rfl
theorem zgd {l : List Leaf} : ((l.map dLeaf).all fun d=>d.storable && d.cellsL.length == 3) = true:=zcj
theorem zen {hp : List Obj} {id : Nat} {l : List Leaf} (h1 : 1 <= l.length) (h2 : l.length <= 1000000) :
  appendM E hp id 31 31 (.imm .exact []) (.imm .none (l.map dLeaf)) = some ⟨.sl id 0 l.length 3 true true,some (.cells (l.flatMap lcells)),none⟩:=by
 have h3 : ¬ l.length = 0:=by omega
 have h4 : ¬ l = []:=fun e=>h3 (by rw [e]; rfl)
 have h5 : l.length * 57 <= 17592186044416:=by omega
 simp [appendM,listOf,zgd,h4,fitsE,znj,z8j,maxBytes,h5]

theorem law260 (h1 : runP E (dL E) 248 [] = some (.bool true)) (p : Prob) (c : Cert) (at' : Nat) (hat : at' < 18446744073709551616) (hc : c.leaves.length <= 9223372036854775807) (hl : ∀ l,l ∈ c.leaves -> l.mult.length <= 9223372036854775807) :
  runP E (dL E) 260 [dProb p,dCert c,.int .u64 at'] = some (.bool true):=by
 refine zb c260 (by simp) ?_
 have h2:=r2 p
 have h213:=r213 c hc hl
 simp only [dProb,dInts,dCert] at h2 h213
 cases hf : fewB p with
 | false=>rw [hf] at h2; simp [t260,n260,h1,h2,zj]
 | true=>
 rw [hf] at h2
 cases hg : fewCe c with
 | false=>
  rw [hg] at h213
  simp [t260,n260,h1,h2,h213,zj]
 | true=>
 rw [hg] at h213
 have S:=z5r hf
 have M:=zar hg
 have h216:=r216 p c S M
 by_cases hA : chkC p c = 0
 rotate_left
 ·simp only [dProb,dInts,dCert] at h216
  simp [t260,n260,h1,h2,h213,h216,hA,zj]
 have A:=zav hA
 rw [hA] at h216
 have hne : c.leaves ≠ []:=fun e=>by
  have:=A.div
  rw [e] at this
  simp [divD] at this
 have hn0 : ¬ c.leaves.length = 0:=fun h=>hne (List.eq_nil_of_length_eq_zero h)
 have hlb : ((c.leaves.length : Int) == 0) = false:=by
  have : ¬ (c.leaves.length : Int) = 0:=by omega
  simpa using this
 have m3:=M.leaves
 obtain ⟨k,hk⟩ : ∃ k,k = at' % c.leaves.length:=⟨_,rfl⟩
 have hkl : k < c.leaves.length:=by rw [hk]; exact Nat.mod_lt _ (by omega)
 have u1:=wrapU (n:=c.leaves.length) (by omega)
 have t1 : Int.tmod (at' : Int) (c.leaves.length : Int) = (k : Int):=by rw [tmodM,<- hk]
 have w1:=z7 (n:=(k : Int)) ⟨by omega,by omega⟩
 have w2:=z7 (n:=(k : Int) + 1) ⟨by omega,by omega⟩
 -- less
 obtain ⟨lt,hlt⟩ : ∃ lt,lt = c.leaves.take k:=⟨_,rfl⟩
 obtain ⟨ld,hld⟩ : ∃ ld,ld = c.leaves.drop (k + 1):=⟨_,rfl⟩
 have hcut : c.leaves = lt ++ c.leaves[k] :: ld:=by rw [hlt,hld]; simp
 have hmem : ∀ l,l ∈ lt ++ ld -> l ∈ c.leaves:=fun l h=>by
  rw [hcut]
  rcases List.mem_append.1 h with h | h
  ·simp [h]
  ·simp [h]
 have q1 : lt.length <= 1000000:=by rw [hlt]; simp; omega
 have q2 : ld.length <= 1000000:=by rw [hld]; simp; omega
 have q3 : (lt ++ ld).length <= 1000000:=by rw [hlt,hld]; simp; omega
 have hL : ¬ Acc p ⟨c.best,c.value,lt ++ ld⟩:=fun a=>by
  have hd:=A.div
  rw [hcut,List.map_append,List.map_cons] at hd
  have:=zg3 A.whole.1 (f':=p.vars.length + 1) (fun b hb=>by
   obtain ⟨l,h,rfl⟩ : ∃ l,l ∈ c.leaves /\ l.branch = b:=by
    rw [<- List.map_cons,<- List.map_append,<- hcut] at hb
    exact List.mem_map.1 hb
   exact A.branch l h) hd
  have h2:=a.div
  rw [show (⟨c.best,c.value,lt ++ ld⟩ : Cert).leaves = lt ++ ld from rfl,List.map_append,this] at h2
  cases h2
 have h216l:=r216 p ⟨c.best,c.value,lt ++ ld⟩ S ⟨M.best,M.value,q3,fun l h=>M.leaf l (hmem l h)⟩
 rw [zeo (c:=⟨c.best,c.value,lt ++ ld⟩) A.whole hL] at h216l
 -- another kind
 obtain ⟨lk,hlk⟩ : ∃ lk,lk = c.leaves.set k { c.leaves[k] with kind:=4 }:=⟨_,rfl⟩
 have hlkl : lk.length = c.leaves.length:=by rw [hlk]; simp
 have hkm : ∀ l,l ∈ lk -> SmL l:=fun l h=>by
  rw [hlk] at h
  rcases List.mem_or_eq_of_mem_set h with h | h
  ·exact M.leaf l h
  ·have:=M.leaf _ (List.getElem_mem hkl)
   rw [h]
   exact ⟨this.branch,this.mult⟩
 have hO : ¬ Acc p ⟨c.best,c.value,lk⟩:=fun a=>by
  have h4 : { c.leaves[k] with kind:=4 } ∈ lk:=by rw [hlk]; exact List.mem_set hkl _
  have:=a.leaf _ h4
  simp [leafOk] at this
 have h216o:=r216 p ⟨c.best,c.value,lk⟩ S ⟨M.best,M.value,by show lk.length <= 1000000; omega,hkm⟩
 rw [zeo (c:=⟨c.best,c.value,lk⟩) A.whole hO] at h216o
 have hv1 : headFits 3 (c.leaves.map dLeaf) = true:=by cases c.leaves <;> rfl
 have sl2:=za2 (t:=31) (e:=32) rfl (l:=c.leaves.map dLeaf) hv1 (n:=k) (by simp; omega)
 have sl3:=zeu (t:=31) (e:=32) rfl (l:=c.leaves.map dLeaf) hv1 (n:=k + 1) (by simp; omega)
 rw [<- List.map_drop,<- hld] at sl3
 rw [<- List.map_take,<- hlt] at sl2
 simp only [Int.natCast_add,Int.natCast_one] at sl3
 have b1 : ∀ {x y : List Leaf},x.length <= 1000000 -> y.length <= 1000000 -> appOk E 32 (x.map dLeaf) (y.map dLeaf):=fun hx hy=>by
  refine ⟨?_,?_,?_,zcj⟩ <;> simp [maxBytes]
  omega
 have b0 : ∀ {y : List Leaf},y.length <= 1000000 -> appOk E 32 [] (y.map dLeaf):=fun hy=>b1 (x:=[]) (by simp) hy
 have ap:=fun hp id=>zen (hp:=hp) (id:=id) (l:=c.leaves) (by omega) m3
 have hset:=z9b (k:=4) hkl
 rw [<- hlk] at hset
 have hch:=z6y (l:=lk)
 rw [hlkl] at hch
 obtain ⟨ROW,hROW⟩ : ∃ ROW,ROW = c.leaves.flatMap lcells:=⟨_,rfl⟩
 obtain ⟨VROW,hVROW⟩ : ∃ VROW,VROW = lk.flatMap lcells:=⟨_,rfl⟩
 have hil4 : k * 3 + 1 + 1 <= ROW.length:=by rw [hROW,z9c]; omega
 have hil5 : k * 3 + 1 < ROW.length:=by omega
 rw [<- hROW,<- hVROW] at hset
 simp only [<- hROW] at ap
 rw [<- hVROW] at hch
 simp only [dProb,dInts,dCert,List.map_append] at h216 h216l h216o
 clear hcut hL hO hlk hlt hld hmem A M hA
 simp [t260,n260,h1,h2,h213,h216,zj,hlb,hn0,u1,t1,convD,w1,w2,z8r,zaw,chk1,did,idsNe,sl2,sl3,z1g,z24,z3u,zgd,b0 q1,b1 q1 q2,z7a,h216l,ap,applyEf,hkl,hil4,hil5,hset,hch,h216o,freezeAll,freeze1]

def hdT : TC -> TC
 | .seq a _=>a
 | c=>c
def tlT : TC -> TC
 | .seq _ b=>b
 | _=>.skip
theorem cut258 : t258 = .seq (hdT t258) (.seq (hdT (tlT t258)) (.seq (hdT (tlT (tlT t258))) (.seq (hdT (tlT (tlT (tlT t258)))) (tlT (tlT (tlT (tlT t258))))))):=rfl

theorem cut258b : tlT (tlT (tlT (tlT t258))) = .seq (hdT (tlT (tlT (tlT (tlT t258))))) (.seq (hdT (tlT (tlT (tlT (tlT (tlT t258)))))) (.seq (hdT (tlT (tlT (tlT (tlT (tlT (tlT t258))))))) (tlT (tlT (tlT (tlT (tlT (tlT (tlT t258))))))))):=rfl
theorem z9s {a b : Int} (hb : -128 <= b /\ b <= 127) (h : b ≠ 0) : Go.IntKind.i64.wrap (a + b) ≠ a:=by
 intro e
 simp only [Go.IntKind.wrap,Go.IntKind.signed,Go.IntKind.bits] at e
 omega

theorem zr5 {p : Prob} {c : Cert} {b v : List Int} (a : Acc p c) (h : v ≠ c.value) (hb : b = c.best) : ¬ Acc p ⟨b,v,c.leaves⟩:=fun a'=>h (by rw [<- a.value,<- hb]; exact a'.value.symm)

theorem law258 (h1 : runP E (dL E) 248 [] = some (.bool true)) (p : Prob) (c d : Cert) (x : List Int) (y : Int) (hc : c.leaves.length <= 9223372036854775807) (hl : ∀ l,l ∈ c.leaves -> l.mult.length <= 9223372036854775807)
  (hd : d.leaves.length <= 9223372036854775807) (hdl : ∀ l,l ∈ d.leaves -> l.mult.length <= 9223372036854775807) (hy : -128 <= y /\ y <= 127) :
  runP E (dL E) 258 [dProb p,dCert c,dCert d,dInts x,.int .i8 y] = some (.bool true):=by
 refine zb c258 (by simp) ?_
 have h2:=r2 p
 have h213:=r213 c hc hl
 have h213d:=r213 d hd hdl
 simp only [dProb,dInts,dCert] at h2 h213 h213d
 cases hf : fewB p with
 | false=>rw [hf] at h2; simp [t258,n258,h1,h2,zj]
 | true=>
 rw [hf] at h2
 cases hg : fewCe c with
 | false=>
  rw [hg] at h213
  simp [t258,n258,h1,h2,h213,zj]
 | true=>
 rw [hg] at h213
 cases hgd : fewCe d with
 | false=>
  rw [hgd] at h213d
  simp [t258,n258,h1,h2,h213,h213d,zj]
 | true=>
 rw [hgd] at h213d
 by_cases hx : (20 : Int) < x.length
 ·simp [t258,n258,h1,h2,h213,h213d,hx,zj]
 have S:=z5r hf
 have M:=zar hg
 have Md:=zar hgd
 have h216:=r216 p c S M
 by_cases hA : chkC p c = 0
 rotate_left
 ·simp only [dProb,dInts,dCert] at h216
  simp [t258,n258,h1,h2,h213,h213d,hx,h216,hA,zj]
 have A:=zav hA
 rw [hA] at h216
 have h216d:=r216 p d S Md
 have hk : chkC p d = 0 -> c.best = d.best /\ c.value = d.value:=fun h=>by
  have D:=zav h
  have e : c.best = d.best:=(z5v S A).trans (z5v S D).symm
  exact ⟨e,by rw [<- A.value,<- D.value,e]⟩
 have h20a:=r20 c.best d.best (by have:=M.best; omega)
 have h20b:=r20 c.value d.value (by have:=M.value; omega)
 have h20x:=r20 x c.best (by omega)
 have h22x:=r22 p x S (by omega)
 unfold resV at h22x
 have hxa : ∀ v,x ≠ c.best -> chkC p ⟨x,v,c.leaves⟩ ≠ 0:=fun v hne h=>hne (by
  have:=z5v S (zav h)
  rw [z5v S A]; exact this)
 have M' : ∀ v : List Int,v.length <= 1000 -> SmC ⟨x,v,c.leaves⟩:=fun v hv=>⟨by show x.length <= 20; omega,hv,M.leaves,M.leaf⟩
 have h216x:=r216 p ⟨x,c.value,c.leaves⟩ S (M' _ M.value)
 have h216w:=r216 p ⟨x,boundL p x,c.leaves⟩ S (M' _ (by simp [boundL]))
 obtain ⟨B,hB⟩ : ∃ B,B = boundL p x:=⟨_,rfl⟩
 rw [<- hB] at h22x h216w
 have hxb:=hxa B
 have hxc:=hxa c.value
 obtain ⟨eX,heX⟩ : ∃ e,e = chkC p ⟨x,c.value,c.leaves⟩:=⟨_,rfl⟩
 obtain ⟨eB,heB⟩ : ∃ e,e = chkC p ⟨x,B,c.leaves⟩:=⟨_,rfl⟩
 obtain ⟨eD,heD⟩ : ∃ e,e = chkC p d:=⟨_,rfl⟩
 rw [<- heX] at h216x hxc
 rw [<- heB] at h216w hxb
 rw [<- heD] at h216d hk
 rw [cut258]
 obtain ⟨U,hU⟩ : ∃ U,U = tlT (tlT (tlT (tlT t258))):=⟨_,rfl⟩
 rw [<- hU]
 simp only [dProb,dInts,dCert] at h216 h216d h20a h20b h20x h22x h216x h216w
 suffices key : wT E U (Ret E [(8,none)] fun d hp=>frz hp 12 d = some (.bool true))
   [.agg [.imm .none (p.cells.map dCell),.imm .none (p.capacity.map dInts),.imm .none (p.vars.map dVar)],dCert c,dCert d,.imm .none (x.map dI),.int .i8 y,.loc 0 0,.loc 1 0,.loc 2 0,
    .bool false,.undef,.undef,.undef,.undef,.bool false,.bool false,.bool false,.undef,.undef,.undef,.undef,.undef,.undef,.undef,.undef,.undef,.undef]
   [.cells [.imm .none (p.cells.map dCell),.imm .none (p.capacity.map dInts),.imm .none (p.vars.map dVar)],.cells [.imm .none (c.best.map dI),.imm .none (c.value.map dI),.imm .none (c.leaves.map dLeaf)],
    .cells [.imm .none (d.best.map dI),.imm .none (d.value.map dI),.imm .none (d.leaves.map dLeaf)]] by
  by_cases hD : eD = 0
  ·obtain ⟨k1,k2⟩:=hk hD
   rw [show decide (c.best = d.best) = true from by simpa using k1] at h20a
   rw [show decide (c.value = d.value) = true from by simpa using k2] at h20b
   simp [t258,hdT,tlT,n258,h1,h2,h213,h213d,hx,h216,h216d,hD,h20a,h20b,zj]
   exact key
  ·simp [t258,hdT,tlT,n258,h1,h2,h213,h213d,hx,h216,h216d,hD,h20a,h20b,zj]
   exact key
 rw [hU,cut258b]
 obtain ⟨V,hV⟩ : ∃ V,V = tlT (tlT (tlT (tlT (tlT (tlT (tlT t258)))))):=⟨_,rfl⟩
 rw [<- hV]
 suffices key : ∀ (z10 z11 z17 z18 z19 z20 : D) (o3 : Obj),wT E V (Ret E [(8,none)] fun d hp=>frz hp 12 d = some (.bool true))
   [.agg [.imm .none (p.cells.map dCell),.imm .none (p.capacity.map dInts),.imm .none (p.vars.map dVar)],dCert c,dCert d,.imm .none (x.map dI),.int .i8 y,.loc 0 0,.loc 1 0,.loc 2 0,
    .bool false,.loc 3 0,z10,z11,.undef,.bool false,.bool false,.bool false,.agg [.imm .none (c.best.map dI),.imm .none (c.value.map dI),.imm .none (c.leaves.map dLeaf)],z17,z18,z19,z20,.undef,.undef,.undef,.undef,.undef]
   [.cells [.imm .none (p.cells.map dCell),.imm .none (p.capacity.map dInts),.imm .none (p.vars.map dVar)],.cells [.imm .none (c.best.map dI),.imm .none (c.value.map dI),.imm .none (c.leaves.map dLeaf)],
    .cells [.imm .none (d.best.map dI),.imm .none (d.value.map dI),.imm .none (d.leaves.map dLeaf)],o3] by
  by_cases hxe : x = c.best
  ·rw [show decide (x = c.best) = true from by simpa using hxe] at h20x
   simp [t258,hdT,tlT,h20x,zj]
   exact key _ _ _ _ _ _ _
  ·rw [show decide (x = c.best) = false from by simpa using hxe] at h20x
   by_cases w : Whole p x
   ·rw [if_pos w] at h22x
    simp [t258,hdT,tlT,h20x,h22x,h216w,hxb hxe,zj]
    exact key _ _ _ _ _ _ _
   ·rw [if_neg w] at h22x
    simp [t258,hdT,tlT,h20x,h22x,h216x,hxc hxe,zj]
    exact key _ _ _ _ _ _ _
 intro z10 z11 z17 z18 z19 z20 o3
 subst hV
 obtain ⟨v0,v1,v2,v3,hv⟩ : ∃ v0 v1 v2 v3,c.value = [v0,v1,v2,v3]:=⟨_,_,_,_,A.value.symm⟩
 have hchk : ∀ u : List Int,u.length = 4 -> u ≠ c.value -> runP E (dL E) 216 [.agg [.imm .none (p.cells.map dCell),.imm .none (p.capacity.map dInts),.imm .none (p.vars.map dVar)],
   .agg [.imm .none (c.best.map dI),.imm .none (u.map dI),.imm .none (c.leaves.map dLeaf)]] = some (dI 310):=fun u hu hne=>by
  have h:=r216 p ⟨c.best,u,c.leaves⟩ S ⟨M.best,by show u.length <= 1000; omega,M.leaves,M.leaf⟩
  rw [zeo (c:=⟨c.best,u,c.leaves⟩) A.whole (zr5 A hne rfl)] at h
  simpa only [dProb,dInts,dCert] using h
 have ap : ∀ hp id,appendM E hp id 6 6 (.imm .exact []) (.imm .none (c.value.map dI)) = some ⟨.sl id 0 4 1 false true,some (.cells [dI v0,dI v1,dI v2,dI v3]),none⟩:=fun hp id=>by
  rw [hv]
  simp [appendM,listOf,fitsE,flat,maxBytes]
 have wy:=z7 (n:=y) ⟨by omega,by omega⟩
 by_cases hy0 : y = 0
 ·subst hy0
  have u0 : Go.IntKind.u8.wrap 0 = 0:=by decide
  have i0 : Go.IntKind.i64.wrap 0 = 0:=by decide
  simp [t258,hdT,tlT,ap,applyEf,convD,u0,i0,zj]
 obtain ⟨i,hi⟩ : ∃ i,i = (Go.IntKind.u8.wrap y).tmod 4:=⟨_,rfl⟩
 have hib : 0 <= i /\ i < 4:=by
  have hw : 0 <= Go.IntKind.u8.wrap y:=by simp only [Go.IntKind.wrap,Go.IntKind.signed,Go.IntKind.bits,Bool.false_and,Bool.false_eq_true,if_false]; omega
  rw [hi]
  exact ⟨Int.tmod_nonneg _ hw,Int.tmod_lt_of_pos _ (by omega)⟩
 have wi:=z7 (n:=i) ⟨by omega,by omega⟩
 have hy0' : ((y == 0) : Bool) = false:=by simpa using hy0
 rcases (show i = 0 \/ i = 1 \/ i = 2 \/ i = 3 by omega) with h | h | h | h
 ·rw [h] at hi wi
  have hr:=hchk [Go.IntKind.i64.wrap (v0 + y),v1,v2,v3] rfl (fun e=>by
   rw [hv] at e; simp only [List.cons.injEq] at e; exact z9s hy hy0 e.1)
  simp only [List.map_cons,List.map_nil] at hr
  simp [t258,hdT,tlT,ap,applyEf,convD,<- hi,wi,wy,hy0,hr,zj,chunk,freezeAll,freeze1]
 ·rw [h] at hi wi
  have hr:=hchk [v0,Go.IntKind.i64.wrap (v1 + y),v2,v3] rfl (fun e=>by
   rw [hv] at e; simp only [List.cons.injEq] at e; exact z9s hy hy0 e.2.1)
  simp only [List.map_cons,List.map_nil] at hr
  simp [t258,hdT,tlT,ap,applyEf,convD,<- hi,wi,wy,hy0,hr,zj,chunk,freezeAll,freeze1]
 ·rw [h] at hi wi
  have hr:=hchk [v0,v1,Go.IntKind.i64.wrap (v2 + y),v3] rfl (fun e=>by
   rw [hv] at e; simp only [List.cons.injEq] at e; exact z9s hy hy0 e.2.2.1)
  simp only [List.map_cons,List.map_nil] at hr
  simp [t258,hdT,tlT,ap,applyEf,convD,<- hi,wi,wy,hy0,hr,zj,chunk,freezeAll,freeze1]
 ·rw [h] at hi wi
  have hr:=hchk [v0,v1,v2,Go.IntKind.i64.wrap (v3 + y)] rfl (fun e=>by
   rw [hv] at e; simp only [List.cons.injEq] at e; exact z9s hy hy0 e.2.2.2.1)
  simp only [List.map_cons,List.map_nil] at hr
  simp [t258,hdT,tlT,ap,applyEf,convD,<- hi,wi,wy,hy0,hr,zj,chunk,freezeAll,freeze1]

theorem zmb {x : D} (h : Typed E 32 x) : ∃ l,x = dLeaf l /\ l.mult.length <= 9223372036854775807:=by
 obtain ⟨ds,rfl,h1⟩:=z2p h rfl
 obtain ⟨hl,hf⟩:=z2q h1 (fs:=[(0,1),(1,2),(2,9)]) rfl
 obtain ⟨x,y,z,rfl⟩:=three hl
 obtain ⟨b,h2,_⟩:=z41 (hf 0 _ rfl) rfl
 obtain ⟨k,h3,_⟩:=z4v (hf 1 _ rfl) rfl
 obtain ⟨els,h4,hn,h6⟩:=z2e (hf 2 _ rfl) (e:=6) rfl
 simp [E,tyTab] at h2 h3 h4
 subst h2 h3 h4
 obtain ⟨l,rfl,_⟩:=z3b (f:=dInts) (R:=fun _=>True) (els:=els) fun x hx=>by
  obtain ⟨l,h5,_⟩:=z41 (z28 (h6 x hx) rfl) rfl
  simp at h5; exact ⟨l,h5,trivial⟩
 have hm : Go.maxLen <= 9223372036854775807:=by decide
 exact ⟨⟨b,k,l⟩,rfl,by simp at hn; simp; omega⟩

theorem z9v {x : D} (h : Typed E 29 x) : ∃ c,x = dCert c /\ c.leaves.length <= 9223372036854775807 /\ ∀ l,l ∈ c.leaves -> l.mult.length <= 9223372036854775807:=by
 obtain ⟨ds,rfl,h1⟩:=z2p h rfl
 obtain ⟨hl,hf⟩:=z2q h1 (fs:=[(0,6),(1,6),(2,31)]) rfl
 obtain ⟨x,y,z,rfl⟩:=three hl
 obtain ⟨b,h2,_⟩:=z41 (hf 0 _ rfl) rfl
 obtain ⟨v,h3,_⟩:=z41 (hf 1 _ rfl) rfl
 obtain ⟨els,h4,hn,h6⟩:=z2e (hf 2 _ rfl) (e:=32) rfl
 simp [E,tyTab] at h2 h3 h4
 subst h2 h3 h4
 obtain ⟨l,rfl,o⟩:=z3b (f:=dLeaf) (R:=fun l=>l.mult.length <= 9223372036854775807) (els:=els) fun x hx=>zmb (h6 x hx)
 have hm : Go.maxLen <= 9223372036854775807:=by decide
 exact ⟨⟨b,v,l⟩,rfl,by simp at hn; simp; omega,o⟩

def cBE : Cell:=⟨false,2,100⟩
def pBE : Prob:=⟨[cBE],[[0]],[⟨0,0,[0],[⟨0,0,0,[⟨cBE,1⟩]⟩,⟨10,30,1,[]⟩]⟩]⟩
def nBE : Prob:=⟨[],[[]],[]⟩
def kBE : Cert:=⟨[1],[0,10,30,1],[⟨[0],2,[]⟩,⟨[1],1,[]⟩]⟩
def wBE : Cert:=⟨[0],[1,0,0,0],[⟨[0],2,[]⟩,⟨[1],1,[]⟩]⟩
def lBE : Cert:=⟨[1],[0,10,30,1],[⟨[1],1,[]⟩]⟩
def byB : List D:=[3,3,3,1,1,2,3,4,1,0,1,20,1,60,1,2,3,2,3,3,3,1,1,0,1,4,3,0,3,3,3,1,1,2,1,2,3,0].map (D.int .u8)

theorem up31 {k : Nat} {a : List D} {r : D} {n : Nat} (h : runP E (dC E n) k a = some r) : runP E (dL E) k a = some r:=z46 (fun _ _ _ h=>z3r _ _ _ h) h

theorem e263 : runP E (dL E) 263 [] = some (.tup [dProb pBE,dCert kBE]):=up31 (n:=100) (by kernel_rfl)
theorem e230a : runP E (dL E) 230 [dProb nBE,.imm .none []] = some (.tup [.bool false,dI 0]):=up31 (n:=100) (by kernel_rfl)
theorem e230b : runP E (dL E) 230 [dProb pBE,.imm .none [.imm .none []]] = some (.tup [.bool true,dI 0]):=up31 (n:=100) (by kernel_rfl)
theorem e230c : runP E (dL E) 230 [dProb pBE,.imm .none [.imm .none [],.imm .none []]] = some (.tup [.bool false,dI 0]):=up31 (n:=100) (by kernel_rfl)
theorem e252 : runP E (dL E) 252 [dCert kBE] = some (.tup [.imm .none byB,dI 0]):=up31 (n:=100) (by kernel_rfl)
theorem e254a : runP E (dL E) 254 [.imm .none byB] = some (.tup [dCert kBE,dI 0]):=up31 (n:=300) (by kernel_rfl)
theorem e264 : runP E (dL E) 264 [.agg [.int .i64 1,.int .i64 0,.str [],.imm .none []]] = some (.tup [.imm .none [.int .u8 1,.int .u8 0],dI 0]):=up31 (n:=100) (by kernel_rfl)
theorem e254b : runP E (dL E) 254 [.imm .none [.int .u8 1,.int .u8 0]] = some (.tup [dCert cert0,dI 310]):=up31 (n:=100) (by kernel_rfl)
theorem e216a : runP E (dL E) 216 [dProb pBE,dCert kBE] = some (dI 0):=up31 (n:=100) (by kernel_rfl)
theorem e216b : runP E (dL E) 216 [dProb pBE,dCert wBE] = some (dI 310):=up31 (n:=100) (by kernel_rfl)
theorem e216c : runP E (dL E) 216 [dProb pBE,dCert lBE] = some (dI 310):=up31 (n:=100) (by kernel_rfl)
theorem e216d : runP E (dL E) 216 [dProb nBE,dCert cert0] = some (dI 310):=up31 (n:=100) (by kernel_rfl)
theorem e256 : runP E (dL E) 256 [dCert kBE,dCert kBE] = some (.bool true):=up31 (n:=100) (by kernel_rfl)
theorem e231a : runP E (dL E) 231 [dProb pBE,dInts [1],dLeaf ⟨[1],1,[]⟩] = some (dI 0):=up31 (n:=100) (by kernel_rfl)
theorem e231b : runP E (dL E) 231 [dProb pBE,dInts [1],dLeaf ⟨[1],9,[]⟩] = some (dI 310):=up31 (n:=100) (by kernel_rfl)

theorem zqf {hp : List Obj} {n : Nat} {s : List UInt8} : frz hp (n + 1) (.str s) = some (.str s):=rfl
theorem sane248 : runP E (dL E) 248 [] = some (.bool true):=by
 refine zb c248 (by simp) ?_
 have h1:=e263
 have h2:=e230a
 have h3:=e230b
 have h4:=e230c
 have h5:=e252
 have h6:=e254a
 have h7:=e264
 have h8:=e254b
 have h9:=e216a
 have h10:=e216b
 have h11:=e216c
 have h12:=e216d
 have h13:=e256
 have h14:=e231a
 have h15:=e231b
 simp only [dProb,dInts,dCert,cert0,pBE,nBE,kBE,wBE,lBE,cBE,dLeaf,dVar,dChoice,dUse,dCell,List.map_cons,List.map_nil] at h1 h2 h3 h4 h5 h6 h7 h8 h9 h10 h11 h12 h13 h14 h15
 obtain ⟨bb,hb⟩ : ∃ bb,bb = D.imm .none byB:=⟨_,rfl⟩
 have hf : frz [] 12 bb = some bb:=by rw [hb]; rfl
 rw [<- hb] at h5 h6

 have hs : sliceD E 31 (.imm .none [.agg [.imm .none [dI 0],dI 2,.imm .none []],.agg [.imm .none [dI 1],dI 1,.imm .none []]]) (some (.int .i64 1)) none none = some (.imm .none [.agg [.imm .none [dI 1],dI 1,.imm .none []]]):=by kernel_rfl
 simp [t248,n248,hf,zqf,hs,h1,h2,h3,h4,h5,h6,h7,h8,h9,h10,h11,h12,h13,h14,h15,z2k,z4r]

theorem z7l {x : D} (h : Typed E 4 x) : ∃ ls : List (List Int),x = .imm .none (ls.map dInts) /\ ls.length <= 9223372036854775807:=by
 obtain ⟨els,h4,hn,h6⟩:=z2e (z28 h rfl) (e:=1) rfl
 simp [E,tyTab] at h4
 subst h4
 obtain ⟨l,rfl,_⟩:=z3b (f:=dInts) (R:=fun _=>True) (els:=els) fun x hx=>by
  obtain ⟨l,h5,_⟩:=z41 (z28 (h6 x hx) rfl) rfl
  simp at h5; exact ⟨l,h5,trivial⟩
 have hm : Go.maxLen <= 9223372036854775807:=by decide
 exact ⟨l,rfl,by simp at hn; omega⟩

theorem zoo {x : D} {c : Nat} (h : Typed E c x) (hk : (E.ty c).k = .int .u64) : ∃ m : Nat,x = .int .u64 m /\ m < 18446744073709551616:=by
 have ha : (E.ty c).ag = false:=by unfold TI.ag; rw [hk]
 have h1:=z28 h ha
 clear h
 cases h1 with
 | int h' hw=>
  rename_i n
  rw [hk] at h'; cases h'
  simp [Go.Lit.wf] at hw
  obtain ⟨a1,a2⟩:=hw
  have e1 : Go.IntKind.u64.min = 0:=by decide
  have e2 : Go.IntKind.u64.max = 18446744073709551615:=by decide
  have b1 : 0 <= n:=by first | exact a1 | (rw [e1] at a1; exact a1)
  have b2 : n <= 18446744073709551615:=by first | exact a2 | (rw [e2] at a2; exact a2)
  exact ⟨n.toNat,by rw [Int.toNat_of_nonneg b1],by omega⟩
 | bool h'=>rw [hk] at h'; cases h'
 | str h'=>rw [hk] at h'; cases h'
 | slice h' _ _ _=>rw [hk] at h'; cases h'
 | struct h' _ _=>rw [hk] at h'; cases h'

theorem ty_i8 {x : D} {c : Nat} (h : Typed E c x) (hk : (E.ty c).k = .int .i8) : ∃ m : Int,x = .int .i8 m /\ -128 <= m /\ m <= 127:=by
 have ha : (E.ty c).ag = false:=by unfold TI.ag; rw [hk]
 have h1:=z28 h ha
 clear h
 cases h1 with
 | int h' hw=>
  rename_i n
  rw [hk] at h'; cases h'
  simp [Go.Lit.wf] at hw
  obtain ⟨a1,a2⟩:=hw
  have e1 : Go.IntKind.i8.min = -128:=by decide
  have e2 : Go.IntKind.i8.max = 127:=by decide
  have b1 : -128 <= n:=by first | exact a1 | (rw [e1] at a1; exact a1)
  have b2 : n <= 127:=by first | exact a2 | (rw [e2] at a2; exact a2)
  exact ⟨n,rfl,b1,b2⟩
 | bool h'=>rw [hk] at h'; cases h'
 | str h'=>rw [hk] at h'; cases h'
 | slice h' _ _ _=>rw [hk] at h'; cases h'
 | struct h' _ _=>rw [hk] at h'; cases h'

theorem certificateCoversSpec : ∀ xs,TypedL E [0,4] xs -> ∃ n,runP E (dC E n) 247 xs = some (.bool true):=by
 intro xs h
 match xs,h with
 | [x,y],⟨t1,t2,_⟩=>
  obtain ⟨p,rfl,_⟩:=z9u t1
  obtain ⟨ls,rfl,hl⟩:=z7l t2
  exact z53 (law247 sane248 p ls hl)
 | [],h=>exact h.elim
 | [_],h=>exact h.2.elim
 | _ :: _ :: _ :: _,h=>exact h.2.2.elim

theorem certificateUnique : ∀ xs,TypedL E [0,29,29,6,54] xs -> ∃ n,runP E (dC E n) 258 xs = some (.bool true):=by
 intro xs h
 match xs,h with
 | [x,y,z,w,u],⟨t1,t2,t3,t4,t5,_⟩=>
  obtain ⟨p,rfl,_⟩:=z9u t1
  obtain ⟨c,rfl,hc,hl⟩:=z9v t2
  obtain ⟨d,rfl,hd,hdl⟩:=z9v t3
  obtain ⟨b,rfl,_⟩:=zj2 t4 rfl
  obtain ⟨m,rfl,hm⟩:=ty_i8 t5 rfl
  exact z53 (law258 sane248 p c d b m hc hl hd hdl hm)
 | [],h=>exact h.elim
 | [_],h=>exact h.2.elim
 | [_,_],h=>exact h.2.2.elim
 | [_,_,_],h=>exact h.2.2.2.elim
 | [_,_,_,_],h=>exact h.2.2.2.2.elim
 | _ :: _ :: _ :: _ :: _ :: _ :: _,h=>exact h.2.2.2.2.2.elim

theorem certificateDivides : ∀ xs,TypedL E [0,4,6,12] xs -> ∃ n,runP E (dC E n) 259 xs = some (.bool true):=by
 intro xs h
 match xs,h with
 | [x,y,z,w],⟨t1,t2,t3,t4,_⟩=>
  obtain ⟨p,rfl,_⟩:=z9u t1
  obtain ⟨ls,rfl,hl⟩:=z7l t2
  obtain ⟨b,rfl,_⟩:=zj2 t3 rfl
  obtain ⟨m,rfl,hm⟩:=zoo t4 rfl
  exact z53 (law259 sane248 p ls b m hm hl)
 | [],h=>exact h.elim
 | [_],h=>exact h.2.elim
 | [_,_],h=>exact h.2.2.elim
 | [_,_,_],h=>exact h.2.2.2.elim
 | _ :: _ :: _ :: _ :: _ :: _,h=>exact h.2.2.2.2.elim

theorem certificateLess : ∀ xs,TypedL E [0,29,12] xs -> ∃ n,runP E (dC E n) 260 xs = some (.bool true):=by
 intro xs h
 match xs,h with
 | [x,y,z],⟨t1,t2,t3,_⟩=>
  obtain ⟨p,rfl,_⟩:=z9u t1
  obtain ⟨c,rfl,hc,hl⟩:=z9v t2
  obtain ⟨m,rfl,hm⟩:=zoo t3 rfl
  exact z53 (law260 sane248 p c m hm hc hl)
 | [],h=>exact h.elim
 | [_],h=>exact h.2.elim
 | [_,_],h=>exact h.2.2.elim
 | _ :: _ :: _ :: _ :: _,h=>exact h.2.2.2.elim

end Dv
