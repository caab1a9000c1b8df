/- Texts that a proof of this claim uses, joined: Lw.W147, Lw.W97, Lw.W98, Lw.W148, Lw.W149, Lw.W150, Lw.W151, Lw.W152, Lw.W153, Lw.W154, Lw.W155, Lw.W170, Lw.W46, Lw.W48, Lw.W173, Lw.W174, Lw.W172, Lw.W171, Lw.W156, Lw.W157, Lw.S31a, Lw.S31, Lw.W175. -/
import Derived.Test.YtkhdnmaebokedaaGreatGb
import Derived.Test.YtkhdnmaebokedaaGreatGa
import Derived.KernelRfl
set_option linter.all false
set_option maxHeartbeats 16000000
namespace Dv
attribute [local simp] List.replicate depth dCell dUse dInts dChoice dVar dProb tStart addO Ret
attribute [local congr] z18 z1c zw zq zm zy zl


theorem Keep.le2 {W C C' : Nat} {hp hp' : List Obj} (h : Keep W C hp hp') (hC : C' <= C) : Keep W C' hp hp':=fun J h1 h2 h3=>h J h1 (fun hp j o hj hk=>h2 hp j o hj (by omega)) h3

def fewL (l : Leaf) : Bool:=l.mult.all (fun m=>decide (m.length <= 20)) && (decide (l.branch.length <= 20) && decide (l.mult.length <= 8))
def fewCe (c : Cert) : Bool:=c.leaves.all fewL && ((decide (c.best.length <= 20) && decide (c.value.length <= 20)) && decide (c.leaves.length <= 400))
theorem zok {l : Leaf} (h : fewL l = true) : SmL l:=by
 simp only [fewL,Bool.and_eq_true,List.all_eq_true,decide_eq_true_eq] at h
 exact ⟨h.2.1,by have:=h.2.2; omega,fun m hm=>by have:=h.1 m hm; omega⟩
theorem zlu {c : Cert} (h : fewCe c = true) : SmC c:=by
 simp only [fewCe,Bool.and_eq_true,List.all_eq_true,decide_eq_true_eq] at h
 obtain ⟨h1,⟨h2,h3⟩,h4⟩:=h
 exact ⟨h2,by omega,by omega,fun l hl=>zok (h1 l hl)⟩

theorem r223 (l : Leaf) (hl : l.mult.length <= 9223372036854775807) : runP E (dL E) 223 [dLeaf l] = some (.bool (fewL l)):=by
 refine zb c223 (by simp) ?_
 simp [t223,n223]
 refine z2k l.mult.length (fun i=>∀ h : i < l.mult.length,l.mult[i].length <= 20)
  (fun i env hp=>∃ (x4 x5 : D) ,env = [dLeaf l,.loc 0 0,.bool false,dI i,x4,x5] /\ At hp 0 (.cells (dLeaf l).cellsL))
  ⟨_,_,rfl,rfl⟩ ?_ ?_
 ·rintro i env hp hi ⟨x4,x5,rfl,a1⟩ hall
  by_cases h : l.mult[i].length <= 20
  ·have h' : ¬ (20 : Int) < l.mult[i].length:=by omega
   simp [hi,a1.eq,h,h',zdf hi hl]
   exact a1
  ·have h' : (20 : Int) < l.mult[i].length:=by omega
   have e : fewL l = false:=by
    unfold fewL
    have : (l.mult.all fun m=>decide (m.length <= 20)) = false:=by
     rw [List.all_eq_false]
     exact ⟨_,List.getElem_mem hi,by simpa using h⟩
    rw [this]; rfl
   simp [hi,a1.eq,h',e]
 ·rintro env hp ⟨x4,x5,rfl,a1⟩ hall
  have e : fewL l = (decide (l.branch.length <= 20) && decide (l.mult.length <= 8)):=by
   unfold fewL
   have : (l.mult.all fun m=>decide (m.length <= 20)) = true:=by
    rw [List.all_eq_true]
    intro m hm
    obtain ⟨i,hi,rfl⟩:=List.getElem_of_mem hm
    simpa using hall i hi hi
   rw [this]; rfl
  rw [e]
  by_cases k1 : l.branch.length <= 20
  ·have k1' : (l.branch.length : Int) <= 20:=by omega
   by_cases k2 : l.mult.length <= 8
   ·have k2' : (l.mult.length : Int) <= 8:=by omega
    simp [a1.eq,k1,k1',k2,k2']
   ·have k2' : ¬ (l.mult.length : Int) <= 8:=by omega
    simp [a1.eq,k1,k1',k2,k2']
  ·have k1' : ¬ (l.branch.length : Int) <= 20:=by omega
   simp [a1.eq,k1,k1']

theorem r213 (c : Cert) (hc : c.leaves.length <= 9223372036854775807) (hl : ∀ l,l ∈ c.leaves -> l.mult.length <= 9223372036854775807) : runP E (dL E) 213 [dCert c] = some (.bool (fewCe c)):=by
 refine zb c213 (by simp) ?_
 simp [t213,n213]
 refine z2k c.leaves.length (fun i=>∀ h : i < c.leaves.length,fewL c.leaves[i] = true)
  (fun i env hp=>∃ (x4 x5 : D) ,env = [dCert c,.loc 0 0,.bool false,dI i,x4,x5] /\ At hp 0 (.cells (dCert c).cellsL))
  ⟨_,_,rfl,rfl⟩ ?_ ?_
 ·rintro i env hp hi ⟨x4,x5,rfl,a1⟩ hall
  have h223:=r223 c.leaves[i] (hl _ (List.getElem_mem hi))
  simp only [dLeaf,dInts] at h223
  cases h : fewL c.leaves[i] with
  | true=>
   rw [h] at h223
   simp [hi,a1.eq,h223,zdf hi hc,h]
   exact a1
  | false=>
   rw [h] at h223
   have e : fewCe c = false:=by
    unfold fewCe
    have : c.leaves.all fewL = false:=by
     rw [List.all_eq_false]
     exact ⟨_,List.getElem_mem hi,by rw [h]; simp⟩
    rw [this]; rfl
   simp [hi,a1.eq,h223,e]
 ·rintro env hp ⟨x4,x5,rfl,a1⟩ hall
  have e : fewCe c = ((decide (c.best.length <= 20) && decide (c.value.length <= 20)) && decide (c.leaves.length <= 400)):=by
   unfold fewCe
   have : c.leaves.all fewL = true:=by
    rw [List.all_eq_true]
    intro m hm
    obtain ⟨i,hi,rfl⟩:=List.getElem_of_mem hm
    exact hall i hi hi
   rw [this]; rfl
  rw [e]
  by_cases k1 : c.best.length <= 20
  ·have k1' : (c.best.length : Int) <= 20:=by omega
   by_cases k2 : c.value.length <= 20
   ·have k2' : (c.value.length : Int) <= 20:=by omega
    by_cases k3 : c.leaves.length <= 400
    ·have k3' : (c.leaves.length : Int) <= 400:=by omega
     simp [a1.eq,k1,k1',k2,k2',k3,k3']
    ·have k3' : ¬ (c.leaves.length : Int) <= 400:=by omega
     simp [a1.eq,k1,k1',k2,k2',k3,k3']
   ·have k2' : ¬ (c.value.length : Int) <= 20:=by omega
    simp [a1.eq,k1,k1',k2,k2']
  ·have k1' : ¬ (c.best.length : Int) <= 20:=by omega
   simp [a1.eq,k1,k1']

theorem zmq {p : Prob} (S : Small p) {c : Cert} (a : Acc p c) {x : List Int} (hx : Whole p x) : 0 <= betterI p x c.best:=
 zd5 S a.whole (fun l hl=>⟨a.leaf l hl,a.branch l hl⟩) a.div hx

theorem zoz {p : Prob} {c : Cert} (h : chkC p c = 0) : Acc p c:=by
 unfold chkC at h
 split at h
 ·split at h
  ·assumption
  ·cases h
 ·cases h
theorem law257 (h1 : runP E (dL E) 248 [] = some (.bool true)) (p : Prob) (c : Cert) (x : List Int) (hc : c.leaves.length <= 9223372036854775807) (hl : ∀ l,l ∈ c.leaves -> l.mult.length <= 9223372036854775807) :
  runP E (dL E) 257 [dProb p,dCert c,dInts x] = some (.bool true):=by
 refine zb c257 (by simp) ?_
 have h2:=r2 p
 have h213:=r213 c hc hl
 simp only [dProb,dInts,dCert] at h2 h213
 cases hf : fewB p with
 | false=>rw [hf] at h2; simp [t257,n257,h1,h2,z2x]
 | true=>
 rw [hf] at h2
 cases hg : fewCe c with
 | false=>
  rw [hg] at h213
  simp [t257,n257,h1,h2,h213,z2x]
 | true=>
 rw [hg] at h213
 by_cases hx : (20 : Int) < x.length
 ·simp [t257,n257,h1,h2,h213,hx,z2x]
 have S:=zjf hf
 have M:=zlu hg
 have h216:=r216 p c S M
 by_cases hA : chkC p c = 0
 rotate_left
 ·simp only [dProb,dInts,dCert] at h216
  simp [t257,n257,h1,h2,h213,hx,h216,hA,z2x]
 have A:=zoz hA
 rw [hA] at h216
 have h22:=r22 p c.best S M.best
 have h22x:=r22 p x S (by omega)
 have h20:=r20 c.value c.value (by have:=M.value; omega)
 have h24:=r24 p x c.best S (by omega) M.best
 unfold resV at h22 h22x
 rw [if_pos A.whole,A.value] at h22
 unfold resBt at h24
 simp only [dProb,dInts,dCert,decide_true] at h22 h22x h216 h20 h24
 by_cases w : Whole p x
 ·have hb:=zmq S A w
  have hb2 : ¬ betterI p x c.best < 0:=by omega
  rw [if_pos ⟨w,A.whole⟩] at h24
  rw [if_pos w] at h22x
  simp only [hb2,decide_false] at h24
  obtain ⟨B,hB⟩ : ∃ B,B = boundL p x:=⟨_,rfl⟩
  rw [<- hB] at h22x
  simp [t257,n257,h1,h2,h213,hx,h216,h22,h22x,h20,h24,z2x]
 ·rw [if_neg fun h=>w h.1] at h24
  rw [if_neg w] at h22x
  simp [t257,n257,h1,h2,h213,hx,h216,h22,h22x,h20,h24,z2x]

theorem zkk {x : D} (h : Typed E 32 x) : ∃ l,x = dLeaf l /\ l.mult.length <= 9223372036854775807:=by
 obtain ⟨ds,rfl,h1⟩:=z26 h rfl
 obtain ⟨hl,hf⟩:=z27 h1 (fs:=[(0,1),(1,2),(2,9)]) rfl
 obtain ⟨x,y,z,rfl⟩:=three hl
 obtain ⟨b,h2,_⟩:=z4f (hf 0 _ rfl) rfl
 obtain ⟨k,h3,_⟩:=z4a (hf 1 _ rfl) rfl
 obtain ⟨els,h4,hn,h6⟩:=z2l (hf 2 _ rfl) (e:=6) rfl
 simp [E,tyTab] at h2 h3 h4
 subst h2 h3 h4
 obtain ⟨l,rfl,_⟩:=z36 (f:=dInts) (R:=fun _=>True) (els:=els) fun x hx=>by
  obtain ⟨l,h5,_⟩:=z4f (z4p (h6 x hx) rfl) rfl
  simp at h5; exact ⟨l,h5,trivial⟩
 have hm : Go.maxLen <= 9223372036854775807:=by decide
 exact ⟨⟨b,k,l⟩,rfl,by simp at hn; simp; omega⟩

theorem zkl {x : D} (h : Typed E 29 x) : ∃ c,x = dCert c /\ c.leaves.length <= 9223372036854775807 /\ ∀ l,l ∈ c.leaves -> l.mult.length <= 9223372036854775807:=by
 obtain ⟨ds,rfl,h1⟩:=z26 h rfl
 obtain ⟨hl,hf⟩:=z27 h1 (fs:=[(0,6),(1,6),(2,31)]) rfl
 obtain ⟨x,y,z,rfl⟩:=three hl
 obtain ⟨b,h2,_⟩:=z4f (hf 0 _ rfl) rfl
 obtain ⟨v,h3,_⟩:=z4f (hf 1 _ rfl) rfl
 obtain ⟨els,h4,hn,h6⟩:=z2l (hf 2 _ rfl) (e:=32) rfl
 simp [E,tyTab] at h2 h3 h4
 subst h2 h3 h4
 obtain ⟨l,rfl,o⟩:=z36 (f:=dLeaf) (R:=fun l=>l.mult.length <= 9223372036854775807) (els:=els) fun x hx=>zkk (h6 x hx)
 have hm : Go.maxLen <= 9223372036854775807:=by decide
 exact ⟨⟨b,v,l⟩,rfl,by simp at hn; simp; omega,o⟩

def cBE : Cell:=⟨false,2,100⟩
def pBE : Prob:=⟨[cBE],[[0]],[⟨0,0,[0],[⟨0,0,0,[⟨cBE,1⟩]⟩,⟨10,30,1,[]⟩]⟩]⟩
def nBE : Prob:=⟨[],[[]],[]⟩
def kBE : Cert:=⟨[1],[0,10,30,1],[⟨[0],2,[]⟩,⟨[1],1,[]⟩]⟩
def wBE : Cert:=⟨[0],[1,0,0,0],[⟨[0],2,[]⟩,⟨[1],1,[]⟩]⟩
def lBE : Cert:=⟨[1],[0,10,30,1],[⟨[1],1,[]⟩]⟩
def byB : List D:=[3,3,3,1,1,2,3,4,1,0,1,20,1,60,1,2,3,2,3,3,3,1,1,0,1,4,3,0,3,3,3,1,1,2,1,2,3,0].map (D.int .u8)

theorem up31 {k : Nat} {a : List D} {r : D} {n : Nat} (h : runP E (dC E n) k a = some r) : runP E (dL E) k a = some r:=z3m (fun _ _ _ h=>z3a _ _ _ h) h

theorem e263 : runP E (dL E) 263 [] = some (.tup [dProb pBE,dCert kBE]):=up31 (n:=100) (by kernel_rfl)
theorem e230a : runP E (dL E) 230 [dProb nBE,.imm .none []] = some (.tup [.bool false,dI 0]):=up31 (n:=100) (by kernel_rfl)
theorem e230b : runP E (dL E) 230 [dProb pBE,.imm .none [.imm .none []]] = some (.tup [.bool true,dI 0]):=up31 (n:=100) (by kernel_rfl)
theorem e230c : runP E (dL E) 230 [dProb pBE,.imm .none [.imm .none [],.imm .none []]] = some (.tup [.bool false,dI 0]):=up31 (n:=100) (by kernel_rfl)
theorem e252 : runP E (dL E) 252 [dCert kBE] = some (.tup [.imm .none byB,dI 0]):=up31 (n:=100) (by kernel_rfl)
theorem e254a : runP E (dL E) 254 [.imm .none byB] = some (.tup [dCert kBE,dI 0]):=up31 (n:=300) (by kernel_rfl)
theorem e264 : runP E (dL E) 264 [.agg [.int .i64 1,.int .i64 0,.str [],.imm .none []]] = some (.tup [.imm .none [.int .u8 1,.int .u8 0],dI 0]):=up31 (n:=100) (by kernel_rfl)
theorem e254b : runP E (dL E) 254 [.imm .none [.int .u8 1,.int .u8 0]] = some (.tup [dCert cert0,dI 310]):=up31 (n:=100) (by kernel_rfl)
theorem e216a : runP E (dL E) 216 [dProb pBE,dCert kBE] = some (dI 0):=up31 (n:=100) (by kernel_rfl)
theorem e216b : runP E (dL E) 216 [dProb pBE,dCert wBE] = some (dI 310):=up31 (n:=100) (by kernel_rfl)
theorem e216c : runP E (dL E) 216 [dProb pBE,dCert lBE] = some (dI 310):=up31 (n:=100) (by kernel_rfl)
theorem e216d : runP E (dL E) 216 [dProb nBE,dCert cert0] = some (dI 310):=up31 (n:=100) (by kernel_rfl)
theorem e256 : runP E (dL E) 256 [dCert kBE,dCert kBE] = some (.bool true):=up31 (n:=100) (by kernel_rfl)
theorem e231a : runP E (dL E) 231 [dProb pBE,dInts [1],dLeaf ⟨[1],1,[]⟩] = some (dI 0):=up31 (n:=100) (by kernel_rfl)
theorem e231b : runP E (dL E) 231 [dProb pBE,dInts [1],dLeaf ⟨[1],9,[]⟩] = some (dI 310):=up31 (n:=100) (by kernel_rfl)

theorem zoh {hp : List Obj} {n : Nat} {s : List UInt8} : frz hp (n + 1) (.str s) = some (.str s):=rfl
theorem sane248 : runP E (dL E) 248 [] = some (.bool true):=by
 refine zb c248 (by simp) ?_
 have h1:=e263
 have h2:=e230a
 have h3:=e230b
 have h4:=e230c
 have h5:=e252
 have h6:=e254a
 have h7:=e264
 have h8:=e254b
 have h9:=e216a
 have h10:=e216b
 have h11:=e216c
 have h12:=e216d
 have h13:=e256
 have h14:=e231a
 have h15:=e231b
 simp only [dProb,dInts,dCert,cert0,pBE,nBE,kBE,wBE,lBE,cBE,dLeaf,dVar,dChoice,dUse,dCell,List.map_cons,List.map_nil] at h1 h2 h3 h4 h5 h6 h7 h8 h9 h10 h11 h12 h13 h14 h15
 obtain ⟨bb,hb⟩ : ∃ bb,bb = D.imm .none byB:=⟨_,rfl⟩
 have hf : frz [] 12 bb = some bb:=by rw [hb]; rfl
 rw [<- hb] at h5 h6

 have hs : sliceD E 31 (.imm .none [.agg [.imm .none [dI 0],dI 2,.imm .none []],.agg [.imm .none [dI 1],dI 1,.imm .none []]]) (some (.int .i64 1)) none none = some (.imm .none [.agg [.imm .none [dI 1],dI 1,.imm .none []]]):=by kernel_rfl
 simp [t248,n248,hf,zoh,hs,h1,h2,h3,h4,h5,h6,h7,h8,h9,h10,h11,h12,h13,h14,h15,z2n,z56]

theorem certificateProves : ∀ xs,TypedL E [0,29,6] xs -> ∃ n,runP E (dC E n) 257 xs = some (.bool true):=by
 intro xs h
 match xs,h with
 | [x,y,z],⟨t1,t2,t3,_⟩=>
  obtain ⟨p,rfl,_⟩:=znl t1
  obtain ⟨c,rfl,hc,hl⟩:=zkl t2
  obtain ⟨b,rfl,_⟩:=znm t3 rfl
  exact z96 (law257 sane248 p c b hc hl)
 | [],h=>exact h.elim
 | [_],h=>exact h.2.elim
 | [_,_],h=>exact h.2.2.elim
 | _ :: _ :: _ :: _ :: _,h=>exact h.2.2.2.elim

end Dv
