/- Texts that a proof of this claim uses, joined: Lw.W225, Lw.S41, Lw.Ty, Lw.W226, Lw.W227, Lw.W228, Lw.W229, Lw.W230, Lw.W231, Lw.W232. -/
import Derived.Test.YtfagnjchgplecaaDoorGa
import Derived.Test.YtfagnjchgplecaaDoorLwa
import Derived.Test.YtfagnjchgplecaaDoorDvd
set_option linter.all false
set_option maxHeartbeats 16000000
namespace Dv

def pr (n : Int) : List Ent:=[⟨1,3,n⟩,⟨4,0,-n⟩]
theorem zky {a b : Ent} (ha : okEnt a) (hb : okEnt b) (h : ltA a b) : fmE [a,b]:=by
 refine ⟨by simp,by simp,fun x hx=>?_,fun i hi=>?_⟩
 ·simp only [List.mem_cons,List.not_mem_nil,or_false] at hx
  rcases hx with rfl | rfl
  ·exact ha
  ·exact hb
 ·have : i = 0:=by simp at hi; omega
  subst this
  exact h
theorem zt8 {n : Int} (h0 : n ≠ 0) (h1 : -1099511627776 <= n /\ n <= 1099511627776) : fmE (pr n):=by
 refine zky ⟨by simp,by simp,h0,h1⟩ ⟨by simp,by simp,?_,?_⟩ (.inl (by simp))
 ·simp only []; omega
 ·simp only []; omega
theorem zpg {n : Int} : sumE (pr n) = 0:=by simp [pr,sumE]; omega

def sx0 : Stp:=⟨5,-1,pr 7⟩
def sx1 : Stp:=⟨9,0,pr (-2)⟩
def px0 : Pst:=newP tgB [] sx0
def px1 : Pst:=newP tgB [px0] sx1
theorem zpf : postE tgB [] sx0 = 0:=by
 rw [z4b z85 (by simp) (by simp)]
 exact z1v.2 ⟨⟨by simp [newP],by simp [newP,sx0],by simp [newP,sx0],zt8 (by decide) (by decide)⟩,zpg⟩
theorem vx0 : vld tgB [px0]:=(z7q zpf).2.2.1
theorem zf8 : postE tgB [px0] sx1 = 0:=by
 rw [z4b vx0 (by simp) (by simp [px0,newP,sx0,sx1])]
 exact z1v.2 ⟨⟨by simp [newP],by simp [newP,sx1],by simp [newP,sx1],zt8 (by decide) (by decide)⟩,zpg⟩
theorem vx1 : vld tgB [px0,px1]:=(z7q zf8).2.2.1
theorem zt2 : postE tgB [] ⟨5,0,pr 7⟩ = 410:=by
 rw [z4b z85 (by simp) (by simp)]
 unfold pchk
 rw [if_neg fun h=>by have:=h.corrects.2; simp [newP] at this]
theorem zt1 : postE tgB [] ⟨5,-1,[⟨1,3,3⟩,⟨4,0,-2⟩]⟩ = 411:=by
 rw [z4b z85 (by simp) (by simp)]
 unfold pchk
 rw [if_pos ⟨by simp [newP],by simp [newP],by simp [newP],zky ⟨by simp,by simp,by simp,by simp⟩ ⟨by simp,by simp,by simp,by simp⟩ (.inl (by simp))⟩,if_neg (by simp [newP,sumE])]
theorem zmf : postE tgB [px0] ⟨4,0,pr 1⟩ = 410:=by
 unfold postE
 rw [if_neg (by simp [z1u.2 vx0]),if_neg (by simp),if_pos ⟨px0,rfl,by simp [px0,newP,sx0]⟩]
theorem zqq : balP 1 3 8 [px0,px1] = 7:=by
 simp [balP,px0,px1,newP,sx0,sx1,pr,amtOf]
theorem zqp : balP 1 3 9 [px0,px1] = 5:=by
 simp [balP,px0,px1,newP,sx0,sx1,pr,amtOf]
theorem zqo : rdE tgB [px1] = 410:=by
 have h1:=zf8
 have hg:=(z7q zf8).2.2.2.2
 have hf : firstE [px1] = 0:=z35.2 fun p hp=>by simp at hp; rw [hp]; exact hg
 unfold rdE
 rw [if_neg (by simp),if_neg (by simp [hf]),if_neg fun v=>by
  have:=(v.2.2 0 px1 rfl).no
  simp [px1,newP] at this]
theorem zqn : pchk ⟨0,0,0,[],z32⟩ = 410:=by
 unfold pchk
 rw [if_neg fun h=>by have:=h.ents.two; simp at this]
theorem zcc : ∀ {a b : List (Int × Int)},a.Perm b -> a.Pairwise (fun x y=>pltB y x = false) -> b.Pairwise (fun x y=>pltB y x = false) -> a = b
 | [],b,hp,_,_=>by rw [List.nil_perm.1 hp]
 | x :: a,[],hp,_,_=>by simp at hp
 | x :: a,y :: b,hp,ha,hb=>by
  obtain ⟨a1,a2⟩:=List.pairwise_cons.1 ha
  obtain ⟨b1,b2⟩:=List.pairwise_cons.1 hb
  have hxy : x = y:=by
   have h1 : x ∈ y :: b:=hp.mem_iff.1 (by simp)
   have h2 : y ∈ x :: a:=hp.mem_iff.2 (by simp)
   rcases List.mem_cons.1 h1 with h1 | h1
   ·exact h1
   ·rcases List.mem_cons.1 h2 with h2 | h2
    ·exact h2.symm
    ·have c1:=b1 x h1
     have c2:=a1 y h2
     rcases zjl c2 with h | h
     ·exact h
     ·rw [h] at c1; simp at c1
  subst hxy
  rw [zcc ((List.perm_cons x).1 hp) a2 b2]
theorem zqr : accL [px0,px1] = [(1,3),(4,0)]:=by
 have e : accs [px0,px1] = [(1,3),(4,0),(1,3),(4,0)]:=rfl
 have es : psort [(1,3),(4,0),(1,3),(4,0)] = [(1,3),(1,3),(4,0),(4,0)]:=by
  refine zcc ((za6 _).trans ?_) (zci _) (by decide)
  exact (List.Perm.refl [((1 : Int),(3 : Int))]).append (List.Perm.swap (1,3) (4,0) [(4,0)])
 unfold accL
 rw [e,es]
 decide

end Dv

namespace Dv
attribute [local simp] List.replicate depth dCell dUse dInts dChoice dVar dProb tStart addO Ret
attribute [local congr] z3k z3t z2w z29 z1o z31 z1n


theorem r353 (n : Int) (h : -100 <= n /\ n <= 100) : runP E (dL E) 353 [dI n] = some (.imm .none [.agg [dI 1,dI 3,dI n],.agg [dI 4,dI 0,dI (-n)]]):=by
 have hw : Go.IntKind.i64.wrap (0 - n) = -n:=by rw [za ⟨by omega,by omega⟩]; omega
 have hw2 : Go.IntKind.i64.wrap (-n) = -n:=za ⟨by omega,by omega⟩
 refine zx c353 (by simp) ?_
 simp [t353,n353,hw,hw2]
 rfl
theorem s353 (n : Int) (h : -100 <= n /\ n <= 100) (hp : List Obj) : runS E (dL E) 353 [dI n] hp = some (.sl hp.length 0 2 3 true true,hp ++ [.cells [dI 1,dI 3,dI n,dI 4,dI 0,dI (-n)]]):=by
 have hw : Go.IntKind.i64.wrap (0 - n) = -n:=by rw [za ⟨by omega,by omega⟩]; omega
 have hw2 : Go.IntKind.i64.wrap (-n) = -n:=za ⟨by omega,by omega⟩
 have : ∃ d hp',runS E (dL E) 353 [dI n] hp = some (d,hp') /\ (d = .sl hp.length 0 2 3 true true /\ hp' = hp ++ [.cells [dI 1,dI 3,dI n,dI 4,dI 0,dI (-n)]]):=by
  refine z37 c353 (args:=[dI n]) (hp:=hp) (R:=fun d hp'=>d = .sl hp.length 0 2 3 true true /\ hp' = hp ++ [.cells [dI 1,dI 3,dI n,dI 4,dI 0,dI (-n)]]) (by simp) ?_
  simp [t353,n353,hw,hw2]
  rfl
 obtain ⟨d,hp',e,rfl,rfl⟩:=this
 exact e

theorem zl6 {a b : List UInt8} (ha : a.length = 32) (hb : b.length = 32) : binD E .eql 73 (.agg (a.map byteD)) (.agg (b.map byteD)) = some (.bool (decide (a = b))):=by
 have h1 : (E.ty 73).eqc = true:=rfl
 have h2 : (E.ty 73).zero = List.replicate a.length (D.int .u8 0):=by rw [ha]; rfl
 unfold binD
 simp only []
 rw [if_pos ⟨h1,by rw [h2]; exact z5d⟩,z9c (by rw [ha,hb])]
theorem mx0 : MadeP 12 [px0]:=⟨vx0,by simp,fun p hp=>by simp at hp; subst hp; exact ⟨dig32,by decide⟩⟩
theorem mx1 : MadeP 12 [px0,px1]:=⟨vx1,by simp,fun p hp=>by
 simp at hp
 rcases hp with rfl | rfl
 ·exact ⟨dig32,by decide⟩
 ·exact ⟨dig32,by decide⟩⟩
theorem okt : OkPs [px1]:=⟨by simp,fun p hp=>by simp at hp; subst hp; exact ⟨dig32,by decide⟩⟩
theorem okn : OkPs []:=⟨by simp,by simp⟩

theorem r314 : runP E (dL E) 314 [] = some (.bool true):=by
 have a1:=r353 7 (by decide)
 have a2:=r353 (-2) (by decide)
 have a3:=r353 1 (by decide)
 have a4:=s353 3 (by decide)
 have b1:=r316 [] sx0 okn (by decide)
 have b2:=r316 [px0] sx1 (mx0.ok (by decide)) (by decide)
 have b3:=r316 [] ⟨5,0,pr 7⟩ okn (by simp [pr])
 have b4:=r316 [] ⟨5,-1,[⟨1,3,3⟩,⟨4,0,-2⟩]⟩ okn (by simp)
 have b5:=r316 [px0] ⟨4,0,pr 1⟩ (mx0.ok (by decide)) (by simp [pr])
 have hx1 : [px0] ++ [newP tgB [px0] sx1] = [px0,px1]:=rfl
 have hx0 : [] ++ [newP tgB [] sx0] = [px0]:=rfl
 simp only [poD,zpf,zf8,zt2,zt1,zmf,if_true,hx1,hx0,if_neg (show ¬ (410 : Int) = 0 by decide),if_neg (show ¬ (411 : Int) = 0 by decide)] at b1 b2 b3 b4 b5
 simp only [pr,sx0,sx1,dPsts,List.map_cons,List.map_nil] at b1 b2 b3 b4 b5
 have v0:=z1u.2 vx0
 have v1:=z1u.2 vx1
 have vn:=z1u.2 (z85 (tg:=tgB))
 have c1:=r318 [px0,px1] (mx1.ok (by decide)) (mx1.entN (by decide)) 1 3 8
 have c2:=r318 [px0,px1] (mx1.ok (by decide)) (mx1.entN (by decide)) 1 3 9
 have c3:=r318 [] okn (by decide) 1 3 1439
 simp only [blD,v1,if_true,zqq,zqp,dPsts,List.map_cons,List.map_nil] at c1 c2
 simp only [blD,vn,if_true,balP,dPsts,List.map_nil] at c3
 have d1:=r334 ⟨0,0,0,[],z32⟩ rfl (by simp)
 unfold encR at d1
 simp only [zqn,if_neg (show ¬ (410 : Int) = 0 by decide)] at d1
 have d1 : runP E (dL E) 334 [.agg (dI 0 :: dI 0 :: dI 0 :: .imm .none [] :: List.replicate 32 (D.int .u8 0))] = some (.tup [.imm .none [],dI 410]):=d1
 simp only [List.replicate] at d1
 have e1:=r329 [px0] (mx0.ok (by decide))
 have e2:=r329 [] okn
 simp only [rdD,v0,vn,if_true,dPsts,List.map_cons,List.map_nil] at e1 e2
 have f1:=r325 [px0,px1] (mx1.ok (by decide)) (mx1.entN (by decide))
 rw [zqr] at f1
 have g1:=r324 [px0,px1] (mx1.ok (by decide))
 have g2:=r324 [] okn
 have g3:=r324 [px1] okt
 rw [v1] at g1
 rw [vn] at g2
 rw [zqo] at g3
 simp only [dPsts,dAccs,pAcc,List.map_cons,List.map_nil] at f1 g1 g2 g3
 have h1:=r331 bPostings [] (by decide) (by simp)
 have hT : tgB bPostings [] = digT tgB []:=rfl
 rw [hT] at h1
 have n0 : px0.prev.length = 32:=dig32
 have n1 : px1.prev.length = 32:=dig32
 have pe1 : px1.prev = digT tgB [px0]:=rfl
 have pe0 : px0.prev = digT tgB []:=rfl
 have pn : px1.no = 1:=rfl
 have pc : px1.corrects = 0:=rfl
 rw [<- pe1] at e1
 rw [<- pe0] at e2 h1
 simp only [Int.neg_neg] at a2 b2
 have eqd : ∀ a : List UInt8,a.length = 32 -> binD E .eql 73 (.agg (a.map byteD)) (.agg (a.map byteD)) = some (.bool true):=fun a ha=>by
  rw [zl6 ha ha]; simp
 have q1:=eqd _ n1
 have q0:=eqd _ n0
 clear pe1 pe0 hx1 hx0 v0 v1 vn hT eqd
 generalize px0 = p0 at *
 generalize px1 = p1 at *
 have sc0 : setCells (List.replicate 32 (D.int .u8 0)) 0 (p0.prev.map byteD) = p0.prev.map byteD:=z8 (by simp [n0])
 have sc1 : setCells (List.replicate 32 (D.int .u8 0)) 0 (p1.prev.map byteD) = p1.prev.map byteD:=z8 (by simp [n1])
 simp only [List.replicate] at sc0 sc1
 have hst : ∀ n s,frz [] (n + 1) (.str s) = some (.str s):=fun _ _=>rfl
 have l0 : ∀ r : List Obj,loadD E (.cells [dI 1,dI 3] :: r) 65 (.loc 0 0) = some (dAcc 1 3):=fun _=>rfl
 have l2 : ∀ (x y : Obj) (r : List Obj),loadD E (x :: y :: .cells (p1.prev.map byteD) :: r) 73 (.loc 2 0) = some (.agg (p1.prev.map byteD)):=fun x y r=>z5c (by simp [Bys,At]) n1
 have l3 : ∀ (x y z : Obj) (r : List Obj),loadD E (x :: y :: z :: .cells (p0.prev.map byteD) :: r) 73 (.loc 3 0) = some (.agg (p0.prev.map byteD)):=fun x y z r=>z5c (by simp [Bys,At]) n0
 have li : ∀ (h : List Obj) (a : List UInt8),a.length = 32 -> loadD E h 73 (.iptr (a.map byteD)) = some (.agg (a.map byteD)):=fun h a ha=>by
  have e:=z21 32 0 (a.map byteD) (by simp [ha])
  unfold loadD
  simp only [show (E.ty 73).size = 32 from rfl,e]
  rfl
 have li0:=fun h=>li h _ n0
 have li1:=fun h=>li h _ n1
 have l2i : ∀ (h : List Obj) (a : Int) (r : List D),loadD E h 2 (.iptr (dI a :: r)) = some (dI a):=fun _ _ _=>rfl
 have l65 : ∀ (h : List Obj) (a b : Int) (r : List D),loadD E h 65 (.iptr (dI a :: dI b :: r)) = some (dAcc a b):=fun _ _ _ _=>rfl
 have h1 : runP E (dL E) 331 [.str [112,111,115,116,105,110,103,115],.imm .none []] = some (dDig p0.prev):=h1
 have hsl : sliceD E 70 (.imm .none [dPst p0,dPst p1]) (some (dI 1)) none none = some (.imm .none [dPst p1]):=by
  have hk : (E.ty 70).k = .slice 71:=rfl
  have hf : headFits (E.ty 71).size [dPst p0,dPst p1] = true:=by
   show ((pC p0).length == 36) = true
   rw [z5u n0]; rfl
  unfold sliceD
  simp only [hk,bnd,hf]
  rfl
 have bn : (p1.no == 1) = true:=by rw [pn]; rfl
 have bc : (p1.corrects == 0) = true:=by rw [pc]; rfl
 have ck : chunk 3 true 2 [dI 1,dI 3,dI 3,dI 4,dI 0,dI (-2)] = some [.agg [dI 1,dI 3,dI 3],.agg [dI 4,dI 0,dI (-2)]]:=rfl
 have i1 : ids [.cells [dI 1,dI 3],.cells [dI 1,dI 3,dI 3,dI 4,dI 0,dI (-2)]] 12 (.imm .exact []) = []:=rfl
 have i2 : ids [.cells [dI 1,dI 3],.cells [dI 1,dI 3,dI 3,dI 4,dI 0,dI (-2)]] 12 (dI 5) = []:=rfl
 have i3 : ids [.cells [dI 1,dI 3],.cells [dI 1,dI 3,dI 3,dI 4,dI 0,dI (-2)]] 12 (dI (-1)) = []:=rfl
 have i4 : ids [.cells [dI 1,dI 3],.cells [dI 1,dI 3,dI 3,dI 4,dI 0,dI (-2)]] 12 (.sl 1 0 2 3 true true) = [1]:=rfl
 have fz : freezeAll [.cells [dI 1,dI 3],.cells [dI 1,dI 3,dI 3,dI 4,dI 0,dI (-2)]] [1] = [.cells [dI 1,dI 3],.frozen [dI 1,dI 3,dI 3,dI 4,dI 0,dI (-2)]]:=rfl
 refine zx c314 (by simp) ?_
 simp [t314,n314,a1,a2,a3,a4,b1,b2,b3,b4,b5,c1,c2,c3,d1,e1,e2,f1,g1,g2,g3,h1,n0,n1,bn,bc,q1,q0,sc0,sc1,hst,l0,l2,l3,li0,li1,l2i,l65,z19,zc,noMark,hsl,ck,i1,i2,i3,i4,fz,-zp,-za9]

end Dv

namespace Dv

theorem zsx {x : D} {c : Nat} (h : Typed E c x) (hk : (E.ty c).k = .int .u8) : ∃ m : Nat,x = .int .u8 m /\ m <= 255:=by
 have ha : (E.ty c).ag = false:=by unfold TI.ag; rw [hk]
 have h1:=z87 h ha
 clear h
 cases h1 with
 | int h' hw=>
  rename_i n
  rw [hk] at h'; cases h'
  simp [Go.Lit.wf] at hw
  obtain ⟨a1,a2⟩:=hw
  have e1 : Go.IntKind.u8.min = 0:=by decide
  have e2 : Go.IntKind.u8.max = 255:=by decide
  have b1 : 0 <= n:=by first | exact a1 | (rw [e1] at a1; exact a1)
  have b2 : n <= 255:=by first | exact a2 | (rw [e2] at a2; exact a2)
  exact ⟨n.toNat,by rw [Int.toNat_of_nonneg b1],by omega⟩
 | bool h'=>rw [hk] at h'; cases h'
 | str h'=>rw [hk] at h'; cases h'
 | slice h' _ _ _=>rw [hk] at h'; cases h'
 | struct h' _ _=>rw [hk] at h'; cases h'
 | arr h' _ _=>rw [hk] at h'; cases h'

end Dv

namespace Dv
attribute [local simp] List.replicate depth dCell dUse dInts dChoice dVar dProb tStart addO Ret
attribute [local congr] z3k z3t z2w z29 z1o z31 z1n


def okE (e : Ent) : Prop:=i64 e.kind /\ i64 e.idx /\ i64 e.amt
def okS (s : Stp) : Prop:=i64 s.minute /\ i64 s.corrects /\ (∀ e,e ∈ s.ents -> okE e) /\ s.ents.length <= Go.maxLen
theorem two {A : Type} {l : List A} (h : l.length = 2) : ∃ a b,l = [a,b]:=by
 match l,h with
 | [a,b],_=>exact ⟨a,b,rfl⟩
theorem zlk {ds : List D} (h : DTc E 65 ds) : ∃ k i,ds = [dI k,dI i] /\ i64 k /\ i64 i:=by
 obtain ⟨hl,hf⟩:=z88 h (fs:=[(0,2),(1,2)]) rfl
 obtain ⟨x,y,rfl⟩:=two hl
 obtain ⟨a,h2,o2⟩:=zbw (hf 0 _ rfl) rfl
 obtain ⟨b,h3,o3⟩:=zbw (hf 1 _ rfl) rfl
 simp [E,tyTab] at h2 h3
 subst h2 h3
 exact ⟨a,b,rfl,o2,o3⟩
theorem zsz {x : D} (h : Typed E 72 x) : ∃ e,x = dEnt e /\ okE e:=by
 obtain ⟨ds,rfl,h1⟩:=zbv h rfl
 obtain ⟨hl,hf⟩:=z88 h1 (fs:=[(0,65),(2,2)]) rfl
 obtain ⟨x,y,z,rfl⟩:=three hl
 obtain ⟨a,b,h2,o1,o2⟩:=zlk (hf 0 _ rfl)
 obtain ⟨c,h3,o3⟩:=zbw (hf 1 _ rfl) rfl
 simp [E,tyTab] at h2 h3
 obtain ⟨rfl,rfl⟩:=h2
 subst h3
 exact ⟨⟨a,b,c⟩,rfl,o1,o2,o3⟩
theorem zsy {x : D} (h : Typed E 68 x) : ∃ s,x = dStp s /\ okS s:=by
 obtain ⟨ds,rfl,h1⟩:=zbv h rfl
 obtain ⟨hl,hf⟩:=z88 h1 (fs:=[(0,2),(1,2),(2,66)]) rfl
 obtain ⟨x,y,z,rfl⟩:=three hl
 obtain ⟨a,h2,o2⟩:=zbw (hf 0 _ rfl) rfl
 obtain ⟨b,h3,o3⟩:=zbw (hf 1 _ rfl) rfl
 obtain ⟨els,h5,hlen,h6⟩:=zf3 (hf 2 _ rfl) (e:=72) rfl
 simp [E,tyTab] at h2 h3 h5
 subst h2 h3 h5
 obtain ⟨l,rfl,o⟩:=ze6 (f:=dEnt) (R:=okE) (els:=els) fun x hx=>zsz (h6 x hx)
 exact ⟨⟨a,b,l⟩,rfl,o2,o3,o,by simpa using hlen⟩
theorem zqj {x : D} (h : Typed E 69 x) : ∃ l,x = dStps l /\ (∀ s,s ∈ l -> okS s) /\ l.length <= 9223372036854775807:=by
 obtain ⟨els,h5,hlen,h6⟩:=zf3 (z87 h rfl) (e:=68) rfl
 simp only [List.cons.injEq,and_true] at h5
 subst h5
 obtain ⟨l,rfl,o⟩:=ze6 (f:=dStp) (R:=okS) (els:=els) fun x hx=>zsy (h6 x hx)
 exact ⟨l,rfl,o,by rw [List.length_map] at hlen; exact hlen⟩

theorem ziw {n k : Nat} {l : List Pst} (h : MadeP n l) : MadeP n (l.take k):=⟨zmd h.v k,by rw [List.length_take]; have:=h.len; omega,fun p hp=>h.ents p (List.mem_of_mem_take hp)⟩
theorem sl70 {l : List Pst} {k : Nat} (h : k <= l.length) (h32 : ∀ p,p ∈ l -> p.prev.length = 32) : sliceD E 70 (.imm .none (l.map dPst)) none (some (dI k)) none = some (.imm .none ((l.take k).map dPst)):=by
 have hk : (E.ty 70).k = .slice 71:=rfl
 have hf : headFits (E.ty 71).size (l.map dPst) = true:=by
  cases l with
  | nil=>rfl
  | cons p l=>
   show ((pC p).length == 36) = true
   rw [z5u (h32 p (by simp))]; rfl
 have hs : sliceSpare .none (l.map dPst).length k none = .none:=by unfold sliceSpare; simp
 unfold sliceD
 simp only [hk,bnd,Int.natCast_nonneg,if_true,Int.toNat_natCast,hf,Option.map_none,hs]
 rw [if_pos ⟨Nat.zero_le _,by simpa using h,Nat.le_refl _,trivial⟩,List.drop_zero,Nat.sub_zero,List.map_take]

theorem zt7 {n : Nat} {l : List Pst} (h : MadeP n l) (hn : n <= 1000) : runP E (dL E) 329 [dPsts l] = some (.tup [dDig (digT tgB l),dI 0]):=by
 have e:=r329 l (h.ok hn)
 unfold rdD at e
 rw [z1u.2 h.v,if_pos rfl] at e
 exact e
theorem ld_k {h r : List Obj} {k : Nat} {m : List UInt8} (h32 : m.length = 32) (hr : r[k]? = some (.cells (m.map byteD))) : loadD E (h ++ r) 73 (.loc (h.length + k) 0) = some (.agg (m.map byteD)):=
 z5c (show At (h ++ r) (h.length + k) _ by unfold At; rw [List.getElem?_append_right (by omega),show h.length + k - h.length = k from by omega]; exact hr) h32

theorem zix {sz : Nat} : ∀ (els : List D) (i j n : Nat) (x : D),(∀ y,y ∈ els -> y.cellsL.length = sz) -> els[i]? = some x -> j + n <= sz -> takeC (flat els) (i * sz + j) n = takeC x.cellsL j n:=by
 have key : ∀ (a b : List D) (k j : Nat) (n : Nat),j + n <= a.length -> ∀ pre : List D,pre.length = k -> takeC (pre ++ (a ++ b)) (k + j) n = takeC a j n:=by
  intro a b k j n
  induction n generalizing j with
  | zero=>intro _ _ _; rfl
  | succ n ih=>
   intro hj pre hp
   have hg : (pre ++ (a ++ b))[k + j]? = a[j]?:=by
    rw [List.getElem?_append_right (by omega),hp,show k + j - k = j from by omega,List.getElem?_append_left (by omega)]
   rw [takeC,takeC,hg]
   have:=ih (j + 1) (by omega) pre hp
   rw [show k + j + 1 = k + (j + 1) from by omega,this]
 intro els i j n x hall hx hj
 have hi:=(List.getElem?_eq_some_iff.1 hx).1
 have hxe:=(List.getElem?_eq_some_iff.1 hx).2
 have e : els = els.take i ++ x :: els.drop (i + 1):=by
  have:=List.take_append_drop i els
  rw [List.drop_eq_getElem_cons hi,hxe] at this
  exact this.symm
 have hlen : ∀ l : List D,(∀ y,y ∈ l -> y.cellsL.length = sz) -> (flat l).length = l.length * sz:=by
  intro l
  induction l with
  | nil=>intro _; simp [flat]
  | cons a l ih=>intro h; rw [zl,List.length_append,ih fun y hy=>h y (by simp [hy]),h a (by simp),List.length_cons,Nat.succ_mul]; omega
 have hf : flat els = flat (els.take i) ++ (x.cellsL ++ flat (els.drop (i + 1))):=by
  conv=>lhs; rw [e]
  rw [zy,zl]
 have hl : (flat (els.take i)).length = i * sz:=by
  rw [hlen _ fun y hy=>hall y (List.mem_of_mem_take hy),List.length_take,Nat.min_eq_left (by omega)]
 rw [hf]
 exact key _ _ _ _ _ (by rw [hall x (List.mem_of_getElem? hx)]; exact hj) _ hl
theorem zt5 {sz : Nat} (els : List D) (i j : Nat) (cs : List D) (v : D) (hall : ∀ y,y ∈ els -> y.cellsL.length = sz) (hx : els[i]? = some (.agg cs)) (hj : j < sz) : setCells (flat els) (i * sz + j) [v] = flat (els.set i (.agg (cs.set j v))):=by
 have hi:=(List.getElem?_eq_some_iff.1 hx).1
 have hxe:=(List.getElem?_eq_some_iff.1 hx).2
 have hcs : cs.length = sz:=hall _ (List.mem_of_getElem? hx)
 have e : els = els.take i ++ .agg cs :: els.drop (i + 1):=by
  have:=List.take_append_drop i els
  rw [List.drop_eq_getElem_cons hi,hxe] at this
  exact this.symm
 have hlen : ∀ l : List D,(∀ y,y ∈ l -> y.cellsL.length = sz) -> (flat l).length = l.length * sz:=by
  intro l
  induction l with
  | nil=>intro _; simp [flat]
  | cons a l ih=>intro h; rw [zl,List.length_append,ih fun y hy=>h y (by simp [hy]),h a (by simp),List.length_cons,Nat.succ_mul]; omega
 have hl : (flat (els.take i)).length = i * sz:=by
  rw [hlen _ fun y hy=>hall y (List.mem_of_mem_take hy),List.length_take,Nat.min_eq_left (by omega)]
 have hlt : (els.take i).length = i:=by rw [List.length_take,Nat.min_eq_left (by omega)]
 have hf : flat els = flat (els.take i) ++ (cs ++ flat (els.drop (i + 1))):=by
  conv=>lhs; rw [e]
  rw [zy,zl]
  rfl
 have hs : els.set i (.agg (cs.set j v)) = els.take i ++ .agg (cs.set j v) :: els.drop (i + 1):=by
  conv=>lhs; rw [e]
  rw [List.set_append_right _ _ (by omega),hlt,Nat.sub_self]; rfl
 have hg : flat (els.set i (.agg (cs.set j v))) = flat (els.take i) ++ (cs.set j v ++ flat (els.drop (i + 1))):=by
  rw [hs,zy,zl]; rfl
 rw [hf,hg]
 show (flat (els.take i) ++ (cs ++ flat (els.drop (i + 1)))).set (i * sz + j) v = _
 rw [List.set_append_right _ _ (by omega),hl,show i * sz + j - i * sz = j from by omega,List.set_append_left _ _ (by omega)]
theorem zfr {f : D -> Option D} : ∀ {els els' : List D} {i : Nat} {x y : D},frzL f els = some els' -> f x = some y -> frzL f (els.set i x) = some (els'.set i y)
 | [],els',i,x,y,h,_=>by
  have : els' = []:=by simpa [frzL] using h.symm
  subst this; simp [frzL]
 | d :: r,els',i,x,y,h,hx=>by
  rw [z1l] at h
  cases hd : f d with
  | none=>rw [hd] at h; cases h
  | some d'=>
   cases hr : frzL f r with
   | none=>rw [hd,hr] at h; cases h
   | some r'=>
    rw [hd,hr] at h
    have he : d' :: r' = els':=Option.some.inj h
    subst he
    cases i with
    | zero=>rw [List.set_cons_zero,List.set_cons_zero,z1l,hx,hr]; rfl
    | succ i=>rw [List.set_cons_succ,List.set_cons_succ,z1l,hd,zfr hr hx]; rfl

def RowLe (h h' : List Obj) : Prop:=∀ j cs,rowOf h j = some cs -> rowOf h' j = some cs
theorem RowLe.refl {h : List Obj} : RowLe h h:=fun _ _ e=>e
theorem RowLe.trans {a b c : List Obj} (h : RowLe a b) (h' : RowLe b c) : RowLe a c:=fun j cs e=>h' j cs (h j cs e)
theorem RowLe.app {h r : List Obj} : RowLe h (h ++ r):=fun j cs e=>by
 unfold rowOf at e ⊢
 have hj : j < h.length:=by
  rcases Nat.lt_or_ge j h.length with hj | hj
  ·exact hj
  ·rw [List.getElem?_eq_none hj] at e; cases e
 rw [List.getElem?_append_left hj]; exact e
theorem RowLe.frz {h : List Obj} {l : List Nat} : RowLe h (freezeAll h l):=fun j cs e=>by rw [z6z]; exact e
theorem zbd {h : List Obj} {t i off : Nat} : loadD E h t (.loc i off) = (rowOf h i).bind fun cs=>(takeC cs off (E.ty t).size).bind (ofCells (E.ty t).ag):=by
 unfold loadD rowOf
 simp only []
 generalize h[i]? = o
 cases o with
 | none=>rfl
 | some o=>cases o <;> rfl
theorem zpi {h h' : List Obj} (hr : RowLe h h') {t i off : Nat} {d : D} (e : loadD E h t (.loc i off) = some d) : loadD E h' t (.loc i off) = some d:=by
 rw [zbd] at e ⊢
 cases hc : rowOf h i with
 | none=>rw [hc] at e; cases e
 | some cs=>rw [hc] at e; rw [hr i cs hc]; exact e
theorem zt6 {h : List Obj} {i : Nat} {cs : List D} (a : At h i (.cells cs)) : rowOf h i = some cs:=by unfold rowOf; rw [a.eq]

structure Alt (h : List Obj) (l : List Pst) (i : Nat) (q : Pst) (X : D) : Prop where
 row : rowOf h 0 = some (flat ((l.map dPst).set i X))
 len : X.cellsL.length = 36
 ag : ofCells true X.cellsL = some X
 fz : ∀ h',RowLe h h' -> ∀ n,frz h' (n + 6) X = some (dPst q)
theorem Alt.up {h h' : List Obj} {l : List Pst} {i : Nat} {q : Pst} {X : D} (a : Alt h l i q X) (r : RowLe h h') : Alt h' l i q X:=⟨r _ _ a.row,a.len,a.ag,fun h2 r2=>a.fz h2 (r.trans r2)⟩
theorem Alt.els {h : List Obj} {l : List Pst} {i : Nat} {q : Pst} {X : D} (a : Alt h l i q X) (h32 : ∀ p,p ∈ l -> p.prev.length = 32) : ∀ y,y ∈ (l.map dPst).set i X -> y.cellsL.length = 36 /\ ofCells true y.cellsL = some y:=by
 intro y hy
 rcases List.mem_or_eq_of_mem_set hy with hy | rfl
 ·obtain ⟨p,hp,rfl⟩:=List.mem_map.1 hy
  exact ⟨z5u (h32 p hp),rfl⟩
 ·exact ⟨a.len,a.ag⟩
theorem Alt.fzRow {h : List Obj} {l : List Pst} {i : Nat} {q : Pst} {X : D} {gr : Bool} (a : Alt h l i q X) (h32 : ∀ p,p ∈ l -> p.prev.length = 32) : frz h 12 (.sl 0 0 l.length 36 true gr) = some (dPsts (l.set i q)):=by
 have hc:=z4u (sz:=36) _ (a.els h32)
 rw [List.length_set,List.length_map] at hc
 have hf : frzL (frz h 11) ((l.map dPst).set i X) = some ((l.map dPst).set i (dPst q)):=zfr zk (a.fz h RowLe.refl 5)
 show (match rowOf h 0 with
  | some cs=>(match chunk 36 true l.length (cs.drop 0) with
   | some els=>(frzL (frz h 11) els).map (D.imm .none)
   | none=>none)
  | none=>none) = _
 rw [a.row]
 simp only [List.drop_zero]
 rw [hc]
 simp only []
 rw [hf,Option.map_some]
 show some (D.imm .none _) = some (D.imm .none ((l.set i q).map dPst))
 rw [List.map_set]
theorem Alt.ld {h : List Obj} {l : List Pst} {i : Nat} {q : Pst} {X : D} (a : Alt h l i q X) (h32 : ∀ p,p ∈ l -> p.prev.length = 32) (hi : i < l.length) : loadD E h 71 (.loc 0 (i * 36)) = some X:=by
 have h1 : ((l.map dPst).set i X)[i]? = some X:=by rw [List.getElem?_set_self (by simpa using hi)]
 have h2:=zix ((l.map dPst).set i X) i 0 36 X (fun y hy=>(a.els h32 y hy).1) h1 (by omega)
 have h3:=z44 X.cellsL [] 0 [] rfl
 rw [a.len,List.nil_append,List.append_nil] at h3
 rw [Nat.add_zero,h3] at h2
 rw [zbd,a.row]
 simp only [Option.bind_some]
 rw [show (E.ty 71).size = 36 from rfl,h2]
 exact a.ag

def dropSeq : Nat -> TC -> TC
 | 0,c=>c
 | n + 1,.seq _ b=>dropSeq n b
 | _ + 1,c=>c
def withTail : Nat -> TC -> TC -> TC
 | 0,_,k=>k
 | n + 1,.seq a b,k=>.seq a (withTail n b k)
 | _ + 1,c,_=>c

theorem tail333 {ss : List Stp} {a b : Nat} {c : Int} {l : List Pst} {i : Nat} {q : Pst} {X : D} {gr : Bool} {h : List Obj} {env : List D} (M : MadeP 12 l) (hi : i < l.length) (A : Alt h l i q X) (h0 : 0 < h.length)
  (q32 : q.prev.length = 32) (qe : q.ents.length <= 1000000) (hne : q ≠ l[i]) (hb : b <= 255) (hk : b % 4 < 2 -> q.no ≠ l[i].no \/ q.prev ≠ l[i].prev)
  (he : ∃ (x9 x10 x11 x12 x13 x14 x15 x16 x17 x18 x19 x20 x21 x22 x23 x24 x25 x26 x27 x28 x29 x30 x31 x32 x33 x34 x35 x36 x37 x38 x39 x40 x41 : D) ,env = [dStps ss,.int .u8 a,.int .u8 b,.int .i8 c,.bool false,dPsts l,dI i,.sl 0 0 l.length 36 true gr,.loc 0 (i * 36),x9,x10,x11,x12,x13,x14,x15,x16,x17,x18,x19,x20,x21,x22,x23,x24,x25,x26,x27,x28,x29,x30,x31,x32,x33,x34,x35,x36,x37,x38,x39,x40,x41]) :
  wT E (dropSeq 9 t333) (Ret E [(4,none)] fun d hp=>frz hp depth d = some (.bool true)) env h:=by
 obtain ⟨x9,x10,x11,x12,x13,x14,x15,x16,x17,x18,x19,x20,x21,x22,x23,x24,x25,x26,x27,x28,x29,x30,x31,x32,x33,x34,x35,x36,x37,x38,x39,x40,x41,rfl⟩:=he
 have h32:=fun p hp=>(M.ents p hp).1
 have e329:=zt7 M (by decide)
 have okm : OkPs (l.set i q):=⟨by rw [List.length_set]; have:=M.len; omega,fun p hp=>by
  rcases List.mem_or_eq_of_mem_set hp with hp | rfl
  ·exact ⟨h32 p hp,by have:=(M.ents p hp).2; omega⟩
  ·exact ⟨q32,qe⟩⟩
 have f329:=r329 (l.set i q) okm
 have f324:=r324 (l.set i q) okm
 obtain ⟨d,hd⟩ : ∃ d,d = digT tgB l:=⟨_,rfl⟩
 have d32:=dig32 (l:=l)
 rw [<- hd] at d32 e329
 have scd : setCells (List.replicate 32 (D.int .u8 0)) 0 (d.map byteD) = d.map byteD:=z8 (by simp [d32])
 simp only [List.replicate] at scd
 have fz1 : ∀ r : List Obj,frz (h ++ r) 12 (.sl 0 0 l.length 36 true gr) = some (dPsts (l.set i q)):=fun r=>(A.up RowLe.app).fzRow h32
 obtain ⟨H1,hH1⟩ : ∃ H1,freezeAll (h ++ [Obj.cells (d.map byteD)]) (ids (h ++ [Obj.cells (d.map byteD)]) 12 (.sl 0 0 l.length 36 true gr)) = H1:=⟨_,rfl⟩
 have R1 : RowLe (h ++ [Obj.cells (d.map byteD)]) H1:=by rw [<- hH1]; exact RowLe.frz
 have A1 : Alt H1 l i q X:=(A.up RowLe.app).up R1
 have fz2 : ∀ r : List Obj,frz (H1 ++ r) 12 (.sl 0 0 l.length 36 true gr) = some (dPsts (l.set i q)):=fun r=>(A1.up RowLe.app).fzRow h32
 have fz3 : ∀ r : List Obj,frz (H1 ++ r) 12 X = some (dPst q):=fun r=>(A1.up RowLe.app).fz _ RowLe.refl 6
 have l71 : ∀ r : List Obj,loadD E (H1 ++ r) 71 (.loc 0 (i * 36)) = some X:=fun r=>(A1.up RowLe.app).ld h32 hi
 have l73 : loadD E (h ++ [Obj.cells (d.map byteD)]) 73 (.loc h.length 0) = some (.agg (d.map byteD)):=z5c (by simp [Bys,At]) d32
 by_cases hr : rdE tgB (l.set i q) = 0
 rotate_left
 ·unfold rdD at f329
  rw [if_neg hr] at f329
  have hz : setCells (List.replicate 32 (D.int .u8 0)) 0 (z32.map byteD) = z32.map byteD:=z8 (by rfl)
  simp only [List.replicate] at hz
  have hz2 : z32.length = 32:=rfl
  simp [dropSeq,t333,e329,f329,f324,zk,d32,scd,fz1,fz2,hH1,hz,hz2,hr,-zp]
 ·have v:=z1u.1 hr
  unfold rdD at f329
  rw [if_pos hr,hr] at f329
  have hlo : l[i]? = some l[i]:=List.getElem?_eq_getElem hi
  have h2 : ¬ b % 4 < 2:=fun h=>by
   rcases hk h with h | h
   ·exact zu2 M.v hlo h v
   ·exact zp3 M.v hlo h v
  have hen:=zsc (fun _ _=>z1g) M.v v hlo hne
  have hst:=zp2 (tg:=tgB) M.v v hlo
  have hp:=M.ents l[i] (List.getElem_mem hi)
  have gp:=M.v.2.1 l[i] (List.getElem_mem hi)
  have gq:=v.2.1 q (List.mem_of_getElem? (show (l.set i q)[i]? = some q by simp [hi]))
  have e334:=r334 l[i] hp.1 (by have:=hp.2; omega)
  have f334:=r334 q q32 qe
  unfold encR at e334 f334
  rw [if_pos (z1v.2 gp)] at e334
  rw [if_pos (z1v.2 gq)] at f334
  have g329:=zt7 (ziw (k:=i) M) (by decide)
  have T32:=dig32 (l:=l.take i)
  have g32:=dig32 (l:=l.set i q)
  obtain ⟨g,hg⟩ : ∃ g,g = digT tgB (l.set i q):=⟨_,rfl⟩
  rw [<- hg,<- hd] at hst
  rw [<- hg] at f329 g32
  have scg : setCells (List.replicate 32 (D.int .u8 0)) 0 (g.map byteD) = g.map byteD:=z8 (by simp [g32])
  have scT : setCells (List.replicate 32 (D.int .u8 0)) 0 ((digT tgB (l.take i)).map byteD) = (digT tgB (l.take i)).map byteD:=z8 (by simp [T32])
  simp only [List.replicate] at scg scT
  obtain ⟨H2,hH2⟩ : ∃ H2,freezeAll (H1 ++ [Obj.cells (g.map byteD)]) (ids (H1 ++ [Obj.cells (g.map byteD)]) 12 X) = H2:=⟨_,rfl⟩
  have R2 : RowLe (H1 ++ [Obj.cells (g.map byteD)]) H2:=by rw [<- hH2]; exact RowLe.frz
  have k9 : ∀ r : List Obj,loadD E (H2 ++ r) 73 (.loc h.length 0) = some (.agg (d.map byteD)):=fun r=>zpi (((R1.trans RowLe.app).trans R2).trans RowLe.app) l73
  have k11 : ∀ r : List Obj,loadD E (H2 ++ r) 73 (.loc H1.length 0) = some (.agg (g.map byteD)):=fun r=>zpi (R2.trans RowLe.app) (z5c (by simp [Bys,At]) g32)
  have hs:=sl70 (Nat.le_of_lt hi) fun p hp=>(M.ents p hp).1
  have hmod : (b : Int).tmod 4 = ((b % 4 : Nat) : Int):=rfl
  have hmod2 : ¬ (b : Int) % 4 < 2:=by omega
  obtain ⟨p,hpe⟩ : ∃ p,p = l[i]:=⟨_,rfl⟩
  rw [<- hpe] at hp gp e334 hen hst
  have q1:=fun h : List Obj=>zn7 (h:=h) hp.1
  have hbeq : (encP p == encP q) = false:=by simpa using hen
  have e331p:=r331 bPosting (encP p) (by decide) (by
   have:=z69 (p:=p) (z6l gp.fm) (by have:=hp.2; omega) (by omega)
   omega)
  have e331q:=r331 bPosting (encP q) (by decide) (by
   have:=z69 (p:=q) (z6l gq.fm) qe (by omega)
   omega)
  have e331p : runP E (dL E) 331 [.str [112,111,115,116,105,110,103],dBy (encP p)] = some (dDig (tgB bPosting (encP p))):=e331p
  have e331q : runP E (dL E) 331 [.str [112,111,115,116,105,110,103],dBy (encP q)] = some (dDig (tgB bPosting (encP q))):=e331q
  obtain ⟨T,hT⟩ : ∃ T,T = digT tgB (l.take i):=⟨_,rfl⟩
  rw [<- hT] at g329 T32 scT hst
  obtain ⟨tk,htk⟩ : ∃ tk,tk = l.take i:=⟨_,rfl⟩
  rw [<- htk] at hs g329
  have P32 : (tgB bPosting (encP p)).length = 32:=z1g
  have Q32 : (tgB bPosting (encP q)).length = 32:=z1g
  have e335p:=r335 T (tgB bPosting (encP p)) T32 P32
  have e335q:=r335 T (tgB bPosting (encP q)) T32 Q32
  have hs1 : tgB [99,104,97,105,110] (T ++ tgB bPosting (encP p)) = stepT tgB T p:=rfl
  have hs2 : tgB [99,104,97,105,110] (T ++ tgB bPosting (encP q)) = stepT tgB T q:=rfl
  rw [hs1] at e335p
  rw [hs2] at e335q
  have A32 : (stepT tgB T p).length = 32:=z1g
  have C32 : (stepT tgB T q).length = 32:=z1g
  clear hs1 hs2
  generalize tgB bPosting (encP p) = P at e331p e335p P32
  generalize tgB bPosting (encP q) = Q at e331q e335q Q32
  generalize stepT tgB T p = A at e335p A32 hst
  generalize stepT tgB T q = C at e335q C32 hst
  have scP : setCells (List.replicate 32 (D.int .u8 0)) 0 (P.map byteD) = P.map byteD:=z8 (by simp [P32])
  have scQ : setCells (List.replicate 32 (D.int .u8 0)) 0 (Q.map byteD) = Q.map byteD:=z8 (by simp [Q32])
  simp only [List.replicate] at scP scQ
  have hst2 : ∀ n s,frz [] (n + 1) (.str s) = some (.str s):=fun _ _=>rfl
  have yT : ∀ r,loadD E (H2 ++ .cells (T.map byteD) :: r) 73 (.loc H2.length 0) = some (.agg (T.map byteD)):=fun r=>ld_k (h:=H2) (k:=0) (m:=T) (r:=.cells (T.map byteD) :: r) T32 rfl
  have yP:=fun r=>ld_k (h:=H2) (k:=1) (m:=P) (r:=r) P32
  have yQ:=fun r=>ld_k (h:=H2) (k:=2) (m:=Q) (r:=r) Q32
  have hl11 : H2.length + 1 + 1 = H2.length + 2:=rfl
  have eP:=zl6 P32 Q32
  have eA:=zl6 A32 C32
  have nd:=zjs d32 g32
  simp [dropSeq,t333,e329,f329,f324,zk,d32,scd,fz1,fz2,hH1,hr,g32,scg,hi,<- hpe,hp.1,↓q1,z19,zc,e334,l71,fz3,f334,hH2,hs,hmod,hmod2,hbeq,g329,T32,scT,e331p,e331q,P32,Q32,scP,scQ,hst2,hl11,yT,yP,yQ,k9,k11,e335p,e335q,A32,C32,eP,eA,List.append_assoc,-zp,-zd6,-z9n]
  by_cases hP : P = Q
  ·simp [eq_true hP]
  by_cases hA : A = C
  ·simp [hP,eq_true hA]
  rcases hst with h1 | ⟨h1,h2⟩
  ·exact absurd h1 hA
  have dd : decide (d = g) = false:=by simpa using h1
  rw [dd] at nd
  have hw : Go.IntKind.i64.wrap ((l.length : Int) - 1) = (i : Int):=by
   rw [za ⟨by omega,by have:=M.len; omega⟩]; omega
  simp [hP,hA,nd,hw,-z9n]

theorem ty_i8 {x : D} {c : Nat} (h : Typed E c x) (hk : (E.ty c).k = .int .i8) : ∃ m : Int,x = .int .i8 m /\ -128 <= m /\ m <= 127:=by
 have ha : (E.ty c).ag = false:=by unfold TI.ag; rw [hk]
 have h1:=z87 h ha
 clear h
 cases h1 with
 | int h' hw=>
  rename_i n
  rw [hk] at h'; cases h'
  simp [Go.Lit.wf] at hw
  have e1 : Go.IntKind.i8.min = -128:=by decide
  have e2 : Go.IntKind.i8.max = 127:=by decide
  rw [e1,e2] at hw
  exact ⟨n,rfl,hw⟩
 | bool h=>rw [hk] at h; cases h
 | str h=>rw [hk] at h; cases h
 | slice h _ _ _=>rw [hk] at h; cases h
 | struct h _ _=>rw [hk] at h; cases h
 | arr h _ _=>rw [hk] at h; cases h

theorem z8w {h : List Obj} {els cs : List D} {i j t : Nat} {v : D} (B : At h 0 (.cells (flat els))) (hall : ∀ y,y ∈ els -> y.cellsL.length = 36) (hx : els[i]? = some (.agg cs)) (hj : j < 36) (hs : (E.ty t).size = 1) (ha : (E.ty t).ag = false) (hv : cs[j]? = some v) :
  loadD E h t (.loc 0 (i * 36 + j)) = some v:=by
 have e:=zix els i j 1 _ hall hx (by omega)
 rw [zbd,zt6 B,Option.bind_some,hs,e,ha]
 show (takeC cs j 1).bind _ = _
 simp [takeC,hv,ofCells]
theorem zb0 {h : List Obj} {els cs : List D} {i j t : Nat} {v : D} (B : At h 0 (.cells (flat els))) (hall : ∀ y,y ∈ els -> y.cellsL.length = 36) (hx : els[i]? = some (.agg cs)) (hj : j < 36) (hs : (E.ty t).size = 1) (hv : v.storable = true) (hc : v.cellsL = [v]) :
  storeD E h t (.loc 0 (i * 36 + j)) v = some (h.set 0 (.cells (flat (els.set i (.agg (cs.set j v)))))):=by
 have hi:=(List.getElem?_eq_some_iff.1 hx).1
 have hlen : (flat els).length = els.length * 36:=by
  have : ∀ l : List D,(∀ y,y ∈ l -> y.cellsL.length = 36) -> (flat l).length = l.length * 36:=by
   intro l
   induction l with
   | nil=>intro _; simp [flat]
   | cons a l ih=>intro h; rw [zl,List.length_append,ih fun y hy=>h y (by simp [hy]),h a (by simp),List.length_cons,Nat.succ_mul]; omega
  exact this els hall
 unfold storeD
 simp only [B.eq]
 rw [hc,hs,if_pos ⟨hv,rfl,by rw [hlen]; omega⟩,zt5 els i j cs v hall hx hj]

def alt0 (c : Int) (p : Pst) : Pst:={ p with no:=p.no + c }
def alt2 (c : Int) (p : Pst) : Pst:={ p with minute:=p.minute + c }
def newB (c : Int) (x : UInt8) : UInt8:=UInt8.ofNat (Go.IntKind.u8.wrap ((x.toNat : Int) + Go.IntKind.u8.wrap c)).toNat
def alt1 (c : Int) (p : Pst) : Pst:={ p with prev:=p.prev.set 0 (newB c (p.prev.getD 0 0)) }
def altE (c : Int) : List Ent -> List Ent
 | x :: y :: r=>{ x with amt:=x.amt + c } :: { y with amt:=y.amt - c } :: r
 | r=>r
def alt3 (c : Int) (p : Pst) : Pst:={ p with ents:=altE c p.ents }
theorem zjr {c : Int} {x : UInt8} : byteD (newB c x) = .int .u8 (Go.IntKind.u8.wrap ((x.toNat : Int) + Go.IntKind.u8.wrap c)):=by
 unfold byteD newB
 rw [z6g,z6g,UInt8.toNat_ofNat']
 congr 1
 omega
theorem zjq {c : Int} {x : UInt8} (h1 : -128 <= c) (h2 : c <= 127) (h0 : c ≠ 0) : newB c x ≠ x:=by
 intro h
 have hb:=zjr (c:=c) (x:=x)
 rw [h] at hb
 have hb2 : (x.toNat : Int) = Go.IntKind.u8.wrap ((x.toNat : Int) + Go.IntKind.u8.wrap c):=by
  have:=hb
  unfold byteD at this
  simpa using this
 rw [z6g,z6g] at hb2
 have:=x.toNat_lt
 omega
theorem zly {r : List Obj} {l : List Pst} {i : Nat} {q : Pst} (q32 : q.prev.length = 32) : Alt (.cells (flat ((l.map dPst).set i (dPst q))) :: r) l i q (dPst q):=
 ⟨rfl,z5u q32,rfl,fun _ _ _=>zkq⟩

theorem zlx {hp : List Obj} {id : Nat} {sp : Spare} {l : List Ent} (hl : l.length <= 1000000) (h0 : l ≠ []) :
  appendM E hp id 66 66 (.imm .exact []) (.imm sp (l.map dEnt)) = some ⟨.sl id 0 l.length 3 true true,some (.cells (flat (l.map dEnt))),none⟩:=by
 have h4 : ¬ l.length = 0:=fun h=>h0 (List.eq_nil_of_length_eq_zero h)
 have hfit : fitsE 3 (l.map dEnt) = true:=by
  unfold fitsE
  rw [List.all_eq_true]
  intro x hx
  obtain ⟨e,_,rfl⟩:=List.mem_map.1 hx
  rfl
 have h5 : (0 + l.length) * (24 + 1) <= maxBytes /\ 24 <= 65536 /\ (zeroE E 72).isSome = true /\ fitsE 3 ([] : List D) = true:=⟨by simp [maxBytes]; omega,by decide,rfl,rfl⟩
 have hlo : listOf hp (E.ty 72).size (E.ty 72).ag (.imm sp (l.map dEnt)) = some (l.map dEnt):=by
  have:=hfit
  unfold fitsE at this
  rw [show (E.ty 72).size = 3 from rfl]
  simp only [listOf]
  rw [if_pos this]
 unfold appendM
 simp only [show (E.ty 66).k = .slice 72 from rfl]
 rw [hlo]
 simp only [List.length_map,List.length_nil]
 rw [if_neg h4,show (E.ty 72).bytes = 24 from rfl,show (E.ty 72).size = 3 from rfl,if_pos h5]
 simp only [Nat.zero_add,flat,List.flatMap_nil,List.nil_append]
 rfl

theorem law333 (ss : List Stp) (hl : ss.length <= 9223372036854775807) (a b : Nat) (ha : a <= 255) (hb : b <= 255) (c : Int) (hc1 : -128 <= c) (hc2 : c <= 127) : runP E (dL E) 333 [dStps ss,.int .u8 a,.int .u8 b,.int .i8 c] = some (.bool true):=by
 have s0:=r314
 have e322:=r322 ss hl
 refine zx c333 (by simp) ?_
 by_cases hf : fewS ss = true
 rotate_left
 ·have hf' : fewS ss = false:=by simpa using hf
  rw [hf'] at e322
  simp [t333,n333,s0,e322,z33]
 rw [hf] at e322
 by_cases hc : c = 0
 ·subst hc
  simp [t333,n333,s0,e322,z33]
 have e323:=r323 ss hf
 have M:=made hf
 obtain ⟨l,hL⟩ : ∃ l,l = postL tgB ss:=⟨_,rfl⟩
 rw [<- hL] at e323 M
 by_cases hn : l = []
 ·subst hn
  simp [t333,n333,s0,e322,e323,hc,z33]
 have hlen:=M.len
 have h32:=fun p hp=>(M.ents p hp).1
 have hl0 : 0 < l.length:=List.length_pos_iff.2 hn
 obtain ⟨i,hi⟩ : ∃ i : Nat,i = a % l.length:=⟨_,rfl⟩
 have hil : i < l.length:=by rw [hi]; exact Nat.mod_lt _ hl0
 have hwa : Go.IntKind.i64.wrap (a : Int) = a:=za ⟨by omega,by omega⟩
 have hmod : (a : Int).tmod (l.length : Int) = (i : Int):=by rw [hi,Int.ofNat_tmod]
 have hnz : ¬ (l.length : Int) = 0:=by omega
 have ap:=fun hp id=>zd8 (hp:=hp) (id:=id) (sp:=.none) h32 (by omega) hn
 obtain ⟨p,hp⟩ : ∃ p,p = l[i]:=⟨_,rfl⟩
 have hpm : p ∈ l:=by rw [hp]; exact List.getElem_mem hil
 have p32:=h32 p hpm
 have gp:=M.v.2.1 p hpm
 have hpi : l[i]? = some p:=by rw [hp]; simp [hil]
 have hall : ∀ y,y ∈ l.map dPst -> y.cellsL.length = 36:=fun y hy=>by
  obtain ⟨p',hp',rfl⟩:=List.mem_map.1 hy
  exact z5u (h32 p' hp')
 have hx : (l.map dPst)[i]? = some (.agg (pC p)):=by rw [List.getElem?_map,hpi]; rfl
 have B : ∀ r : List Obj,At (.cells (pCs l) :: r) 0 (.cells (flat (l.map dPst))):=fun r=>rfl
 have he2 : p.ents.length <= 1000000:=by have:=(M.ents p hpm).2; omega
 have hwc : Go.IntKind.i64.wrap c = c:=za ⟨by omega,by omega⟩
 have e : t333 = withTail 9 t333 (dropSeq 9 t333):=by with_unfolding_all rfl
 rw [e]
 clear e
 have tl : ∀ (q : Pst) (X : D) (gr : Bool) (h : List Obj) (env : List D),Alt h l i q X -> 0 < h.length -> q.prev.length = 32 -> q.ents.length <= 1000000 -> q ≠ p -> (b % 4 < 2 -> q.no ≠ p.no \/ q.prev ≠ p.prev) ->
   (∃ (x9 x10 x11 x12 x13 x14 x15 x16 x17 x18 x19 x20 x21 x22 x23 x24 x25 x26 x27 x28 x29 x30 x31 x32 x33 x34 x35 x36 x37 x38 x39 x40 x41 : D) ,env = [dStps ss,.int .u8 a,.int .u8 b,.int .i8 c,.bool false,dPsts l,dI i,.sl 0 0 l.length 36 true gr,.loc 0 (i * 36),x9,x10,x11,x12,x13,x14,x15,x16,x17,x18,x19,x20,x21,x22,x23,x24,x25,x26,x27,x28,x29,x30,x31,x32,x33,x34,x35,x36,x37,x38,x39,x40,x41]) ->
   wT E (dropSeq 9 t333) (Ret E [(4,none)] fun d hp=>frz hp depth d = some (.bool true)) env h:=fun q X gr h env A h0 q32 qe hne hk he=>by
  rw [hp] at hne hk
  exact tail333 (gr:=gr) M hil A h0 q32 qe hne hb hk he
 generalize dropSeq 9 t333 = K at tl ⊢
 dsimp only at tl
 unfold t333
 rw [withTail,withTail,withTail,withTail,withTail,withTail,withTail,withTail,withTail,withTail]
 have hb4 : b % 4 = 0 \/ b % 4 = 1 \/ b % 4 = 2 \/ b % 4 = 3:=by omega
 rcases hb4 with h4 | h4 | h4 | h4
 ·have hbm : (b : Int).tmod 4 = 0:=by
   have : (b : Int).tmod 4 = ((b % 4 : Nat) : Int):=rfl
   rw [this,h4]; rfl
  have q1 : ∀ r,loadD E (.cells (pCs l) :: r) 2 (.loc 0 (i * 36)) = some (dI p.no):=fun r=>by
   have:=z8w (t:=2) (j:=0) (v:=dI p.no) (B r) hall hx (by omega) rfl rfl rfl
   exact this
  have q2 : ∀ r v,storeD E (.cells (pCs l) :: r) 2 (.loc 0 (i * 36)) (dI v) = some (.cells (flat ((l.map dPst).set i (.agg ((pC p).set 0 (dI v))))) :: r):=fun r v=>by
   have:=zb0 (t:=2) (j:=0) (v:=dI v) (B r) hall hx (by omega) rfl rfl rfl
   rw [List.set_cons_zero,Nat.add_zero] at this
   exact this
  have hw : Go.IntKind.i64.wrap (p.no + c) = p.no + c:=za ⟨by have:=gp.fm.no; omega,by have:=gp.fm.no; omega⟩
  simp [n333,s0,e322,e323,z33,hc,hn,convD,hwa,hmod,hnz,ap,applyEf,hbm,hil,hwc,hw,↓q1,↓q2,-zp,-z3f]
  refine tl (alt0 c p) (dPst (alt0 c p)) true _ _ (zly (q:=alt0 c p) p32) (by simp) p32 he2 (fun h=>?_) (fun _=>.inl fun h=>?_) ⟨_,_,_,_,_,_,_,_,_,_,_,_,_,_,_,_,_,_,_,_,_,_,_,_,_,_,_,_,_,_,_,_,_,rfl⟩
  ·have:=congrArg Pst.no h
   simp only [alt0] at this
   omega
  ·simp only [alt0] at h
   omega
 ·obtain ⟨x,rest,hxr⟩ : ∃ x rest,p.prev = x :: rest:=by
   cases hpv : p.prev with
   | nil=>rw [hpv] at p32; cases p32
   | cons x rest=>exact ⟨x,rest,rfl⟩
  have hbm : (b : Int).tmod 4 = 1:=by
   have : (b : Int).tmod 4 = ((b % 4 : Nat) : Int):=rfl
   rw [this,h4]; rfl
  have hx4 : (pC p)[4]? = some (byteD x):=by
   show (p.prev.map byteD)[0]? = _
   rw [hxr]; rfl
  have q1 : ∀ r,loadD E (.cells (pCs l) :: r) 13 (.loc 0 (i * 36 + 4)) = some (byteD x):=fun r=>by
   have:=z8w (t:=13) (j:=4) (v:=byteD x) (B r) hall hx (by omega) rfl rfl hx4
   exact this
  have q2 : ∀ r v,storeD E (.cells (pCs l) :: r) 13 (.loc 0 (i * 36 + 4)) (.int .u8 v) = some (.cells (flat ((l.map dPst).set i (.agg ((pC p).set 4 (.int .u8 v))))) :: r):=fun r v=>by
   have:=zb0 (t:=13) (j:=4) (v:=.int .u8 v) (B r) hall hx (by omega) rfl rfl rfl
   rw [List.set_cons_zero] at this
   exact this
  have hw : True:=trivial
  simp [n333,s0,e322,e323,z33,hc,hn,convD,hwa,hmod,hnz,ap,applyEf,hbm,hil,hwc,hw,↓q1,↓q2,-zp,-z3f]
  have hset : (p.prev.map byteD).set 0 (.int .u8 (Go.IntKind.u8.wrap ((x.toNat : Int) + Go.IntKind.u8.wrap c))) = (alt1 c p).prev.map byteD:=by
   rw [<- zjr]
   show _ = (p.prev.set 0 (newB c (p.prev.getD 0 0))).map byteD
   rw [hxr]; rfl
  have q32' : (alt1 c p).prev.length = 32:=by
   show (p.prev.set 0 _).length = 32
   rw [List.length_set]; exact p32
  rw [hset]
  refine tl (alt1 c p) (dPst (alt1 c p)) true _ _ (zly q32') (by simp) q32' he2 (fun h=>?_) (fun _=>.inr fun h=>?_) ⟨_,_,_,_,_,_,_,_,_,_,_,_,_,_,_,_,_,_,_,_,_,_,_,_,_,_,_,_,_,_,_,_,_,rfl⟩
  ·have h:=congrArg Pst.prev h
   simp only [alt1,hxr,List.set_cons_zero,List.cons.injEq] at h
   exact zjq hc1 hc2 hc h.1
  ·simp only [alt1,hxr,List.set_cons_zero,List.cons.injEq] at h
   exact zjq hc1 hc2 hc h.1
 ·have hw : Go.IntKind.i64.wrap (p.minute + c) = p.minute + c:=za ⟨by have:=gp.fm.minute; omega,by have:=gp.fm.minute; omega⟩
  have hbm : (b : Int).tmod 4 = 2:=by
   have : (b : Int).tmod 4 = ((b % 4 : Nat) : Int):=rfl
   rw [this,h4]; rfl
  have q1 : ∀ r,loadD E (.cells (pCs l) :: r) 2 (.loc 0 (i * 36 + 1)) = some (dI p.minute):=fun r=>by
   have:=z8w (t:=2) (j:=1) (v:=dI p.minute) (B r) hall hx (by omega) rfl rfl rfl
   exact this
  have q2 : ∀ r v,storeD E (.cells (pCs l) :: r) 2 (.loc 0 (i * 36 + 1)) (dI v) = some (.cells (flat ((l.map dPst).set i (.agg ((pC p).set 1 (dI v))))) :: r):=fun r v=>by
   have:=zb0 (t:=2) (j:=1) (v:=dI v) (B r) hall hx (by omega) rfl rfl rfl
   rw [List.set_cons_zero] at this
   exact this
  simp [n333,s0,e322,e323,z33,hc,hn,convD,hwa,hmod,hnz,ap,applyEf,hbm,hil,hwc,hw,↓q1,↓q2,-zp,-z3f]
  refine tl (alt2 c p) (dPst (alt2 c p)) true _ _ (zly (q:=alt2 c p) p32) (by simp) p32 he2 (fun h=>?_) (fun h=>?_) ⟨_,_,_,_,_,_,_,_,_,_,_,_,_,_,_,_,_,_,_,_,_,_,_,_,_,_,_,_,_,_,_,_,_,rfl⟩
  ·have:=congrArg Pst.minute h
   simp only [alt2] at this
   omega
  ·omega
 ·obtain ⟨e0,e1,es,hes⟩ : ∃ e0 e1 es,p.ents = e0 :: e1 :: es:=by
   have h2:=gp.fm.ents.two
   match p.ents,h2 with
   | x :: y :: r,_=>exact ⟨x,y,r,rfl⟩
  have hbm : (b : Int).tmod 4 = 3:=by
   have : (b : Int).tmod 4 = ((b % 4 : Nat) : Int):=rfl
   rw [this,h4]; rfl
  have ok0:=gp.fm.ents.ok e0 (by rw [hes]; simp)
  have ok1:=gp.fm.ents.ok e1 (by rw [hes]; simp)
  have hw0 : Go.IntKind.i64.wrap (e0.amt + c) = e0.amt + c:=za ⟨by have:=ok0.2.2.2; omega,by have:=ok0.2.2.2; omega⟩
  have hw1 : Go.IntKind.i64.wrap (e1.amt - c) = e1.amt - c:=za ⟨by have:=ok1.2.2.2; omega,by have:=ok1.2.2.2; omega⟩
  have q1 : ∀ r,loadD E (.cells (pCs l) :: r) 66 (.loc 0 (i * 36 + 3)) = some (.imm .none (dEnt e0 :: dEnt e1 :: es.map dEnt)):=fun r=>by
   have:=z8w (t:=66) (j:=3) (v:=.imm .none (p.ents.map dEnt)) (B r) hall hx (by omega) rfl rfl rfl
   rw [hes] at this
   exact this
  have hw : True:=trivial
  have q2 : True:=trivial
  have ap2:=fun hp id=>zlx (hp:=hp) (id:=id) (sp:=.none) (l:=p.ents) (by have:=(M.ents p hpm).2; omega) (by rw [hes]; simp)
  rw [hes] at ap2
  simp only [List.map_cons,List.length_cons] at ap2
  have q3 : ∀ r v,storeD E (.cells (pCs l) :: r) 66 (.loc 0 (i * 36 + 3)) (.sl 1 0 v 3 true true) = some (.cells (flat ((l.map dPst).set i (.agg ((pC p).set 3 (.sl 1 0 v 3 true true))))) :: r):=fun r v=>by
   have:=zb0 (t:=66) (j:=3) (v:=.sl 1 0 v 3 true true) (B r) hall hx (by omega) rfl rfl rfl
   rw [List.set_cons_zero] at this
   exact this
  obtain ⟨XC,hXC⟩ : ∃ XC,XC = (pC p).set 3 (.sl 1 0 (es.length + 1 + 1) 3 true true):=⟨_,rfl⟩
  have q3:=fun r=>q3 r (es.length + 1 + 1)
  rw [<- hXC] at q3
  have hXl : XC.length = 36:=by rw [hXC,List.length_set]; exact z5u p32
  have hall2 : ∀ y,y ∈ (l.map dPst).set i (.agg XC) -> y.cellsL.length = 36:=fun y hy=>by
   rcases List.mem_or_eq_of_mem_set hy with hy | rfl
   ·exact hall y hy
   ·exact hXl
  have hx2 : ((l.map dPst).set i (.agg XC))[i]? = some (.agg XC):=by rw [List.getElem?_set_self (by simpa using hil)]
  have q4 : ∀ r,loadD E (.cells (flat ((l.map dPst).set i (.agg XC))) :: r) 66 (.loc 0 (i * 36 + 3)) = some (.sl 1 0 (es.length + 1 + 1) 3 true true):=fun r=>by
   have:=z8w (h:=.cells (flat ((l.map dPst).set i (.agg XC))) :: r) (t:=66) (j:=3) (v:=.sl 1 0 (es.length + 1 + 1) 3 true true) rfl hall2 hx2 (by omega) rfl rfl (by rw [hXC]; rfl)
   exact this
  obtain ⟨Fs,hFs⟩ : ∃ Fs,Fs = flat (es.map dEnt):=⟨_,rfl⟩
  have hfl : flat (dEnt e0 :: dEnt e1 :: es.map dEnt) = dI e0.kind :: dI e0.idx :: dI e0.amt :: dI e1.kind :: dI e1.idx :: dI e1.amt :: Fs:=by rw [hFs]; rfl
  have q5 : ∀ (o : Obj) (a b : D) (v : Int) (R : List D) (r : List Obj),loadD E (o :: .cells (a :: b :: dI v :: R) :: r) 2 (.loc 1 2) = some (dI v):=fun _ _ _ _ _ _=>rfl
  have q6 : ∀ (o : Obj) (a b a' b' b'' : D) (v : Int) (R : List D) (r : List Obj),loadD E (o :: .cells (a :: b :: a' :: b' :: b'' :: dI v :: R) :: r) 2 (.loc 1 5) = some (dI v):=fun _ _ _ _ _ _ _ _ _=>rfl
  have q7 : ∀ (o : Obj) (a b a' : D) (v : Int) (R : List D) (r : List Obj),storeD E (o :: .cells (a :: b :: a' :: R) :: r) 2 (.loc 1 2) (dI v) = some (o :: .cells (a :: b :: dI v :: R) :: r):=fun o a b a' v R r=>by
   simp [storeD,E,tyTab,setCells]
  have q8 : ∀ (o : Obj) (a b a' b' b'' c' : D) (v : Int) (R : List D) (r : List Obj),storeD E (o :: .cells (a :: b :: a' :: b' :: b'' :: c' :: R) :: r) 2 (.loc 1 5) (dI v) = some (o :: .cells (a :: b :: a' :: b' :: b'' :: dI v :: R) :: r):=fun o a b a' b' b'' c' v R r=>by
   simp [storeD,E,tyTab,setCells]
  have hp0 : (0 : Int) < (es.length : Int) + 1 + 1:=by omega
  have hp1 : (1 : Int) < (es.length : Int) + 1 + 1:=by omega
  simp [n333,s0,e322,e323,z33,hc,hn,convD,hwa,hmod,hnz,ap,applyEf,hbm,hil,hwc,hw0,hw1,hp0,hp1,↓q1,↓q3,↓q4,ap2,hfl,↓q5,↓q6,↓q7,↓q8,-zp,-z3f]
  have hae : (alt3 c p).ents = { e0 with amt:=e0.amt + c } :: { e1 with amt:=e1.amt - c } :: es:=by
   show altE c p.ents = _
   rw [hes]; rfl
  have hen : p.ents.length = es.length + 1 + 1:=by rw [hes]; rfl
  refine tl (alt3 c p) (.agg XC) true _ _ ⟨rfl,hXl,rfl,fun h' hr n=>?_⟩ (by simp) p32 (by rw [hae]; rw [hen] at he2; exact he2) (fun h=>?_) (fun h=>by omega) ⟨_,_,_,_,_,_,_,_,_,_,_,_,_,_,_,_,_,_,_,_,_,_,_,_,_,_,_,_,_,_,_,_,_,rfl⟩
  ·have hrow : rowOf h' 1 = some (flat ((alt3 c p).ents.map dEnt)):=by
    rw [hae]
    refine hr 1 _ ?_
    rw [hFs]; rfl
   have hch:=z4u (sz:=3) ((alt3 c p).ents.map dEnt) fun x hx=>by
    obtain ⟨e,_,rfl⟩:=List.mem_map.1 hx
    exact ⟨rfl,rfl⟩
   have hlen3 : ((alt3 c p).ents.map dEnt).length = es.length + 1 + 1:=by rw [hae]; simp
   rw [hlen3] at hch
   have hsl : frz h' (n + 5) (.sl 1 0 (es.length + 1 + 1) 3 true true) = some (.imm .none ((alt3 c p).ents.map dEnt)):=by
    show (match rowOf h' 1 with
     | some cs=>(match chunk 3 true (es.length + 1 + 1) (cs.drop 0) with
      | some els=>(frzL (frz h' (n + 4)) els).map (D.imm .none)
      | none=>none)
     | none=>none) = _
    rw [hrow]
    simp only [List.drop_zero]
    rw [hch]
    simp only []
    rw [show frzL (frz h' (n + 4)) ((alt3 c p).ents.map dEnt) = some ((alt3 c p).ents.map dEnt) from z19]
    rfl
   have hX2 : XC = dI p.no :: dI p.minute :: dI p.corrects :: .sl 1 0 (es.length + 1 + 1) 3 true true :: p.prev.map byteD:=hXC
   rw [z5e,hX2]
   simp only [z1l,z4j,z7,hsl,show frzL (frz h' (n + 5)) (p.prev.map byteD) = some (p.prev.map byteD) from zc,Option.map_some]
   rfl
  ·have h:=congrArg Pst.ents h
   rw [hae,hes] at h
   simp only [List.cons.injEq] at h
   have:=congrArg Ent.amt h.1
   simp only at this
   omega

theorem postingsAltered : ∀ xs,TypedL E [69,13,13,54] xs -> ∃ n,runP E (dC E n) 333 xs = some (.bool true):=by
 intro xs h
 match xs,h with
 | [x,y,z,w],⟨t1,t2,t3,t4,_⟩=>
  obtain ⟨ss,rfl,_,hl⟩:=zqj t1
  obtain ⟨a,rfl,ha⟩:=zsx t2 rfl
  obtain ⟨b,rfl,hb⟩:=zsx t3 rfl
  obtain ⟨c,rfl,hc1,hc2⟩:=ty_i8 t4 rfl
  exact z6i (law333 ss hl a b ha hb c hc1 hc2)
 | [],h=>exact h.elim
 | [_],h=>exact h.2.elim
 | [_,_],h=>exact h.2.2.elim
 | [_,_,_],h=>exact h.2.2.2.elim
 | _ :: _ :: _ :: _ :: _ :: _,h=>exact h.2.2.2.2.elim

end Dv
