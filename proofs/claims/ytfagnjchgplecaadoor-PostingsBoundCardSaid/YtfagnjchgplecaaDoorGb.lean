/- Texts that a proof of this claim uses, joined: Lw.W225, Lw.S41, Lw.Ty, Lw.W226, Lw.W227, Lw.W228, Lw.W229. -/
import Derived.Test.YtfagnjchgplecaaDoorGa
import Derived.Test.YtfagnjchgplecaaDoorLwa
import Derived.Test.YtfagnjchgplecaaDoorDvd
set_option linter.all false
set_option maxHeartbeats 16000000
namespace Dv

def pr (n : Int) : List Ent:=[⟨1,3,n⟩,⟨4,0,-n⟩]
theorem zlg {a b : Ent} (ha : okEnt a) (hb : okEnt b) (h : ltA a b) : fmE [a,b]:=by
 refine ⟨by simp,by simp,fun x hx=>?_,fun i hi=>?_⟩
 ·simp only [List.mem_cons,List.not_mem_nil,or_false] at hx
  rcases hx with rfl | rfl
  ·exact ha
  ·exact hb
 ·have : i = 0:=by simp at hi; omega
  subst this
  exact h
theorem ztk {n : Int} (h0 : n ≠ 0) (h1 : -1099511627776 <= n /\ n <= 1099511627776) : fmE (pr n):=by
 refine zlg ⟨by simp,by simp,h0,h1⟩ ⟨by simp,by simp,?_,?_⟩ (.inl (by simp))
 ·simp only []; omega
 ·simp only []; omega
theorem zpt {n : Int} : sumE (pr n) = 0:=by simp [pr,sumE]; omega

def sx0 : Stp:=⟨5,-1,pr 7⟩
def sx1 : Stp:=⟨9,0,pr (-2)⟩
def px0 : Pst:=newP tgB [] sx0
def px1 : Pst:=newP tgB [px0] sx1
theorem zps : postE tgB [] sx0 = 0:=by
 rw [z4d z8b (by simp) (by simp)]
 exact z1z.2 ⟨⟨by simp [newP],by simp [newP,sx0],by simp [newP,sx0],ztk (by decide) (by decide)⟩,zpt⟩
theorem vx0 : vld tgB [px0]:=(z7v zps).2.2.1
theorem zfo : postE tgB [px0] sx1 = 0:=by
 rw [z4d vx0 (by simp) (by simp [px0,newP,sx0,sx1])]
 exact z1z.2 ⟨⟨by simp [newP],by simp [newP,sx1],by simp [newP,sx1],ztk (by decide) (by decide)⟩,zpt⟩
theorem vx1 : vld tgB [px0,px1]:=(z7v zfo).2.2.1
theorem ztg : postE tgB [] ⟨5,0,pr 7⟩ = 410:=by
 rw [z4d z8b (by simp) (by simp)]
 unfold pchk
 rw [if_neg fun h=>by have:=h.corrects.2; simp [newP] at this]
theorem ztf : postE tgB [] ⟨5,-1,[⟨1,3,3⟩,⟨4,0,-2⟩]⟩ = 411:=by
 rw [z4d z8b (by simp) (by simp)]
 unfold pchk
 rw [if_pos ⟨by simp [newP],by simp [newP],by simp [newP],zlg ⟨by simp,by simp,by simp,by simp⟩ ⟨by simp,by simp,by simp,by simp⟩ (.inl (by simp))⟩,if_neg (by simp [newP,sumE])]
theorem zmv : postE tgB [px0] ⟨4,0,pr 1⟩ = 410:=by
 unfold postE
 rw [if_neg (by simp [z1q.2 vx0]),if_neg (by simp),if_pos ⟨px0,rfl,by simp [px0,newP,sx0]⟩]
theorem zr2 : balP 1 3 8 [px0,px1] = 7:=by
 simp [balP,px0,px1,newP,sx0,sx1,pr,amtOf]
theorem zr1 : balP 1 3 9 [px0,px1] = 5:=by
 simp [balP,px0,px1,newP,sx0,sx1,pr,amtOf]
theorem zr0 : rdE tgB [px1] = 410:=by
 have h1:=zfo
 have hg:=(z7v zfo).2.2.2.2
 have hf : firstE [px1] = 0:=z38.2 fun p hp=>by simp at hp; rw [hp]; exact hg
 unfold rdE
 rw [if_neg (by simp),if_neg (by simp [hf]),if_neg fun v=>by
  have:=(v.2.2 0 px1 rfl).no
  simp [px1,newP] at this]
theorem zqz : pchk ⟨0,0,0,[],z32⟩ = 410:=by
 unfold pchk
 rw [if_neg fun h=>by have:=h.ents.two; simp at this]
theorem zco : ∀ {a b : List (Int × Int)},a.Perm b -> a.Pairwise (fun x y=>pltB y x = false) -> b.Pairwise (fun x y=>pltB y x = false) -> a = b
 | [],b,hp,_,_=>by rw [List.nil_perm.1 hp]
 | x :: a,[],hp,_,_=>by simp at hp
 | x :: a,y :: b,hp,ha,hb=>by
  obtain ⟨a1,a2⟩:=List.pairwise_cons.1 ha
  obtain ⟨b1,b2⟩:=List.pairwise_cons.1 hb
  have hxy : x = y:=by
   have h1 : x ∈ y :: b:=hp.mem_iff.1 (by simp)
   have h2 : y ∈ x :: a:=hp.mem_iff.2 (by simp)
   rcases List.mem_cons.1 h1 with h1 | h1
   ·exact h1
   ·rcases List.mem_cons.1 h2 with h2 | h2
    ·exact h2.symm
    ·have c1:=b1 x h1
     have c2:=a1 y h2
     rcases z8r c2 with h | h
     ·exact h
     ·rw [h] at c1; simp at c1
  subst hxy
  rw [zco ((List.perm_cons x).1 hp) a2 b2]
theorem zr3 : accL [px0,px1] = [(1,3),(4,0)]:=by
 have e : accs [px0,px1] = [(1,3),(4,0),(1,3),(4,0)]:=rfl
 have es : psort [(1,3),(4,0),(1,3),(4,0)] = [(1,3),(1,3),(4,0),(4,0)]:=by
  refine zco ((z6m _).trans ?_) (z7b _) (by decide)
  exact (List.Perm.refl [((1 : Int),(3 : Int))]).append (List.Perm.swap (1,3) (4,0) [(4,0)])
 unfold accL
 rw [e,es]
 decide

end Dv

namespace Dv
attribute [local simp] List.replicate depth dCell dUse dInts dChoice dVar dProb tStart addO Ret
attribute [local congr] z4o z4t z3m z2u z2d z3n z29


theorem r353 (n : Int) (h : -100 <= n /\ n <= 100) : runP E (dL E) 353 [dI n] = some (.imm .none [.agg [dI 1,dI 3,dI n],.agg [dI 4,dI 0,dI (-n)]]):=by
 have hw : Go.IntKind.i64.wrap (0 - n) = -n:=by rw [ze ⟨by omega,by omega⟩]; omega
 have hw2 : Go.IntKind.i64.wrap (-n) = -n:=ze ⟨by omega,by omega⟩
 refine zp c353 (by simp) ?_
 simp [t353,n353,hw,hw2]
 rfl
theorem s353 (n : Int) (h : -100 <= n /\ n <= 100) (hp : List Obj) : runS E (dL E) 353 [dI n] hp = some (.sl hp.length 0 2 3 true true,hp ++ [.cells [dI 1,dI 3,dI n,dI 4,dI 0,dI (-n)]]):=by
 have hw : Go.IntKind.i64.wrap (0 - n) = -n:=by rw [ze ⟨by omega,by omega⟩]; omega
 have hw2 : Go.IntKind.i64.wrap (-n) = -n:=ze ⟨by omega,by omega⟩
 have : ∃ d hp',runS E (dL E) 353 [dI n] hp = some (d,hp') /\ (d = .sl hp.length 0 2 3 true true /\ hp' = hp ++ [.cells [dI 1,dI 3,dI n,dI 4,dI 0,dI (-n)]]):=by
  refine z3b c353 (args:=[dI n]) (hp:=hp) (R:=fun d hp'=>d = .sl hp.length 0 2 3 true true /\ hp' = hp ++ [.cells [dI 1,dI 3,dI n,dI 4,dI 0,dI (-n)]]) (by simp) ?_
  simp [t353,n353,hw,hw2]
  rfl
 obtain ⟨d,hp',e,rfl,rfl⟩:=this
 exact e

theorem zdd {a b : List UInt8} (ha : a.length = 32) (hb : b.length = 32) : binD E .eql 73 (.agg (a.map byteD)) (.agg (b.map byteD)) = some (.bool (decide (a = b))):=by
 have h1 : (E.ty 73).eqc = true:=rfl
 have h2 : (E.ty 73).zero = List.replicate a.length (D.int .u8 0):=by rw [ha]; rfl
 unfold binD
 simp only []
 rw [if_pos ⟨h1,by rw [h2]; exact z5h⟩,z9i (by rw [ha,hb])]
theorem mx0 : MadeP 12 [px0]:=⟨vx0,by simp,fun p hp=>by simp at hp; subst hp; exact ⟨dig32,by decide⟩⟩
theorem mx1 : MadeP 12 [px0,px1]:=⟨vx1,by simp,fun p hp=>by
 simp at hp
 rcases hp with rfl | rfl
 ·exact ⟨dig32,by decide⟩
 ·exact ⟨dig32,by decide⟩⟩
theorem okt : OkPs [px1]:=⟨by simp,fun p hp=>by simp at hp; subst hp; exact ⟨dig32,by decide⟩⟩
theorem okn : OkPs []:=⟨by simp,by simp⟩

theorem r314 : runP E (dL E) 314 [] = some (.bool true):=by
 have a1:=r353 7 (by decide)
 have a2:=r353 (-2) (by decide)
 have a3:=r353 1 (by decide)
 have a4:=s353 3 (by decide)
 have b1:=r316 [] sx0 okn (by decide)
 have b2:=r316 [px0] sx1 (mx0.ok (by decide)) (by decide)
 have b3:=r316 [] ⟨5,0,pr 7⟩ okn (by simp [pr])
 have b4:=r316 [] ⟨5,-1,[⟨1,3,3⟩,⟨4,0,-2⟩]⟩ okn (by simp)
 have b5:=r316 [px0] ⟨4,0,pr 1⟩ (mx0.ok (by decide)) (by simp [pr])
 have hx1 : [px0] ++ [newP tgB [px0] sx1] = [px0,px1]:=rfl
 have hx0 : [] ++ [newP tgB [] sx0] = [px0]:=rfl
 simp only [poD,zps,zfo,ztg,ztf,zmv,if_true,hx1,hx0,if_neg (show ¬ (410 : Int) = 0 by decide),if_neg (show ¬ (411 : Int) = 0 by decide)] at b1 b2 b3 b4 b5
 simp only [pr,sx0,sx1,dPsts,List.map_cons,List.map_nil] at b1 b2 b3 b4 b5
 have v0:=z1q.2 vx0
 have v1:=z1q.2 vx1
 have vn:=z1q.2 (z8b (tg:=tgB))
 have c1:=r318 [px0,px1] (mx1.ok (by decide)) (mx1.entN (by decide)) 1 3 8
 have c2:=r318 [px0,px1] (mx1.ok (by decide)) (mx1.entN (by decide)) 1 3 9
 have c3:=r318 [] okn (by decide) 1 3 1439
 simp only [blD,v1,if_true,zr2,zr1,dPsts,List.map_cons,List.map_nil] at c1 c2
 simp only [blD,vn,if_true,balP,dPsts,List.map_nil] at c3
 have d1:=r334 ⟨0,0,0,[],z32⟩ rfl (by simp)
 unfold encR at d1
 simp only [zqz,if_neg (show ¬ (410 : Int) = 0 by decide)] at d1
 have d1 : runP E (dL E) 334 [.agg (dI 0 :: dI 0 :: dI 0 :: .imm .none [] :: List.replicate 32 (D.int .u8 0))] = some (.tup [.imm .none [],dI 410]):=d1
 simp only [List.replicate] at d1
 have e1:=r329 [px0] (mx0.ok (by decide))
 have e2:=r329 [] okn
 simp only [rdD,v0,vn,if_true,dPsts,List.map_cons,List.map_nil] at e1 e2
 have f1:=r325 [px0,px1] (mx1.ok (by decide)) (mx1.entN (by decide))
 rw [zr3] at f1
 have g1:=r324 [px0,px1] (mx1.ok (by decide))
 have g2:=r324 [] okn
 have g3:=r324 [px1] okt
 rw [v1] at g1
 rw [vn] at g2
 rw [zr0] at g3
 simp only [dPsts,dAccs,pAcc,List.map_cons,List.map_nil] at f1 g1 g2 g3
 have h1:=r331 bPostings [] (by decide) (by simp)
 have hT : tgB bPostings [] = digT tgB []:=rfl
 rw [hT] at h1
 have n0 : px0.prev.length = 32:=dig32
 have n1 : px1.prev.length = 32:=dig32
 have pe1 : px1.prev = digT tgB [px0]:=rfl
 have pe0 : px0.prev = digT tgB []:=rfl
 have pn : px1.no = 1:=rfl
 have pc : px1.corrects = 0:=rfl
 rw [<- pe1] at e1
 rw [<- pe0] at e2 h1
 simp only [Int.neg_neg] at a2 b2
 have eqd : ∀ a : List UInt8,a.length = 32 -> binD E .eql 73 (.agg (a.map byteD)) (.agg (a.map byteD)) = some (.bool true):=fun a ha=>by
  rw [zdd ha ha]; simp
 have q1:=eqd _ n1
 have q0:=eqd _ n0
 clear pe1 pe0 hx1 hx0 v0 v1 vn hT eqd
 generalize px0 = p0 at *
 generalize px1 = p1 at *
 have sc0 : setCells (List.replicate 32 (D.int .u8 0)) 0 (p0.prev.map byteD) = p0.prev.map byteD:=za (by simp [n0])
 have sc1 : setCells (List.replicate 32 (D.int .u8 0)) 0 (p1.prev.map byteD) = p1.prev.map byteD:=za (by simp [n1])
 simp only [List.replicate] at sc0 sc1
 have hst : ∀ n s,frz [] (n + 1) (.str s) = some (.str s):=fun _ _=>rfl
 have l0 : ∀ r : List Obj,loadD E (.cells [dI 1,dI 3] :: r) 65 (.loc 0 0) = some (dAcc 1 3):=fun _=>rfl
 have l2 : ∀ (x y : Obj) (r : List Obj),loadD E (x :: y :: .cells (p1.prev.map byteD) :: r) 73 (.loc 2 0) = some (.agg (p1.prev.map byteD)):=fun x y r=>z2c (by simp [Bys,At]) n1
 have l3 : ∀ (x y z : Obj) (r : List Obj),loadD E (x :: y :: z :: .cells (p0.prev.map byteD) :: r) 73 (.loc 3 0) = some (.agg (p0.prev.map byteD)):=fun x y z r=>z2c (by simp [Bys,At]) n0
 have li : ∀ (h : List Obj) (a : List UInt8),a.length = 32 -> loadD E h 73 (.iptr (a.map byteD)) = some (.agg (a.map byteD)):=fun h a ha=>by
  have e:=z1k 32 0 (a.map byteD) (by simp [ha])
  unfold loadD
  simp only [show (E.ty 73).size = 32 from rfl,e]
  rfl
 have li0:=fun h=>li h _ n0
 have li1:=fun h=>li h _ n1
 have l2i : ∀ (h : List Obj) (a : Int) (r : List D),loadD E h 2 (.iptr (dI a :: r)) = some (dI a):=fun _ _ _=>rfl
 have l65 : ∀ (h : List Obj) (a b : Int) (r : List D),loadD E h 65 (.iptr (dI a :: dI b :: r)) = some (dAcc a b):=fun _ _ _ _=>rfl
 have h1 : runP E (dL E) 331 [.str [112,111,115,116,105,110,103,115],.imm .none []] = some (dDig p0.prev):=h1
 have hsl : sliceD E 70 (.imm .none [dPst p0,dPst p1]) (some (dI 1)) none none = some (.imm .none [dPst p1]):=by
  have hk : (E.ty 70).k = .slice 71:=rfl
  have hf : headFits (E.ty 71).size [dPst p0,dPst p1] = true:=by
   show ((pC p0).length == 36) = true
   rw [zfs n0]; rfl
  unfold sliceD
  simp only [hk,bnd,hf]
  rfl
 have bn : (p1.no == 1) = true:=by rw [pn]; rfl
 have bc : (p1.corrects == 0) = true:=by rw [pc]; rfl
 have ck : chunk 3 true 2 [dI 1,dI 3,dI 3,dI 4,dI 0,dI (-2)] = some [.agg [dI 1,dI 3,dI 3],.agg [dI 4,dI 0,dI (-2)]]:=rfl
 have i1 : ids [.cells [dI 1,dI 3],.cells [dI 1,dI 3,dI 3,dI 4,dI 0,dI (-2)]] 12 (.imm .exact []) = []:=rfl
 have i2 : ids [.cells [dI 1,dI 3],.cells [dI 1,dI 3,dI 3,dI 4,dI 0,dI (-2)]] 12 (dI 5) = []:=rfl
 have i3 : ids [.cells [dI 1,dI 3],.cells [dI 1,dI 3,dI 3,dI 4,dI 0,dI (-2)]] 12 (dI (-1)) = []:=rfl
 have i4 : ids [.cells [dI 1,dI 3],.cells [dI 1,dI 3,dI 3,dI 4,dI 0,dI (-2)]] 12 (.sl 1 0 2 3 true true) = [1]:=rfl
 have fz : freezeAll [.cells [dI 1,dI 3],.cells [dI 1,dI 3,dI 3,dI 4,dI 0,dI (-2)]] [1] = [.cells [dI 1,dI 3],.frozen [dI 1,dI 3,dI 3,dI 4,dI 0,dI (-2)]]:=rfl
 refine zp c314 (by simp) ?_
 simp [t314,n314,a1,a2,a3,a4,b1,b2,b3,b4,b5,c1,c2,c3,d1,e1,e2,f1,g1,g2,g3,h1,n0,n1,bn,bc,q1,q0,sc0,sc1,hst,l0,l2,l3,li0,li1,l2i,l65,zq,zc,noMark,hsl,ck,i1,i2,i3,i4,fz,-zl,-z2t]

end Dv

namespace Dv

theorem ztb {x : D} {c : Nat} (h : Typed E c x) (hk : (E.ty c).k = .int .i64) : ∃ n,x = dI n /\ i64 n:=by
 have ha : (E.ty c).ag = false:=by unfold TI.ag; rw [hk]
 obtain ⟨n,h3,ho⟩:=z6y (zc7 h ha) hk
 simp only [List.cons.injEq,and_true] at h3
 exact ⟨n,h3,ho⟩

end Dv

namespace Dv
attribute [local simp] List.replicate depth dCell dUse dInts dChoice dVar dProb tStart addO Ret
attribute [local congr] z4o z4t z3m z2u z2d z3n z29


def okE (e : Ent) : Prop:=i64 e.kind /\ i64 e.idx /\ i64 e.amt
def okS (s : Stp) : Prop:=i64 s.minute /\ i64 s.corrects /\ (∀ e,e ∈ s.ents -> okE e) /\ s.ents.length <= Go.maxLen
theorem two {A : Type} {l : List A} (h : l.length = 2) : ∃ a b,l = [a,b]:=by
 match l,h with
 | [a,b],_=>exact ⟨a,b,rfl⟩
theorem ztd {x : D} (h : Typed E 65 x) : ∃ k i,x = dAcc k i /\ i64 k /\ i64 i:=by
 obtain ⟨ds,rfl,h1⟩:=z8d h rfl
 obtain ⟨hl,hf⟩:=z5r h1 (fs:=[(0,2),(1,2)]) rfl
 obtain ⟨x,y,rfl⟩:=two hl
 obtain ⟨a,h2,o2⟩:=z6y (hf 0 _ rfl) rfl
 obtain ⟨b,h3,o3⟩:=z6y (hf 1 _ rfl) rfl
 simp [E,tyTab] at h2 h3
 subst h2 h3
 exact ⟨a,b,rfl,o2,o3⟩
theorem zly {ds : List D} (h : DTc E 65 ds) : ∃ k i,ds = [dI k,dI i] /\ i64 k /\ i64 i:=by
 obtain ⟨hl,hf⟩:=z5r h (fs:=[(0,2),(1,2)]) rfl
 obtain ⟨x,y,rfl⟩:=two hl
 obtain ⟨a,h2,o2⟩:=z6y (hf 0 _ rfl) rfl
 obtain ⟨b,h3,o3⟩:=z6y (hf 1 _ rfl) rfl
 simp [E,tyTab] at h2 h3
 subst h2 h3
 exact ⟨a,b,rfl,o2,o3⟩
theorem ztc {x : D} (h : Typed E 72 x) : ∃ e,x = dEnt e /\ okE e:=by
 obtain ⟨ds,rfl,h1⟩:=z8d h rfl
 obtain ⟨hl,hf⟩:=z5r h1 (fs:=[(0,65),(2,2)]) rfl
 obtain ⟨x,y,z,rfl⟩:=three hl
 obtain ⟨a,b,h2,o1,o2⟩:=zly (hf 0 _ rfl)
 obtain ⟨c,h3,o3⟩:=z6y (hf 1 _ rfl) rfl
 simp [E,tyTab] at h2 h3
 obtain ⟨rfl,rfl⟩:=h2
 subst h3
 exact ⟨⟨a,b,c⟩,rfl,o1,o2,o3⟩
theorem zta {x : D} (h : Typed E 68 x) : ∃ s,x = dStp s /\ okS s:=by
 obtain ⟨ds,rfl,h1⟩:=z8d h rfl
 obtain ⟨hl,hf⟩:=z5r h1 (fs:=[(0,2),(1,2),(2,66)]) rfl
 obtain ⟨x,y,z,rfl⟩:=three hl
 obtain ⟨a,h2,o2⟩:=z6y (hf 0 _ rfl) rfl
 obtain ⟨b,h3,o3⟩:=z6y (hf 1 _ rfl) rfl
 obtain ⟨els,h5,hlen,h6⟩:=zfh (hf 2 _ rfl) (e:=72) rfl
 simp [E,tyTab] at h2 h3 h5
 subst h2 h3 h5
 obtain ⟨l,rfl,o⟩:=zei (f:=dEnt) (R:=okE) (els:=els) fun x hx=>ztc (h6 x hx)
 exact ⟨⟨a,b,l⟩,rfl,o2,o3,o,by simpa using hlen⟩
theorem zds {x : D} (h : Typed E 69 x) : ∃ l,x = dStps l /\ (∀ s,s ∈ l -> okS s) /\ l.length <= 9223372036854775807:=by
 obtain ⟨els,h5,hlen,h6⟩:=zfh (zc7 h rfl) (e:=68) rfl
 simp only [List.cons.injEq,and_true] at h5
 subst h5
 obtain ⟨l,rfl,o⟩:=zei (f:=dStp) (R:=okS) (els:=els) fun x hx=>zta (h6 x hx)
 exact ⟨l,rfl,o,by rw [List.length_map] at hlen; exact hlen⟩

theorem znk {n : Nat} {l : List Pst} (h : MadeP n l) : ∀ p,p ∈ l -> ∀ x,x ∈ p.ents -> okEnt x:=fun p hp=>(h.v.2.1 p hp).fm.ents.ok
theorem zpi {l : List Pst} : (accL l).length <= entN l:=by
 unfold accL
 exact Nat.le_trans z4n (by rw [z4c,zc2]; exact Nat.le_refl _)
def balS (l : List Pst) (m : Int) (i : Nat) : Int:=(((accL l).take i).map fun a=>balP a.1 a.2 m l).sum
theorem zq3 {l : List Pst} {m : Int} {i : Nat} (h : i < (accL l).length) : balS l m (i + 1) = balS l m i + balP (accL l)[i].1 (accL l)[i].2 m l:=by
 unfold balS; rw [List.take_succ_eq_append_getElem h,List.map_append,List.sum_append]; simp
theorem zm9 {n : Nat} {l : List Pst} (h : MadeP n l) (hn : n <= 1000) (m : Int) : ∀ i,i <= (accL l).length -> -(1099511627776 * 1000 * i : Int) * 13 <= balS l m i /\ balS l m i <= (1099511627776 * 1000 * i : Int) * 13
 | 0,_=>by simp [balS]
 | i + 1,hi=>by
  have ih:=zm9 h hn m i (by omega)
  have hb:=zma (k:=(accL l)[i].1) (i:=(accL l)[i].2) (m:=m) (znk h)
  have h1:=zbu fun p hp=>(h.ents p hp).2
  have h2:=h.len
  rw [zq3 (by omega)]
  omega
def accB (l : List Pst) (k j : Int) (i : Nat) : Bool:=decide ((k,j) ∈ (accL l).take i)
theorem zul {l : List Pst} {k j : Int} {i : Nat} (h : i < (accL l).length) : accB l k j (i + 1) = (accB l k j i || ((accL l)[i].1 == k && (accL l)[i].2 == j)):=by
 unfold accB
 rw [List.take_succ_eq_append_getElem h]
 by_cases e : (k,j) ∈ (accL l).take i
 ·have e' : (k,j) ∈ (accL l).take i ++ [(accL l)[i]]:=List.mem_append_left _ e
  simp only [e,e',decide_true,Bool.true_or]
 ·have e2 : ((k,j) = (accL l)[i]) ↔ ((accL l)[i].1 = k /\ (accL l)[i].2 = j):=by
   constructor
   ·intro h; rw [<- h]; exact ⟨rfl,rfl⟩
   ·rintro ⟨rfl,rfl⟩; rfl
  simp only [List.mem_append,List.mem_singleton,e,false_or,e2,decide_false,Bool.false_or]
  by_cases h1 : (accL l)[i].1 = k <;> by_cases h2 : (accL l)[i].2 = j <;> simp [h1,h2]
theorem ztw {h r : List Obj} {a b : Int} : loadD E (h ++ .cells [dI a,dI b] :: r) 65 (.loc h.length 0) = some (dAcc a b):=by
 simp [loadD,takeC,E,tyTab]

theorem law321 (ss : List Stp) (hl : ss.length <= 9223372036854775807) (k j m : Int) : runP E (dL E) 321 [dStps ss,dAcc k j,dI m] = some (.bool true):=by
 have s0:=r314
 have e322:=r322 ss hl
 refine zp c321 (by simp) ?_
 by_cases hf : fewS ss = true
 rotate_left
 ·have hf' : fewS ss = false:=by simpa using hf
  rw [hf'] at e322
  simp [t321,n321,s0,e322,z2k]
 rw [hf] at e322
 have e323:=r323 ss hf
 have M:=made hf
 obtain ⟨l,hL⟩ : ∃ l,l = postL tgB ss:=⟨_,rfl⟩
 rw [<- hL] at e323 M
 have e324:=r324 l (M.ok (by decide))
 rw [z1q.2 M.v] at e324
 have e325:=r325 l (M.ok (by decide)) (M.entN (by decide))
 have c1:=fun k i=>r318 l (M.ok (by decide)) (M.entN (by decide)) k i m
 unfold blD at c1
 simp only [z1q.2 M.v,if_pos rfl] at c1
 have hS:=zph M.v m
 have hN : (k,j) ∉ accL l -> balP k j m l = 0:=zmi
 have hlen : (accL l).length <= 144:=by
  have h1:=zbu fun p hp=>(M.ents p hp).2
  have h2:=M.len
  have:=zpi (l:=l)
  omega
 obtain ⟨A,hA⟩ : ∃ A,A = accL l:=⟨_,rfl⟩
 have hs : ∀ i,(h : i < A.length) -> balS l m (i + 1) = balS l m i + balP A[i].1 A[i].2 m l:=fun i h=>by subst hA; exact zq3 h
 have hle : ∀ i,i <= A.length -> -(1099511627776 * 1000 * i : Int) * 13 <= balS l m i /\ balS l m i <= (1099511627776 * 1000 * i : Int) * 13:=by subst hA; exact zm9 M (by decide) m
 have hb : ∀ i,(h : i < A.length) -> accB l k j (i + 1) = (accB l k j i || (A[i].1 == k && A[i].2 == j)):=fun i h=>by subst hA; exact zul h
 have hat : ∀ i,(h : i + 1 < A.length) -> pltB A[i] A[i + 1] = true:=fun i h=>by subst hA; exact zsr h
 have hS' : balS l m A.length = 0:=by subst hA; unfold balS; rw [List.take_length]; exact hS
 have hB' : accB l k j A.length = decide ((k,j) ∈ A):=by subst hA; unfold accB; rw [List.take_length]
 rw [<- hA] at e325 hN hlen
 clear hA hS
 simp [t321,n321,s0,e322,e323,e324,e325,z2k,zj]
 refine z1s A.length (fun i env h=>∃ (x9 x10 x11 x12 x13 x14 x15 x16 x17 x21 x22 x23 x24 x25 x26 : D) ,env = [dStps ss,dAcc k j,dI m,.iptr [dI k,dI j],.bool false,dPsts l,dAccs A,dI (balS l m i),.bool (accB l k j i),x9,x10,x11,x12,x13,x14,x15,x16,x17,dAccs A,dI A.length,dI i,x21,x22,x23,x24,x25,x26]) 0 (by omega) ?_ ?_
 ·have h1 : balS l m 0 = 0:=rfl
  have h2 : accB l k j 0 = false:=by simp [accB]
  rw [h1,h2]
  exact ⟨_,_,_,_,_,_,_,_,_,_,_,_,_,_,_,rfl⟩
 rintro i env h hi ⟨x9,x10,x11,x12,x13,x14,x15,x16,x17,x21,x22,x23,x24,x25,x26,rfl⟩
 by_cases hlt : i < A.length
 rotate_left
 ·have : i = A.length:=by omega
  subst this
  simp [hS',hB',c1,zj]
  by_cases hm : (k,j) ∈ A
  ·simp [hm]
  ·simp [hm,hN hm]
 have hup:=zo hlt (by omega)
 obtain ⟨a,ha⟩ : ∃ a,a = A[i]:=⟨_,rfl⟩
 have hs1:=hs i hlt
 have hb1:=hb i hlt
 have h1:=hle i (by omega)
 have h2:=hle (i + 1) (by omega)
 rw [<- ha] at hs1 hb1
 rw [hs1] at h2
 have hw : Go.IntKind.i64.wrap (balS l m i + balP a.1 a.2 m l) = balS l m i + balP a.1 a.2 m l:=ze ⟨by omega,by omega⟩
 have q1:=fun r : List Obj=>ztw (h:=h) (r:=r) (a:=a.1) (b:=a.2)
 have hpA : pAcc a = dAcc a.1 a.2:=rfl
 rw [hs1,hb1]
 have hpb : ∀ b : Int × Int,pAcc b = dAcc b.1 b.2:=fun _=>rfl
 by_cases h0 : i = 0
 ·subst h0
  have hup0 : Go.IntKind.i64.wrap 1 = 1:=rfl
  simp [hlt,<- ha,hpb,hup,q1,hw,c1,zj]
  cases accB l k j 0
  ·simp [hup0]
  ·simp [hup0]
 ·have hpd : Go.IntKind.i64.wrap ((i : Int) - 1) = ((i - 1 : Nat) : Int):=by rw [ze ⟨by omega,by omega⟩]; omega
  have hg:=hat (i - 1) (by omega)
  simp only [show i - 1 + 1 = i from by omega,<- ha] at hg
  obtain ⟨b,hB⟩ : ∃ b,b = A[i - 1]'(by omega):=⟨_,rfl⟩
  rw [<- hB] at hg
  have hip : 0 < i:=by omega
  have hpl : i - 1 < A.length:=by omega
  have l2i : ∀ (h : List Obj) (a : Int) (r : List D),loadD E h 2 (.iptr (dI a :: r)) = some (dI a):=fun _ _ _=>rfl
  have l65i : ∀ (h : List Obj) (a b : Int),loadD E h 65 (.iptr [dI a,dI b]) = some (dAcc a b):=fun _ _ _=>rfl
  have hg' : b.1 < a.1 \/ (¬ b.1 < a.1 /\ b.1 = a.1 /\ b.2 < a.2):=by
   unfold pltB at hg; simp at hg; omega
  have q2 : ∀ r : List Obj,loadD E (h ++ .cells [dI a.1,dI a.2] :: r) 2 (.loc h.length 0) = some (dI a.1):=fun r=>by simp [loadD,takeC,E,tyTab]
  have q3 : ∀ r : List Obj,loadD E (h ++ .cells [dI a.1,dI a.2] :: r) 2 (.loc h.length 1) = some (dI a.2):=fun r=>by simp [loadD,takeC,E,tyTab]
  rcases hg' with hg' | ⟨g1,g2,g3⟩
  ·simp [hlt,<- ha,hpb,hup,q1,q2,q3,hw,c1,zj,hpd,hip,hpl,<- hB,l2i,l65i,hg',-zl,-z2t]
   cases accB l k j i
   ·simp [hup]
   ·simp [hup]
  ·simp [hlt,<- ha,hpb,hup,q1,q2,q3,hw,c1,zj,hpd,hip,hpl,<- hB,l2i,l65i,g2,g3,-zl,-z2t]
   cases accB l k j i
   ·simp [hup]
   ·simp [hup]

theorem postingsZero : ∀ xs,TypedL E [69,65,2] xs -> ∃ n,runP E (dC E n) 321 xs = some (.bool true):=by
 intro xs h
 match xs,h with
 | [x,z,w],⟨t1,t3,t4,_⟩=>
  obtain ⟨ss,rfl,_,hl⟩:=zds t1
  obtain ⟨k,i,rfl,_⟩:=ztd t3
  obtain ⟨m,rfl,_⟩:=ztb t4 rfl
  exact z5d (law321 ss hl k i m)
 | [],h=>exact h.elim
 | [_],h=>exact h.2.elim
 | [_,_],h=>exact h.2.2.elim
 | _ :: _ :: _ :: _ :: _,h=>exact h.2.2.2.elim

theorem ztn {a b : Ent} : binD E .neq 72 (dEnt a) (dEnt b) = some (.bool (!decide (a = b))):=by
 obtain ⟨a1,a2,a3⟩:=a
 obtain ⟨b1,b2,b3⟩:=b
 have e : (decide ((⟨a1,a2,a3⟩ : Ent) = ⟨b1,b2,b3⟩)) = (a1 == b1 && (a2 == b2 && a3 == b3)):=by
  by_cases h1 : a1 = b1 <;> by_cases h2 : a2 = b2 <;> by_cases h3 : a3 = b3 <;> simp [h1,h2,h3]
 rw [e]
 simp [binD,E,tyTab,kindsL,eqL,atomEq]
theorem zap {A : Type} {a b : List A} (hl : a.length = b.length) (h : ∀ i,∀ h : i < a.length,a[i] = b[i]'(by omega)) : a = b:=
 List.ext_getElem hl fun i h1 _=>h i h1

theorem r327 (a b : List Ent) (ha : a.length <= 1000000) (hb : b.length <= 1000000) : runP E (dL E) 327 [.imm .none (a.map dEnt),.imm .none (b.map dEnt)] = some (.bool (decide (a = b))):=by
 refine zp c327 (by simp) ?_
 by_cases hl : a.length = b.length
 rotate_left
 ·have h1 : ¬ (a.length : Int) = b.length:=by omega
  have h2 : ¬ a = b:=fun h=>hl (by rw [h])
  simp [t327,n327,h1,h2]
 have h1 : (a.length : Int) = b.length:=by omega
 obtain ⟨B,hB⟩ : ∃ B,B = decide (a = b):=⟨_,rfl⟩
 rw [<- hB]
 simp [t327,n327,h1]
 refine z1s a.length (fun i env h=>∃ (x4 x5 x6 : D) ,env = [.imm .none (a.map dEnt),.imm .none (b.map dEnt),.bool false,dI i,x4,x5,x6] /\ ∀ j,(hj : j < a.length) -> j < i -> a[j] = b[j]'(by omega)) 0 (by omega) ⟨_,_,_,rfl,fun _ _ h=>absurd h (by omega)⟩ ?_
 rintro i env h hi ⟨x4,x5,x6,rfl,F⟩
 by_cases hlt : i < a.length
 rotate_left
 ·have hge : ¬ (i : Int) < a.length:=by omega
  have : i = a.length:=by omega
  have hB2 : B = true:=by
   rw [hB,decide_eq_true_eq]
   exact zap hl fun j hj=>F j hj (by omega)
  simp [hge,hB2,this]
 have hup:=zo hlt (by omega)
 have hlt2 : i < b.length:=by omega
 obtain ⟨x,hx⟩ : ∃ x,x = a[i]:=⟨_,rfl⟩
 obtain ⟨y,hy⟩ : ∃ y,y = b[i]:=⟨_,rfl⟩
 have n1:=ztn (a:=x) (b:=y)
 have l72 : ∀ (h : List Obj) (x : Ent),loadD E h 72 (.iptr [dI x.kind,dI x.idx,dI x.amt]) = some (dEnt x):=fun _ _=>rfl
 by_cases hxy : x = y
 ·have hd : decide (x = y) = true:=by simpa using hxy
  rw [hd] at n1
  simp [hlt,hlt2,<- hx,<- hy,hup,n1,l72,-z2t,-z18]
  intro j hj hji
  by_cases hje : j < i
  ·exact F j hj hje
  ·have : j = i:=by omega
   subst this
   rw [<- hx,<- hy]; exact hxy
 ·have hd : decide (x = y) = false:=by simpa using hxy
  rw [hd] at n1
  have hB2 : B = false:=by
   rw [hB,decide_eq_false_iff_not]
   intro h
   subst h
   exact hxy (by rw [hx,hy])
  simp [hlt,hlt2,<- hx,<- hy,hup,n1,l72,hB2,-z2t,-z18]

theorem r337 (p q : Pst) (hp : p.prev.length = 32) (hq : q.prev.length = 32) (ha : p.ents.length <= 1000000) (hb : q.ents.length <= 1000000) : runP E (dL E) 337 [dPst p,dPst q] = some (.bool (decide (p = q))):=by
 have e:=r327 p.ents q.ents ha hb
 refine zp c337 (by simp) ?_
 have l73 : ∀ (p : Pst),p.prev.length = 32 -> iloadD E 73 (.iptr (p.prev.map byteD)) = some (dDig p.prev):=fun p hp=>by
  have e:=z1k 32 0 (p.prev.map byteD) (by simp [hp])
  unfold iloadD
  simp only [show (E.ty 73).size = 32 from rfl,e]
  rfl
 have eqd:=zdd hp hq
 have il2 : ∀ (a : Int) (r : List D),iloadD E 2 (.iptr (dI a :: r)) = some (dI a):=fun _ _=>rfl
 have il66 : ∀ (es : List D) (r : List D),iloadD E 66 (.iptr (.imm .none es :: r)) = some (.imm .none es):=fun _ _=>rfl
 have hpq : (p = q) ↔ ((((p.no = q.no /\ p.minute = q.minute) /\ p.corrects = q.corrects) /\ p.prev = q.prev) /\ p.ents = q.ents):=by
  obtain ⟨a,b,c,d,e⟩:=p
  obtain ⟨a',b',c',d',e'⟩:=q
  simp only [Pst.mk.injEq]
  constructor
  ·rintro ⟨rfl,rfl,rfl,rfl,rfl⟩; exact ⟨⟨⟨⟨rfl,rfl⟩,rfl⟩,rfl⟩,rfl⟩
  ·rintro ⟨⟨⟨⟨rfl,rfl⟩,rfl⟩,rfl⟩,rfl⟩; exact ⟨rfl,rfl,rfl,rfl,rfl⟩
 by_cases h1 : p.no = q.no
 rotate_left
 ·simp [t337,n337,hp,hq,l73 p hp,l73 q hq,eqd,e,zq,il2,il66,-z1g,h1,hpq]
 by_cases h2 : p.minute = q.minute
 rotate_left
 ·simp [t337,n337,hp,hq,l73 p hp,l73 q hq,eqd,e,zq,il2,il66,-z1g,h1,h2,hpq]
 by_cases h3 : p.corrects = q.corrects
 rotate_left
 ·simp [t337,n337,hp,hq,l73 p hp,l73 q hq,eqd,e,zq,il2,il66,-z1g,h1,h2,h3,hpq]
 by_cases h4 : p.prev = q.prev
 rotate_left
 ·have e4 : decide (p.prev = q.prev) = false:=by simpa using h4
  rw [e4] at eqd
  simp [t337,n337,hp,hq,l73 p hp,l73 q hq,eqd,e,zq,il2,il66,-z1g,h1,h2,h3,h4,hpq]
 have e4 : decide (p.prev = q.prev) = true:=by simpa using h4
 rw [e4] at eqd
 have l73q:=l73 q hq
 rw [h4] at eqd
 simp [t337,n337,hp,hq,l73q,eqd,e,zq,il2,il66,-z1g,h1,h2,h3,h4,hpq]

theorem r320 (a b : List Pst) (ha : OkPs a) (hb : OkPs b) : runP E (dL E) 320 [dPsts a,dPsts b] = some (.bool (decide (a = b))):=by
 refine zp c320 (by simp) ?_
 obtain ⟨ha1,ha2⟩:=ha
 obtain ⟨hb1,hb2⟩:=hb
 by_cases hl : a.length = b.length
 rotate_left
 ·have h1 : ¬ (a.length : Int) = b.length:=by omega
  have h2 : ¬ a = b:=fun h=>hl (by rw [h])
  simp [t320,n320,h1,h2]
 have h1 : (a.length : Int) = b.length:=by omega
 obtain ⟨B,hB⟩ : ∃ B,B = decide (a = b):=⟨_,rfl⟩
 rw [<- hB]
 simp [t320,n320,h1]
 refine z1s a.length (fun i env h=>∃ (x4 x5 x6 : D) ,env = [dPsts a,dPsts b,.bool false,dI i,x4,x5,x6] /\ ∀ j,(hj : j < a.length) -> j < i -> a[j] = b[j]'(by omega)) 0 (by omega) ⟨_,_,_,rfl,fun _ _ h=>absurd h (by omega)⟩ ?_
 rintro i env h hi ⟨x4,x5,x6,rfl,F⟩
 by_cases hlt : i < a.length
 rotate_left
 ·have hge : ¬ (i : Int) < a.length:=by omega
  have : i = a.length:=by omega
  have hB2 : B = true:=by
   rw [hB,decide_eq_true_eq]
   exact zap hl fun j hj=>F j hj (by omega)
  simp [hge,hB2,this]
 have hup:=zo hlt (by omega)
 have hlt2 : i < b.length:=by omega
 obtain ⟨x,hx⟩ : ∃ x,x = a[i]:=⟨_,rfl⟩
 obtain ⟨y,hy⟩ : ∃ y,y = b[i]:=⟨_,rfl⟩
 have px:=ha2 x (by rw [hx]; exact List.getElem_mem hlt)
 have py:=hb2 y (by rw [hy]; exact List.getElem_mem hlt2)
 have n1:=r337 x y px.1 py.1 px.2 py.2
 have q1:=fun h : List Obj=>zel (h:=h) px.1
 have q2:=fun h : List Obj=>zel (h:=h) py.1
 by_cases hxy : x = y
 ·have hd : decide (x = y) = true:=by simpa using hxy
  rw [hd] at n1
  simp [hlt,hlt2,<- hx,<- hy,hup,n1,px.1,py.1,↓q1,↓q2,zq,zc]
  intro j hj hji
  by_cases hje : j < i
  ·exact F j hj hje
  ·have : j = i:=by omega
   subst this
   rw [<- hx,<- hy]; exact hxy
 ·have hd : decide (x = y) = false:=by simpa using hxy
  rw [hd] at n1
  have hB2 : B = false:=by
   rw [hB,decide_eq_false_iff_not]
   intro h
   subst h
   exact hxy (by rw [hx,hy])
  simp [hlt,hlt2,<- hx,<- hy,hup,n1,hB2,px.1,py.1,↓q1,↓q2,zq,zc]

theorem zfk {n : Nat} {l : List Pst} (h : MadeP n l) {i : Nat} (hi : i < l.length) : l[i].prev.length = 32 /\ l[i].ents.length <= 1000000 /\ pchk l[i] = 0:=
 ⟨(h.ents _ (List.getElem_mem hi)).1,by have:=(h.ents _ (List.getElem_mem hi)).2; omega,z1z.2 (h.v.2.1 _ (List.getElem_mem hi))⟩
theorem ztj {n : Nat} {l : List Pst} (h : MadeP n l) (hn : n <= 1000) : runP E (dL E) 329 [dPsts l] = some (.tup [dDig (digT tgB l),dI 0]):=by
 have e:=r329 l (h.ok hn)
 unfold rdD at e
 rw [z1q.2 h.v,if_pos rfl] at e
 exact e
def bdAt (x y : List Pst) (i : Nat) (p q : Pst) : Prop:=
 (encP p ≠ encP q /\ tgB bPosting (encP p) = tgB bPosting (encP q)) \/
  (stepT tgB (digT tgB (x.take i)) p = stepT tgB (digT tgB (y.take i)) q /\ (digT tgB (x.take i) ≠ digT tgB (y.take i) \/ tgB bPosting (encP p) ≠ tgB bPosting (encP q)))
theorem ld_k {h r : List Obj} {k : Nat} {m : List UInt8} (h32 : m.length = 32) (hr : r[k]? = some (.cells (m.map byteD))) : loadD E (h ++ r) 73 (.loc (h.length + k) 0) = some (.agg (m.map byteD)):=
 z2c (show At (h ++ r) (h.length + k) _ by unfold At; rw [List.getElem?_append_right (by omega),show h.length + k - h.length = k from by omega]; exact hr) h32

theorem law330 (ss ts : List Stp) (hl : ss.length <= 9223372036854775807) (hl2 : ts.length <= 9223372036854775807) : runP E (dL E) 330 [dStps ss,dStps ts] = some (.bool true):=by
 have s0:=r314
 have e322:=r322 ss hl
 have f322:=r322 ts hl2
 refine zp c330 (by simp) ?_
 by_cases hf : fewS ss = true
 rotate_left
 ·have hf' : fewS ss = false:=by simpa using hf
  rw [hf'] at e322
  simp [t330,n330,s0,e322,z2k]
 by_cases hg : fewS ts = true
 rotate_left
 ·have hg' : fewS ts = false:=by simpa using hg
  rw [hf] at e322
  rw [hg'] at f322
  simp [t330,n330,s0,e322,f322,z2k]
 rw [hf] at e322
 rw [hg] at f322
 have e323:=r323 ss hf
 have f323:=r323 ts hg
 have M:=made hf
 have N:=made hg
 obtain ⟨x,hx⟩ : ∃ l,l = postL tgB ss:=⟨_,rfl⟩
 obtain ⟨y,hy⟩ : ∃ l,l = postL tgB ts:=⟨_,rfl⟩
 rw [<- hx] at e323 M
 rw [<- hy] at f323 N
 have e329:=ztj M (by decide)
 have f329:=ztj N (by decide)
 have e320:=r320 x y (M.ok (by decide)) (N.ok (by decide))
 have hbd:=@zm5 tgB (fun _ _=>z14) x y M.v N.v
 have d1:=dig32 (l:=x)
 have d2:=dig32 (l:=y)
 have hxl:=M.len
 obtain ⟨a,ha⟩ : ∃ a,a = digT tgB x:=⟨_,rfl⟩
 obtain ⟨b,hb⟩ : ∃ b,b = digT tgB y:=⟨_,rfl⟩
 rw [<- ha] at e329 d1 hbd
 rw [<- hb] at f329 d2 hbd
 have sc1 : setCells (List.replicate 32 (D.int .u8 0)) 0 (a.map byteD) = a.map byteD:=za (by simp [d1])
 have sc2 : setCells (List.replicate 32 (D.int .u8 0)) 0 (b.map byteD) = b.map byteD:=za (by simp [d2])
 simp only [List.replicate] at sc1 sc2
 have eqd:=zdd d1 d2
 have neqd:=zbl d1 d2
 have ld0 : ∀ (r : List Obj),loadD E (.cells (a.map byteD) :: r) 73 (.loc 0 0) = some (.agg (a.map byteD)):=fun r=>z2c (by simp [Bys,At]) d1
 have ld1 : ∀ (o : Obj) (r : List Obj),loadD E (o :: .cells (b.map byteD) :: r) 73 (.loc 1 0) = some (.agg (b.map byteD)):=fun o r=>z2c (by simp [Bys,At]) d2
 have e331:=r331 bPostings [] (by decide) (by simp)
 have hT : tgB bPostings [] = startT tgB:=rfl
 rw [hT] at e331
 have hTl : (startT tgB).length = 32:=dig32 (l:=[])
 have hd0 : ∀ l : List Pst,digT tgB (l.take 0) = startT tgB:=fun l=>by rw [List.take_zero]; rfl
 have e331 : runP E (dL E) 331 [.str [112,111,115,116,105,110,103,115],.imm .none []] = some (dDig (startT tgB)):=e331
 have hst : ∀ n s,frz [] (n + 1) (.str s) = some (.str s):=fun _ _=>rfl
 by_cases hll : x.length = y.length
 rotate_left
 ·have hll' : ¬ (x.length : Int) = y.length:=by omega
  simp [t330,n330,s0,e322,f322,e323,f323,z2k,zj,e329,f329,d1,d2,sc1,sc2,hll',ld0,ld1,-zl,-z1o,-z18]
 have hll' : (x.length : Int) = y.length:=by omega
 by_cases hxy : x = y
 ·have hxy' : decide (x = y) = true:=by simpa using hxy
  rw [hxy'] at e320
  have hab : a = b:=by rw [ha,hb,hxy]
  have hab' : decide (a = b) = true:=by simpa using hab
  rw [hab'] at eqd
  simp [t330,n330,s0,e322,f322,e323,f323,z2k,zj,e329,f329,d1,d2,sc1,sc2,hll',ld0,ld1,e320,eqd,-zl,-z1o,-z18]
 have hxy' : decide (x = y) = false:=by simpa using hxy
 rw [hxy'] at e320
 by_cases hab : a = b
 rotate_left
 ·have hab' : decide (a = b) = false:=by simpa using hab
  rw [hab'] at neqd
  simp [t330,n330,s0,e322,f322,e323,f323,z2k,zj,e329,f329,d1,d2,sc1,sc2,hll',ld0,ld1,e320,neqd,-zl,-z1o,-z18]
 have hab' : decide (a = b) = true:=by simpa using hab
 rw [hab'] at neqd
 obtain ⟨i0,p0,q0,k1,k2,k3⟩:=hbd hll hab hxy
 obtain ⟨T0,hT0⟩ : ∃ T0,T0 = startT tgB:=⟨_,rfl⟩
 rw [<- hT0] at e331 hTl
 have sc3 : setCells (List.replicate 32 (D.int .u8 0)) 0 (T0.map byteD) = T0.map byteD:=za (by simp [hTl])
 simp only [List.replicate] at sc3
 have ld2 : ∀ (o p : Obj) (r : List Obj),loadD E (o :: p :: .cells (T0.map byteD) :: r) 73 (.loc 2 0) = some (.agg (T0.map byteD)):=fun o p r=>z2c (by simp [Bys,At]) hTl
 simp [t330,n330,s0,e322,f322,e323,f323,z2k,zj,e329,f329,d1,d2,sc1,sc2,hll',ld0,ld1,e320,neqd,e331,hTl,sc3,ld2,hst,-zl,-z1o,-z18]
 refine z1s x.length (fun i env h=>∃ (x11 x12 x13 x14 x15 x16 x17 x18 x19 x20 x21 x22 x23 x24 x25 x28 x29 x30 x31 x32 : D) ,env = [dStps ss,dStps ts,.bool false,dPsts x,dPsts y,.loc 0 0,dI 0,.loc 1 0,dI 0,.loc 2 0,.loc 3 0,x11,x12,x13,x14,x15,x16,x17,x18,x19,x20,x21,x22,x23,x24,x25,dI y.length,dI i,x28,x29,x30,x31,x32] /\ Bys h 2 (digT tgB (x.take i)) /\ Bys h 3 (digT tgB (y.take i)) /\ ∀ j p q,j < i -> x[j]? = some p -> y[j]? = some q -> ¬ bdAt x y j p q) 0 (by omega) ?_ ?_
 ·rw [hd0,hd0,<- hT0]
  exact ⟨_,_,_,_,_,_,_,_,_,_,_,_,_,_,_,_,_,_,_,_,rfl,rfl,rfl,fun _ _ _ _ h=>absurd h (by omega)⟩
 rintro i env h hi ⟨x11,x12,x13,x14,x15,x16,x17,x18,x19,x20,x21,x22,x23,x24,x25,x28,x29,x30,x31,x32,rfl,B2,B3,F⟩
 by_cases hlt : i < x.length
 rotate_left
 ·exact absurd k3 (F i0 p0 q0 (by have:=(List.getElem?_eq_some_iff.1 k1).1; omega) k1 k2)
 have hlt2 : i < y.length:=by omega
 have hup:=zo hlt (by omega)
 obtain ⟨p,hp⟩ : ∃ p,p = x[i]:=⟨_,rfl⟩
 obtain ⟨q,hq⟩ : ∃ q,q = y[i]:=⟨_,rfl⟩
 have px:=zfk M hlt
 have py:=zfk N hlt2
 rw [<- hp] at px
 rw [<- hq] at py
 have n1:=z9k (tg:=tgB) hlt
 have n2:=z9k (tg:=tgB) hlt2
 rw [<- hp] at n1
 rw [<- hq] at n2
 obtain ⟨S,hS⟩ : ∃ S,S = digT tgB (x.take i):=⟨_,rfl⟩
 obtain ⟨T,hT⟩ : ∃ T,T = digT tgB (y.take i):=⟨_,rfl⟩
 have S32 : S.length = 32:=by rw [hS]; exact dig32
 have T32 : T.length = 32:=by rw [hT]; exact dig32
 have g1:=r332 S p S32 px.1 px.2.1 px.2.2
 have g2:=r332 T q T32 py.1 py.2.1 py.2.2
 rw [<- hS] at n1 B2
 rw [<- hT] at n2 B3
 rw [n1,n2]
 have hbi : bdAt x y i p q ↔ ((encP p ≠ encP q /\ tgB bPosting (encP p) = tgB bPosting (encP q)) \/ (stepT tgB S p = stepT tgB T q /\ (S ≠ T \/ tgB bPosting (encP p) ≠ tgB bPosting (encP q)))):=by unfold bdAt; rw [hS,hT]
 have hpx : x[i]? = some p:=by rw [hp]; simp [hlt]
 have hqy : y[i]? = some q:=by rw [hq]; simp [hlt2]
 have Fs : ¬ bdAt x y i p q -> ∀ j p q,j < i + 1 -> x[j]? = some p -> y[j]? = some q -> ¬ bdAt x y j p q:=fun hn j p' q' hj h1 h2=>by
  by_cases hji : j < i
  ·exact F j p' q' hji h1 h2
  ·have : j = i:=by omega
   subst this
   rw [hpx] at h1
   rw [hqy] at h2
   cases h1
   cases h2
   exact hn
 have P32 : (tgB bPosting (encP p)).length = 32:=z14
 have Q32 : (tgB bPosting (encP q)).length = 32:=z14
 have A32 : (stepT tgB S p).length = 32:=z14
 have C32 : (stepT tgB T q).length = 32:=z14
 generalize tgB bPosting (encP p) = P at g1 hbi P32
 generalize tgB bPosting (encP q) = Q at g2 hbi Q32
 generalize stepT tgB S p = A at g1 hbi A32 ⊢
 generalize stepT tgB T q = C at g2 hbi C32 ⊢
 generalize encP p = u at g1 hbi
 generalize encP q = v at g2 hbi
 rw [hbi] at Fs
 have z1 : ∀ r : List Obj,loadD E (h ++ r) 73 (.loc 2 0) = some (.agg (S.map byteD)):=fun r=>z2c B2.app S32
 have z2 : ∀ r : List Obj,loadD E (h ++ r) 73 (.loc 3 0) = some (.agg (T.map byteD)):=fun r=>z2c B3.app T32
 have z0 : loadD E h 73 (.loc 2 0) = some (.agg (S.map byteD)):=z2c B2 S32
 have q1:=fun h : List Obj=>zel (h:=h) px.1
 have q2:=fun h : List Obj=>zel (h:=h) py.1
 have scA : setCells (List.replicate 32 (D.int .u8 0)) 0 (A.map byteD) = A.map byteD:=za (by simp [A32])
 have scC : setCells (List.replicate 32 (D.int .u8 0)) 0 (C.map byteD) = C.map byteD:=za (by simp [C32])
 have scP : setCells (List.replicate 32 (D.int .u8 0)) 0 (P.map byteD) = P.map byteD:=za (by simp [P32])
 have scQ : setCells (List.replicate 32 (D.int .u8 0)) 0 (Q.map byteD) = Q.map byteD:=za (by simp [Q32])
 have scS : setCells (S.map byteD) 0 (A.map byteD) = A.map byteD:=za (by simp [A32,S32])
 have scT : setCells (T.map byteD) 0 (C.map byteD) = C.map byteD:=za (by simp [C32,T32])
 simp only [List.replicate] at scA scC scP scQ
 have yA:=fun r=>ld_k (h:=h) (k:=10) (m:=A) (r:=r) A32
 have yP:=fun r=>ld_k (h:=h) (k:=11) (m:=P) (r:=r) P32
 have yC:=fun r=>ld_k (h:=h) (k:=25) (m:=C) (r:=r) C32
 have yQ:=fun r=>ld_k (h:=h) (k:=26) (m:=Q) (r:=r) Q32
 have hl15 : ∀ k,h.length + 15 + k = h.length + (15 + k):=fun k=>Nat.add_assoc _ _ _
 have z3 : ∀ r : List Obj,(h ++ r)[2]? = some (.cells (S.map byteD)):=fun r=>B2.app
 have z4 : ∀ (o : Obj) (r : List Obj),(h ++ r).set 2 o = h.set 2 o ++ r:=fun o r=>z1p (At.lt B2)
 have z5 : ∀ (o : Obj) (r : List Obj),(h.set 2 o ++ r)[3]? = some (.cells (T.map byteD)):=fun o r=>(At.ne B3 (by omega)).app
 have z6 : ∀ (o o' : Obj) (r : List Obj),(h.set 2 o ++ r).set 3 o' = (h.set 2 o).set 3 o' ++ r:=fun o o' r=>z1p (by rw [List.length_set]; exact At.lt B3)
 have fin : ∀ r : List Obj,Bys ((h.set 2 (.cells (A.map byteD))).set 3 (.cells (C.map byteD)) ++ r) 2 A /\ Bys ((h.set 2 (.cells (A.map byteD))).set 3 (.cells (C.map byteD)) ++ r) 3 C:=fun r=>
  ⟨(At.ne (At.self (At.lt B2)) (by omega)).app,(At.self (by rw [List.length_set]; exact At.lt B3)).app⟩
 have eP:=zdd P32 Q32
 have nP:=zbl P32 Q32
 have eA:=zdd A32 C32
 have nS:=zbl S32 T32
 have eu : binD E .neq 53 (.str u) (.str v) = some (.bool (!decide (u = v))):=by
  have : (u == v) = decide (u = v):=by by_cases h : u = v <;> simp [h]
  rw [<- this]
  simp [binD,E,tyTab]
 simp [hlt,hlt2,hup,<- hp,<- hq,px.1,py.1,↓q1,↓q2,zq,zc,↓z0,↓z1,↓z2,g1,g2,S32,T32,A32,P32,C32,Q32,scA,scP,scC,scQ,yA,yP,yC,yQ,List.append_assoc,hl15,eu,eP,eA,-zl,-z1o,-z18]
 have fin2 : ¬ bdAt x y i p q -> (∀ j p q,j < i + 1 -> x[j]? = some p -> y[j]? = some q -> ¬ bdAt x y j p q):=fun h=>Fs (fun h2=>h (hbi.2 h2))
 have cont : ∀ r r' : List Obj,¬ bdAt x y i p q -> (Bys ((h.set 2 (.cells (A.map byteD))).set 3 (.cells (C.map byteD)) ++ r) 2 A /\ Bys ((h.set 2 (.cells (A.map byteD))).set 3 (.cells (C.map byteD)) ++ r) 3 C /\ ∀ j p q,j < i + 1 -> x[j]? = some p -> y[j]? = some q -> ¬ bdAt x y j p q):=fun r _ h=>⟨(fin r).1,(fin r).2,fin2 h⟩
 have chk25 : ∀ (a b c d e f g h' j k l m n o : D) (t : List D),chkT (a :: b :: c :: d :: e :: f :: g :: h' :: j :: .loc 2 0 :: k :: l :: m :: n :: o :: .loc (h.length + 25) 0 :: t) [(15,9)] = true:=by
  intros
  have h1 : ¬ h.length + 25 = 2:=by omega
  have h2 : ¬ 2 = h.length + 25:=by omega
  simp [chkT,chk1,idsNe,did,h1,h2]
 by_cases hP : P = Q
 ·have dP : decide (P = Q) = true:=by simpa using hP
  rw [dP] at nP
  by_cases hu : u = v
  ·by_cases hA : A = C
   ·by_cases hS' : S = T
    ·have dS : decide (S = T) = true:=by simpa using hS'
     rw [dS] at nS
     simp [eq_true hP,eq_true hu,eq_true hA,nS,nP,yA,yC,↓z3,z4,↓z5,z6,A32,C32,S32,T32,scS,scT,hup,chk25,-zl,-z1o,-z18]
     exact cont _ [] fun h=>by
      rcases hbi.1 h with h | ⟨_,h⟩
      ·exact h.1 hu
      ·exact h.elim (fun h=>h hS') (fun h=>h hP)
    ·have dS : decide (S = T) = false:=by simpa using hS'
     rw [dS] at nS
     simp [eq_true hP,eq_true hu,eq_true hA,nS]
   ·simp [eq_true hP,eq_true hu,hA,yA,yC,↓z3,z4,↓z5,z6,A32,C32,S32,T32,scS,scT,hup,chk25,-zl,-z1o,-z18]
    exact cont _ [] fun h=>by
     rcases hbi.1 h with h | ⟨h,_⟩
     ·exact h.1 hu
     ·exact hA h
  ·simp [hu,eq_true hP]
 ·have dP : decide (P = Q) = false:=by simpa using hP
  rw [dP] at nP
  by_cases hA : A = C
  ·have nS' : ∃ b,binD E .neq 73 (.agg (S.map byteD)) (.agg (T.map byteD)) = some (.bool b):=⟨_,nS⟩
   obtain ⟨bb,hbb⟩:=nS'
   by_cases hu : u = v
   ·cases bb <;> simp [hP,eq_true hu,eq_true hA,hbb,nP]
   ·cases bb <;> simp [hP,hu,eq_true hA,hbb,nP]
  ·have hc:=fun r=>cont r [] fun h=>by
    rcases hbi.1 h with h | ⟨h,_⟩
    ·exact hP h.2
    ·exact hA h
   by_cases hu : u = v
   ·simp [hP,eq_true hu,hA,yA,yC,↓z3,z4,↓z5,z6,A32,C32,S32,T32,scS,scT,hup,chk25,-zl,-z1o,-z18]
    exact hc _
   ·simp [hP,hu,hA,yA,yC,↓z3,z4,↓z5,z6,A32,C32,S32,T32,scS,scT,hup,chk25,-zl,-z1o,-z18]
    exact hc _

theorem postingsBound : ∀ xs,TypedL E [69,69] xs -> ∃ n,runP E (dC E n) 330 xs = some (.bool true):=by
 intro xs h
 match xs,h with
 | [x,y],⟨t1,t2,_⟩=>
  obtain ⟨ss,rfl,_,hl⟩:=zds t1
  obtain ⟨ts,rfl,_,hl2⟩:=zds t2
  exact z5d (law330 ss ts hl hl2)
 | [],h=>exact h.elim
 | [_],h=>exact h.2.elim
 | _ :: _ :: _ :: _,h=>exact h.2.2.elim

end Dv
