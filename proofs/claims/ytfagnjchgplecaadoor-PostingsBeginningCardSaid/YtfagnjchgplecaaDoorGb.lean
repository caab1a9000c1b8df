/- Texts that a proof of this claim uses, joined: Lw.W225, Lw.S41, Lw.Ty, Lw.W226. -/
import Derived.Test.YtfagnjchgplecaaDoorGa
import Derived.Test.YtfagnjchgplecaaDoorLwa
import Derived.Test.YtfagnjchgplecaaDoorDvd
set_option linter.all false
set_option maxHeartbeats 16000000
namespace Dv

def pr (n : Int) : List Ent:=[⟨1,3,n⟩,⟨4,0,-n⟩]
theorem zkg {a b : Ent} (ha : okEnt a) (hb : okEnt b) (h : ltA a b) : fmE [a,b]:=by
 refine ⟨by simp,by simp,fun x hx=>?_,fun i hi=>?_⟩
 ·simp only [List.mem_cons,List.not_mem_nil,or_false] at hx
  rcases hx with rfl | rfl
  ·exact ha
  ·exact hb
 ·have : i = 0:=by simp at hi; omega
  subst this
  exact h
theorem zsl {n : Int} (h0 : n ≠ 0) (h1 : -1099511627776 <= n /\ n <= 1099511627776) : fmE (pr n):=by
 refine zkg ⟨by simp,by simp,h0,h1⟩ ⟨by simp,by simp,?_,?_⟩ (.inl (by simp))
 ·simp only []; omega
 ·simp only []; omega
theorem zou {n : Int} : sumE (pr n) = 0:=by simp [pr,sumE]; omega

def sx0 : Stp:=⟨5,-1,pr 7⟩
def sx1 : Stp:=⟨9,0,pr (-2)⟩
def px0 : Pst:=newP tgB [] sx0
def px1 : Pst:=newP tgB [px0] sx1
theorem zot : postE tgB [] sx0 = 0:=by
 rw [z48 z7x (by simp) (by simp)]
 exact z2t.2 ⟨⟨by simp [newP],by simp [newP,sx0],by simp [newP,sx0],zsl (by decide) (by decide)⟩,zou⟩
theorem vx0 : vld tgB [px0]:=(z7j zot).2.2.1
theorem zew : postE tgB [px0] sx1 = 0:=by
 rw [z48 vx0 (by simp) (by simp [px0,newP,sx0,sx1])]
 exact z2t.2 ⟨⟨by simp [newP],by simp [newP,sx1],by simp [newP,sx1],zsl (by decide) (by decide)⟩,zou⟩
theorem vx1 : vld tgB [px0,px1]:=(z7j zew).2.2.1
theorem zsi : postE tgB [] ⟨5,0,pr 7⟩ = 410:=by
 rw [z48 z7x (by simp) (by simp)]
 unfold pchk
 rw [if_neg fun h=>by have:=h.corrects.2; simp [newP] at this]
theorem zsh : postE tgB [] ⟨5,-1,[⟨1,3,3⟩,⟨4,0,-2⟩]⟩ = 411:=by
 rw [z48 z7x (by simp) (by simp)]
 unfold pchk
 rw [if_pos ⟨by simp [newP],by simp [newP],by simp [newP],zkg ⟨by simp,by simp,by simp,by simp⟩ ⟨by simp,by simp,by simp,by simp⟩ (.inl (by simp))⟩,if_neg (by simp [newP,sumE])]
theorem zlz : postE tgB [px0] ⟨4,0,pr 1⟩ = 410:=by
 unfold postE
 rw [if_neg (by simp [z1t.2 vx0]),if_neg (by simp),if_pos ⟨px0,rfl,by simp [px0,newP,sx0]⟩]
theorem zq3 : balP 1 3 8 [px0,px1] = 7:=by
 simp [balP,px0,px1,newP,sx0,sx1,pr,amtOf]
theorem zq2 : balP 1 3 9 [px0,px1] = 5:=by
 simp [balP,px0,px1,newP,sx0,sx1,pr,amtOf]
theorem zq1 : rdE tgB [px1] = 410:=by
 have h1:=zew
 have hg:=(z7j zew).2.2.2.2
 have hf : firstE [px1] = 0:=z31.2 fun p hp=>by simp at hp; rw [hp]; exact hg
 unfold rdE
 rw [if_neg (by simp),if_neg (by simp [hf]),if_neg fun v=>by
  have:=(v.2.2 0 px1 rfl).no
  simp [px1,newP] at this]
theorem zq0 : pchk ⟨0,0,0,[],z32⟩ = 410:=by
 unfold pchk
 rw [if_neg fun h=>by have:=h.ents.two; simp at this]
theorem zc1 : ∀ {a b : List (Int × Int)},a.Perm b -> a.Pairwise (fun x y=>pltB y x = false) -> b.Pairwise (fun x y=>pltB y x = false) -> a = b
 | [],b,hp,_,_=>by rw [List.nil_perm.1 hp]
 | x :: a,[],hp,_,_=>by simp at hp
 | x :: a,y :: b,hp,ha,hb=>by
  obtain ⟨a1,a2⟩:=List.pairwise_cons.1 ha
  obtain ⟨b1,b2⟩:=List.pairwise_cons.1 hb
  have hxy : x = y:=by
   have h1 : x ∈ y :: b:=hp.mem_iff.1 (by simp)
   have h2 : y ∈ x :: a:=hp.mem_iff.2 (by simp)
   rcases List.mem_cons.1 h1 with h1 | h1
   ·exact h1
   ·rcases List.mem_cons.1 h2 with h2 | h2
    ·exact h2.symm
    ·have c1:=b1 x h1
     have c2:=a1 y h2
     rcases zj6 c2 with h | h
     ·exact h
     ·rw [h] at c1; simp at c1
  subst hxy
  rw [zc1 ((List.perm_cons x).1 hp) a2 b2]
theorem zq4 : accL [px0,px1] = [(1,3),(4,0)]:=by
 have e : accs [px0,px1] = [(1,3),(4,0),(1,3),(4,0)]:=rfl
 have es : psort [(1,3),(4,0),(1,3),(4,0)] = [(1,3),(1,3),(4,0),(4,0)]:=by
  refine zc1 ((z9x _).trans ?_) (zc8 _) (by decide)
  exact (List.Perm.refl [((1 : Int),(3 : Int))]).append (List.Perm.swap (1,3) (4,0) [(4,0)])
 unfold accL
 rw [e,es]
 decide

end Dv

namespace Dv
attribute [local simp] List.replicate depth dCell dUse dInts dChoice dVar dProb tStart addO Ret
attribute [local congr] z3j z3s z2u z26 z1m z2z z1l


theorem r353 (n : Int) (h : -100 <= n /\ n <= 100) : runP E (dL E) 353 [dI n] = some (.imm .none [.agg [dI 1,dI 3,dI n],.agg [dI 4,dI 0,dI (-n)]]):=by
 have hw : Go.IntKind.i64.wrap (0 - n) = -n:=by rw [za ⟨by omega,by omega⟩]; omega
 have hw2 : Go.IntKind.i64.wrap (-n) = -n:=za ⟨by omega,by omega⟩
 refine zu c353 (by simp) ?_
 simp [t353,n353,hw,hw2]
 rfl
theorem s353 (n : Int) (h : -100 <= n /\ n <= 100) (hp : List Obj) : runS E (dL E) 353 [dI n] hp = some (.sl hp.length 0 2 3 true true,hp ++ [.cells [dI 1,dI 3,dI n,dI 4,dI 0,dI (-n)]]):=by
 have hw : Go.IntKind.i64.wrap (0 - n) = -n:=by rw [za ⟨by omega,by omega⟩]; omega
 have hw2 : Go.IntKind.i64.wrap (-n) = -n:=za ⟨by omega,by omega⟩
 have : ∃ d hp',runS E (dL E) 353 [dI n] hp = some (d,hp') /\ (d = .sl hp.length 0 2 3 true true /\ hp' = hp ++ [.cells [dI 1,dI 3,dI n,dI 4,dI 0,dI (-n)]]):=by
  refine z35 c353 (args:=[dI n]) (hp:=hp) (R:=fun d hp'=>d = .sl hp.length 0 2 3 true true /\ hp' = hp ++ [.cells [dI 1,dI 3,dI n,dI 4,dI 0,dI (-n)]]) (by simp) ?_
  simp [t353,n353,hw,hw2]
  rfl
 obtain ⟨d,hp',e,rfl,rfl⟩:=this
 exact e

theorem zoz {a b : List UInt8} (ha : a.length = 32) (hb : b.length = 32) : binD E .eql 73 (.agg (a.map byteD)) (.agg (b.map byteD)) = some (.bool (decide (a = b))):=by
 have h1 : (E.ty 73).eqc = true:=rfl
 have h2 : (E.ty 73).zero = List.replicate a.length (D.int .u8 0):=by rw [ha]; rfl
 unfold binD
 simp only []
 rw [if_pos ⟨h1,by rw [h2]; exact z57⟩,z94 (by rw [ha,hb])]
theorem mx0 : MadeP 12 [px0]:=⟨vx0,by simp,fun p hp=>by simp at hp; subst hp; exact ⟨dig32,by decide⟩⟩
theorem mx1 : MadeP 12 [px0,px1]:=⟨vx1,by simp,fun p hp=>by
 simp at hp
 rcases hp with rfl | rfl
 ·exact ⟨dig32,by decide⟩
 ·exact ⟨dig32,by decide⟩⟩
theorem okt : OkPs [px1]:=⟨by simp,fun p hp=>by simp at hp; subst hp; exact ⟨dig32,by decide⟩⟩
theorem okn : OkPs []:=⟨by simp,by simp⟩

theorem r314 : runP E (dL E) 314 [] = some (.bool true):=by
 have a1:=r353 7 (by decide)
 have a2:=r353 (-2) (by decide)
 have a3:=r353 1 (by decide)
 have a4:=s353 3 (by decide)
 have b1:=r316 [] sx0 okn (by decide)
 have b2:=r316 [px0] sx1 (mx0.ok (by decide)) (by decide)
 have b3:=r316 [] ⟨5,0,pr 7⟩ okn (by simp [pr])
 have b4:=r316 [] ⟨5,-1,[⟨1,3,3⟩,⟨4,0,-2⟩]⟩ okn (by simp)
 have b5:=r316 [px0] ⟨4,0,pr 1⟩ (mx0.ok (by decide)) (by simp [pr])
 have hx1 : [px0] ++ [newP tgB [px0] sx1] = [px0,px1]:=rfl
 have hx0 : [] ++ [newP tgB [] sx0] = [px0]:=rfl
 simp only [poD,zot,zew,zsi,zsh,zlz,if_true,hx1,hx0,if_neg (show ¬ (410 : Int) = 0 by decide),if_neg (show ¬ (411 : Int) = 0 by decide)] at b1 b2 b3 b4 b5
 simp only [pr,sx0,sx1,dPsts,List.map_cons,List.map_nil] at b1 b2 b3 b4 b5
 have v0:=z1t.2 vx0
 have v1:=z1t.2 vx1
 have vn:=z1t.2 (z7x (tg:=tgB))
 have c1:=r318 [px0,px1] (mx1.ok (by decide)) (mx1.entN (by decide)) 1 3 8
 have c2:=r318 [px0,px1] (mx1.ok (by decide)) (mx1.entN (by decide)) 1 3 9
 have c3:=r318 [] okn (by decide) 1 3 1439
 simp only [blD,v1,if_true,zq3,zq2,dPsts,List.map_cons,List.map_nil] at c1 c2
 simp only [blD,vn,if_true,balP,dPsts,List.map_nil] at c3
 have d1:=r334 ⟨0,0,0,[],z32⟩ rfl (by simp)
 unfold encR at d1
 simp only [zq0,if_neg (show ¬ (410 : Int) = 0 by decide)] at d1
 have d1 : runP E (dL E) 334 [.agg (dI 0 :: dI 0 :: dI 0 :: .imm .none [] :: List.replicate 32 (D.int .u8 0))] = some (.tup [.imm .none [],dI 410]):=d1
 simp only [List.replicate] at d1
 have e1:=r329 [px0] (mx0.ok (by decide))
 have e2:=r329 [] okn
 simp only [rdD,v0,vn,if_true,dPsts,List.map_cons,List.map_nil] at e1 e2
 have f1:=r325 [px0,px1] (mx1.ok (by decide)) (mx1.entN (by decide))
 rw [zq4] at f1
 have g1:=r324 [px0,px1] (mx1.ok (by decide))
 have g2:=r324 [] okn
 have g3:=r324 [px1] okt
 rw [v1] at g1
 rw [vn] at g2
 rw [zq1] at g3
 simp only [dPsts,dAccs,pAcc,List.map_cons,List.map_nil] at f1 g1 g2 g3
 have h1:=r331 bPostings [] (by decide) (by simp)
 have hT : tgB bPostings [] = digT tgB []:=rfl
 rw [hT] at h1
 have n0 : px0.prev.length = 32:=dig32
 have n1 : px1.prev.length = 32:=dig32
 have pe1 : px1.prev = digT tgB [px0]:=rfl
 have pe0 : px0.prev = digT tgB []:=rfl
 have pn : px1.no = 1:=rfl
 have pc : px1.corrects = 0:=rfl
 rw [<- pe1] at e1
 rw [<- pe0] at e2 h1
 simp only [Int.neg_neg] at a2 b2
 have eqd : ∀ a : List UInt8,a.length = 32 -> binD E .eql 73 (.agg (a.map byteD)) (.agg (a.map byteD)) = some (.bool true):=fun a ha=>by
  rw [zoz ha ha]; simp
 have q1:=eqd _ n1
 have q0:=eqd _ n0
 clear pe1 pe0 hx1 hx0 v0 v1 vn hT eqd
 generalize px0 = p0 at *
 generalize px1 = p1 at *
 have sc0 : setCells (List.replicate 32 (D.int .u8 0)) 0 (p0.prev.map byteD) = p0.prev.map byteD:=zb (by simp [n0])
 have sc1 : setCells (List.replicate 32 (D.int .u8 0)) 0 (p1.prev.map byteD) = p1.prev.map byteD:=zb (by simp [n1])
 simp only [List.replicate] at sc0 sc1
 have hst : ∀ n s,frz [] (n + 1) (.str s) = some (.str s):=fun _ _=>rfl
 have l0 : ∀ r : List Obj,loadD E (.cells [dI 1,dI 3] :: r) 65 (.loc 0 0) = some (dAcc 1 3):=fun _=>rfl
 have l2 : ∀ (x y : Obj) (r : List Obj),loadD E (x :: y :: .cells (p1.prev.map byteD) :: r) 73 (.loc 2 0) = some (.agg (p1.prev.map byteD)):=fun x y r=>z8n (by simp [Bys,At]) n1
 have l3 : ∀ (x y z : Obj) (r : List Obj),loadD E (x :: y :: z :: .cells (p0.prev.map byteD) :: r) 73 (.loc 3 0) = some (.agg (p0.prev.map byteD)):=fun x y z r=>z8n (by simp [Bys,At]) n0
 have li : ∀ (h : List Obj) (a : List UInt8),a.length = 32 -> loadD E h 73 (.iptr (a.map byteD)) = some (.agg (a.map byteD)):=fun h a ha=>by
  have e:=z1n 32 0 (a.map byteD) (by simp [ha])
  unfold loadD
  simp only [show (E.ty 73).size = 32 from rfl,e]
  rfl
 have li0:=fun h=>li h _ n0
 have li1:=fun h=>li h _ n1
 have l2i : ∀ (h : List Obj) (a : Int) (r : List D),loadD E h 2 (.iptr (dI a :: r)) = some (dI a):=fun _ _ _=>rfl
 have l65 : ∀ (h : List Obj) (a b : Int) (r : List D),loadD E h 65 (.iptr (dI a :: dI b :: r)) = some (dAcc a b):=fun _ _ _ _=>rfl
 have h1 : runP E (dL E) 331 [.str [112,111,115,116,105,110,103,115],.imm .none []] = some (dDig p0.prev):=h1
 have hsl : sliceD E 70 (.imm .none [dPst p0,dPst p1]) (some (dI 1)) none none = some (.imm .none [dPst p1]):=by
  have hk : (E.ty 70).k = .slice 71:=rfl
  have hf : headFits (E.ty 71).size [dPst p0,dPst p1] = true:=by
   show ((pC p0).length == 36) = true
   rw [zcc n0]; rfl
  unfold sliceD
  simp only [hk,bnd,hf]
  rfl
 have bn : (p1.no == 1) = true:=by rw [pn]; rfl
 have bc : (p1.corrects == 0) = true:=by rw [pc]; rfl
 have ck : chunk 3 true 2 [dI 1,dI 3,dI 3,dI 4,dI 0,dI (-2)] = some [.agg [dI 1,dI 3,dI 3],.agg [dI 4,dI 0,dI (-2)]]:=rfl
 have i1 : ids [.cells [dI 1,dI 3],.cells [dI 1,dI 3,dI 3,dI 4,dI 0,dI (-2)]] 12 (.imm .exact []) = []:=rfl
 have i2 : ids [.cells [dI 1,dI 3],.cells [dI 1,dI 3,dI 3,dI 4,dI 0,dI (-2)]] 12 (dI 5) = []:=rfl
 have i3 : ids [.cells [dI 1,dI 3],.cells [dI 1,dI 3,dI 3,dI 4,dI 0,dI (-2)]] 12 (dI (-1)) = []:=rfl
 have i4 : ids [.cells [dI 1,dI 3],.cells [dI 1,dI 3,dI 3,dI 4,dI 0,dI (-2)]] 12 (.sl 1 0 2 3 true true) = [1]:=rfl
 have fz : freezeAll [.cells [dI 1,dI 3],.cells [dI 1,dI 3,dI 3,dI 4,dI 0,dI (-2)]] [1] = [.cells [dI 1,dI 3],.frozen [dI 1,dI 3,dI 3,dI 4,dI 0,dI (-2)]]:=rfl
 refine zu c314 (by simp) ?_
 simp [t314,n314,a1,a2,a3,a4,b1,b2,b3,b4,b5,c1,c2,c3,d1,e1,e2,f1,g1,g2,g3,h1,n0,n1,bn,bc,q1,q0,sc0,sc1,hst,l0,l2,l3,li0,li1,l2i,l65,z1j,ze,noMark,hsl,ck,i1,i2,i3,i4,fz,-z13,-z6d]

end Dv

namespace Dv

theorem zsd {x : D} {c : Nat} (h : Typed E c x) (hk : (E.ty c).k = .int .i64) : ∃ n,x = dI n /\ i64 n:=by
 have ha : (E.ty c).ag = false:=by unfold TI.ag; rw [hk]
 obtain ⟨n,h3,ho⟩:=z6o (z7z h ha) hk
 simp only [List.cons.injEq,and_true] at h3
 exact ⟨n,h3,ho⟩

theorem ty_u8 {x : D} {c : Nat} (h : Typed E c x) (hk : (E.ty c).k = .int .u8) : ∃ m : Nat,x = .int .u8 m /\ m <= 255:=by
 have ha : (E.ty c).ag = false:=by unfold TI.ag; rw [hk]
 have h1:=z7z h ha
 clear h
 cases h1 with
 | int h' hw=>
  rename_i n
  rw [hk] at h'; cases h'
  simp [Go.Lit.wf] at hw
  obtain ⟨a1,a2⟩:=hw
  have e1 : Go.IntKind.u8.min = 0:=by decide
  have e2 : Go.IntKind.u8.max = 255:=by decide
  have b1 : 0 <= n:=by first | exact a1 | (rw [e1] at a1; exact a1)
  have b2 : n <= 255:=by first | exact a2 | (rw [e2] at a2; exact a2)
  exact ⟨n.toNat,by rw [Int.toNat_of_nonneg b1],by omega⟩
 | bool h'=>rw [hk] at h'; cases h'
 | str h'=>rw [hk] at h'; cases h'
 | slice h' _ _ _=>rw [hk] at h'; cases h'
 | struct h' _ _=>rw [hk] at h'; cases h'
 | arr h' _ _=>rw [hk] at h'; cases h'

end Dv

namespace Dv
attribute [local simp] List.replicate depth dCell dUse dInts dChoice dVar dProb tStart addO Ret
attribute [local congr] z3j z3s z2u z26 z1m z2z z1l


def okE (e : Ent) : Prop:=i64 e.kind /\ i64 e.idx /\ i64 e.amt
def okS (s : Stp) : Prop:=i64 s.minute /\ i64 s.corrects /\ (∀ e,e ∈ s.ents -> okE e) /\ s.ents.length <= Go.maxLen
theorem two {A : Type} {l : List A} (h : l.length = 2) : ∃ a b,l = [a,b]:=by
 match l,h with
 | [a,b],_=>exact ⟨a,b,rfl⟩
theorem zsf {x : D} (h : Typed E 65 x) : ∃ k i,x = dAcc k i /\ i64 k /\ i64 i:=by
 obtain ⟨ds,rfl,h1⟩:=z80 h rfl
 obtain ⟨hl,hf⟩:=z5g h1 (fs:=[(0,2),(1,2)]) rfl
 obtain ⟨x,y,rfl⟩:=two hl
 obtain ⟨a,h2,o2⟩:=z6o (hf 0 _ rfl) rfl
 obtain ⟨b,h3,o3⟩:=z6o (hf 1 _ rfl) rfl
 simp [E,tyTab] at h2 h3
 subst h2 h3
 exact ⟨a,b,rfl,o2,o3⟩
theorem zl2 {ds : List D} (h : DTc E 65 ds) : ∃ k i,ds = [dI k,dI i] /\ i64 k /\ i64 i:=by
 obtain ⟨hl,hf⟩:=z5g h (fs:=[(0,2),(1,2)]) rfl
 obtain ⟨x,y,rfl⟩:=two hl
 obtain ⟨a,h2,o2⟩:=z6o (hf 0 _ rfl) rfl
 obtain ⟨b,h3,o3⟩:=z6o (hf 1 _ rfl) rfl
 simp [E,tyTab] at h2 h3
 subst h2 h3
 exact ⟨a,b,rfl,o2,o3⟩
theorem zse {x : D} (h : Typed E 72 x) : ∃ e,x = dEnt e /\ okE e:=by
 obtain ⟨ds,rfl,h1⟩:=z80 h rfl
 obtain ⟨hl,hf⟩:=z5g h1 (fs:=[(0,65),(2,2)]) rfl
 obtain ⟨x,y,z,rfl⟩:=three hl
 obtain ⟨a,b,h2,o1,o2⟩:=zl2 (hf 0 _ rfl)
 obtain ⟨c,h3,o3⟩:=z6o (hf 1 _ rfl) rfl
 simp [E,tyTab] at h2 h3
 obtain ⟨rfl,rfl⟩:=h2
 subst h3
 exact ⟨⟨a,b,c⟩,rfl,o1,o2,o3⟩
theorem zsc {x : D} (h : Typed E 68 x) : ∃ s,x = dStp s /\ okS s:=by
 obtain ⟨ds,rfl,h1⟩:=z80 h rfl
 obtain ⟨hl,hf⟩:=z5g h1 (fs:=[(0,2),(1,2),(2,66)]) rfl
 obtain ⟨x,y,z,rfl⟩:=three hl
 obtain ⟨a,h2,o2⟩:=z6o (hf 0 _ rfl) rfl
 obtain ⟨b,h3,o3⟩:=z6o (hf 1 _ rfl) rfl
 obtain ⟨els,h5,hlen,h6⟩:=zer (hf 2 _ rfl) (e:=72) rfl
 simp [E,tyTab] at h2 h3 h5
 subst h2 h3 h5
 obtain ⟨l,rfl,o⟩:=zdw (f:=dEnt) (R:=okE) (els:=els) fun x hx=>zse (h6 x hx)
 exact ⟨⟨a,b,l⟩,rfl,o2,o3,o,by simpa using hlen⟩
theorem zpw {x : D} (h : Typed E 69 x) : ∃ l,x = dStps l /\ (∀ s,s ∈ l -> okS s) /\ l.length <= 9223372036854775807:=by
 obtain ⟨els,h5,hlen,h6⟩:=zer (z7z h rfl) (e:=68) rfl
 simp only [List.cons.injEq,and_true] at h5
 subst h5
 obtain ⟨l,rfl,o⟩:=zdw (f:=dStp) (R:=okS) (els:=els) fun x hx=>zsc (h6 x hx)
 exact ⟨l,rfl,o,by rw [List.length_map] at hlen; exact hlen⟩

theorem zil {n k : Nat} {l : List Pst} (h : MadeP n l) : MadeP n (l.take k):=⟨zlx h.v k,by rw [List.length_take]; have:=h.len; omega,fun p hp=>h.ents p (List.mem_of_mem_take hp)⟩
theorem sl70 {l : List Pst} {k : Nat} (h : k <= l.length) (h32 : ∀ p,p ∈ l -> p.prev.length = 32) : sliceD E 70 (.imm .none (l.map dPst)) none (some (dI k)) none = some (.imm .none ((l.take k).map dPst)):=by
 have hk : (E.ty 70).k = .slice 71:=rfl
 have hf : headFits (E.ty 71).size (l.map dPst) = true:=by
  cases l with
  | nil=>rfl
  | cons p l=>
   show ((pC p).length == 36) = true
   rw [zcc (h32 p (by simp))]; rfl
 have hs : sliceSpare .none (l.map dPst).length k none = .none:=by unfold sliceSpare; simp
 unfold sliceD
 simp only [hk,bnd,Int.natCast_nonneg,if_true,Int.toNat_natCast,hf,Option.map_none,hs]
 rw [if_pos ⟨Nat.zero_le _,by simpa using h,Nat.le_refl _,trivial⟩,List.drop_zero,Nat.sub_zero,List.map_take]

theorem law328 (ss : List Stp) (hl : ss.length <= 9223372036854775807) (a : Nat) (ha : a <= 255) (k i m : Int) : runP E (dL E) 328 [dStps ss,.int .u8 a,dAcc k i,dI m] = some (.bool true):=by
 have s0:=r314
 have e322:=r322 ss hl
 refine zu c328 (by simp) ?_
 by_cases hf : fewS ss = true
 rotate_left
 ·have hf' : fewS ss = false:=by simpa using hf
  rw [hf'] at e322
  simp [t328,n328,s0,e322,z8w]
 rw [hf] at e322
 have e323:=r323 ss hf
 have M:=made hf
 obtain ⟨l,hL⟩ : ∃ l,l = postL tgB ss:=⟨_,rfl⟩
 rw [<- hL] at e323 M
 have hlen:=M.len
 obtain ⟨q,hq⟩ : ∃ q : Nat,q = a % (l.length + 1):=⟨_,rfl⟩
 have hql : q <= l.length:=by have:=Nat.mod_lt a (show 0 < l.length + 1 by omega); omega
 have Mk:=zil (k:=q) M
 have hw : Go.IntKind.i64.wrap ((l.length : Int) + 1) = (l.length : Int) + 1:=za ⟨by omega,by omega⟩
 have hwa : Go.IntKind.i64.wrap (a : Int) = a:=za ⟨by omega,by omega⟩
 have hmod : (a : Int).tmod ((l.length : Int) + 1) = (q : Int):=by
  rw [hq,show ((l.length : Int) + 1) = ((l.length + 1 : Nat) : Int) from by omega,Int.ofNat_tmod]
 have hnz : ¬ ((l.length : Int) + 1) = 0:=by omega
 have e329:=r329 (l.take q) (Mk.ok (by decide))
 have e324:=r324 (l.take q) (Mk.ok (by decide))
 have v0:=z1t.2 Mk.v
 unfold rdD at e329
 rw [v0] at e329 e324
 rw [if_pos rfl] at e329
 have hs:=sl70 hql fun p hp=>(M.ents p hp).1
 have c1:=r318 l (M.ok (by decide)) (M.entN (by decide)) k i m
 have c2:=r318 (l.take q) (Mk.ok (by decide)) (Mk.entN (by decide)) k i m
 unfold blD at c1 c2
 rw [z1t.2 M.v,if_pos rfl] at c1
 rw [v0,if_pos rfl] at c2
 have key : ∀ h : q < l.length,l[q].prev = digT tgB (l.take q) /\ l[q].prev.length = 32 /\ (l[q].minute <= m \/ balP k i m l = balP k i m (l.take q)):=fun h=>by
  refine ⟨(M.v.2.2 q l[q] (by simp [h])).prev,(M.ents _ (List.getElem_mem h)).1,?_⟩
  rcases Int.lt_or_le m l[q].minute with h1 | h1
  ·exact .inr (zle M.v h h1)
  ·exact .inl h1
 have d32:=dig32 (l:=l.take q)
 generalize l.take q = T at *
 have sc0 : setCells (List.replicate 32 (D.int .u8 0)) 0 ((digT tgB T).map byteD) = (digT tgB T).map byteD:=zb (by simp [d32])
 simp only [List.replicate] at sc0
 by_cases hqe : q = l.length
 ·have hqe':=eq_true (show ((q : Nat) : Int) = (l.length : Int) by omega)
  simp [t328,n328,s0,e322,e323,z8w,zm,convD,hw,hwa,hmod,hnz,hs,e329,e324,d32,sc0,hqe']
 ·have hqe':=eq_false (show ¬ ((q : Nat) : Int) = (l.length : Int) by omega)
  have hlt : q < l.length:=by omega
  obtain ⟨p,hp⟩ : ∃ p,p = l[q]:=⟨_,rfl⟩
  obtain ⟨k1,k2,k3⟩:=key hlt
  rw [<- hp] at k1 k2 k3
  have hld : ∀ (r : List Obj),loadD E (.cells ((digT tgB T).map byteD) :: r) 73 (.loc 0 0) = some (.agg ((digT tgB T).map byteD)):=fun r=>z8n (by simp [Bys,At]) d32
  have li : ∀ (h : List Obj),loadD E h 73 (.iptr (p.prev.map byteD)) = some (.agg (p.prev.map byteD)):=fun h=>by
   have e:=z1n 32 0 (p.prev.map byteD) (by simp [k2])
   unfold loadD
   simp only [show (E.ty 73).size = 32 from rfl,e]
   rfl
  have l2i : ∀ (h : List Obj) (a : Int) (r : List D),loadD E h 2 (.iptr (dI a :: r)) = some (dI a):=fun _ _ _=>rfl
  have eqd:=zoz k2 d32
  have k1':=eq_true k1
  simp [t328,n328,s0,e322,e323,z8w,zm,convD,hw,hwa,hmod,hnz,hs,e329,e324,d32,sc0,hqe',c1,c2,hlt,<- hp,k2,hld,li,l2i,eqd,k1',-z13,-z6d]
  rcases k3 with k3 | k3
  ·simp [k3]
  ·simp [k3]

theorem postingsBeginning : ∀ xs,TypedL E [69,13,65,2] xs -> ∃ n,runP E (dC E n) 328 xs = some (.bool true):=by
 intro xs h
 match xs,h with
 | [x,y,z,w],⟨t1,t2,t3,t4,_⟩=>
  obtain ⟨ss,rfl,_,hl⟩:=zpw t1
  obtain ⟨a,rfl,ha⟩:=ty_u8 t2 rfl
  obtain ⟨k,i,rfl,_⟩:=zsf t3
  obtain ⟨m,rfl,_⟩:=zsd t4 rfl
  exact z6a (law328 ss hl a ha k i m)
 | [],h=>exact h.elim
 | [_],h=>exact h.2.elim
 | [_,_],h=>exact h.2.2.elim
 | [_,_,_],h=>exact h.2.2.2.elim
 | _ :: _ :: _ :: _ :: _ :: _,h=>exact h.2.2.2.2.elim

end Dv
