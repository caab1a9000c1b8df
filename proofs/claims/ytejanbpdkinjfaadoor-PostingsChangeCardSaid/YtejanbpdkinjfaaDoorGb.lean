/- Texts that a proof of this claim uses, joined: Lw.S41, Lw.Ty, Lw.W226, Lw.W227, Lw.W228, Lw.W229, Lw.W240, Lw.W241, Lw.W242, Lw.W243, Lw.W244, Lw.W245, Lw.W246, Lw.W2, Lw.W3, Lw.W4, Lw.W5, Lw.W6, Lw.W7, Lw.W247, Lw.W248, Lw.W249, Lw.W250, Lw.W233, Lw.W234. -/
import Derived.Test.YtejanbpdkinjfaaDoorGa
import Derived.Test.YtejanbpdkinjfaaDoorLwa
import Derived.Test.YtejanbpdkinjfaaDoorDvd
import Derived.Test.YtejanbpdkinjfaaDoorWa
set_option linter.all false
set_option maxRecDepth 100000
set_option maxHeartbeats 16000000
namespace Dv
attribute [local simp] List.replicate depth dCell dUse dInts dChoice dVar dProb tStart addO Ret
attribute [local congr] z38 z3d z2j z1u z1h z2k z1e


theorem r353 (n : Int) (h : -100 <= n /\ n <= 100) : runP E (dL E) 353 [dI n] = some (.imm .none [.agg [dI 1,dI 3,dI n],.agg [dI 4,dI 0,dI (-n)]]):=by
 have hw : Go.IntKind.i64.wrap (0 - n) = -n:=by rw [za ⟨by omega,by omega⟩]; omega
 have hw2 : Go.IntKind.i64.wrap (-n) = -n:=za ⟨by omega,by omega⟩
 refine zx c353 (by simp) ?_
 conv in t353=>reduce; dsimp [Int.negSucc_eq]
 simp [t353,n353,hw,hw2]
 rfl
theorem s353 (n : Int) (h : -100 <= n /\ n <= 100) (hp : List Obj) : runS E (dL E) 353 [dI n] hp = some (.sl hp.length 0 2 3 true true,hp ++ [.cells [dI 1,dI 3,dI n,dI 4,dI 0,dI (-n)]]):=by
 have hw : Go.IntKind.i64.wrap (0 - n) = -n:=by rw [za ⟨by omega,by omega⟩]; omega
 have hw2 : Go.IntKind.i64.wrap (-n) = -n:=za ⟨by omega,by omega⟩
 have : ∃ d hp',runS E (dL E) 353 [dI n] hp = some (d,hp') /\ (d = .sl hp.length 0 2 3 true true /\ hp' = hp ++ [.cells [dI 1,dI 3,dI n,dI 4,dI 0,dI (-n)]]):=by
  refine z2z c353 (args:=[dI n]) (hp:=hp) (R:=fun d hp'=>d = .sl hp.length 0 2 3 true true /\ hp' = hp ++ [.cells [dI 1,dI 3,dI n,dI 4,dI 0,dI (-n)]]) (by simp) ?_
  conv in t353=>reduce; dsimp [Int.negSucc_eq]
  simp [t353,n353,hw,hw2]
  rfl
 obtain ⟨d,hp',e,rfl,rfl⟩:=this
 exact e

theorem zq3 {a b : List UInt8} (ha : a.length = 32) (hb : b.length = 32) : binD E .eql 73 (.agg (a.map byteD)) (.agg (b.map byteD)) = some (.bool (decide (a = b))):=by
 have h1 : (E.ty 73).eqc = true:=rfl
 have h2 : (E.ty 73).zero = List.replicate a.length (D.int .u8 0):=by rw [ha]; rfl
 unfold binD
 simp only []
 rw [if_pos ⟨h1,by rw [h2]; exact z5b⟩,z97 (by rw [ha,hb])]
theorem mdx0 : MadeP 12 [px0]:=⟨vx0,by simp,fun p hp=>by simp at hp; subst hp; exact ⟨dig32,by decide⟩⟩
theorem mx1 : MadeP 12 [px0,px1]:=⟨vx1,by simp,fun p hp=>by
 simp at hp
 rcases hp with rfl | rfl
 ·exact ⟨dig32,by decide⟩
 ·exact ⟨dig32,by decide⟩⟩
theorem okt : OkPs [px1]:=⟨by simp,fun p hp=>by simp at hp; subst hp; exact ⟨dig32,by decide⟩⟩
theorem okn : OkPs []:=⟨by simp,by simp⟩

theorem r314 : runP E (dL E) 314 [] = some (.bool true):=by
 have a1:=r353 7 (by decide)
 have a2:=r353 (-2) (by decide)
 have a3:=r353 1 (by decide)
 have a4:=s353 3 (by decide)
 have b1:=r316 [] sx0 okn (by decide)
 have b2:=r316 [px0] sx1 (mdx0.ok (by decide)) (by decide)
 have b3:=r316 [] ⟨5,0,pr 7⟩ okn (by simp [pr])
 have b4:=r316 [] ⟨5,-1,[⟨1,3,3⟩,⟨4,0,-2⟩]⟩ okn (by simp)
 have b5:=r316 [px0] ⟨4,0,pr 1⟩ (mdx0.ok (by decide)) (by simp [pr])
 have hx1 : [px0] ++ [newP tgB [px0] sx1] = [px0,px1]:=rfl
 have hx0 : [] ++ [newP tgB [] sx0] = [px0]:=rfl
 simp only [poD,zpw,zfi,ztl,ztk,zn0,if_true,hx1,hx0,if_neg (show ¬ (410 : Int) = 0 by decide),if_neg (show ¬ (411 : Int) = 0 by decide)] at b1 b2 b3 b4 b5
 simp only [pr,sx0,sx1,dPsts,List.map_cons,List.map_nil] at b1 b2 b3 b4 b5
 have v0:=z1k.2 vx0
 have v1:=z1k.2 vx1
 have vn:=z1k.2 (z81 (tg:=tgB))
 have c1:=r318 [px0,px1] (mx1.ok (by decide)) (mx1.entN (by decide)) 1 3 8
 have c2:=r318 [px0,px1] (mx1.ok (by decide)) (mx1.entN (by decide)) 1 3 9
 have c3:=r318 [] okn (by decide) 1 3 1439
 simp only [blD,v1,if_true,zr8,zr7,dPsts,List.map_cons,List.map_nil] at c1 c2
 simp only [blD,vn,if_true,balP,dPsts,List.map_nil] at c3
 have d1:=r334 ⟨0,0,0,[],z32⟩ rfl (by simp)
 unfold encR at d1
 simp only [zr5,if_neg (show ¬ (410 : Int) = 0 by decide)] at d1
 have d1 : runP E (dL E) 334 [.agg (dI 0 :: dI 0 :: dI 0 :: .imm .none [] :: List.replicate 32 (D.int .u8 0))] = some (.tup [.imm .none [],dI 410]):=d1
 simp only [List.replicate] at d1
 have e1:=r329 [px0] (mdx0.ok (by decide))
 have e2:=r329 [] okn
 simp only [rdD,v0,vn,if_true,dPsts,List.map_cons,List.map_nil] at e1 e2
 have f1:=r325 [px0,px1] (mx1.ok (by decide)) (mx1.entN (by decide))
 rw [zr9] at f1
 have g1:=r324 [px0,px1] (mx1.ok (by decide))
 have g2:=r324 [] okn
 have g3:=r324 [px1] okt
 rw [v1] at g1
 rw [vn] at g2
 rw [zr6] at g3
 simp only [dPsts,dAccs,pAcc,List.map_cons,List.map_nil] at f1 g1 g2 g3
 have h1:=r331 bPostings [] (by decide) (by simp)
 have hT : tgB bPostings [] = digT tgB []:=rfl
 rw [hT] at h1
 have n0 : px0.prev.length = 32:=dig32
 have n1 : px1.prev.length = 32:=dig32
 have pe1 : px1.prev = digT tgB [px0]:=rfl
 have pe0 : px0.prev = digT tgB []:=rfl
 have pn : px1.no = 1:=rfl
 have pc : px1.corrects = 0:=rfl
 rw [<- pe1] at e1
 rw [<- pe0] at e2 h1
 simp only [Int.neg_neg] at a2 b2
 have eqd : ∀ a : List UInt8,a.length = 32 -> binD E .eql 73 (.agg (a.map byteD)) (.agg (a.map byteD)) = some (.bool true):=fun a ha=>by
  rw [zq3 ha ha]; simp
 have q1:=eqd _ n1
 have q0:=eqd _ n0
 clear pe1 pe0 hx1 hx0 v0 v1 vn hT eqd
 generalize px0 = p0 at *
 generalize px1 = p1 at *
 have sc0 : setCells (List.replicate 32 (D.int .u8 0)) 0 (p0.prev.map byteD) = p0.prev.map byteD:=ze (by simp [n0])
 have sc1 : setCells (List.replicate 32 (D.int .u8 0)) 0 (p1.prev.map byteD) = p1.prev.map byteD:=ze (by simp [n1])
 simp only [List.replicate] at sc0 sc1
 have hst : ∀ n s,frz [] (n + 1) (.str s) = some (.str s):=fun _ _=>rfl
 have l0 : ∀ r : List Obj,loadD E (.cells [dI 1,dI 3] :: r) 65 (.loc 0 0) = some (dAcc 1 3):=fun _=>rfl
 have l2 : ∀ (x y : Obj) (r : List Obj),loadD E (x :: y :: .cells (p1.prev.map byteD) :: r) 73 (.loc 2 0) = some (.agg (p1.prev.map byteD)):=fun x y r=>zbk (by simp [Bys,At]) n1
 have l3 : ∀ (x y z : Obj) (r : List Obj),loadD E (x :: y :: z :: .cells (p0.prev.map byteD) :: r) 73 (.loc 3 0) = some (.agg (p0.prev.map byteD)):=fun x y z r=>zbk (by simp [Bys,At]) n0
 have li : ∀ (h : List Obj) (a : List UInt8),a.length = 32 -> loadD E h 73 (.iptr (a.map byteD)) = some (.agg (a.map byteD)):=fun h a ha=>by
  have e:=z1s 32 0 (a.map byteD) (by simp [ha])
  unfold loadD
  simp only [show (E.ty 73).size = 32 from rfl,e]
  rfl
 have li0:=fun h=>li h _ n0
 have li1:=fun h=>li h _ n1
 have l2i : ∀ (h : List Obj) (a : Int) (r : List D),loadD E h 2 (.iptr (dI a :: r)) = some (dI a):=fun _ _ _=>rfl
 have l65 : ∀ (h : List Obj) (a b : Int) (r : List D),loadD E h 65 (.iptr (dI a :: dI b :: r)) = some (dAcc a b):=fun _ _ _ _=>rfl
 have h1 : runP E (dL E) 331 [.str [112,111,115,116,105,110,103,115],.imm .none []] = some (dDig p0.prev):=h1
 have hsl : sliceD E 70 (.imm .none [dPst p0,dPst p1]) (some (dI 1)) none none = some (.imm .none [dPst p1]):=by
  have hk : (E.ty 70).k = .slice 71:=rfl
  have hf : headFits (E.ty 71).size [dPst p0,dPst p1] = true:=by
   show ((pC p0).length == 36) = true
   rw [zcw n0]; rfl
  unfold sliceD
  simp only [hk,bnd,hf]
  rfl
 have bn : (p1.no == 1) = true:=by rw [pn]; rfl
 have bc : (p1.corrects == 0) = true:=by rw [pc]; rfl
 have ck : chunk 3 true 2 [dI 1,dI 3,dI 3,dI 4,dI 0,dI (-2)] = some [.agg [dI 1,dI 3,dI 3],.agg [dI 4,dI 0,dI (-2)]]:=rfl
 have i1 : ids [.cells [dI 1,dI 3],.cells [dI 1,dI 3,dI 3,dI 4,dI 0,dI (-2)]] 12 (.imm .exact []) = []:=rfl
 have i2 : ids [.cells [dI 1,dI 3],.cells [dI 1,dI 3,dI 3,dI 4,dI 0,dI (-2)]] 12 (dI 5) = []:=rfl
 have i3 : ids [.cells [dI 1,dI 3],.cells [dI 1,dI 3,dI 3,dI 4,dI 0,dI (-2)]] 12 (dI (-1)) = []:=rfl
 have i4 : ids [.cells [dI 1,dI 3],.cells [dI 1,dI 3,dI 3,dI 4,dI 0,dI (-2)]] 12 (.sl 1 0 2 3 true true) = [1]:=rfl
 have fz : freezeAll [.cells [dI 1,dI 3],.cells [dI 1,dI 3,dI 3,dI 4,dI 0,dI (-2)]] [1] = [.cells [dI 1,dI 3],.frozen [dI 1,dI 3,dI 3,dI 4,dI 0,dI (-2)]]:=rfl
 refine zx c314 (by simp) ?_
 conv in t314=>reduce; dsimp [Int.negSucc_eq]
 simp [t314,n314,a1,a2,a3,a4,b1,b2,b3,b4,b5,c1,c2,c3,d1,e1,e2,f1,g1,g2,g3,h1,n0,n1,bn,bc,q1,q0,sc0,sc1,hst,l0,l2,l3,li0,li1,l2i,l65,zm,zc,noMark,hsl,ck,i1,i2,i3,i4,fz,-zy,-z4t]

end Dv

namespace Dv

theorem ztg {x : D} {c : Nat} (h : Typed E c x) (hk : (E.ty c).k = .int .i64) : ∃ n,x = dI n /\ i64 n:=by
 have ha : (E.ty c).ag = false:=by unfold TI.ag; rw [hk]
 obtain ⟨n,h3,ho⟩:=z6x (zc5 h ha) hk
 simp only [List.cons.injEq,and_true] at h3
 exact ⟨n,h3,ho⟩

end Dv

namespace Dv
attribute [local simp] List.replicate depth dCell dUse dInts dChoice dVar dProb tStart addO Ret
attribute [local congr] z38 z3d z2j z1u z1h z2k z1e


def okE (e : Ent) : Prop:=i64 e.kind /\ i64 e.idx /\ i64 e.amt
def okS (s : Stp) : Prop:=i64 s.minute /\ i64 s.corrects /\ (∀ e,e ∈ s.ents -> okE e) /\ s.ents.length <= Go.maxLen
theorem two {A : Type} {l : List A} (h : l.length = 2) : ∃ a b,l = [a,b]:=by
 match l,h with
 | [a,b],_=>exact ⟨a,b,rfl⟩
theorem zti {x : D} (h : Typed E 65 x) : ∃ k i,x = dAcc k i /\ i64 k /\ i64 i:=by
 obtain ⟨ds,rfl,h1⟩:=z83 h rfl
 obtain ⟨hl,hf⟩:=z5l h1 (fs:=[(0,2),(1,2)]) rfl
 obtain ⟨x,y,rfl⟩:=two hl
 obtain ⟨a,h2,o2⟩:=z6x (hf 0 _ rfl) rfl
 obtain ⟨b,h3,o3⟩:=z6x (hf 1 _ rfl) rfl
 simp [E,tyTab] at h2 h3
 subst h2 h3
 exact ⟨a,b,rfl,o2,o3⟩
theorem zm3 {ds : List D} (h : DTc E 65 ds) : ∃ k i,ds = [dI k,dI i] /\ i64 k /\ i64 i:=by
 obtain ⟨hl,hf⟩:=z5l h (fs:=[(0,2),(1,2)]) rfl
 obtain ⟨x,y,rfl⟩:=two hl
 obtain ⟨a,h2,o2⟩:=z6x (hf 0 _ rfl) rfl
 obtain ⟨b,h3,o3⟩:=z6x (hf 1 _ rfl) rfl
 simp [E,tyTab] at h2 h3
 subst h2 h3
 exact ⟨a,b,rfl,o2,o3⟩
theorem zth {x : D} (h : Typed E 72 x) : ∃ e,x = dEnt e /\ okE e:=by
 obtain ⟨ds,rfl,h1⟩:=z83 h rfl
 obtain ⟨hl,hf⟩:=z5l h1 (fs:=[(0,65),(2,2)]) rfl
 obtain ⟨x,y,z,rfl⟩:=three hl
 obtain ⟨a,b,h2,o1,o2⟩:=zm3 (hf 0 _ rfl)
 obtain ⟨c,h3,o3⟩:=z6x (hf 1 _ rfl) rfl
 simp [E,tyTab] at h2 h3
 obtain ⟨rfl,rfl⟩:=h2
 subst h3
 exact ⟨⟨a,b,c⟩,rfl,o1,o2,o3⟩
theorem zpo {x : D} (h : Typed E 68 x) : ∃ s,x = dStp s /\ okS s:=by
 obtain ⟨ds,rfl,h1⟩:=z83 h rfl
 obtain ⟨hl,hf⟩:=z5l h1 (fs:=[(0,2),(1,2),(2,66)]) rfl
 obtain ⟨x,y,z,rfl⟩:=three hl
 obtain ⟨a,h2,o2⟩:=z6x (hf 0 _ rfl) rfl
 obtain ⟨b,h3,o3⟩:=z6x (hf 1 _ rfl) rfl
 obtain ⟨els,h5,hlen,h6⟩:=zff (hf 2 _ rfl) (e:=72) rfl
 simp [E,tyTab] at h2 h3 h5
 subst h2 h3 h5
 obtain ⟨l,rfl,o⟩:=zei (f:=dEnt) (R:=okE) (els:=els) fun x hx=>zth (h6 x hx)
 exact ⟨⟨a,b,l⟩,rfl,o2,o3,o,by simpa using hlen⟩
theorem zr1 {x : D} (h : Typed E 69 x) : ∃ l,x = dStps l /\ (∀ s,s ∈ l -> okS s) /\ l.length <= 9223372036854775807:=by
 obtain ⟨els,h5,hlen,h6⟩:=zff (zc5 h rfl) (e:=68) rfl
 simp only [List.cons.injEq,and_true] at h5
 subst h5
 obtain ⟨l,rfl,o⟩:=zei (f:=dStp) (R:=okS) (els:=els) fun x hx=>zpo (h6 x hx)
 exact ⟨l,rfl,o,by rw [List.length_map] at hlen; exact hlen⟩

theorem sl70 {l : List Pst} {k : Nat} (h : k <= l.length) (h32 : ∀ p,p ∈ l -> p.prev.length = 32) : sliceD E 70 (.imm .none (l.map dPst)) none (some (dI k)) none = some (.imm .none ((l.take k).map dPst)):=by
 have hk : (E.ty 70).k = .slice 71:=rfl
 have hf : headFits (E.ty 71).size (l.map dPst) = true:=by
  cases l with
  | nil=>rfl
  | cons p l=>
   show ((pC p).length == 36) = true
   rw [zcw (h32 p (by simp))]; rfl
 have hs : sliceSpare .none (l.map dPst).length k none = .none:=by unfold sliceSpare; simp
 unfold sliceD
 simp only [hk,bnd,Int.natCast_nonneg,if_true,Int.toNat_natCast,hf,Option.map_none,hs]
 rw [if_pos ⟨Nat.zero_le _,by simpa using h,Nat.le_refl _,trivial⟩,List.drop_zero,Nat.sub_zero,List.map_take]

theorem ztq {a b : Ent} : binD E .neq 72 (dEnt a) (dEnt b) = some (.bool (!decide (a = b))):=by
 obtain ⟨a1,a2,a3⟩:=a
 obtain ⟨b1,b2,b3⟩:=b
 have e : (decide ((⟨a1,a2,a3⟩ : Ent) = ⟨b1,b2,b3⟩)) = (a1 == b1 && (a2 == b2 && a3 == b3)):=by
  by_cases h1 : a1 = b1 <;> by_cases h2 : a2 = b2 <;> by_cases h3 : a3 = b3 <;> simp [h1,h2,h3]
 rw [e]
 simp [binD,E,tyTab,kindsL,eqL,atomEq]
theorem zan {A : Type} {a b : List A} (hl : a.length = b.length) (h : ∀ i,∀ h : i < a.length,a[i] = b[i]'(by omega)) : a = b:=
 List.ext_getElem hl fun i h1 _=>h i h1

theorem r327 (a b : List Ent) (ha : a.length <= 1000000) (hb : b.length <= 1000000) : runP E (dL E) 327 [.imm .none (a.map dEnt),.imm .none (b.map dEnt)] = some (.bool (decide (a = b))):=by
 refine zx c327 (by simp) ?_
 conv in t327=>reduce; dsimp [Int.negSucc_eq]
 by_cases hl : a.length = b.length
 rotate_left
 ·have h1 : ¬ (a.length : Int) = b.length:=by omega
  have h2 : ¬ a = b:=fun h=>hl (by rw [h])
  simp [t327,n327,h1,h2]
 have h1 : (a.length : Int) = b.length:=by omega
 obtain ⟨B,hB⟩ : ∃ B,B = decide (a = b):=⟨_,rfl⟩
 rw [<- hB]
 simp [t327,n327,h1]
 refine z1l a.length (fun i env h=>∃ (x4 x5 x6 : D) ,env = [.imm .none (a.map dEnt),.imm .none (b.map dEnt),.bool false,dI i,x4,x5,x6] /\ ∀ j,(hj : j < a.length) -> j < i -> a[j] = b[j]'(by omega)) 0 (by omega) ⟨_,_,_,rfl,fun _ _ h=>absurd h (by omega)⟩ ?_
 rintro i env h hi ⟨x4,x5,x6,rfl,F⟩
 by_cases hlt : i < a.length
 rotate_left
 ·have hge : ¬ (i : Int) < a.length:=by omega
  have : i = a.length:=by omega
  have hB2 : B = true:=by
   rw [hB,decide_eq_true_eq]
   exact zan hl fun j hj=>F j hj (by omega)
  simp [hge,hB2,this]
 have hup:=zl hlt (by omega)
 have hlt2 : i < b.length:=by omega
 obtain ⟨x,hx⟩ : ∃ x,x = a[i]:=⟨_,rfl⟩
 obtain ⟨y,hy⟩ : ∃ y,y = b[i]:=⟨_,rfl⟩
 have n1:=ztq (a:=x) (b:=y)
 have l72 : ∀ (h : List Obj) (x : Ent),loadD E h 72 (.iptr [dI x.kind,dI x.idx,dI x.amt]) = some (dEnt x):=fun _ _=>rfl
 by_cases hxy : x = y
 ·have hd : decide (x = y) = true:=by simpa using hxy
  rw [hd] at n1
  simp [hlt,hlt2,<- hx,<- hy,hup,n1,l72,-z4t,-z9i]
  intro j hj hji
  by_cases hje : j < i
  ·exact F j hj hje
  ·have : j = i:=by omega
   subst this
   rw [<- hx,<- hy]; exact hxy
 ·have hd : decide (x = y) = false:=by simpa using hxy
  rw [hd] at n1
  have hB2 : B = false:=by
   rw [hB,decide_eq_false_iff_not]
   intro h
   subst h
   exact hxy (by rw [hx,hy])
  simp [hlt,hlt2,<- hx,<- hy,hup,n1,l72,hB2,-z4t,-z9i]

theorem r337 (p q : Pst) (hp : p.prev.length = 32) (hq : q.prev.length = 32) (ha : p.ents.length <= 1000000) (hb : q.ents.length <= 1000000) : runP E (dL E) 337 [dPst p,dPst q] = some (.bool (decide (p = q))):=by
 have e:=r327 p.ents q.ents ha hb
 refine zx c337 (by simp) ?_
 conv in t337=>reduce; dsimp [Int.negSucc_eq]
 have l73 : ∀ (p : Pst),p.prev.length = 32 -> iloadD E 73 (.iptr (p.prev.map byteD)) = some (dDig p.prev):=fun p hp=>by
  have e:=z1s 32 0 (p.prev.map byteD) (by simp [hp])
  unfold iloadD
  simp only [show (E.ty 73).size = 32 from rfl,e]
  rfl
 have eqd:=zq3 hp hq
 have il2 : ∀ (a : Int) (r : List D),iloadD E 2 (.iptr (dI a :: r)) = some (dI a):=fun _ _=>rfl
 have il66 : ∀ (es : List D) (r : List D),iloadD E 66 (.iptr (.imm .none es :: r)) = some (.imm .none es):=fun _ _=>rfl
 have hpq : (p = q) ↔ ((((p.no = q.no /\ p.minute = q.minute) /\ p.corrects = q.corrects) /\ p.prev = q.prev) /\ p.ents = q.ents):=by
  obtain ⟨a,b,c,d,e⟩:=p
  obtain ⟨a',b',c',d',e'⟩:=q
  simp only [Pst.mk.injEq]
  constructor
  ·rintro ⟨rfl,rfl,rfl,rfl,rfl⟩; exact ⟨⟨⟨⟨rfl,rfl⟩,rfl⟩,rfl⟩,rfl⟩
  ·rintro ⟨⟨⟨⟨rfl,rfl⟩,rfl⟩,rfl⟩,rfl⟩; exact ⟨rfl,rfl,rfl,rfl,rfl⟩
 by_cases h1 : p.no = q.no
 rotate_left
 ·simp [t337,n337,hp,hq,l73 p hp,l73 q hq,eqd,e,zm,il2,il66,-z1r,h1,hpq]
 by_cases h2 : p.minute = q.minute
 rotate_left
 ·simp [t337,n337,hp,hq,l73 p hp,l73 q hq,eqd,e,zm,il2,il66,-z1r,h1,h2,hpq]
 by_cases h3 : p.corrects = q.corrects
 rotate_left
 ·simp [t337,n337,hp,hq,l73 p hp,l73 q hq,eqd,e,zm,il2,il66,-z1r,h1,h2,h3,hpq]
 by_cases h4 : p.prev = q.prev
 rotate_left
 ·have e4 : decide (p.prev = q.prev) = false:=by simpa using h4
  rw [e4] at eqd
  simp [t337,n337,hp,hq,l73 p hp,l73 q hq,eqd,e,zm,il2,il66,-z1r,h1,h2,h3,h4,hpq]
 have e4 : decide (p.prev = q.prev) = true:=by simpa using h4
 rw [e4] at eqd
 have l73q:=l73 q hq
 rw [h4] at eqd
 simp [t337,n337,hp,hq,l73q,eqd,e,zm,il2,il66,-z1r,h1,h2,h3,h4,hpq]

theorem r320 (a b : List Pst) (ha : OkPs a) (hb : OkPs b) : runP E (dL E) 320 [dPsts a,dPsts b] = some (.bool (decide (a = b))):=by
 refine zx c320 (by simp) ?_
 conv in t320=>reduce; dsimp [Int.negSucc_eq]
 obtain ⟨ha1,ha2⟩:=ha
 obtain ⟨hb1,hb2⟩:=hb
 by_cases hl : a.length = b.length
 rotate_left
 ·have h1 : ¬ (a.length : Int) = b.length:=by omega
  have h2 : ¬ a = b:=fun h=>hl (by rw [h])
  simp [t320,n320,h1,h2]
 have h1 : (a.length : Int) = b.length:=by omega
 obtain ⟨B,hB⟩ : ∃ B,B = decide (a = b):=⟨_,rfl⟩
 rw [<- hB]
 simp [t320,n320,h1]
 refine z1l a.length (fun i env h=>∃ (x4 x5 x6 : D) ,env = [dPsts a,dPsts b,.bool false,dI i,x4,x5,x6] /\ ∀ j,(hj : j < a.length) -> j < i -> a[j] = b[j]'(by omega)) 0 (by omega) ⟨_,_,_,rfl,fun _ _ h=>absurd h (by omega)⟩ ?_
 rintro i env h hi ⟨x4,x5,x6,rfl,F⟩
 by_cases hlt : i < a.length
 rotate_left
 ·have hge : ¬ (i : Int) < a.length:=by omega
  have : i = a.length:=by omega
  have hB2 : B = true:=by
   rw [hB,decide_eq_true_eq]
   exact zan hl fun j hj=>F j hj (by omega)
  simp [hge,hB2,this]
 have hup:=zl hlt (by omega)
 have hlt2 : i < b.length:=by omega
 obtain ⟨x,hx⟩ : ∃ x,x = a[i]:=⟨_,rfl⟩
 obtain ⟨y,hy⟩ : ∃ y,y = b[i]:=⟨_,rfl⟩
 have px:=ha2 x (by rw [hx]; exact List.getElem_mem hlt)
 have py:=hb2 y (by rw [hy]; exact List.getElem_mem hlt2)
 have n1:=r337 x y px.1 py.1 px.2 py.2
 have q1:=fun h : List Obj=>zkl (h:=h) px.1
 have q2:=fun h : List Obj=>zkl (h:=h) py.1
 by_cases hxy : x = y
 ·have hd : decide (x = y) = true:=by simpa using hxy
  rw [hd] at n1
  simp [hlt,hlt2,<- hx,<- hy,hup,n1,px.1,py.1,↓q1,↓q2,zm,zc]
  intro j hj hji
  by_cases hje : j < i
  ·exact F j hj hje
  ·have : j = i:=by omega
   subst this
   rw [<- hx,<- hy]; exact hxy
 ·have hd : decide (x = y) = false:=by simpa using hxy
  rw [hd] at n1
  have hB2 : B = false:=by
   rw [hB,decide_eq_false_iff_not]
   intro h
   subst h
   exact hxy (by rw [hx,hy])
  simp [hlt,hlt2,<- hx,<- hy,hup,n1,hB2,px.1,py.1,↓q1,↓q2,zm,zc]

def killS : Spare -> List Obj -> List Obj
 | .tok q,h=>h.set q .dead
 | _,h=>h
theorem zd2 {sp : Spare} {h : List Obj} : (killS sp h).length = h.length:=by
 unfold killS; split <;> simp
def RoomS (h : List Obj) (sp : Spare) (n sz : Nat) : Prop:=sp = .exact \/ ∃ k,sp = .tok k /\ At h k (.tok (n * sz) sz)
theorem RoomS.app {h r : List Obj} {sp : Spare} {n sz : Nat} (R : RoomS h sp n sz) : RoomS (h ++ r) sp n sz:=by
 rcases R with R | ⟨k,R,a⟩
 ·exact .inl R
 ·exact .inr ⟨k,R,a.app⟩
theorem zd3 {h r : List Obj} {sp : Spare} {n sz : Nat} (R : RoomS h sp n sz) : killS sp (h ++ r) = killS sp h ++ r:=by
 rcases R with rfl | ⟨k,rfl,a⟩
 ·rfl
 ·exact z1y a.lt
theorem znr {h : List Obj} {sp : Spare} {j : Nat} {o : Obj} (a : At h j o) (hj : ∀ k,sp = .tok k -> k ≠ j) : At (killS sp h) j o:=by
 cases sp with
 | tok k=>exact a.ne (hj k rfl)
 | exact=>exact a
 | none=>exact a
theorem z9p {hp : List Obj} {id t e sz : Nat} {sp sp' : Spare} {els new : List D} (hk : (E.ty t).k = .slice e) (hs : (E.ty e).size = sz) (hl : listOf hp (E.ty e).size (E.ty e).ag (.imm sp' new) = some new) (hap : appOk E e els new) (R : RoomS hp sp els.length sz) :
  app0 E hp id t t (.imm sp els) (.imm sp' new) = some (.imm (.tok id) (els ++ new),addO (killS sp hp) id (.tok ((els.length + new.length) * sz) sz)):=by
 rw [hs] at hl
 rcases R with rfl | ⟨k,rfl,a⟩
 ·rw [z1a]
  simp only [hk,hl,z7,hs]
  rw [if_pos hap]
  rfl
 ·rw [z1o]
  simp only [hk,hl,z7,hs]
  rw [if_pos hap,a.eq,zb3,z7,if_pos ⟨rfl,rfl⟩]
  rfl
theorem z6k {hp : List Obj} {sp : Spare} {sz : Nat} {ag : Bool} {els : List D} (h : ∀ x,x ∈ els -> x.storable = true /\ x.cellsL.length = sz) : listOf hp sz ag (.imm sp els) = some els:=by
 simp only [listOf]
 rw [if_pos (by
  rw [List.all_eq_true]
  intro x hx
  rw [(h x hx).1,(h x hx).2]; simp)]
theorem zbr {sz : Nat} {els : List D} (h : ∀ x,x ∈ els -> x.storable = true /\ x.cellsL.length = sz) : fitsE sz els = true:=by
 unfold fitsE
 rw [List.all_eq_true]
 intro x hx
 rw [(h x hx).1,(h x hx).2]; simp
theorem zg9 {l : List Ent} : ∀ x,x ∈ l.map dEnt -> x.storable = true /\ x.cellsL.length = 3:=fun x hx=>by
 obtain ⟨s,_,rfl⟩:=List.mem_map.1 hx
 exact ⟨rfl,rfl⟩
theorem zsu {hp : List Obj} {id : Nat} {sp sp' : Spare} {l m : List Ent} (hl : l.length + m.length <= 10000000) (R : RoomS hp sp l.length 3) :
  app0 E hp id 66 66 (.imm sp (l.map dEnt)) (.imm sp' (m.map dEnt)) = some (.imm (.tok id) (l.map dEnt ++ m.map dEnt),addO (killS sp hp) id (.tok ((l.length + m.length) * 3) 3)):=by
 have:=z9p (hp:=hp) (id:=id) (t:=66) (e:=72) (sz:=3) (sp:=sp) (sp':=sp') (els:=l.map dEnt) (new:=m.map dEnt) rfl rfl (z6k zg9) ⟨by
  rw [List.length_map,List.length_map,show (E.ty 72).bytes = 24 from rfl]; simp [maxBytes]; omega,by decide,rfl,zbr zg9⟩ (by rw [List.length_map]; exact R)
 rw [List.length_map,List.length_map] at this
 exact this

end Dv

namespace Dv

def okT (x : Ent) : Prop:=(1 <= x.kind /\ x.kind <= 4) /\ (-1 <= x.idx /\ x.idx <= 4095) /\ (-1099511627776 <= x.amt /\ x.amt <= 1099511627776) /\ x.amt ≠ 0
instance (x : Ent) : Decidable (okT x):=inferInstanceAs (Decidable (_ /\ _))
end Dv

namespace Dv
attribute [local simp] List.replicate depth dCell dUse dInts dChoice dVar dProb tStart addO Ret
attribute [local congr] z38 z3d z2j z1u z1h z2k z1e


section
variable {E : Env} {Q : Ex -> List D -> List Obj -> Prop} {env : List D} {hp : List Obj}

end

def wi (n lo hi : Int) : Prop:=lo <= n /\ n <= hi
instance {n lo hi : Int} : Decidable (wi n lo hi):=inferInstanceAs (Decidable (_ /\ _))

def nd (c : List Int) (i : Int) : Int:=(c[i.toNat]?).getD 0

theorem zga {l : List (Int × Int)} : ∀ x,x ∈ l.map pAcc -> x.storable = true /\ x.cellsL.length = 2:=fun x hx=>by
 obtain ⟨s,_,rfl⟩:=List.mem_map.1 hx
 exact ⟨rfl,rfl⟩
theorem zsv {hp : List Obj} {id : Nat} {sp sp' : Spare} {l m : List (Int × Int)} (hl : l.length + m.length <= 10000000) (R : RoomS hp sp l.length 2) :
  app0 E hp id 67 67 (.imm sp (l.map pAcc)) (.imm sp' (m.map pAcc)) = some (.imm (.tok id) (l.map pAcc ++ m.map pAcc),addO (killS sp hp) id (.tok ((l.length + m.length) * 2) 2)):=by
 have:=z9p (hp:=hp) (id:=id) (t:=67) (e:=65) (sz:=2) (sp:=sp) (sp':=sp') (els:=l.map pAcc) (new:=m.map pAcc) rfl rfl (z6k zga) ⟨by
  rw [List.length_map,List.length_map,show (E.ty 65).bytes = 16 from rfl]; simp [maxBytes]; omega,by decide,rfl,zbr zga⟩ (by rw [List.length_map]; exact R)
 rw [List.length_map,List.length_map] at this
 exact this

theorem zg8 {l : List Stp} : ∀ x,x ∈ l.map dStp -> x.storable = true /\ x.cellsL.length = 3:=fun x hx=>by
 obtain ⟨s,_,rfl⟩:=List.mem_map.1 hx
 exact ⟨rfl,rfl⟩
theorem zmj {hp : List Obj} {id : Nat} {sp sp' : Spare} {l m : List Stp} (hl : l.length + m.length <= 3518437208781) (R : RoomS hp sp l.length 3) :
  app0 E hp id 69 69 (.imm sp (l.map dStp)) (.imm sp' (m.map dStp)) = some (.imm (.tok id) (l.map dStp ++ m.map dStp),addO (killS sp hp) id (.tok ((l.length + m.length) * 3) 3)):=by
 have:=z9p (hp:=hp) (id:=id) (t:=69) (e:=68) (sz:=3) (sp:=sp) (sp':=sp') (els:=l.map dStp) (new:=m.map dStp) rfl rfl (z6k zg8) ⟨by
  rw [List.length_map,List.length_map,show (E.ty 68).bytes = 40 from rfl]; simp [maxBytes]; omega,by decide,rfl,zbr zg8⟩ (by rw [List.length_map]; exact R)
 rw [List.length_map,List.length_map] at this
 exact this
theorem zkb (l : List Ent) {j : Nat} (h : j < l.length) : negL (l.take (j + 1)) = negL (l.take j) ++ [negE l[j]]:=by
 unfold negL; rw [List.take_succ_eq_append_getElem h,List.map_append]; rfl
def fA (x : Ent) : Int × Int:=(x.kind,x.idx)
def asL (k i : Int) (l : List Ent) : List (Int × Int):=(k,i) :: l.map fA
theorem zpg (k i : Int) (l : List Ent) {j : Nat} (h : j < l.length) : asL k i (l.take (j + 1)) = asL k i (l.take j) ++ [fA l[j]]:=by
 unfold asL; rw [List.take_succ_eq_append_getElem h,List.map_append]; rfl
theorem law326 (ss : List Stp) (hl : ss.length <= 3518437208780) (s : Stp) (k i m : Int) (hm : i64 m) : runP E (dL E) 326 [dStps ss,dStp s,dAcc k i,dI m] = some (.bool true):=by
 have s0:=r314
 have e322:=r322 (ss ++ [s]) (by simp; omega)
 have hst : (ss ++ [s]).map dStp = ss.map dStp ++ [dStp s]:=by simp
 unfold dStps at e322
 rw [hst] at e322
 refine zx c326 (by simp) ?_
 conv in t326=>reduce; dsimp [Int.negSucc_eq]
 have apA : ∀ hp id,app0 E hp id 69 69 (.imm .exact []) (dStps ss) = some (.imm (.tok id) (ss.map dStp),addO hp id (.tok (ss.length * 3) 3)):=fun hp id=>by
  have:=zmj (hp:=hp) (id:=id) (sp:=.exact) (sp':=.none) (l:=[]) (m:=ss) (by simp; omega) (.inl rfl)
  simpa [killS] using this
 have apB : ∀ hp id k,hp[k]? = some (.tok (ss.length * 3) 3) -> app0 E hp id 69 69 (.imm (.tok k) (ss.map dStp)) (.imm .exact [dStp s]) = some (.imm (.tok id) (ss.map dStp ++ [dStp s]),addO (hp.set k .dead) id (.tok ((ss.length + 1) * 3) 3)):=fun hp id k h=>by
  have:=zmj (hp:=hp) (id:=id) (sp:=.tok k) (sp':=.exact) (l:=ss) (m:=[s]) (by simp; omega) (.inr ⟨k,rfl,h⟩)
  simpa [killS] using this
 have fzs : frzL (frz [] 11) (ss.map dStp ++ [dStp s]) = some (ss.map dStp ++ [dStp s]):=by rw [<- hst]; exact z90
 by_cases hf : fewS (ss ++ [s]) = true
 rotate_left
 ·have hf' : fewS (ss ++ [s]) = false:=by simpa using hf
  rw [hf'] at e322
  simp [t326,n326,s0,zi,apA,apB,fzs,e322]
 rw [hf] at e322
 obtain ⟨f1,f2⟩:=zex hf
 rw [List.length_append] at f1
 simp only [List.length_cons,List.length_nil] at f1
 have f3 : fewS ss = true:=by
  unfold fewS
  simp only [Bool.and_eq_true,decide_eq_true_eq,List.all_eq_true]
  exact ⟨fun t ht=>f2 t (by simp [ht]),by omega⟩
 have s12:=f2 s (by simp)
 have e323:=r323 ss f3
 have M : MadeP 12 (postL tgB ss):=made f3
 have Ml : (postL tgB ss).length <= 11:=by
  have:=(zfr ss (n:=0) zbi fun t ht=>f2 t (by simp [ht])).len
  unfold postL
  omega
 obtain ⟨l,hL⟩ : ∃ l,l = postL tgB ss:=⟨_,rfl⟩
 rw [<- hL] at e323 M Ml
 have e316:=r316 l s (M.ok (by decide)) (by omega)
 unfold poD at e316
 by_cases hE : postE tgB l s = 0
 rotate_left
 ·rw [if_neg hE] at e316
  have hE':=eq_false hE
  simp [t326,n326,s0,zi,apA,apB,fzs,e322,z90,zk,zm,e323,e316,hE']
 rw [if_pos hE,hE] at e316
 obtain ⟨v1,v2,v3,v4,g⟩:=z4p hE
 obtain ⟨r,hr⟩ : ∃ r,r = l ++ [newP tgB l s]:=⟨_,rfl⟩
 have R : MadeP 13 r:=by
  have:=zkh M s12
  unfold postS at this
  rw [if_pos hE,<- hr] at this
  exact this
 have hrl : r.length = l.length + 1:=by rw [hr]; simp
 rw [<- hr] at e316
 have hsl:=sl70 (l:=r) (k:=l.length) (by omega) fun p hp=>(R.ents p hp).1
 rw [show r.take l.length = l by rw [hr]; simp] at hsl
 have e320:=r320 l l (M.ok (by decide)) (M.ok (by decide))
 rw [decide_eq_true rfl] at e320
 have e324:=r324 r (R.ok (by decide))
 rw [z1k.2 R.v] at e324
 have e327:=r327 s.ents s.ents (by omega) (by omega)
 rw [decide_eq_true rfl] at e327
 obtain ⟨np,hnp⟩ : ∃ np,np = newP tgB l s:=⟨_,rfl⟩
 have hrn : r[l.length]'(by omega) = np:=by subst hr; rw [hnp]; simp
 have hlw : Go.IntKind.i64.wrap ((l.length : Int) + 1) = (l.length : Int) + 1:=za ⟨by omega,by omega⟩
 have n32 : np.prev.length = 32:=by rw [hnp]; exact dig32
 have nents : np.ents = s.ents:=by rw [hnp]; rfl
 simp [t326,n326,s0,zi,apA,apB,fzs,e322,z90,zk,zm,e323,e316,hsl,e320,e324,e327,hrl,hlw,hrn,n32,nents]
 refine z1l s.ents.length (fun j env h=>∃ (x13 x14 x15 x16 x17 x18 x19 x20 x21 x22 x23 x24 x25 x26 x27 x28 x29 x30 x31 x32 x33 x37 x38 x39 x40 x41 x42 x43 x44 x45 x46 x47 x48 x49 x50 x51 x52 x53 x54 x55 x56 x57 x58 x59 x60 x61 x62 : D) (sp1 sp2 : Spare),env = [dStps ss,dStp s,dAcc k i,dI m,.iptr [dI s.minute,dI s.corrects,.imm .none (s.ents.map dEnt)],.iptr [dI k,dI i],.bool false,dPsts l,dPsts r,dI 0,dI l.length,.imm sp1 ((negL (s.ents.take j)).map dEnt),.imm sp2 ((asL k i (s.ents.take j)).map pAcc),x13,x14,x15,x16,x17,x18,x19,x20,x21,x22,x23,x24,x25,x26,x27,x28,x29,x30,x31,x32,x33,.imm .none (s.ents.map dEnt),dI s.ents.length,dI j,x37,x38,x39,x40,x41,x42,x43,x44,x45,x46,x47,x48,x49,x50,x51,x52,x53,x54,x55,x56,x57,x58,x59,x60,x61,x62] /\ RoomS h sp1 j 3 /\ RoomS h sp2 (j + 1) 2) 0 (by omega) ?_ ?_
 ·exact ⟨_,_,_,_,_,_,_,_,_,_,_,_,_,_,_,_,_,_,_,_,_,_,_,_,_,_,_,_,_,_,_,_,_,_,_,_,_,_,_,_,_,_,_,_,_,_,_,.exact,.exact,rfl,.inl rfl,.inl rfl⟩
 rintro j env h hj ⟨x13,x14,x15,x16,x17,x18,x19,x20,x21,x22,x23,x24,x25,x26,x27,x28,x29,x30,x31,x32,x33,x37,x38,x39,x40,x41,x42,x43,x44,x45,x46,x47,x48,x49,x50,x51,x52,x53,x54,x55,x56,x57,x58,x59,x60,x61,x62,sp1,sp2,rfl,R1,R2⟩
 by_cases hlt : j < s.ents.length
 ·have hup:=zl hlt (by omega)
  obtain ⟨x,hx⟩ : ∃ x,x = s.ents[j]:=⟨_,rfl⟩
  have hxm : x ∈ s.ents:=by rw [hx]; exact List.getElem_mem hlt
  have okx:=g.fm.ents.ok x hxm
  have hng : Go.IntKind.i64.wrap (-x.amt) = -x.amt:=za ⟨by have:=okx.2.2.2; omega,by have:=okx.2.2.2; omega⟩
  have n1:=zkb s.ents hlt
  have n2:=zpg k i s.ents hlt
  rw [<- hx] at n1 n2
  rw [n1,n2]
  have nl : (negL (s.ents.take j)).length = j:=by rw [z3x,List.length_take]; omega
  have al : (asL k i (s.ents.take j)).length = j + 1:=by unfold asL; simp; omega
  generalize negL (s.ents.take j) = I at nl ⊢
  generalize asL k i (s.ents.take j) = A at al ⊢
  have dif : ∀ q q',sp2 = .tok q -> sp1 = .tok q' -> q ≠ q':=fun q q' h1 h2=>by
   rcases R1 with e | ⟨w,e,a1⟩
   ·rw [e] at h2; cases h2
   ·rcases R2 with e2 | ⟨w2,e2,a2⟩
    ·rw [e2] at h1; cases h1
    ·rw [e] at h2; cases h2
     rw [e2] at h1; cases h1
     exact a2.dif a1 (by simp)
  obtain ⟨H1,hH1⟩ : ∃ H1,H1 = killS sp2 h:=⟨_,rfl⟩
  obtain ⟨H2,hH2⟩ : ∃ H2,H2 = killS sp1 H1:=⟨_,rfl⟩
  have l1 : H1.length = h.length:=by rw [hH1,zd2]
  have l2 : H2.length = h.length:=by rw [hH2,zd2,l1]
  have R1' : RoomS H1 sp1 j 3:=by
   rcases R1 with e | ⟨w,e,a1⟩
   ·exact .inl e
   ·exact .inr ⟨w,e,by rw [hH1]; exact znr a1 fun q hq=>dif q w hq e⟩
  have apC : ∀ r id,app0 E (h ++ r) id 67 67 (.imm sp2 (A.map pAcc)) (.imm .exact [.agg [dI x.kind,dI x.idx]]) = some (.imm (.tok id) (A.map pAcc ++ [pAcc (fA x)]),addO (H1 ++ r) id (.tok ((j + 1 + 1) * 2) 2)):=fun r id=>by
   have:=zsv (hp:=h ++ r) (id:=id) (sp:=sp2) (sp':=.exact) (l:=A) (m:=[fA x]) (by rw [al]; simp; omega) (by rw [al]; exact R2.app)
   rw [zd3 R2,<- hH1,al] at this
   exact this
  have apD : ∀ r id (y : Ent),app0 E (H1 ++ r) id 66 66 (.imm sp1 (I.map dEnt)) (.imm .exact [.agg [dI y.kind,dI y.idx,dI y.amt]]) = some (.imm (.tok id) (I.map dEnt ++ [dEnt y]),addO (H2 ++ r) id (.tok ((j + 1) * 3) 3)):=fun r id y=>by
   have:=zsu (hp:=H1 ++ r) (id:=id) (sp:=sp1) (sp':=.exact) (l:=I) (m:=[y]) (by rw [nl]; simp; omega) (by rw [nl]; exact R1'.app)
   rw [zd3 R1',<- hH2,nl] at this
   exact this
  have apD:=fun r id=>apD r id (negE x)
  simp only [negE] at apD
  have g1 : ∀ r : List Obj,(H1 ++ r)[h.length]? = r[0]?:=fun r=>by rw [<- l1]; exact z69 (k:=0)
  have s1 : ∀ (r : List Obj) (o : Obj),(H1 ++ r).set h.length o = H1 ++ r.set 0 o:=fun r o=>by rw [<- l1]; exact zb7 (k:=0)
  simp [hlt,<- hx,hup,hng,zi,apC,apD,l1,l2,↓g1,↓s1]
  repeat apply Exists.intro
  exact ⟨by and_intros <;> rfl,.inr ⟨_,rfl,by unfold At; rw [<- l2]; exact z69 (k:=2)⟩,.inr ⟨_,rfl,by unfold At; rw [<- l2]; exact z69 (k:=1)⟩⟩
 have : j = s.ents.length:=by omega
 subst this
 rw [List.take_length]
 have ng : ∀ n (h : List Obj),frzL (frz h (n + 2)) ((negL s.ents).map dEnt) = some ((negL s.ents).map dEnt):=fun _ _=>zm
 have nlen:=z3x s.ents
 have f316:=r316 r ⟨s.minute,l.length,negL s.ents⟩ (R.ok (by decide)) (by simp only [z3x]; omega)
 have hU:=zqx hE (by omega)
 rw [<- hr] at hU
 unfold poD at f316
 rw [if_pos hU,hU] at f316
 simp only at f316
 obtain ⟨u,hu⟩ : ∃ u,u = r ++ [newP tgB r ⟨s.minute,l.length,negL s.ents⟩]:=⟨_,rfl⟩
 have U : MadeP 14 u:=by
  have:=zkh (s:=⟨s.minute,l.length,negL s.ents⟩) R (by simp only [z3x]; exact s12)
  unfold postS at this
  rw [if_pos hU,<- hu] at this
  exact this
 rw [<- hu] at f316
 obtain ⟨I,hI⟩ : ∃ I,I = negL s.ents:=⟨_,rfl⟩
 rw [<- hI] at f316 ng ⊢
 obtain ⟨A,hA⟩ : ∃ A,A = asL k i s.ents:=⟨_,rfl⟩
 have Al : A.length = s.ents.length + 1:=by rw [hA]; simp [asL]
 rw [<- hA]
 simp [ng,zk,f316]
 have hul : u.length = l.length + 2:=by rw [hu,List.length_append,hrl]; rfl
 have bl:=fun a b w=>r318 l (M.ok (by decide)) (M.entN (by decide)) a b w
 have br:=fun a b w=>r318 r (R.ok (by decide)) (R.entN (by decide)) a b w
 have bu:=fun a b w=>r318 u (U.ok (by decide)) (U.entN (by decide)) a b w
 unfold blD at bl br bu
 rw [z1k.2 v1] at bl
 rw [z1k.2 R.v] at br
 rw [z1k.2 U.v] at bu
 simp only [if_true] at bl br bu
 have hQ : ∀ a b w,balP a b w r = balP a b w l + (if s.minute <= w then amtOf a b s.ents else 0):=fun a b w=>by
  rw [hr,zdj]; rfl
 have hR : ∀ a b w,balP a b w u = balP a b w l:=fun a b w=>by
  rw [hu,zdj,hQ]
  show _ + (if s.minute <= w then amtOf a b (negL s.ents) else 0) = _
  rw [zdl]
  split <;> omega
 have hPb : ∀ a b w,-1125899906842624 <= balP a b w l /\ balP a b w l <= 1125899906842624:=fun a b w=>by
  have h1:=zme (k:=a) (i:=b) (m:=w) (l:=l) fun p hp x hx=>(v1.2.1 p hp).fm.ents.ok x hx
  have h2:=zez (l:=l) fun p hp=>(M.ents p hp).2
  have h3 : (entN l : Int) <= 132:=by omega
  omega
 have hm0 : 0 <= s.minute /\ s.minute < 1440:=g.fm.minute
 have hmw : Go.IntKind.i64.wrap (s.minute - 1) = s.minute - 1:=za ⟨by omega,by omega⟩
 have okE:=g.fm.ents.ok
 have okE : ∀ x,x ∈ s.ents -> okEnt x:=okE
 clear hU f316 e316 e323 e322 hsl e320 e324 e327 fzs apA apB hst ng hnp hrn n32 nents
 refine z1l A.length (fun j env h=>∃ (x0 x1 x2 x5 x9 x10 x11 x12 x13 x15 x16 x17 x18 x19 x20 x21 x22 x23 x24 x25 x26 x27 x28 x29 x30 x31 x32 x33 x34 x35 x36 x37 x38 x39 x40 x41 x42 x46 x47 x48 x49 x50 x51 x52 x53 x54 x55 x56 x57 x58 x59 x60 x61 x62 : D) ,env = [x0,x1,x2,dI m,.iptr [dI s.minute,dI s.corrects,.imm .none (s.ents.map dEnt)],x5,.bool false,dPsts l,dPsts r,x9,x10,x11,x12,x13,dPsts u,x15,x16,x17,x18,x19,x20,x21,x22,x23,x24,x25,x26,x27,x28,x29,x30,x31,x32,x33,x34,x35,x36,x37,x38,x39,x40,x41,x42,.imm sp2 (A.map pAcc),dI A.length,dI j,x46,x47,x48,x49,x50,x51,x52,x53,x54,x55,x56,x57,x58,x59,x60,x61,x62]) 0 (by omega) ⟨_,_,_,_,_,_,_,_,_,_,_,_,_,_,_,_,_,_,_,_,_,_,_,_,_,_,_,_,_,_,_,_,_,_,_,_,_,_,_,_,_,_,_,_,_,_,_,_,_,_,_,_,_,_,by rfl⟩ ?_
 clear R1 R2 hlt hj nlen
 clear h x13 x14 x15 x16 x17 x18 x19 x20 x21 x22 x23 x24 x25 x26 x27 x28 x29 x30 x31 x32 x33
 rintro j env h hj ⟨x0,x1,x2,x5,x9,x10,x11,x12,x13,x15,x16,x17,x18,x19,x20,x21,x22,x23,x24,x25,x26,x27,x28,x29,x30,x31,x32,x33,x34,x35,x36,x37,x38,x39,x40,x41,x42,x46,x47,x48,x49,x50,x51,x52,x53,x54,x55,x56,x57,x58,x59,x60,x61,x62,rfl⟩
 by_cases hlt : j < A.length
 rotate_left
 ·have : j = A.length:=by omega
  subst this
  simp
 have hup:=zl hlt (by omega)
 obtain ⟨a,ha⟩ : ∃ a,a = A[j]:=⟨_,rfl⟩
 have pA : pAcc a = .agg [dI a.1,dI a.2]:=rfl
 have bl:=bl a.1 a.2
 have br:=br a.1 a.2
 have bu:=bu a.1 a.2
 have hQ:=hQ a.1 a.2
 have hR:=hR a.1 a.2
 have hPb:=hPb a.1 a.2
 obtain ⟨AM,hAM⟩ : ∃ AM,AM = amtOf a.1 a.2 s.ents:=⟨_,rfl⟩
 rw [<- hAM] at hQ
 have hAMb:=zc0 (k:=a.1) (i:=a.2) okE
 rw [<- hAM] at hAMb
 simp [hlt,<- ha,pA]
 have hC : At (h ++ [.cells [dI a.1,dI a.2]]) h.length (.cells [dI a.1,dI a.2]):=by simp [At]
 generalize h ++ [Obj.cells [dI a.1,dI a.2]] = H at hC ⊢
 generalize h.length = C at hC ⊢
 refine z1l s.ents.length (fun e env h=>∃ (x0 x1 x2 x5 x9 x10 x11 x12 x13 x15 x18 x19 x20 x21 x22 x23 x24 x25 x26 x27 x28 x29 x30 x31 x32 x33 x34 x35 x36 x37 x38 x39 x40 x41 x42 x46 x47 x51 x52 x53 x54 x55 x56 x57 x58 x59 x60 x61 x62 : D) (c : Int),env = [x0,x1,x2,dI m,.iptr [dI s.minute,dI s.corrects,.imm .none (s.ents.map dEnt)],x5,.bool false,dPsts l,dPsts r,x9,x10,x11,x12,x13,dPsts u,x15,.loc C 0,dI c,x18,x19,x20,x21,x22,x23,x24,x25,x26,x27,x28,x29,x30,x31,x32,x33,x34,x35,x36,x37,x38,x39,x40,x41,x42,.imm sp2 (A.map pAcc),dI A.length,dI j,x46,x47,.imm .none (s.ents.map dEnt),dI s.ents.length,dI e,x51,x52,x53,x54,x55,x56,x57,x58,x59,x60,x61,x62] /\ At h C (.cells [dI a.1,dI a.2]) /\ c + amtOf a.1 a.2 (s.ents.drop e) = AM /\ -(1099511627776 * (e : Int)) <= c /\ c <= 1099511627776 * (e : Int)) 0 (by omega) ⟨_,_,_,_,_,_,_,_,_,_,_,_,_,_,_,_,_,_,_,_,_,_,_,_,_,_,_,_,_,_,_,_,_,_,_,_,_,_,_,_,_,_,_,_,_,_,_,_,_, (0 : Int),by rfl,hC,by rw [hAM]; simp,by simp,by simp⟩ ?_
 clear hC
 clear H x0 x1 x2 x5 x9 x10 x11 x12 x13 x15 x16 x17 x18 x19 x20 x21 x22 x23 x24 x25 x26 x27 x28 x29 x30 x31 x32 x33 x34 x35 x36 x37 x38 x39 x40 x41 x42 x46 x47 x48 x49 x50 x51 x52 x53 x54 x55 x56 x57 x58 x59 x60 x61 x62
 rintro e env h he ⟨x0,x1,x2,x5,x9,x10,x11,x12,x13,x15,x18,x19,x20,x21,x22,x23,x24,x25,x26,x27,x28,x29,x30,x31,x32,x33,x34,x35,x36,x37,x38,x39,x40,x41,x42,x46,x47,x51,x52,x53,x54,x55,x56,x57,x58,x59,x60,x61,x62,c,rfl,hC,b1,b2,b3⟩
 by_cases hlt2 : e < s.ents.length
 ·have hup2:=zl hlt2 (by omega)
  obtain ⟨x,hx⟩ : ∃ x,x = s.ents[e]:=⟨_,rfl⟩
  have okx:=(okE x (by rw [hx]; exact List.getElem_mem hlt2)).2.2.2
  rw [z6c hlt2,<- hx] at b1
  simp only [amtOf] at b1
  have eqa:=zq4 (a:=(x.kind,x.idx)) (b:=(a.1,a.2))
  simp only [Prod.mk.injEq] at eqa
  have ld : ∀ r : List Obj,loadD E (h ++ r) 65 (.loc C 0) = some (.agg [dI a.1,dI a.2]):=fun r=>by
   have:=(hC.app (r:=r)).eq
   unfold loadD
   simp only [this]
   rfl
  have ld65 : ∀ (r : List Obj),loadD E (h ++ .cells [dI x.kind,dI x.idx,dI x.amt] :: r) 65 (.loc h.length 0) = some (.agg [dI x.kind,dI x.idx]):=fun r=>by
   have e : (h ++ Obj.cells [dI x.kind,dI x.idx,dI x.amt] :: r)[h.length]? = some (.cells [dI x.kind,dI x.idx,dI x.amt]):=by simp
   unfold loadD
   simp only [e]
   rfl
  have ld2x : ∀ (r : List Obj),loadD E (h ++ .cells [dI x.kind,dI x.idx,dI x.amt] :: r) 2 (.loc h.length 2) = some (dI x.amt):=fun r=>by
   have e : (h ++ Obj.cells [dI x.kind,dI x.idx,dI x.amt] :: r)[h.length]? = some (.cells [dI x.kind,dI x.idx,dI x.amt]):=by simp
   unfold loadD
   simp only [e]
   rfl
  by_cases hk : x.kind = a.1 /\ x.idx = a.2
  ·rw [decide_eq_true hk] at eqa
   rw [if_pos hk] at b1
   have hw : Go.IntKind.i64.wrap (c + x.amt) = c + x.amt:=za ⟨by omega,by omega⟩
   simp [hlt2,<- hx,hup2,-zy,ld,ld65,ld2x,eqa,-z9j,hw]
   repeat apply Exists.intro
   exact ⟨by and_intros <;> rfl,hC.app,by omega,by omega,by omega⟩
  ·rw [decide_eq_false hk] at eqa
   rw [if_neg hk] at b1
   simp [hlt2,<- hx,hup2,-zy,ld,ld65,ld2x,eqa,-z9j]
   repeat apply Exists.intro
   exact ⟨by and_intros <;> rfl,hC.app,by omega,by omega,by omega⟩
 have : e = s.ents.length:=by omega
 subst this
 rw [List.drop_length] at b1
 have hc : c = AM:=by simpa [amtOf] using b1
 subst hc
 simp [hmw]
 have rows : ∀ t : Nat,t < 3 -> ∃ w,([.int .i64 m,.int .i64 s.minute,.int .i64 (s.minute - 1)] : List D)[t]? = some (dI w):=fun t ht=>by
  match t,ht with
  | 0,_=>exact ⟨_,rfl⟩
  | 1,_=>exact ⟨_,rfl⟩
  | 2,_=>exact ⟨_,rfl⟩
 obtain ⟨ML,hML⟩ : ∃ ML : List D,ML = [.int .i64 m,.int .i64 s.minute,.int .i64 (s.minute - 1)]:=⟨_,rfl⟩
 rw [<- hML] at rows
 rw [<- hML]
 refine z1l 3 (fun t env h=>∃ (x0 x1 x2 x5 x9 x10 x11 x12 x13 x15 x18 x19 x20 x21 x22 x23 x24 x25 x26 x27 x28 x29 x30 x31 x32 x33 x34 x35 x36 x37 x38 x39 x40 x41 x42 x46 x47 x48 x49 x50 x51 x52 x53 x57 x58 x59 x60 x61 x62 : D) ,env = [x0,x1,x2,dI m,.iptr [dI s.minute,dI s.corrects,.imm .none (s.ents.map dEnt)],x5,.bool false,dPsts l,dPsts r,x9,x10,x11,x12,x13,dPsts u,x15,.loc C 0,dI c,x18,x19,x20,x21,x22,x23,x24,x25,x26,x27,x28,x29,x30,x31,x32,x33,x34,x35,x36,x37,x38,x39,x40,x41,x42,.imm sp2 (A.map pAcc),dI A.length,dI j,x46,x47,x48,x49,x50,x51,x52,x53,.imm .exact ML,dI 3,dI t,x57,x58,x59,x60,x61,x62] /\ At h C (.cells [dI a.1,dI a.2])) 0 (by omega) ⟨_,_,_,_,_,_,_,_,_,_,_,_,_,_,_,_,_,_,_,_,_,_,_,_,_,_,_,_,_,_,_,_,_,_,_,_,_,_,_,_,_,_,_,_,_,_,_,_,_,by rfl,hC⟩ ?_
 clear hC b1 he hlt2 hML
 clear h x0 x1 x2 x5 x9 x10 x11 x12 x13 x15 x18 x19 x20 x21 x22 x23 x24 x25 x26 x27 x28 x29 x30 x31 x32 x33 x34 x35 x36 x37 x38 x39 x40 x41 x42 x46 x47 x51 x52 x53 x54 x55 x56 x57 x58 x59 x60 x61 x62
 rintro t env h ht ⟨x0,x1,x2,x5,x9,x10,x11,x12,x13,x15,x18,x19,x20,x21,x22,x23,x24,x25,x26,x27,x28,x29,x30,x31,x32,x33,x34,x35,x36,x37,x38,x39,x40,x41,x42,x46,x47,x48,x49,x50,x51,x52,x53,x57,x58,x59,x60,x61,x62,rfl,hC⟩
 by_cases hlt3 : t < 3
 rotate_left
 ·have : t = 3:=by omega
  subst this
  simp [hlt,hup]
 have hup3:=zl hlt3 (by omega)
 have ht3 : (t : Int) < 3:=by omega
 obtain ⟨w,hw⟩:=rows t hlt3
 have ld : loadD E h 65 (.loc C 0) = some (.agg [dI a.1,dI a.2]):=by
  have:=hC.eq
  unfold loadD
  simp only [this]
  rfl
 have bl:=bl w
 have br:=br w
 have bu:=bu w
 have hQ:=hQ w
 have hR:=hR w
 have hPb:=hPb w
 rw [hR] at bu
 rw [hQ] at br
 generalize balP a.1 a.2 w l = P at *
 by_cases hwm : s.minute <= w
 ·rw [if_pos hwm] at br
  have hw2 : Go.IntKind.i64.wrap (P + c) = P + c:=za ⟨by omega,by omega⟩
  simp (maxSteps:=10000000) [ht3,hlt3,hw,hup3,-zy,ld,zk,bl,br,bu,hwm,hw2]
  exact hC
 ·rw [if_neg hwm,Int.add_zero] at br
  simp (maxSteps:=10000000) [ht3,hlt3,hw,hup3,-zy,ld,zk,bl,br,bu,hwm]
  exact hC

def small1 (B : Nat) (xs : List D) : Prop:=∀ spr els r,xs = .imm spr els :: r -> els.length <= B
theorem postingsChange : ∀ xs,TypedL E [69,68,65,2] xs -> small1 3518437208780 xs -> ∃ n,runP E (dC E n) 326 xs = some (.bool true):=by
 intro xs h hB
 match xs,h with
 | [x,y,z,w],⟨t1,t2,t3,t4,_⟩=>
  obtain ⟨ss,rfl,_,_⟩:=zr1 t1
  obtain ⟨s,rfl,_⟩:=zpo t2
  obtain ⟨k,i,rfl,_⟩:=zti t3
  obtain ⟨m,rfl,hm⟩:=ztg t4 rfl
  have:=hB _ _ _ rfl
  rw [List.length_map] at this
  exact z8b (law326 ss this s k i m hm)
 | [],h=>exact h.elim
 | [_],h=>exact h.2.elim
 | [_,_],h=>exact h.2.2.elim
 | [_,_,_],h=>exact h.2.2.2.elim
 | _ :: _ :: _ :: _ :: _ :: _,h=>exact h.2.2.2.2.elim

end Dv
