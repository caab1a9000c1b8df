/- Texts that a proof of this claim uses, joined: Lw.W225, Lw.S41, Lw.Ty, Lw.W226, Lw.W227, Lw.W228, Lw.W229, Lw.W230, Lw.W231, Lw.W232, Lw.W240, Lw.W241, Lw.W242, Lw.W243, Lw.W244, Lw.W245, Lw.W246, Lw.W2, Lw.W3, Lw.W4, Lw.W5, Lw.W6, Lw.W7, Lw.W247, Lw.W248, Lw.W249. -/
import Derived.Test.YtfagnjchgplecaaDoorGa
import Derived.Test.YtfagnjchgplecaaDoorLwa
import Derived.Test.YtfagnjchgplecaaDoorDvd
import Derived.Test.YtfagnjchgplecaaDoorWa
set_option linter.all false
open Go.IntKind renaming i64->aB
open Int renaming negSucc_eq->aD
open List renaming all_eq_true->ay,getElem_mem->bj,length_map->aA,map_cons->av,map_nil->aO,mem_cons->az,pairwise_cons->du,replicate->af
open List.cons renaming injEq->bo
set_option maxRecDepth 100000
set_option maxHeartbeats 16000000
namespace Dv

def pr(n:Int):List Ent:=[⟨1,3,n⟩,⟨4,0,-n⟩]
theorem zm9{a b:Ent}(ha:y4n a)(hb:y4n b)(h:ltA a b):fmE [a,b]:=by
 refine⟨by simp,by simp,fun x hx=>?_,fun i hi=>?_⟩
 ·simp only[az,List.not_mem_nil,or_false] at hx
  rcases hx with rfl | rfl
  ·exact ha
  ·exact hb
 ·have:i=0:=by simp at hi;omega
  subst this
  exact h
theorem zuv{n:Int}(h0:n ≠ 0)(h1 : -1099511627776<=n/\n<=1099511627776):fmE (pr n):=by
 refine zm9 ⟨by simp,by simp,h0,h1⟩ ⟨by simp,by simp,?_,?_⟩ (.inl (by simp))
 ·simp only[];omega
 ·simp only[];omega
theorem zqx{n:Int}:y51 (pr n)=0:=by simp[pr,y51];omega

def sx0:Stp:=⟨5,-1,pr 7⟩
def sx1:Stp:=⟨9,0,pr (-2)⟩
def px0:Pst:=y3r tgB [] sx0
def px1:Pst:=y3r tgB [px0] sx1
theorem zqw:y2y tgB [] sx0=0:=by
 rw[z3r z8f (by simp) (by simp)]
 exact z2m.2 ⟨⟨by simp[y3r],by simp[y3r,sx0],by simp[y3r,sx0],zuv (by decide) (by decide)⟩,zqx⟩
theorem vx0:vld tgB [px0]:=(z4w zqw).2.2.1
theorem zg6:y2y tgB [px0] sx1=0:=by
 rw[z3r vx0 (by simp) (by simp[px0,y3r,sx0,sx1])]
 exact z2m.2 ⟨⟨by simp[y3r],by simp[y3r,sx1],by simp[y3r,sx1],zuv (by decide) (by decide)⟩,zqx⟩
theorem vx1:vld tgB [px0,px1]:=(z4w zg6).2.2.1
theorem zus:y2y tgB [] ⟨5,0,pr 7⟩=410:=by
 rw[z3r z8f (by simp) (by simp)]
 unfold y4x
 rw[if_neg fun h=>by have:=h.corrects.2;simp[y3r] at this]
theorem zur:y2y tgB [] ⟨5,-1,[⟨1,3,3⟩,⟨4,0,-2⟩]⟩=411:=by
 rw[z3r z8f (by simp) (by simp)]
 unfold y4x
 rw[if_pos ⟨by simp[y3r],by simp[y3r],by simp[y3r],zm9 ⟨by simp,by simp,by simp,by simp⟩ ⟨by simp,by simp,by simp,by simp⟩ (.inl (by simp))⟩,if_neg (by simp[y3r,y51])]
theorem znt:y2y tgB [px0] ⟨4,0,pr 1⟩=410:=by
 unfold y2y
 rw[if_neg (by simp[z1m.2 vx0]),if_neg (by simp),if_pos ⟨px0,rfl,by simp[px0,y3r,sx0]⟩]
theorem zs9:y4j 1 3 8 [px0,px1]=7:=by
 simp[y4j,px0,px1,y3r,sx0,sx1,pr,y38]
theorem zs8:y4j 1 3 9 [px0,px1]=5:=by
 simp[y4j,px0,px1,y3r,sx0,sx1,pr,y38]
theorem zs7:rdE tgB [px1]=410:=by
 have h1:=zg6
 have hg:=(z4w zg6).2.2.2.2
 have hf:y2e [px1]=0:=z3a.2 fun p hp=>by simp at hp;rw[hp];exact hg
 unfold rdE
 rw[if_neg (by simp),if_neg (by simp[hf]),if_neg fun v=>by
  have:=(v.2.2 0 px1 rfl).no
  simp[px1,y3r] at this]
theorem zs6:y4x ⟨0,0,0,[],z32⟩=410:=by
 unfold y4x
 rw[if_neg fun h=>by have:=h.ents.two;simp at this]
theorem zd2:∀{a b:List (Int × Int)},a.Perm b->a.Pairwise (fun x y=>y4w y x=false)->b.Pairwise (fun x y=>y4w y x=false)->a=b
 |[],b,hp,_,_=>by rw[List.nil_perm.1 hp]
 |x::a,[],hp,_,_=>by simp at hp
 |x::a,y::b,hp,ha,hb=>by
  obtain⟨a1,a2⟩:=du.1 ha
  obtain⟨b1,b2⟩:=du.1 hb
  have hxy:x=y:=by
   have h1:x ∈ y::b:=hp.mem_iff.1 (by simp)
   have h2:y ∈ x::a:=hp.mem_iff.2 (by simp)
   rcases az.1 h1 with h1 | h1
   ·exact h1
   ·rcases az.1 h2 with h2 | h2
    ·exact h2.symm
    ·have c1:=b1 x h1
     have c2:=a1 y h2
     rcases zkw c2 with h | h
     ·exact h
     ·rw[h] at c1;simp at c1
  subst hxy
  rw[zd2 ((List.perm_cons x).1 hp) a2 b2]
theorem zsa:yaw [px0,px1]=[(1,3),(4,0)]:=by
 have e:yav [px0,px1]=[(1,3),(4,0),(1,3),(4,0)]:=rfl
 have es:y1s [(1,3),(4,0),(1,3),(4,0)]=[(1,3),(1,3),(4,0),(4,0)]:=by
  refine zd2 ((zaj _).trans ?_) (zd9 _) (by decide)
  exact(List.Perm.refl [((1:Int),(3:Int))]).append (List.Perm.swap (1,3) (4,0) [(4,0)])
 unfold yaw
 rw[e,es]
 decide

end Dv

namespace Dv
attribute [local simp] af depth y53 y89 y3c y2q y88 y6c y34 y23 Ret
attribute [local congr] z2o z2s z24 z1n z18 z26 z16


theorem ydm(n:Int)(h : -100<=n/\n<=100):y1l E (dL E) 353 [dI n]=some (.imm .none [.agg [dI 1,dI 3,dI n],.agg [dI 4,dI 0,dI (-n)]]):=by
 have hw:aB.wrap (0 - n) = -n:=by rw[zc ⟨by omega,by omega⟩];omega
 have hw2:aB.wrap (-n) = -n:=zc ⟨by omega,by omega⟩
 refine zu c353 (by simp) ?_
 conv in t353=>reduce;dsimp[aD]
 simp[t353,n353,hw,hw2]
 rfl
theorem s353(n:Int)(h : -100<=n/\n<=100)(hp:List Obj):y1h E (dL E) 353 [dI n] hp=some (.sl hp.length 0 2 3 true true,hp++[.cells [dI 1,dI 3,dI n,dI 4,dI 0,dI (-n)]]):=by
 have hw:aB.wrap (0 - n) = -n:=by rw[zc ⟨by omega,by omega⟩];omega
 have hw2:aB.wrap (-n) = -n:=zc ⟨by omega,by omega⟩
 have:∃ d hp',y1h E (dL E) 353 [dI n] hp=some (d,hp')/\(d=.sl hp.length 0 2 3 true true/\hp'=hp++[.cells [dI 1,dI 3,dI n,dI 4,dI 0,dI (-n)]]):=by
  refine z34 c353 (args:=[dI n]) (hp:=hp) (R:=fun d hp'=>d=.sl hp.length 0 2 3 true true/\hp'=hp++[.cells [dI 1,dI 3,dI n,dI 4,dI 0,dI (-n)]]) (by simp) ?_
  conv in t353=>reduce;dsimp[aD]
  simp[t353,n353,hw,hw2]
  rfl
 obtain⟨d,hp',e,rfl,rfl⟩:=this
 exact e

theorem zr3{a b:List UInt8}(ha:a.length=32)(hb:b.length=32):y2m E .eql 73 (.agg (a.map yc)) (.agg (b.map yc))=some (.bool (decide (a=b))):=by
 have h1:(E.ty 73).eqc=true:=rfl
 have h2:(E.ty 73).zero=af a.length (D.int .u8 0):=by rw[ha];rfl
 unfold y2m
 simp only[]
 rw[if_pos ⟨h1,by rw[h2];exact z5k⟩,z9n (by rw[ha,hb])]
theorem mx0:y3w 12 [px0]:=⟨vx0,by simp,fun p hp=>by simp at hp;subst hp;exact⟨y3s,by decide⟩⟩
theorem mx1:y3w 12 [px0,px1]:=⟨vx1,by simp,fun p hp=>by
 simp at hp
 rcases hp with rfl | rfl
 ·exact⟨y3s,by decide⟩
 ·exact⟨y3s,by decide⟩⟩
theorem okt:y83 [px1]:=⟨by simp,fun p hp=>by simp at hp;subst hp;exact⟨y3s,by decide⟩⟩
theorem okn:y83 []:=⟨by simp,by simp⟩

theorem r314:y1l E (dL E) 314 []=some (.bool true):=by
 have a1:=ydm 7 (by decide)
 have a2:=ydm (-2) (by decide)
 have a3:=ydm 1 (by decide)
 have a4:=s353 3 (by decide)
 have b1:=y9i [] sx0 okn (by decide)
 have b2:=y9i [px0] sx1 (mx0.ok (by decide)) (by decide)
 have b3:=y9i [] ⟨5,0,pr 7⟩ okn (by simp[pr])
 have b4:=y9i [] ⟨5,-1,[⟨1,3,3⟩,⟨4,0,-2⟩]⟩ okn (by simp)
 have b5:=y9i [px0] ⟨4,0,pr 1⟩ (mx0.ok (by decide)) (by simp[pr])
 have hx1:[px0]++[y3r tgB [px0] sx1]=[px0,px1]:=rfl
 have hx0:[]++[y3r tgB [] sx0]=[px0]:=rfl
 simp only[poD,zqw,zg6,zus,zur,znt,if_true,hx1,hx0,if_neg (show ¬ (410:Int)=0 by decide),if_neg (show ¬ (411:Int)=0 by decide)] at b1 b2 b3 b4 b5
 simp only[pr,sx0,sx1,y1p,av,aO] at b1 b2 b3 b4 b5
 have v0:=z1m.2 vx0
 have v1:=z1m.2 vx1
 have vn:=z1m.2 (z8f (tg:=tgB))
 have c1:=yaq [px0,px1] (mx1.ok (by decide)) (mx1.entN (by decide)) 1 3 8
 have c2:=yaq [px0,px1] (mx1.ok (by decide)) (mx1.entN (by decide)) 1 3 9
 have c3:=yaq [] okn (by decide) 1 3 1439
 simp only[blD,v1,if_true,zs9,zs8,y1p,av,aO] at c1 c2
 simp only[blD,vn,if_true,y4j,y1p,aO] at c3
 have d1:=r334 ⟨0,0,0,[],z32⟩ rfl (by simp)
 unfold ybx at d1
 simp only[zs6,if_neg (show ¬ (410:Int)=0 by decide)] at d1
 have d1:y1l E (dL E) 334 [.agg (dI 0::dI 0::dI 0 :: .imm .none []::af 32 (D.int .u8 0))]=some (.tup [.imm .none [],dI 410]):=d1
 simp only[af] at d1
 have e1:=r329 [px0] (mx0.ok (by decide))
 have e2:=r329 [] okn
 simp only[rdD,v0,vn,if_true,y1p,av,aO] at e1 e2
 have f1:=r325 [px0,px1] (mx1.ok (by decide)) (mx1.entN (by decide))
 rw[zsa] at f1
 have g1:=yb1 [px0,px1] (mx1.ok (by decide))
 have g2:=yb1 [] okn
 have g3:=yb1 [px1] okt
 rw[v1] at g1
 rw[vn] at g2
 rw[zs7] at g3
 simp only[y1p,yae,y5i,av,aO] at f1 g1 g2 g3
 have h1:=ybp y39 [] (by decide) (by simp)
 have hT:tgB y39 []=y4q tgB []:=rfl
 rw[hT] at h1
 have n0:px0.prev.length=32:=y3s
 have n1:px1.prev.length=32:=y3s
 have pe1:px1.prev=y4q tgB [px0]:=rfl
 have pe0:px0.prev=y4q tgB []:=rfl
 have pn:px1.no=1:=rfl
 have pc:px1.corrects=0:=rfl
 rw[<- pe1] at e1
 rw[<- pe0] at e2 h1
 simp only[Int.neg_neg] at a2 b2
 have eqd:∀ a:List UInt8,a.length=32->y2m E .eql 73 (.agg (a.map yc)) (.agg (a.map yc))=some (.bool true):=fun a ha=>by
  rw[zr3 ha ha];simp
 have q1:=eqd _ n1
 have q0:=eqd _ n0
 clear pe1 pe0 hx1 hx0 v0 v1 vn hT eqd
 generalize px0=p0 at *
 generalize px1=p1 at *
 have sc0:setCells (af 32 (D.int .u8 0)) 0 (p0.prev.map yc)=p0.prev.map yc:=zf (by simp[n0])
 have sc1:setCells (af 32 (D.int .u8 0)) 0 (p1.prev.map yc)=p1.prev.map yc:=zf (by simp[n1])
 simp only[af] at sc0 sc1
 have hst:∀ n s,frz [] (n+1) (.str s)=some (.str s):=fun _ _=>rfl
 have l0:∀ r:List Obj,yv E (.cells [dI 1,dI 3]::r) 65 (.loc 0 0)=some (y3j 1 3):=fun _=>rfl
 have l2:∀(x y:Obj) (r:List Obj),yv E (x::y :: .cells (p1.prev.map yc)::r) 73 (.loc 2 0)=some (.agg (p1.prev.map yc)):=fun x y r=>zbz (by simp[Bys,At]) n1
 have l3:∀(x y z:Obj) (r:List Obj),yv E (x::y::z :: .cells (p0.prev.map yc)::r) 73 (.loc 3 0)=some (.agg (p0.prev.map yc)):=fun x y z r=>zbz (by simp[Bys,At]) n0
 have li:∀(h:List Obj) (a:List UInt8),a.length=32->yv E h 73 (.iptr (a.map yc))=some (.agg (a.map yc)):=fun h a ha=>by
  have e:=z1u 32 0 (a.map yc) (by simp[ha])
  unfold yv
  simp only[show(E.ty 73).size=32 from rfl,e]
  rfl
 have li0:=fun h=>li h _ n0
 have li1:=fun h=>li h _ n1
 have l2i:∀(h:List Obj) (a:Int) (r:List D),yv E h 2 (.iptr (dI a::r))=some (dI a):=fun _ _ _=>rfl
 have l65:∀(h:List Obj) (a b:Int) (r:List D),yv E h 65 (.iptr (dI a::dI b::r))=some (y3j a b):=fun _ _ _ _=>rfl
 have h1:y1l E (dL E) 331 [.str [112,111,115,116,105,110,103,115],.imm .none []]=some (y7g p0.prev):=h1
 have hsl:y15 E 70 (.imm .none [y36 p0,y36 p1]) (some (dI 1)) none none=some (.imm .none [y36 p1]):=by
  have hk:(E.ty 70).k=.slice 71:=rfl
  have hf:y4c (E.ty 71).size [y36 p0,y36 p1]=true:=by
   show((pC p0).length == 36)=true
   rw[zde n0];rfl
  unfold y15
  simp only[hk,bnd,hf]
  rfl
 have bn:(p1.no == 1)=true:=by rw[pn];rfl
 have bc:(p1.corrects == 0)=true:=by rw[pc];rfl
 have ck:y2l 3 true 2 [dI 1,dI 3,dI 3,dI 4,dI 0,dI (-2)]=some [.agg [dI 1,dI 3,dI 3],.agg [dI 4,dI 0,dI (-2)]]:=rfl
 have i1:ids [.cells [dI 1,dI 3],.cells [dI 1,dI 3,dI 3,dI 4,dI 0,dI (-2)]] 12 (.imm .exact [])=[]:=rfl
 have i2:ids [.cells [dI 1,dI 3],.cells [dI 1,dI 3,dI 3,dI 4,dI 0,dI (-2)]] 12 (dI 5)=[]:=rfl
 have i3:ids [.cells [dI 1,dI 3],.cells [dI 1,dI 3,dI 3,dI 4,dI 0,dI (-2)]] 12 (dI (-1))=[]:=rfl
 have i4:ids [.cells [dI 1,dI 3],.cells [dI 1,dI 3,dI 3,dI 4,dI 0,dI (-2)]] 12 (.sl 1 0 2 3 true true)=[1]:=rfl
 have fz:yr [.cells [dI 1,dI 3],.cells [dI 1,dI 3,dI 3,dI 4,dI 0,dI (-2)]] [1]=[.cells [dI 1,dI 3],.frozen [dI 1,dI 3,dI 3,dI 4,dI 0,dI (-2)]]:=rfl
 refine zu c314 (by simp) ?_
 conv in t314=>reduce;dsimp[aD]
 simp[t314,n314,a1,a2,a3,a4,b1,b2,b3,b4,b5,c1,c2,c3,d1,e1,e2,f1,g1,g2,g3,h1,n0,n1,bn,bc,q1,q0,sc0,sc1,hst,l0,l2,l3,li0,li1,l2i,l65,zo,ze,y14,hsl,ck,i1,i2,i3,i4,fz,-zy,-z52]

end Dv

namespace Dv

theorem zun{x:D}{c:Nat}(h:y5b E c x)(hk:(E.ty c).k=.int .i64):∃ n,x=dI n/\i64 n:=by
 have ha:(E.ty c).ag=false:=by unfold TI.ag;rw[hk]
 obtain⟨n,h3,ho⟩:=z7d (zcl h ha) hk
 simp only[bo,and_true] at h3
 exact⟨n,h3,ho⟩

end Dv

namespace Dv
attribute [local simp] af depth y53 y89 y3c y2q y88 y6c y34 y23 Ret
attribute [local congr] z2o z2s z24 z1n z18 z26 z16


def okE(e:Ent):Prop:=i64 e.kind/\i64 e.idx/\i64 e.amt
def okS(s:Stp):Prop:=i64 s.minute/\i64 s.corrects/\(∀ e,e ∈ s.ents->okE e)/\s.ents.length<=Go.maxLen
theorem two{A:Type}{l:List A}(h:l.length=2):∃ a b,l=[a,b]:=by
 match l,h with
 |[a,b],_=>exact⟨a,b,rfl⟩
theorem zup{x:D}(h:y5b E 65 x):∃ k i,x=y3j k i/\i64 k/\i64 i:=by
 obtain⟨ds,rfl,h1⟩:=z8i h rfl
 obtain⟨hl,hf⟩:=z5v h1 (fs:=[(0,2),(1,2)]) rfl
 obtain⟨x,y,rfl⟩:=two hl
 obtain⟨a,h2,o2⟩:=z7d (hf 0 _ rfl) rfl
 obtain⟨b,h3,o3⟩:=z7d (hf 1 _ rfl) rfl
 simp[E,y7p] at h2 h3
 subst h2 h3
 exact⟨a,b,rfl,o2,o3⟩
theorem zmv{ds:List D}(h:DTc E 65 ds):∃ k i,ds=[dI k,dI i]/\i64 k/\i64 i:=by
 obtain⟨hl,hf⟩:=z5v h (fs:=[(0,2),(1,2)]) rfl
 obtain⟨x,y,rfl⟩:=two hl
 obtain⟨a,h2,o2⟩:=z7d (hf 0 _ rfl) rfl
 obtain⟨b,h3,o3⟩:=z7d (hf 1 _ rfl) rfl
 simp[E,y7p] at h2 h3
 subst h2 h3
 exact⟨a,b,rfl,o2,o3⟩
theorem zuo{x:D}(h:y5b E 72 x):∃ e,x=y2z e/\okE e:=by
 obtain⟨ds,rfl,h1⟩:=z8i h rfl
 obtain⟨hl,hf⟩:=z5v h1 (fs:=[(0,65),(2,2)]) rfl
 obtain⟨x,y,z,rfl⟩:=yay hl
 obtain⟨a,b,h2,o1,o2⟩:=zmv (hf 0 _ rfl)
 obtain⟨c,h3,o3⟩:=z7d (hf 1 _ rfl) rfl
 simp[E,y7p] at h2 h3
 obtain⟨rfl,rfl⟩:=h2
 subst h3
 exact⟨⟨a,b,c⟩,rfl,o1,o2,o3⟩
theorem zqm{x:D}(h:y5b E 68 x):∃ s,x=y4h s/\okS s:=by
 obtain⟨ds,rfl,h1⟩:=z8i h rfl
 obtain⟨hl,hf⟩:=z5v h1 (fs:=[(0,2),(1,2),(2,66)]) rfl
 obtain⟨x,y,z,rfl⟩:=yay hl
 obtain⟨a,h2,o2⟩:=z7d (hf 0 _ rfl) rfl
 obtain⟨b,h3,o3⟩:=z7d (hf 1 _ rfl) rfl
 obtain⟨els,h5,hlen,h6⟩:=zg2 (hf 2 _ rfl) (e:=72) rfl
 simp[E,y7p] at h2 h3 h5
 subst h2 h3 h5
 obtain⟨l,rfl,o⟩:=zf3 (f:=y2z) (R:=okE) (els:=els) fun x hx=>zuo (h6 x hx)
 exact⟨⟨a,b,l⟩,rfl,o2,o3,o,by simpa using hlen⟩
theorem zs2{x:D}(h:y5b E 69 x):∃ l,x=y5a l/\(∀ s,s ∈ l->okS s)/\l.length<=9223372036854775807:=by
 obtain⟨els,h5,hlen,h6⟩:=zg2 (zcl h rfl) (e:=68) rfl
 simp only[bo,and_true] at h5
 subst h5
 obtain⟨l,rfl,o⟩:=zf3 (f:=y4h) (R:=okS) (els:=els) fun x hx=>zqm (h6 x hx)
 exact⟨l,rfl,o,by rw[aA] at hlen;exact hlen⟩

theorem sl70{l:List Pst}{k:Nat}(h:k<=l.length)(h32:∀ p,p ∈ l->p.prev.length=32):y15 E 70 (.imm .none (l.map y36)) none (some (dI k)) none=some (.imm .none ((l.take k).map y36)):=by
 have hk:(E.ty 70).k=.slice 71:=rfl
 have hf:y4c (E.ty 71).size (l.map y36)=true:=by
  cases l with
  |nil=>rfl
  |cons p l=>
   show((pC p).length == 36)=true
   rw[zde (h32 p (by simp))];rfl
 have hs:y2d .none (l.map y36).length k none=.none:=by unfold y2d;simp
 unfold y15
 simp only[hk,bnd,Int.natCast_nonneg,if_true,Int.toNat_natCast,hf,Option.map_none,hs]
 rw[if_pos ⟨Nat.zero_le _,by simpa using h,Nat.le_refl _,trivial⟩,List.drop_zero,Nat.sub_zero,List.map_take]

theorem zux{a b:Ent}:y2m E .neq 72 (y2z a) (y2z b)=some (.bool (!decide (a=b))):=by
 obtain⟨a1,a2,a3⟩:=a
 obtain⟨b1,b2,b3⟩:=b
 have e:(decide ((⟨a1,a2,a3⟩:Ent)=⟨b1,b2,b3⟩))=(a1 == b1 && (a2 == b2 && a3 == b3)):=by
  by_cases h1:a1=b1 <;> by_cases h2:a2=b2 <;> by_cases h3:a3=b3 <;> simp[h1,h2,h3]
 rw[e]
 simp[y2m,E,y7p,y1i,eqL,y1w]
theorem zb0{A:Type}{a b:List A}(hl:a.length=b.length)(h:∀ i,∀ h:i<a.length,a[i]=b[i]'(by omega)):a=b:=
 List.ext_getElem hl fun i h1 _=>h i h1

theorem r327(a b:List Ent)(ha:a.length<=1000000)(hb:b.length<=1000000):y1l E (dL E) 327 [.imm .none (a.map y2z),.imm .none (b.map y2z)]=some (.bool (decide (a=b))):=by
 refine zu c327 (by simp) ?_
 conv in t327=>reduce;dsimp[aD]
 by_cases hl:a.length=b.length
 rotate_left
 ·have h1 : ¬ (a.length:Int)=b.length:=by omega
  have h2 : ¬ a=b:=fun h=>hl (by rw[h])
  simp[t327,n327,h1,h2]
 have h1:(a.length:Int)=b.length:=by omega
 obtain⟨B,hB⟩:∃ B,B=decide (a=b):=⟨_,rfl⟩
 rw[<- hB]
 simp[t327,n327,h1]
 refine z1o a.length (fun i env h=>∃(x4 x5 x6:D) ,env=[.imm .none (a.map y2z),.imm .none (b.map y2z),.bool false,dI i,x4,x5,x6] /\ ∀ j,(hj:j<a.length)->j<i->a[j]=b[j]'(by omega)) 0 (by omega) ⟨_,_,_,rfl,fun _ _ h=>absurd h (by omega)⟩ ?_
 rintro i env h hi ⟨x4,x5,x6,rfl,F⟩
 by_cases hlt:i<a.length
 rotate_left
 ·have hge : ¬ (i:Int)<a.length:=by omega
  have:i=a.length:=by omega
  have hB2:B=true:=by
   rw[hB,decide_eq_true_eq]
   exact zb0 hl fun j hj=>F j hj (by omega)
  simp[hge,hB2,this]
 have hup:=zm hlt (by omega)
 have hlt2:i<b.length:=by omega
 obtain⟨x,hx⟩:∃ x,x=a[i]:=⟨_,rfl⟩
 obtain⟨y,hy⟩:∃ y,y=b[i]:=⟨_,rfl⟩
 have n1:=zux (a:=x) (b:=y)
 have l72:∀(h:List Obj) (x:Ent),yv E h 72 (.iptr [dI x.kind,dI x.idx,dI x.amt])=some (y2z x):=fun _ _=>rfl
 by_cases hxy:x=y
 ·have hd:decide (x=y)=true:=by simpa using hxy
  rw[hd] at n1
  simp[hlt,hlt2,<- hx,<- hy,hup,n1,l72,-z52,-z9v]
  intro j hj hji
  by_cases hje:j<i
  ·exact F j hj hje
  ·have:j=i:=by omega
   subst this
   rw[<- hx,<- hy];exact hxy
 ·have hd:decide (x=y)=false:=by simpa using hxy
  rw[hd] at n1
  have hB2:B=false:=by
   rw[hB,decide_eq_false_iff_not]
   intro h
   subst h
   exact hxy (by rw[hx,hy])
  simp[hlt,hlt2,<- hx,<- hy,hup,n1,l72,hB2,-z52,-z9v]

theorem r337(p q:Pst)(hp:p.prev.length=32)(hq:q.prev.length=32)(ha:p.ents.length<=1000000)(hb:q.ents.length<=1000000):y1l E (dL E) 337 [y36 p,y36 q]=some (.bool (decide (p=q))):=by
 have e:=r327 p.ents q.ents ha hb
 refine zu c337 (by simp) ?_
 conv in t337=>reduce;dsimp[aD]
 have l73:∀(p:Pst),p.prev.length=32->y4b E 73 (.iptr (p.prev.map yc))=some (y7g p.prev):=fun p hp=>by
  have e:=z1u 32 0 (p.prev.map yc) (by simp[hp])
  unfold y4b
  simp only[show(E.ty 73).size=32 from rfl,e]
  rfl
 have eqd:=zr3 hp hq
 have il2:∀(a:Int) (r:List D),y4b E 2 (.iptr (dI a::r))=some (dI a):=fun _ _=>rfl
 have il66:∀(es:List D) (r:List D),y4b E 66 (.iptr (.imm .none es::r))=some (.imm .none es):=fun _ _=>rfl
 have hpq:(p=q) ↔ ((((p.no=q.no/\p.minute=q.minute)/\p.corrects=q.corrects)/\p.prev=q.prev)/\p.ents=q.ents):=by
  obtain⟨a,b,c,d,e⟩:=p
  obtain⟨a',b',c',d',e'⟩:=q
  simp only[Pst.mk.injEq]
  constructor
  ·rintro⟨rfl,rfl,rfl,rfl,rfl⟩;exact⟨⟨⟨⟨rfl,rfl⟩,rfl⟩,rfl⟩,rfl⟩
  ·rintro⟨⟨⟨⟨rfl,rfl⟩,rfl⟩,rfl⟩,rfl⟩;exact⟨rfl,rfl,rfl,rfl,rfl⟩
 by_cases h1:p.no=q.no
 rotate_left
 ·simp[t337,n337,hp,hq,l73 p hp,l73 q hq,eqd,e,zo,il2,il66,-z1t,h1,hpq]
 by_cases h2:p.minute=q.minute
 rotate_left
 ·simp[t337,n337,hp,hq,l73 p hp,l73 q hq,eqd,e,zo,il2,il66,-z1t,h1,h2,hpq]
 by_cases h3:p.corrects=q.corrects
 rotate_left
 ·simp[t337,n337,hp,hq,l73 p hp,l73 q hq,eqd,e,zo,il2,il66,-z1t,h1,h2,h3,hpq]
 by_cases h4:p.prev=q.prev
 rotate_left
 ·have e4:decide (p.prev=q.prev)=false:=by simpa using h4
  rw[e4] at eqd
  simp[t337,n337,hp,hq,l73 p hp,l73 q hq,eqd,e,zo,il2,il66,-z1t,h1,h2,h3,h4,hpq]
 have e4:decide (p.prev=q.prev)=true:=by simpa using h4
 rw[e4] at eqd
 have l73q:=l73 q hq
 rw[h4] at eqd
 simp[t337,n337,hp,hq,l73q,eqd,e,zo,il2,il66,-z1t,h1,h2,h3,h4,hpq]

theorem r320(a b:List Pst)(ha:y83 a)(hb:y83 b):y1l E (dL E) 320 [y1p a,y1p b]=some (.bool (decide (a=b))):=by
 refine zu c320 (by simp) ?_
 conv in t320=>reduce;dsimp[aD]
 obtain⟨ha1,ha2⟩:=ha
 obtain⟨hb1,hb2⟩:=hb
 by_cases hl:a.length=b.length
 rotate_left
 ·have h1 : ¬ (a.length:Int)=b.length:=by omega
  have h2 : ¬ a=b:=fun h=>hl (by rw[h])
  simp[t320,n320,h1,h2]
 have h1:(a.length:Int)=b.length:=by omega
 obtain⟨B,hB⟩:∃ B,B=decide (a=b):=⟨_,rfl⟩
 rw[<- hB]
 simp[t320,n320,h1]
 refine z1o a.length (fun i env h=>∃(x4 x5 x6:D) ,env=[y1p a,y1p b,.bool false,dI i,x4,x5,x6] /\ ∀ j,(hj:j<a.length)->j<i->a[j]=b[j]'(by omega)) 0 (by omega) ⟨_,_,_,rfl,fun _ _ h=>absurd h (by omega)⟩ ?_
 rintro i env h hi ⟨x4,x5,x6,rfl,F⟩
 by_cases hlt:i<a.length
 rotate_left
 ·have hge : ¬ (i:Int)<a.length:=by omega
  have:i=a.length:=by omega
  have hB2:B=true:=by
   rw[hB,decide_eq_true_eq]
   exact zb0 hl fun j hj=>F j hj (by omega)
  simp[hge,hB2,this]
 have hup:=zm hlt (by omega)
 have hlt2:i<b.length:=by omega
 obtain⟨x,hx⟩:∃ x,x=a[i]:=⟨_,rfl⟩
 obtain⟨y,hy⟩:∃ y,y=b[i]:=⟨_,rfl⟩
 have px:=ha2 x (by rw[hx];exact bj hlt)
 have py:=hb2 y (by rw[hy];exact bj hlt2)
 have n1:=r337 x y px.1 py.1 px.2 py.2
 have q1:=fun h:List Obj=>zlc (h:=h) px.1
 have q2:=fun h:List Obj=>zlc (h:=h) py.1
 by_cases hxy:x=y
 ·have hd:decide (x=y)=true:=by simpa using hxy
  rw[hd] at n1
  simp[hlt,hlt2,<- hx,<- hy,hup,n1,px.1,py.1,↓q1,↓q2,zo,ze]
  intro j hj hji
  by_cases hje:j<i
  ·exact F j hj hje
  ·have:j=i:=by omega
   subst this
   rw[<- hx,<- hy];exact hxy
 ·have hd:decide (x=y)=false:=by simpa using hxy
  rw[hd] at n1
  have hB2:B=false:=by
   rw[hB,decide_eq_false_iff_not]
   intro h
   subst h
   exact hxy (by rw[hx,hy])
  simp[hlt,hlt2,<- hx,<- hy,hup,n1,hB2,px.1,py.1,↓q1,↓q2,zo,ze]

def y4o:y1a->List Obj->List Obj
 |.tok q,h=>h.set q .dead
 |_,h=>h
theorem zdm{sp:y1a}{h:List Obj}:(y4o sp h).length=h.length:=by
 unfold y4o;split <;> simp
def y5d(h:List Obj)(sp:y1a)(n sz:Nat):Prop:=sp=.exact \/ ∃ k,sp=.tok k/\At h k (.tok (n*sz) sz)
theorem y5d.app{h r:List Obj}{sp:y1a}{n sz:Nat}(R:y5d h sp n sz):y5d (h++r) sp n sz:=by
 rcases R with R | ⟨k,R,a⟩
 ·exact .inl R
 ·exact .inr ⟨k,R,a.app⟩
theorem zdn{h r:List Obj}{sp:y1a}{n sz:Nat}(R:y5d h sp n sz):y4o sp (h++r)=y4o sp h++r:=by
 rcases R with rfl | ⟨k,rfl,a⟩
 ·rfl
 ·exact z20 a.lt
theorem zol{h:List Obj}{sp:y1a}{j:Nat}{o:Obj}(a:At h j o)(hj:∀ k,sp=.tok k->k ≠ j):At (y4o sp h) j o:=by
 cases sp with
 |tok k=>exact a.ne (hj k rfl)
 |exact=>exact a
 |none=>exact a
theorem za2{hp:List Obj}{id t e sz:Nat}{sp sp':y1a}{els new:List D}(hk:(E.ty t).k=.slice e)(hs:(E.ty e).size=sz)(hl:y13 hp (E.ty e).size (E.ty e).ag (.imm sp' new)=some new)(hap:y33 E e els new)(R:y5d hp sp els.length sz) :
  y7i E hp id t t (.imm sp els) (.imm sp' new)=some (.imm (.tok id) (els++new),y23 (y4o sp hp) id (.tok ((els.length+new.length)*sz) sz)):=by
 rw[hs] at hl
 rcases R with rfl | ⟨k,rfl,a⟩
 ·rw[z1d]
  simp only[hk,hl,z7,hs]
  rw[if_pos hap]
  rfl
 ·rw[z1r]
  simp only[hk,hl,z7,hs]
  rw[if_pos hap,a.eq,zbg,z7,if_pos ⟨rfl,rfl⟩]
  rfl
theorem z6x{hp:List Obj}{sp:y1a}{sz:Nat}{ag:Bool}{els:List D}(h:∀ x,x ∈ els->x.storable=true/\x.cellsL.length=sz):y13 hp sz ag (.imm sp els)=some els:=by
 simp only[y13]
 rw[if_pos (by
  rw[ay]
  intro x hx
  rw[(h x hx).1,(h x hx).2];simp)]
theorem zc6{sz:Nat}{els:List D}(h:∀ x,x ∈ els->x.storable=true/\x.cellsL.length=sz):y2p sz els=true:=by
 unfold y2p
 rw[ay]
 intro x hx
 rw[(h x hx).1,(h x hx).2];simp
theorem zgx{l:List Ent}:∀ x,x ∈ l.map y2z->x.storable=true/\x.cellsL.length=3:=fun x hx=>by
 obtain⟨s,_,rfl⟩:=List.mem_map.1 hx
 exact⟨rfl,rfl⟩
theorem ztz{hp:List Obj}{id:Nat}{sp sp':y1a}{l m:List Ent}(hl:l.length+m.length<=10000000)(R:y5d hp sp l.length 3) :
  y7i E hp id 66 66 (.imm sp (l.map y2z)) (.imm sp' (m.map y2z))=some (.imm (.tok id) (l.map y2z++m.map y2z),y23 (y4o sp hp) id (.tok ((l.length+m.length)*3) 3)):=by
 have:=za2 (hp:=hp) (id:=id) (t:=66) (e:=72) (sz:=3) (sp:=sp) (sp':=sp') (els:=l.map y2z) (new:=m.map y2z) rfl rfl (z6x zgx) ⟨by
  rw[aA,aA,show(E.ty 72).bytes=24 from rfl];simp[yi];omega,by decide,rfl,zc6 zgx⟩ (by rw[aA];exact R)
 rw[aA,aA] at this
 exact this

end Dv

namespace Dv

def okT(x:Ent):Prop:=(1<=x.kind/\x.kind<=4)/\(-1<=x.idx/\x.idx<=4095)/\(-1099511627776<=x.amt/\x.amt<=1099511627776)/\x.amt ≠ 0
instance(x:Ent):Decidable (okT x):=inferInstanceAs (Decidable (_/\_))
end Dv

namespace Dv
attribute [local simp] af depth y53 y89 y3c y2q y88 y6c y34 y23 Ret
attribute [local congr] z2o z2s z24 z1n z18 z26 z16


section
variable{E:Env}{Q:Ex->List D->List Obj->Prop}{env:List D}{hp:List Obj}

end

def wi(n lo hi:Int):Prop:=lo<=n/\n<=hi
instance{n lo hi:Int}:Decidable (wi n lo hi):=inferInstanceAs (Decidable (_/\_))

def nd(c:List Int)(i:Int):Int:=(c[i.toNat]?).getD 0

end Dv
