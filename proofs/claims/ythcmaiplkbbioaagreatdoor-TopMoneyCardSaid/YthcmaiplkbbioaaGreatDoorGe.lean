/- Texts that a proof of this claim uses, joined: Lw.W251, Lw.W310, Lw.W311, Lw.W312, Lw.W120, Lw.W313, Lw.W314. -/
import Derived.Test.YthcmaiplkbbioaaGreatDoorGd
import Derived.Test.YthcmaiplkbbioaaGreatDoorGc
import Derived.Test.YthcmaiplkbbioaaGreatDoorGa
set_option linter.all false
open Bool renaming and_eq_true->ak
open Int renaming negSucc_eq->ai,toNat_natCast->bT
open List renaming cons_append->aG,getD_eq_getElem?_getD->af,getElem?_eq_getElem->ac,getElem_mem->av,length_append->ao,length_map->aF,map_congr_left->dU,map_cons->al,map_nil->aO,mem_append->aB,mem_cons->aA,mem_filter->eR,mem_flatMap->bB,mem_map->aL,not_mem_nil->fJ,replicate->ah,sum_cons->cH
open Nat renaming le_trans->aM
open Prod renaming ext->jA
set_option maxRecDepth 100000
set_option maxHeartbeats 16000000
namespace Dv
attribute [local simp] ah depth y1z y51 ya y15 y4p ye y2p y2e Ret
attribute [local congr] z1f z1g z16 z12 zx z17 zw
def yhj{l:List Pst}{k m:Int}{x:Ent}(h:x ∈ stE l k m):x.kind=k/\x.amt=y4q x.kind x.idx m l:=by unfold stE at h;obtain⟨a,ha,rfl⟩:=aL.1 h;have:=(eR.1 ha).2;exact⟨by simpa using this,rfl⟩
def ydj{l:List Pst}{k m:Int}:y3i (stE l k m)=(((y91 l).filter fun a=>decide (a.1=k)).map fun a=>y4q a.1 a.2 m l).sum:=by
 unfold stE;generalize (y91 l).filter _=L
 induction L with
 |nil=>rfl
 |cons a L ih=>simp only[al,y3i,cH,ih]
def yj1{l:List Pst}(v:vld tgB l)(hN:y4o l<=800)(k i m:Int) : -(1099511627776*800)<=y4q k i m l/\y4q k i m l<=1099511627776*800:=by
 have:=zuk (l:=l) (k:=k) (i:=i) (m:=m) fun p hp x hx=>(v.2.1 p hp).fm.ents.ok x hx
 omega
end Dv
namespace Dv
def y8h(k:Int):List Ent->Int
 |[]=>0
 |x::l=>(if x.kind=k then x.amt else 0)+y8h k l
def zj8{k:Int}(a b:List Ent):y8h k (a++b)=y8h k a+y8h k b:=by
 induction a with
 |nil=>simp[y8h]
 |cons x a ih=>simp only[aG,y8h,ih];omega
def zry{x:Ent}:∀{K:List Key},K.Nodup->y4x x ∈ K->(K.map fun a=>if x.kind=a.1/\x.idx=a.2 then x.amt else 0).sum=x.amt
 |[],_,h=>by simp at h
 |a::K,hn,h=>by
  obtain⟨h1,h2⟩:=List.nodup_cons.1 hn;simp only[al,cH]
  by_cases e:x.kind=a.1/\x.idx=a.2
  ·have e2:y4x x=a:=jA e.1 e.2;have z:∀(K:List Key),a ∉ K->(K.map fun a=>if x.kind=a.1/\x.idx=a.2 then x.amt else 0).sum=0:=by
    intro K
    induction K with
    |nil=>intro _;rfl
    |cons b K ih=>intro hb;simp only[aA,not_or]at hb;simp only[al,cH];rw[ih hb.2,if_neg fun e3=>hb.1 (by rw[<- e2];exact jA e3.1 e3.2)];rfl
   rw[z K h1,if_pos e];omega
  ·rw[if_neg e,zry h2 ((aA.1 h).resolve_left fun e3=>e (by rw[<- e3];exact⟨rfl,rfl⟩))];omega
def ydl{A:Type}:∀{K:List A},(K.map fun _=>(0:Int)).sum=0
 |[]=>rfl
 |_::K=>by simp only[al,cH,ydl (K:=K)];rfl
def zkf{A:Type}{f g:A->Int}:∀{K:List A},(K.map fun a=>f a+g a).sum=(K.map f).sum+(K.map g).sum
 |[]=>rfl
 |_::K=>by simp only[al,cH,zkf (K:=K)];omega
def z9v{k:Int}{K:List Key}(hK:K.Nodup):∀{L:List Ent},(∀ x,x ∈ L->x.kind=k->y4x x ∈ K)->((K.filter fun a=>decide (a.1=k)).map fun a=>yz a.1 a.2 L).sum=y8h k L
 |[],_=>by simp only[yz];exact ydl
 |x::L,h=>by
  simp only[yz,y8h];rw[zkf,z9v hK fun y hy=>h y (by simp[hy])]
  congr 1
  by_cases e:x.kind=k
  ·rw[if_pos e];exact zry (hK.filter _) (eR.2 ⟨h x (by simp) e,decide_eq_true e⟩)
  ·rw[if_neg e];have:((K.filter fun a=>decide (a.1=k)).map fun a=>if x.kind=a.1/\x.idx=a.2 then x.amt else 0)=(K.filter fun a=>decide (a.1=k)).map fun _=>0:=
    dU fun a ha=>by have:=(eR.1 ha).2;simp only[decide_eq_true_eq]at this;rw[if_neg fun e2=>e (e2.1.trans this)]
   rw[this,ydl]
def zh5{b:Key}{a:Key}{n:Int}{m:y3y}(h:b ∈ y1y m\/b=a):b ∈ y1y (ybu a n m):=by
 unfold ybu;rw[z9w]
 by_cases hm:a ∈ y1y m
 ·rw[if_pos hm];rcases h with h | rfl
  ·exact h
  ·exact hm
 ·rw[if_neg hm];rcases h with h | rfl
  ·simp[h]
  ·simp
def zjc{b:Key}:∀{l:List Ent} {m:y3y},b ∈ y1y m\/b ∈ l.map y4x->b ∈ y1y (y1f l m)
 |[],m,h=>by simpa[y1f]using h
 |x::l,m,h=>by
  rw[z4s];refine zjc (l:=l) ?_;rcases h with h | h
  ·exact .inl (zh5 (.inl h))
  ·rw[al]at h;rcases aA.1 h with h | h
   ·exact .inl (zh5 (.inr h))
   ·exact .inr h
def zrw{k:Int}{L:List Ent}:y8h k (y5l L)=y8h k L:=by
 have hK:(y1y (y1f L [])).Nodup:=z2b (by simp[y1y])
 have m1:∀ x,x ∈ L->x.kind=k->y4x x ∈ y1y (y1f L []):=fun x hx _=>zjc (.inr (List.mem_map_of_mem hx))
 have m2:∀ x,x ∈ y5l L->x.kind=k->y4x x ∈ y1y (y1f L []):=fun x hx _=>zjc (.inr (zr9 hx))
 rw[<- z9v hK m1,<- z9v hK m2];simp only[z8g]
def yg9{L:List Ent}{x:Ent}(h:x ∈ y5l L):yz x.kind x.idx L=x.amt:=by have e:=(z8u h).2;rw[<- z8g];unfold y5l;rw[zmc (z2b (by simp[y1y])),e];rfl
def yep{k:Int}{K:List Key}(hK:K.Nodup){L:List Ent}(h:∀ a:Key,a.1=k->yz a.1 a.2 L ≠ 0->a ∈ K):((K.filter fun a=>decide (a.1=k)).map fun a=>yz a.1 a.2 L).sum=y8h k L:=by
 rw[<- zrw,<- z9v hK fun x hx hk=>h (y4x x) hk (by
  show yz x.kind x.idx L ≠ 0
  rw[yg9 hx];exact zd4 x hx)]
 simp only[z8g]
def yi4{l:List Pst}{k m:Int}{L:List Ent}(h:∀ i,y4q k i m l=yz k i L):y3i (stE l k m)=y8h k L:=by
 rw[ydj,<- yep (zp8 l) (k:=k) (L:=L) fun a ha hn=>Classical.byContradiction fun hm=>hn (by
  have:=zuy (i:=a.2) (k:=a.1) (m:=m) hm;rw[ha]at this ⊢;rw[<- h,this])]
 congr 1;refine dU fun a ha=>?_
 have:=(eR.1 ha).2;simp only[decide_eq_true_eq]at this;rw[this,h]
def zrx{p:yj}{c:List Int}{n k:Int}(hk:1<=k/\k<=4):∀{l:List y43},y8h k (y6i p c n (l.map shB))=if k<=2 then mnS (fun _=>true) l else -mnS (fun _=>true) l
 |[]=>by simp[y6i,y8h,mnS]
 |s::l=>by
  have ih:=zrx (p:=p) (c:=c) (n:=n) hk (l:=l);unfold y6i at ih ⊢;rw[al,List.flatMap_cons,zj8,ih];simp only[mnS,bk4,shB,y8h];have h4:k=1\/k=2\/k=3\/k=4:=by omega
  rcases h4 with rfl | rfl | rfl | rfl <;> simp <;> omega
def zmz{p:yj}{c:List y2b}(ok:OkP p)(C:OkC p c)(S:y19 p):mnS (fun _=>true) (y33 p c)=dlS (y6r p) p.vars.length:=by
 rw[zj0 fun s hs=>⟨(z9p ok C S s hs).2.2.1,(z9p ok C S s hs).2.2.2.1⟩]
 unfold dlS;refine zfv fun i hi=>?_
 rw[zcv ok C S hi,if_pos rfl]
structure GdE(B:Int)(N:Nat)(t:List Ent):Prop where
 ok:∀ x,x ∈ t->(1<=x.kind/\x.kind<=4)/\(-1<=x.idx/\x.idx<=4095)/\(-B<=x.amt/\x.amt<=B)
 len:t.length<=N
 sum:y3i t=0
def GdE.net{B:Int}{N:Nat}{t:List Ent}(h:GdE B N t)(hB:0<=B)(h2:B*N<=1099511627776):GdE (B*N) N (y5l t):=by
 have hl:B*t.length<=B*N:=Int.mul_le_mul_of_nonneg_left (by have:=h.len;omega) hB
 refine⟨fun x hx=>?_,aM zra h.len,by rw[yec];exact h.sum⟩
 have h3:=yhw (fun y hy=>(h.ok y hy).2.2) hB hx
 obtain⟨y,hy,e⟩:=aL.1 (zr9 hx);have h4:=h.ok y hy;have e1:y.kind=x.kind:=congrArg Prod.fst e;have e2:y.idx=x.idx:=congrArg Prod.snd e;rw[e1,e2]at h4;exact⟨h4.1,h4.2.1,by omega⟩
def GdE.append{B:Int}{N M:Nat}{a b:List Ent}(h:GdE B N a)(g:GdE B M b):GdE B (N+M) (a++b):=
 ⟨fun x hx=>(aB.1 hx).elim (h.ok x) (g.ok x),by rw[ao];exact Nat.add_le_add h.len g.len,by rw[z4t,h.sum,g.sum];rfl⟩
def GdE.neg{B:Int}{N:Nat}{t:List Ent}(h:GdE B N t):GdE B N (y5w t):=by
 refine⟨fun x hx=>?_,by rw[zet];exact h.len,by rw[zkk,h.sum];rfl⟩
 obtain⟨y,hy,rfl⟩:=aL.1 hx;have:=h.ok y hy;simp only[yc2];exact⟨this.1,this.2.1,by omega⟩
def GdE.low{B:Int}{N:Nat}{t:List Ent}(h:GdE B N t):low t=t:=
 List.filter_eq_self.2 fun x hx=>by simpa using(h.ok x hx).1.2
def GdE.up{B:Int}{N M:Nat}{t:List Ent}(h:GdE B N t)(h2:N<=M):GdE B M t:=⟨h.ok,aM h.len h2,h.sum⟩
def GdE.mono{B C:Int}{N:Nat}{t:List Ent}(h:GdE B N t)(h2:B<=C):GdE C N t:=⟨fun x hx=>by have:=h.ok x hx;exact⟨this.1,this.2.1,by omega⟩,h.len,h.sum⟩
def zzt{l:List Pst}{m:Int}{t:List Ent}(v:vld tgB l)(hl:l.length<=10)(hm:∀ p,p ∈ l->p.minute<=m)(h0:0<=m)(h1:m<1440)
  (gt:GdE 134217728 200 t) (hn:∀ x,x ∈ t->x.amt ≠ 0) (ho:y4j t) (gl:GdE 134217728 400 (y41 l)):Bok tgB l m t/\GdE 80530636800 600 (bkN l t):=by
 have gb:GdE 80530636800 600 (bkN l t):=by unfold bkN;rw[gl.low];exact(gt.append gl.neg).net (by omega) (by omega)
 refine⟨⟨v,⟨fun x hx=>?_,zgf.1 ho⟩,fun hne=>?_⟩,gb⟩
 ·have:=gt.ok x hx;exact⟨this.1,this.2.1,by omega,hn x hx⟩
 rw[zgs v (by omega) fun q hq=>hm q (List.mem_of_getLast? hq)]
 refine z4j.2 ⟨⟨?_,⟨h0,h1⟩,?_,?_⟩,gb.sum⟩
 ·simp only[y8a];omega
 ·simp only[y8a,bkS];omega
 ·refine⟨?_,by have:=gb.len;show(bkN l t).length<=4096;omega,fun x hx=>?_,zgf.1 zes⟩
  ·show 2<=(bkN l t).length
   have hs:=gb.sum;have hz:=zd4 (l:=t++y5w (low (y41 l)));show 2<=(y5l (t++y5w (low (y41 l)))).length
   unfold bkN at hs hne;generalize y5l (t++y5w (low (y41 l)))=X at *
   match X with
   |[]=>exact absurd rfl hne
   |[x]=>exact absurd (by simpa[y3i]using hs) (hz x (by simp))
   |_::_::_=>simp
  ·have h2:=gb.ok x hx;have h3:x.amt ≠ 0:=zd4 x hx;exact⟨by omega,h2.2.1,h3,by omega,by omega⟩
def zso{p:yj}{as:List Int}{k:Int}{bs:List Bkg}(h:enE p as k bs=0)(hl:bs.length<=30):GdE 1048576 120 (y6i p as k bs):=by
 have F:=zxl h;refine⟨fun x hx=>⟨?_,?_,F.2 x hx⟩,by rw[zk1];omega,?_⟩
 all_goals skip
 ·obtain⟨b,_,hx⟩:=bB.1 hx;unfold bk4 at hx;simp at hx;rcases hx with rfl | rfl | rfl | rfl <;> simp
 ·unfold enE at h;split at h
  ·rename_i h1;exact absurd h h1
  ·split at h
   ·rename_i h2;unfold y6d at h2;simp only[ak,decide_eq_true_eq,List.all_eq_true]at h2;obtain⟨a0,a1,a2,_,a3⟩:=h2;obtain⟨b,hb,hx⟩:=bB.1 hx;have h5:=a3 b hb;unfold ya4 at h5;simp only[ak]at h5;obtain⟨b1,b2,b3,_⟩:=h5;rw[z8b]at a2 b1 b2 b3;have hc:0<=nd as b.var/\nd as b.var<=7:=by
     have hlt:b.var.toNat<as.length:=by omega
     unfold nd;rw[ac hlt];exact z8b.1 (a1 _ (av hlt))
    unfold bk4 at hx;simp at hx;rcases hx with rfl | rfl | rfl | rfl <;> simp <;> omega
   ·cases h
 ·exact zu7
def ydu{p:yj}{c:List y2b}(ok:OkP p)(C:OkC p c)(S:y19 p)(h4:c.length<=4):((y33 p c).map shB).length<=30:=by
 have h3:=zih (m:=p.vars.length) (l:=y3z p c) (k:=0) (b:=ah p.vars.length 0) (fun x hx=>by
  obtain⟨j,_,rfl⟩:=aL.1 hx;rw[z6k (z2j ok C S) (z4p ok C)];exact Nat.le_refl _)
 have hl:(y3z p c).length=c.length+1:=by simp[y3z]
 have h5:(y3z p c).length*p.vars.length<=5*6:=Nat.mul_le_mul (by omega) S.vars
 rw[aF];unfold y33;omega
def zhy{l:List Pst}{m:Int}{t:List Ent}(b:Bok tgB l m t):y41 (boL tgB l m t)=y41 l++bkN l t:=by
 rw[zc0 b];split
 ·rename_i h;rw[h,List.append_nil]
 ·rw[zc7];congr 1;simp[y41,y8a,bkS]
def zl5{l:List Pst}{m:Int}{t:List Ent}(b:Bok tgB l m t)(h:∀ p,p ∈ l->p.minute<=m):∀ p,p ∈ boL tgB l m t->p.minute<=m:=by
 rw[zc0 b];split
 ·exact h
 ·intro p hp;rcases aB.1 hp with hp | hp
  ·exact h p hp
  ·simp only[List.mem_singleton]at hp;subst hp;exact Int.le_refl _
structure Owe(l:List Pst)(m:Int)(L:List Ent):Prop where
 v:vld tgB l
 len:l.length<=2
 n:y4o l<=800
 bal:∀ k i,k<=4->y4q k i m l=yz k i L
def zfx{a b:Int}{X Y:List Ent}(h0:0<=a)(h1:a<b)(h2:b<1440)
  (gx:GdE 134217728 120 X) (nx:∀ x,x ∈ X->x.amt ≠ 0) (ox:y4j X) (gy:GdE 134217728 120 Y) (ny:∀ x,x ∈ Y->x.amt ≠ 0) (oy:y4j Y) :
  Bok tgB [] a X/\Bok tgB (boL tgB [] a X) b Y/\(∀ w,a<=w->w<b->Owe (boL tgB (boL tgB [] a X) b Y) w X)/\Owe (boL tgB (boL tgB [] a X) b Y) b Y/\(boL tgB [] a X).length<=1/\y4o (boL tgB [] a X)<=120:=by
 have g0:GdE 134217728 400 (y41 []):=⟨by simp[y41],by simp[y41],rfl⟩
 obtain⟨b1,q1⟩:=zzt yd7 (by simp) (by simp) h0 (by omega) (gx.up (by omega)) nx ox g0
 have eX:bkN [] X=X:=by
  unfold bkN;have:X++y5w (low (y41 []))=X:=by simp[y41,low,y5w]
  rw[this];exact zl3 ox nx fun _ _=>rfl
 have a1:=zhy b1;rw[eX,show y41 []++X=X from rfl]at a1
 have g1:GdE 134217728 400 (y41 (boL tgB [] a X)):=by rw[a1];exact gx.up (by omega)
 have m1:=zl5 b1 (by simp)
 have n1:=b1.len;obtain⟨b2,q2⟩:=zzt b1.vld (by have:=n1.2.1;simp at this;omega) (fun p hp=>by have:=m1 p hp;omega) (by omega) h2 (gy.up (by omega)) ny oy g1
 have a2:=zhy b2;have m2:=zl5 b2 (fun p hp=>by have:=m1 p hp;omega)
 have n2:=b2.len;have hl1:(boL tgB [] a X).length<=1:=by have:=n1.2.1;simpa using this
 have hl2:(boL tgB (boL tgB [] a X) b Y).length<=2:=by have:=n2.2.1;omega
 have hN:y4o (boL tgB (boL tgB [] a X) b Y)<=800:=by rw[<- z8a,a2,ao,a1];have:=gx.len;have:=q2.len;omega
 refine⟨b1,b2,fun w hw hw2=>⟨b2.vld,hl2,hN,fun k i hk=>?_⟩,⟨b2.vld,hl2,hN,fun k i hk=>?_⟩,hl1,?_⟩
 ·rw[b2.before hw2,zfj fun p hp=>by have:=m1 p hp;omega,a1]
 ·rw[zfj m2,b2.all,if_pos hk]
 ·rw[<- z8a,a1];exact gx.len
end Dv
namespace Dv
attribute [local simp] ah depth y1z y51 ya y15 y4p ye y2p y2e Ret
attribute [local congr] z1f z1g z16 z12 zx z17 zw
def kL:List Int:=[1,2,3,4]
def yi5{i:Nat}(h:i<kL.length):kL[i]=(i:Int)+1:=by
 have:kL.length=4:=rfl
 match i,h with
 | 0,_=>rfl
 | 1,_=>rfl
 | 2,_=>rfl
 | 3,_=>rfl
def r426(p:yj)(S:y19 p)(ok:OkP p)(l:List Pst)(m:Int)(L:List Ent)(hok:y9t l)(O:Owe l m L)
  (hF:∀ F,yz 2 F L=flS p (y6r p) F p.vars.length)
  (hK:∀ k,1<=k->k<=4->y8h k L=if k<=2 then dlS (y6r p) p.vars.length else -dlS (y6r p) p.vars.length) :
  yu E (dL E) 426 [ye p,y1t l,dI m]=some (.bool true):=by
 refine zg c426 (by simp) ?_
 conv in t426=>reduce;dsimp[ai]
 have h131:=r131 p S;unfold y5k at h131;rw[if_pos (by simp[ck,ok])]at h131
 obtain⟨w,_,_⟩:=z69 S ok;obtain⟨Bs,hBs⟩:∃ Bs,Bs=(y2q p).best:=⟨_,rfl⟩;have hD:y6r p=(p.vars.zip Bs).map fun x=>(x.1.choices.getD x.2.toNat ⟨0,0,0,[]⟩).delay:=by rw[hBs];rfl
 rw[<- hBs]at w;have hbl:Bs.length=p.vars.length:=w.2.2;have hDl:=z6k S ok;have hdb:=ztk ok;have s3:=S.vars;obtain⟨Ct,hC⟩:∃ Ct,Ct=y99 (y2q p):=⟨_,rfl⟩;have hCb:Ct.best=Bs:=by rw[hC,hBs];rfl
 rw[<- hC]at h131;obtain⟨CC,hCC⟩:∃ CC,CC=(D.imm .none (Ct.leaves.map y3u)):=⟨_,rfl⟩;obtain⟨CV,hCV⟩:∃ CV,CV=ya Ct.value:=⟨_,rfl⟩;simp only[y7y,hCb]at h131;rw[<- hCC,<- hCV]at h131;have hst:(ya Bs).storable=true:=rfl;obtain⟨d,hDL⟩:∃ d,d=y6r p:=⟨_,rfl⟩;rw[<- hDL]at hD hDl hdb hF hK;have hDi:∀ i (h1:i<Bs.length) (hv:i<p.vars.length) (hd:i<d.length),∃ b:Nat,Bs[i]=b /\ ∃ hn:b<p.vars[i].choices.length,d[i]=(p.vars[i].choices[b]).delay:=fun i h1 hv hd=>by
  have hw:=w.2.1.each i h1 hv;unfold wi at hw;obtain⟨b,hb⟩:∃ b:Nat,Bs[i]=b:=⟨Bs[i].toNat,by omega⟩
  have hn:b<p.vars[i].choices.length:=by omega
  refine⟨b,hb,hn,?_⟩;simp only[hD,List.getElem_map,List.getElem_zip];rw[af,hb,bT,ac hn,Option.getD_some]
 have nv:∀ j (hj:j<p.vars.length),nvA p j=p.vars[j].a:=fun j hj=>by unfold nvA;rw[bT,ac hj];rfl
 have dg:∀ j (hj:j<d.length),d.getD j 0=d[j]:=fun j hj=>by rw[af,ac hj];rfl
 have db:∀ j,0<=d.getD j 0/\d.getD j 0<=1000000000:=fun j=>by
  by_cases hj:j<d.length
  ·rw[dg j hj];exact hdb _ (av hj)
  ·rw[af,List.getElem?_eq_none (by omega)];simp
 have bl:∀ n,n<=6 -> -6000000000<=dlS d n/\dlS d n<=6000000000:=fun n hn=>by
  have:=zpu (M:=1000000000) (n:=n) (f:=fun i=>d.getD i 0) fun i _=>by have:=db i;omega
  unfold dlS;omega
 have bf:∀ F n,n<=6 -> -6000000000<=flS p d F n/\flS p d F n<=6000000000:=fun F n hn=>by
  have:=zpu (M:=1000000000) (n:=n) (f:=fun i=>if nvA p i=F then d.getD i 0 else 0) fun i _=>by have:=db i;split <;> omega
  unfold flS;omega
 have v0:=z27.2 O.v;have hN:=O.n;have e318:∀ F,yu E (dL E) 318 [y1t l,y3g 2 F,dI m]=some (.tup [dI (flS p d F p.vars.length),dI 0]):=fun F=>by
  have:=yjn l hok (by omega) 2 F m
  unfold blD at this;rw[v0,if_pos rfl,O.bal 2 F (by omega),hF]at this
  exact this
 have e352:∀ k:Int,1<=k->k<=4->yu E (dL E) 352 [y1t l,dI k,dI m]=some (.tup [.imm .none ((stE l k m).map y2v),dI 0]):=fun k h1 h2=>by
  have:=r352 l hok (by omega) k m
  have hX:stX l k=0:=by unfold stX;rw[if_neg (by simp[v0]),if_pos (z8b.2 ⟨by omega,by omega⟩)]
  unfold stD at this;rw[hX,if_pos rfl]at this;exact this
 have hst2:∀ k:Int,1<=k->k<=4->y3i (stE l k m)=if k<=2 then dlS d p.vars.length else -dlS d p.vars.length:=fun k h1 h2=>by rw[yi4 fun i=>O.bal k i (by omega)];exact hK k h1 h2
 have hsb:∀(k:Int) x,x ∈ stE l k m -> -(1099511627776*800)<=x.amt/\x.amt<=1099511627776*800:=fun k x hx=>by rw[(yhj hx).2];exact yj1 O.v hN _ _ _
 have hsl:∀ k:Int,(stE l k m).length<=800:=fun k=>by
  have h1:=zmj (l:=l);have h2:(stE l k m).length<=(y91 l).length:=by unfold stE;rw[aF];exact List.length_filter_le ..
  omega
 have aC:CC.atom=true:=by rw[hCC];rfl
 have aV:CV.atom=true:=by rw[hCV];rfl
 clear hBs hC hD hDL hF hK hCC hCV hdb;simp only[ye,ya]at h131;simp[t426,n426,h131,aC,aV,hbl];refine zo p.vars.length (fun i env h=>∃(x9 x10 x11 x12 x13 x14 x15 x16 x17 x18 x19 x20 x21 x22 x23 x24 x25 x26 x27 x28 x29 x30 x31:D) ,env=[ye p,y1t l,dI m,.iptr (ye p).cellsL,.bool false,.loc 0 0,dI 0,dI (dlS d i),dI i,x9,x10,x11,x12,x13,x14,x15,x16,x17,x18,x19,x20,x21,x22,x23,x24,x25,x26,x27,x28,x29,x30,x31]/\At h 0 (.cells [ya Bs,CV,CC])) 0 (by omega) ⟨_,_,_,_,_,_,_,_,_,_,_,_,_,_,_,_,_,_,_,_,_,_,_,rfl,rfl⟩ ?_
 rintro i env h hi ⟨x9,x10,x11,x12,x13,x14,x15,x16,x17,x18,x19,x20,x21,x22,x23,x24,x25,x26,x27,x28,x29,x30,x31,rfl,g0⟩
 by_cases hlt:i<p.vars.length
 ·have hup:=ze hlt (by omega)
  simp[hlt];refine zo p.vars.length (fun kk env h=>∃(x11 x12 x13 x14 x15 x16 x17 x18 x19 x20 x21 x22 x23 x24 x25 x26 x27 x28 x29 x30 x31:D) ,env=[ye p,y1t l,dI m,.iptr (ye p).cellsL,.bool false,.loc 0 0,dI 0,dI (dlS d i),dI i,dI (flS p d p.vars[i].a kk),dI kk,x11,x12,x13,x14,x15,x16,x17,x18,x19,x20,x21,x22,x23,x24,x25,x26,x27,x28,x29,x30,x31]/\At h 0 (.cells [ya Bs,CV,CC])) 0 (by omega) ⟨_,_,_,_,_,_,_,_,_,_,_,_,_,_,_,_,_,_,_,_,_,rfl,g0⟩ ?_
  clear h g0 x9 x10 x11 x12 x13 x14 x15 x16 x17 x18 x19 x20 x21 x22 x23 x24 x25 x26 x27 x28 x29 x30 x31;rintro kk env h hkk ⟨x11,x12,x13,x14,x15,x16,x17,x18,x19,x20,x21,x22,x23,x24,x25,x26,x27,x28,x29,x30,x31,rfl,g0⟩
  by_cases hlk:kk<p.vars.length
  ·have hupk:=ze hlk (by omega)
   have hs:=ymi (p:=p) (d:=d) (F:=p.vars[i].a) (n:=kk);have hlkd:kk<d.length:=by omega
   have hlkb:kk<Bs.length:=by omega
   rw[nv kk hlk,dg kk hlkd]at hs;have hb:=bf p.vars[i].a (kk+1) (by omega)
   obtain⟨b,q1,q2,q3⟩:=hDi kk hlkb hlk hlkd
   by_cases he:p.vars[kk].a=p.vars[i].a
   ·rw[if_pos he]at hs;have hw:=za (n:=flS p d p.vars[i].a kk+d[kk]) ⟨by omega,by omega⟩
    rw[q3]at hw hs;simp[hlt,hlk,hupk,he,hlkb,hw,hs,q1,q2,g0.eq,↓g0.appE];exact g0.app
   ·rw[if_neg he]at hs;simp[hlt,hlk,hupk,he,hs];exact g0.app
  have:kk=p.vars.length:=by omega
  subst this;have hs:=ymo (d:=d) (n:=i);have hltd:i<d.length:=by omega
  have hltb:i<Bs.length:=by omega
  rw[dg i hltd]at hs;have hb:=bl (i+1) (by omega)
  have hw:=za (n:=dlS d i+d[i]) ⟨by omega,by omega⟩
  have e318:=e318 p.vars[i].a;obtain⟨b,q1,q2,q3⟩:=hDi i hltb hlt hltd;rw[q3]at hw hs;simp[hlt,hltb,hup,hw,hs,q1,q2,g0.eq,↓g0.appE,zl,e318];exact g0.app
 have:i=p.vars.length:=by omega
 subst this;clear e318 hDi;simp;refine zo kL.length (fun i env h=>∃(x8 x9 x10 x11 x12 x15 x16 x17 x18 x19 x20 x21 x22 x23 x24 x25 x26 x27 x28 x29 x30 x31:D) ,env=[ye p,y1t l,dI m,.iptr (ye p).cellsL,.bool false,.loc 0 0,dI 0,dI (dlS d p.vars.length),x8,x9,x10,x11,x12,.imm .exact (kL.map dI),dI i,x15,x16,x17,x18,x19,x20,x21,x22,x23,x24,x25,x26,x27,x28,x29,x30,x31]) 0 (by omega) ⟨_,_,_,_,_,_,_,_,_,_,_,_,_,_,_,_,_,_,_,_,_,_,rfl⟩ ?_
 clear h g0 hi x9 x10 x11 x12 x13 x14 x15 x16 x17 x18 x19 x20 x21 x22 x23 x24 x25 x26 x27 x28 x29 x30 x31;rintro i env h hi ⟨x8,x9,x10,x11,x12,x15,x16,x17,x18,x19,x20,x21,x22,x23,x24,x25,x26,x27,x28,x29,x30,x31,rfl⟩;have kl4:kL.length=4:=rfl
 by_cases hlt:i<kL.length
 rotate_left
 ·simp[hlt]
 have hup:=ze hlt (by omega)
 obtain⟨k,hk⟩:∃ k,k=kL[i]:=⟨_,rfl⟩;have hk2:=hk;rw[yi5 hlt]at hk2;have e352:=e352 k (by omega) (by omega)
 have hst2:=hst2 k (by omega) (by omega)
 have hsb:=hsb k;have hsl:=hsl k;obtain⟨X,hX⟩:∃ X,X=stE l k m:=⟨_,rfl⟩;rw[<- hX]at e352 hst2 hsb hsl;simp[hlt,<- hk,zl,e352];refine zo X.length (fun j env h=>∃(x8 x9 x10 x11 x12 x19 x20 x21 x22 x23 x24 x25 x26 x27 x28 x29 x30 x31:D) ,env=[ye p,y1t l,dI m,.iptr (ye p).cellsL,.bool false,.loc 0 0,dI 0,dI (dlS d p.vars.length),x8,x9,x10,x11,x12,.imm .exact (kL.map dI),dI i,.imm .none (X.map y2v),dI 0,dI (y3i (X.take j)),dI j,x19,x20,x21,x22,x23,x24,x25,x26,x27,x28,x29,x30,x31]) 0 (by omega) ⟨_,_,_,_,_,_,_,_,_,_,_,_,_,_,_,_,_,_,rfl⟩ ?_
 clear h x8 x9 x10 x11 x12 x15 x16 x17 x18 x19 x20 x21 x22 x23 x24 x25 x26 x27 x28 x29 x30 x31;rintro j env h hj ⟨x8,x9,x10,x11,x12,x19,x20,x21,x22,x23,x24,x25,x26,x27,x28,x29,x30,x31,rfl⟩
 by_cases hltj:j<X.length
 ·have hupj:=ze hltj (by omega)
  have ht:y3i (X.take (j+1))=y3i (X.take j)+X[j].amt:=by rw[List.take_succ_eq_append_getElem hltj,z4t];simp[y3i]
  have hb:=zq5 (M:=1099511627776*800) (l:=X.take (j+1)) fun x hx=>hsb x (List.mem_of_mem_take hx)
  rw[ht,List.length_take]at hb;have hw:=za (n:=y3i (X.take j)+X[j].amt) ⟨by omega,by omega⟩
  rw[<- ht]at hw;rw[ht]at hw ⊢;simp[hltj,hupj,hw]
 have:j=X.length:=by omega
 subst this;rw[List.take_length,hst2];have hb:=bl p.vars.length (by omega)
 have hw:=za (n:=-dlS d p.vars.length) ⟨by omega,by omega⟩
 by_cases k2:k<=2
 ·have k3 : ¬ k=3:=by omega
  have k4 : ¬ k=4:=by omega
  rw[if_pos k2];simp[hlt,<- hk,k3,k4,hup]
 ·rw[if_neg k2]
  by_cases k3:k=3
  ·simp[hlt,<- hk,k3,hw,hup]
  ·have k4:k=4:=by omega
   simp[hlt,<- hk,k3,k4,hw,hup]
def cM:Cell:=⟨false,0,5⟩
def pM:yj:=⟨[cM],[[0]],[⟨4,0,[0],[⟨0,0,0,[⟨cM,1⟩]⟩,⟨10,10,0,[]⟩]⟩]⟩
def qM:yj:=⟨[cM],[[1]],[⟨4,0,[0],[⟨0,0,0,[⟨cM,1⟩]⟩,⟨10,10,0,[]⟩]⟩]⟩
def sM:List y2b:=[⟨0,[[1]]⟩]
def eM:List Ent:=[⟨1,2,10⟩,⟨2,4,10⟩,⟨3,0,-10⟩,⟨4,0,-10⟩]
def upM{k:Nat}{a:List D}{r:D}{n:Nat}(h:yu E (dC E n) k a=some r):yu E (dL E) k a=some r:=z5o (fun _ _ _ h=>z5e _ _ _ h) h
def ymm:yu E (dL E) 184 [ye pM]=some (.tup [ya [10],dI 0]):=upM (n:=200) (by kernel_rfl)
def yml:yu E (dL E) 184 [ye qM]=some (.tup [ya [0],dI 0]):=upM (n:=200) (by kernel_rfl)
def ymn:yu E (dL E) 181 [ye pM,.imm .none (sM.map y1h)]=some (dI 0):=upM (n:=100) (by kernel_rfl)
def smM:y19 pM:=⟨by decide,by decide,by decide,by decide,by decide,by decide,by decide⟩
def smCM:SmC sM:=⟨by decide,by decide,by decide⟩
def ycw:y46 pM sM 0=qM:=rfl
def yfk{a b:Int}(h:some (dI a)=some (dI b)):a=b:=by injection h with h;injection h
def zs8{a b:List Int}{x y:D}(h:some (D.tup [ya a,x])=some (D.tup [ya b,y])):a=b:=by injection h with h;injection h with h;injection h with h _;injection h with _ h;exact List.map_inj_right (fun _ _ h=>by injection h) |>.1 h
def ztj{p:yj}{l:List Int}(S:y19 p)(h:yu E (dL E) 184 [ye p]=some (.tup [ya l,dI 0]))(h0:OkP p):y6r p=l:=by
 rw[r184 p S]at h;unfold y9j at h;rw[if_pos (by simp[ck,h0])]at h
 exact zs8 h
def yio:yu E (dL E) 180 [ye pM,.imm .none (sM.map y1h)]=some (.tup [.imm .none [y36 ⟨0,0,10⟩],dI 0])/\OkP pM:=by
 have h0:ckC pM sM=0:=yfk ((r181 pM sM smM smCM).symm.trans ymn);obtain⟨ok,C⟩:=zdo h0;have d0:=ztj (by rw[<- ycw];exact z2j ok C smM) yml (by rw[<- ycw];exact z4p ok C)
 have d1:=ztj smM ymm ok;have w1:y46 pM sM 1=pM:=zfr (by decide)
 refine⟨?_,ok⟩;rw[yly pM sM smM smCM,yap,if_pos h0];have:y33 pM sM=[⟨0,0,10⟩]:=by
  have hs:y3z pM sM=[[0],[10]]:=by
   unfold y3z;rw[show sM.length+1=2 from rfl]
   simp only[List.range_succ,List.range_zero,List.nil_append,aG,al,aO,ycw,w1,d0,d1]
  unfold y33;rw[hs];rfl
 rw[this];rfl
def zth:y4j eM:=by unfold y4j;decide
def yin:∀ e,e ∈ eM->e.amt ≠ 0:=by intro e he;simp only[eM,aA,fJ,or_false]at he;rcases he with rfl | rfl | rfl | rfl <;> decide
def ymk:GdE 134217728 120 eM:=by
 refine⟨fun x hx=>?_,by decide,by decide⟩
 simp only[eM,aA,fJ,or_false]at hx;rcases hx with rfl | rfl | rfl | rfl <;> simp
def enDM:enD pM [2] 0 [⟨0,0,10⟩]=.tup [.imm .none (eM.map y2v),dI 0]:=by
 have h1:y6d pM [2] 0 [⟨0,0,10⟩]=true:=by decide
 have h0:ck pM=0:=by simp[ck,yio.2]
 have h2:enE pM [2] 0 [⟨0,0,10⟩]=0:=by unfold enE;rw[h0,h1];rfl
 have h3:y6i pM [2] 0 [⟨0,0,10⟩]=eM:=rfl;unfold enD;rw[h2,h3,zl3 zth yin fun _ _=>rfl]
 rfl
def zm9{l:List Pst}{m:Int}{t:List Ent}(b:Bok tgB l m t):boD l m t=.tup [y1t (boL tgB l m t),dI 0]:=by unfold boD;rw[zfg.2 b]
def zzv{l:List Pst}{m:Int}{L:List Ent}(O:Owe l m L){k i:Int}(hk:k<=4):blD l k i m=.tup [dI (yz k i L),dI 0]:=by unfold blD;rw[z27.2 O.v,if_pos rfl,O.bal k i hk]
def r425:yu E (dL E) 425 []=some (.bool true):=by
 obtain⟨b1,b2,O1,O2,l1,n1⟩:=zfx (a:=100) (b:=200) (X:=eM) (Y:=[]) (by decide) (by decide) (by decide) ymk yin zth ⟨by simp,by simp,rfl⟩ (by simp) (by simp[y4j])
 have O1:=O1 150 (by decide) (by decide)
 have a0:=yio.1;have a1:=ylv pM smM [2] (by decide) 0 [⟨0,0,10⟩] (by decide)
 rw[enDM]at a1;obtain⟨ok1,_,_⟩:=zy3 (m:=100) (t:=eM) okn (by decide) (by decide)
 have c1:=yjl [] 100 eM okn (by decide)
 have c2:=yjl (boL tgB [] 100 eM) 200 [] ok1 (by simp;omega)
 obtain⟨ok2,_,_⟩:=zy3 (m:=200) (t:=[]) ok1 (by omega) (by simp;omega)
 rw[zm9 b1]at c1;rw[zm9 b2]at c2;have hN:=O2.n;have f1:=yjn _ ok2 (by omega) 2 4 150
 have f2:=yjn _ ok2 (by omega) 2 4 200
 rw[zzv O1 (by decide),show yz 2 4 eM=10 from rfl]at f1
 rw[zzv O2 (by decide),show yz 2 4 []=0 from rfl]at f2
 clear O1 O2 b1 b2 ok2 hN;generalize boL tgB (boL tgB [] 100 eM) 200 []=l2 at *
 generalize boL tgB [] 100 eM=l1 at *
 simp only[y1t,al,aO,eM,ye,pM,cM,sM,ya,y1z,y4p,y15,yis,y51,y1h,y36]at a0 a1 c1 c2 f1 f2;refine zg c425 (by simp) ?_
 conv in t425=>reduce;dsimp[ai]
 simp[t425,n425,a0,a1,c1,c2,f1,f2,zl,y18]
def zvb{x:D}(h:y5e E 39 x):∃ c,x=y1h c/\True:=by
 obtain⟨ds,rfl,h1⟩:=z4d h rfl;obtain⟨hl,hf⟩:=z4e h1 (fs:=[(0,2),(1,9)]) rfl;have hl2:ds.length=2:=hl
 match ds,hl2 with
 |[x,y],_=>
  obtain⟨n,h2,_⟩:=z5l (hf 0 _ rfl) rfl;obtain⟨els,h3,_,h4⟩:=z3y (hf 1 _ rfl) (e:=6) rfl;simp[E,y4i]at h2 h3;subst h2 h3;obtain⟨l,rfl,_⟩:=z56 (f:=ya) (R:=fun _=>True) (els:=els) fun x hx=>by obtain⟨l,h5,_⟩:=ze5 (z4c (h4 x hx) rfl) rfl;simp at h5;exact⟨l,h5,trivial⟩
  exact⟨⟨n,l⟩,rfl,trivial⟩
def zfw{x:D}(h:y5e E 38 x):∃ c:List y2b,x=.imm .none (c.map y1h)/\c.length<=9223372036854775807:=by
 obtain⟨els,h3,hl,he⟩:=z3y (e:=39) (z4c h rfl) rfl;simp only[List.cons.injEq,and_true]at h3;obtain⟨c,h4,_⟩:=z56 (f:=y1h) (R:=fun _=>True) (els:=els) fun y hy=>zvb (he y hy)
 subst h4;have:Go.maxLen<=9223372036854775807:=by decide
 exact⟨c,h3,by simp at hl;omega⟩
noncomputable def y8u(p:yj)(c:List y2b):List y43:=if ckC p c=0 then y33 p c else[]
def ydy{p:yj}{c:List y2b}:yap p c=.tup [.imm .none ((y8u p c).map y36),dI (ckC p c)]:=by
 unfold yap y8u
 by_cases h:ckC p c=0
 ·rw[if_pos h,if_pos h,h]
 ·rw[if_neg h,if_neg h];rfl
def zef{p:yj}{c:List y2b}(S:y19 p)(h4:c.length<=4):((y8u p c).map shB).length<=30:=by
 unfold y8u
 by_cases h:ckC p c=0
 ·rw[if_pos h];obtain⟨ok,C⟩:=zdo h;exact ydu ok C S h4
 ·rw[if_neg h];simp
structure Tgt(p:yj)(as:List Int)(c:List y2b)(X:List Ent):Prop where
 gd:GdE 134217728 120 X
 ne:∀ x,x ∈ X->x.amt ≠ 0
 so:y4j X
 fl:∀ F,yz 2 F X=flS p (y6r p) F p.vars.length
 kn:∀ k,1<=k->k<=4->y8h k X=if k<=2 then dlS (y6r p) p.vars.length else -dlS (y6r p) p.vars.length
def zz7{p:yj}{as:List Int}{c:List y2b}(S:y19 p)(h4:c.length<=4)(h0:ckC p c=0)(h1:enE p as 1 ((y8u p c).map shB)=0) :
  Tgt p as c (y5l (y6i p as 1 ((y8u p c).map shB))):=by
 obtain⟨ok,C⟩:=zdo h0;have g:=zso h1 (zef S h4);have e:y8u p c=y33 p c:=by unfold y8u;rw[if_pos h0]
 refine⟨(g.net (by omega) (by omega)).mono (by omega),zd4,zes,fun F=>?_,fun k k1 k2=>?_⟩
 ·rw[e];exact zeg ok C S
 ·rw[zrw,zrx ⟨k1,k2⟩,e,zmz ok C S]
def yi3(p q:yj)(c d:List y2b)(as bs:List Int)(u v:Int)(hc:c.length<=9223372036854775807)(hd:d.length<=9223372036854775807) :
  yu E (dL E) 424 [ye p,ye q,.imm .none (c.map y1h),.imm .none (d.map y1h),ya as,ya bs,dI u,dI v]=some (.bool true):=by
 have s0:=r425;refine zg c424 (by simp) ?_
 conv in t424=>reduce;dsimp[ai]
 have a1:=r179 p c hc;have a2:=r179 q d hd;have a3:=r2 p;have a4:=r2 q;simp only[ye]at a1 a2 a3 a4;cases f1:y7v p c with
 |false=>simp[t424,n424,s0,a1,f1,zk]
 |true=>
 cases f2:y7v q d with
 |false=>simp[t424,n424,s0,a1,f1,a2,f2,zk]
 |true=>
 cases f3:yc6 p with
 |false=>simp[t424,n424,s0,a1,f1,a2,f2,a3,f3,zk]
 |true=>
 cases f4:yc6 q with
 |false=>simp[t424,n424,s0,a1,f1,a2,f2,a3,f3,a4,f4,zk]
 |true=>
 by_cases g1:(20:Int)<(as.length:Int)
 ·simp[t424,n424,s0,a1,f1,a2,f2,a3,f3,a4,f4,g1,zk]
 by_cases g2:(20:Int)<(bs.length:Int)
 ·simp[t424,n424,s0,a1,f1,a2,f2,a3,f3,a4,f4,g1,g2,zk]
 by_cases g3:u<0
 ·simp[t424,n424,s0,a1,f1,a2,f2,a3,f3,a4,f4,g1,g2,g3,zk]
 by_cases g4:v<=u
 ·simp[t424,n424,s0,a1,f1,a2,f2,a3,f3,a4,f4,g1,g2,g3,g4,zk]
 by_cases g5:1440<=v
 ·simp[t424,n424,s0,a1,f1,a2,f2,a3,f3,a4,f4,g1,g2,g3,g4,g5,zk]
 obtain⟨S,M,c4⟩:=zt7 f1;obtain⟨S',M',d4⟩:=zt7 f2;have b1:=yly p c S M;have b2:=yly q d S' M';rw[ydy]at b1 b2;have l1:=zef S c4;have l2:=zef S' d4;have b3:=ylv p S as (by omega) 1 ((y8u p c).map shB) (by omega)
 have b4:=ylv q S' bs (by omega) 1 ((y8u q d).map shB) (by omega)
 rw[<- zxt]at b3 b4;unfold enD at b3 b4;have hX:=fun h0 h1=>zz7 (as:=as) S c4 h0 h1
 have hY:=fun h0 h1=>zz7 (as:=bs) S' d4 h0 h1
 obtain⟨e1,he1⟩:∃ e,e=ckC p c:=⟨_,rfl⟩;obtain⟨e2,he2⟩:∃ e,e=ckC q d:=⟨_,rfl⟩;obtain⟨e3,he3⟩:∃ e,e=enE p as 1 ((y8u p c).map shB):=⟨_,rfl⟩;obtain⟨e4,he4⟩:∃ e,e=enE q bs 1 ((y8u q d).map shB):=⟨_,rfl⟩;have hok1:e1=0->OkP p:=fun h=>(zdo (he1 ▸ h)).1
 have hok2:e2=0->OkP q:=fun h=>(zdo (he2 ▸ h)).1
 rw[<- he1]at b1 hX;rw[<- he2]at b2 hY;rw[<- he3]at b3 hX;rw[<- he4]at b4 hY;clear he1 he2 he3 he4;obtain⟨X,eX⟩:∃ X,X=y5l (y6i p as 1 ((y8u p c).map shB)):=⟨_,rfl⟩;obtain⟨Y,eY⟩:∃ Y,Y=y5l (y6i q bs 1 ((y8u q d).map shB)):=⟨_,rfl⟩;rw[<- eX]at b3 hX;rw[<- eY]at b4 hY;clear eX eY l1 l2;generalize y8u p c=sA at *
 generalize y8u q d=sB at *
 by_cases z:e1=0/\e2=0/\e3=0/\e4=0
 rotate_left
 ·generalize (if e3=0 then X else[])=X' at *
  generalize (if e4=0 then Y else[])=Y' at *
  simp only[ye,ya,y1h]at b1 b2 b3 b4
  by_cases z1:e1=0
  ·by_cases z2:e2=0
   ·by_cases z3:e3=0
    ·have z4 : ¬ e4=0:=fun z4=>z ⟨z1,z2,z3,z4⟩
     simp[t424,n424,s0,a1,f1,a2,f2,a3,f3,a4,f4,g1,g2,g3,g4,g5,zk,b1,b2,b3,b4,z3h,z1,z2,z3,z4]
    ·simp[t424,n424,s0,a1,f1,a2,f2,a3,f3,a4,f4,g1,g2,g3,g4,g5,zk,b1,b2,b3,b4,z3h,z1,z2,z3]
   ·simp[t424,n424,s0,a1,f1,a2,f2,a3,f3,a4,f4,g1,g2,g3,g4,g5,zk,b1,b2,b3,b4,z3h,z1,z2]
  ·simp[t424,n424,s0,a1,f1,a2,f2,a3,f3,a4,f4,g1,g2,g3,g4,g5,zk,b1,b2,b3,b4,z3h,z1]
 obtain⟨rfl,rfl,rfl,rfl⟩:=z;have hX:=hX rfl rfl;have hY:=hY rfl rfl;rw[if_pos rfl]at b3 b4;obtain⟨k1,k2,O1,O2,n1,n2⟩:=zfx (a:=u) (b:=v) (by omega) (by omega) (by omega) hX.gd hX.ne hX.so hY.gd hY.ne hY.so
 have O1:=O1 u (by omega) (by omega)
 have lX:=hX.gd.len;have lY:=hY.gd.len;obtain⟨ok1,_,_⟩:=zy3 (m:=u) (t:=X) okn (by decide) (by simp[y4o];omega)
 have c1:=yjl [] u X okn (by simp[y4o];omega)
 have c2:=yjl (boL tgB [] u X) v Y ok1 (by omega)
 obtain⟨ok2,_,_⟩:=zy3 (m:=v) (t:=Y) ok1 (by omega) (by omega)
 rw[zm9 k1]at c1;rw[zm9 k2]at c2;have c3:=r350 _ ok2;rw[z27.2 O1.v,decide_eq_true rfl]at c3;have w1:=r426 p S (hok1 rfl) _ u X ok2 O1 hX.fl hX.kn;have w2:=r426 q S' (hok2 rfl) _ v Y ok2 O2 hY.fl hY.kn;clear O1 O2 k1 k2 ok1 ok2 hX hY hok1 hok2;generalize boL tgB (boL tgB [] u X) v Y=L2 at *
 generalize boL tgB [] u X=L1 at *
 simp only[y1t,ye,ya,y1h,aO]at b1 b2 b3 b4 c1 c2 c3 w1 w2;simp[t424,n424,s0,a1,f1,a2,f2,a3,f3,a4,f4,g1,g2,g3,g4,g5,zk,b1,b2,b3,b4,z3h,c1,c2,c3,w1,w2,z3b,zl]
def topMoney:∀ xs,y8q E [0,0,38,38,6,6,2,2] xs->∃ n,yu E (dC E n) 424 xs=some (.bool true):=by
 intro xs h
 match xs,h with
 |[x1,x2,x3,x4,x5,x6,x7,x8],⟨t1,t2,t3,t4,t5,t6,t7,t8,_⟩=>obtain⟨p,rfl,_⟩:=zpy t1;obtain⟨q,rfl,_⟩:=zpy t2;obtain⟨c,rfl,hc⟩:=zfw t3;obtain⟨d,rfl,hd⟩:=zfw t4;obtain⟨a,rfl,_⟩:=zpz t5 rfl;obtain⟨b,rfl,_⟩:=zpz t6 rfl;obtain⟨u,rfl,_⟩:=zz5 t7 rfl;obtain⟨v,rfl,_⟩:=zz5 t8 rfl;exact z8f (yi3 p q c d a b u v hc hd)
 |[],h=>exact h.elim
 |[_],h=>exact h.2.elim
 |[_,_],h=>exact h.2.2.elim
 |[_,_,_],h=>exact h.2.2.2.elim
 |[_,_,_,_],h=>exact h.2.2.2.2.elim
 |[_,_,_,_,_],h=>exact h.2.2.2.2.2.elim
 |[_,_,_,_,_,_],h=>exact h.2.2.2.2.2.2.elim
 |[_,_,_,_,_,_,_],h=>exact h.2.2.2.2.2.2.2.elim
 |_::_::_::_::_::_::_::_::_::_,h=>exact h.2.2.2.2.2.2.2.2.elim
end Dv
