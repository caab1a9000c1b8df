/- Texts that a proof of this claim uses, joined: Lw.W211, Lw.W212, Lw.W213, Lw.W214, Lw.W217, Lw.W218, Lw.W219, Lw.W220, Lw.W221, Lw.W222, Lw.W223, Lw.W224, Lw.W225, Lw.W241, Lw.W242, Lw.W243, Lw.W244, Lw.S41, Lw.W226, Lw.W227, Lw.W228, Lw.W245, Lw.W246, Lw.W247, Lw.W300, Lw.W248, Lw.W301, Lw.W120, Lw.W302. -/
import Derived.Test.YthcmaiplkbbioaaGreatDoorGc
import Derived.Test.YthcmaiplkbbioaaGreatDoorGa
import Derived.Test.YthcmaiplkbbioaaGreatDoorDvd
set_option linter.all false
open BitVec renaming toNat_add->ie,toNat_xor->ju
open Bool renaming and_eq_true->ak,and_true->ed
open Decidable renaming not_not->fR
open Go.IntKind renaming i64->aH,u64->bI
open Int renaming natCast_add->jF,natCast_nonneg->lw,negSucc_eq->ai,toNat_natCast->bZ
open List renaming all_eq_true->ay,append_assoc->bi,append_nil->bL,cons_append->aJ,drop_drop->cx,drop_eq_getElem_cons->ca,drop_length->br,drop_zero->dp,eq_nil_of_length_eq_zero->aI,filter_append->gA,filter_cons->ig,flatMap_append->kQ,flatMap_cons->bv,flatten_append->kP,getD_eq_getElem?_getD->af,getElem?_append_right->aF,getElem?_eq_getElem->ac,getElem?_eq_some_iff->ae,getElem?_map->ch,getElem_mem->au,getLast?_eq_getElem?->gq,length->cM,length_append->ar,length_cons->aq,length_drop->eh,length_filter_le->im,length_map->aD,length_nil->aV,length_replicate->er,length_set->bn,length_take->aZ,map_append->bm,map_cons->av,map_drop->jd,map_map->gB,map_nil->aN,map_replicate->eZ,map_set->iC,mem_append->aC,mem_cons->aA,mem_flatMap->bE,mem_map->aK,nil_append->bo,not_mem_nil->fB,pairwise_cons->cW,replicate->ah,take_append_drop->bT,take_length->bg,take_of_length_le->ba,take_succ_cons->fF,take_succ_eq_append_getElem->aL
open Nat renaming eq_zero_or_pos->ek,le_refl->aj,le_trans->aM,min_eq_left->bS,sub_self->fw,zero_add->bJ
open Option renaming map_some->al
open Option.some renaming inj->cr,injEq->aa
open Prod.mk renaming injEq->aw
set_option maxRecDepth 100000
set_option maxHeartbeats 16000000
namespace Dv
attribute [local simp] ah depth y22 y4y ya y16 y4t ye y2q y2f Ret
attribute [local congr] z1j z1k z19 z12 zw z1a zu
def yag(b:List UInt8):Nat->List Wd
 | 0=>ah 64 0
 |i+1=>(yag b i).set i (yaf (b.drop (4*i)) 4)
theorem z9l{b:List UInt8}:∀{i:Nat},(yag b i).length=64
 | 0=>by simp[yag]
 |i+1=>by rw[yag,bn,z9l]
def sg0(x:Wd):Wd:=y9e x 25 ^^^ y9e x 14 ^^^ (x >>> 3)
def sg1(x:Wd):Wd:=y9e x 15 ^^^ y9e x 13 ^^^ (x >>> 10)
def y4h(b:List UInt8):Nat->List Wd
 | 0=>yag b 16
 |k+1=>(y4h b k).set (k+16) ((y4h b k).getD k 0+sg0 ((y4h b k).getD (k+1) 0)+(y4h b k).getD (k+9) 0+sg1 ((y4h b k).getD (k+14) 0))
theorem z7e{b:List UInt8}:∀{i:Nat},(y4h b i).length=64
 | 0=>z9l
 |i+1=>by rw[y4h,bn,z7e]
def Wds(hp:List Obj)(id:Nat)(m:List Wd):Prop:=At hp id (.cells (m.map dW))
def ydt:List Wd:=[1116352408,1899447441,3049323471,3921009573,961987163,1508970993,2453635748,2870763221,3624381080,310598401,607225278,1426881987,1925078388,2162078206,2614888103,3248222580,3835390401,4022224774,264347078,604807628,770255983,1249150122,1555081692,1996064986,2554220882,2821834349,2952996808,3210313671,3336571891,3584528711,113926993,338241895,666307205,773529912,1294757372,1396182291,1695183700,1986661051,2177026350,2456956037,2730485921,2820302411,3259730800,3345764771,3516065817,3600352804,4094571909,275423344,430227734,506948616,659060556,883997877,958139571,1322822218,1537002063,1747873779,1955562222,2024104815,2227730452,2361852424,2428436474,2756734187,3204031479,3329325298]
theorem zky:ydt.length=64:=rfl
theorem zhr{E:Env}{cP:Nat->List D->Option D}{env:List D}{hp:List Obj}{b t:Nat}{d:D}{x:Xp}:xv E cP env hp (.n (.iaddr t (.c d) (.t b)) (.cons b x .nil))=ob (xv E cP env hp x) fun u=>y3u E t d u:=by
 simp only[xv,xvs];cases xv E cP env hp x <;> try rfl
 simp only[yb,gOf,kv,if_true,zc];exact z17
def ydu(i:Nat):List D:=(ydt.map dW).drop i
theorem ylf{i:Nat}(h:i<64):y3u E 80 (.iptr [.int .u32 1116352408,.int .u32 1899447441,.int .u32 3049323471,.int .u32 3921009573,.int .u32 961987163,.int .u32 1508970993,.int .u32 2453635748,.int .u32 2870763221,.int .u32 3624381080,.int .u32 310598401,.int .u32 607225278,.int .u32 1426881987,.int .u32 1925078388,.int .u32 2162078206,.int .u32 2614888103,.int .u32 3248222580,.int .u32 3835390401,.int .u32 4022224774,.int .u32 264347078,.int .u32 604807628,.int .u32 770255983,.int .u32 1249150122,.int .u32 1555081692,.int .u32 1996064986,.int .u32 2554220882,.int .u32 2821834349,.int .u32 2952996808,.int .u32 3210313671,.int .u32 3336571891,.int .u32 3584528711,.int .u32 113926993,.int .u32 338241895,.int .u32 666307205,.int .u32 773529912,.int .u32 1294757372,.int .u32 1396182291,.int .u32 1695183700,.int .u32 1986661051,.int .u32 2177026350,.int .u32 2456956037,.int .u32 2730485921,.int .u32 2820302411,.int .u32 3259730800,.int .u32 3345764771,.int .u32 3516065817,.int .u32 3600352804,.int .u32 4094571909,.int .u32 275423344,.int .u32 430227734,.int .u32 506948616,.int .u32 659060556,.int .u32 883997877,.int .u32 958139571,.int .u32 1322822218,.int .u32 1537002063,.int .u32 1747873779,.int .u32 1955562222,.int .u32 2024104815,.int .u32 2227730452,.int .u32 2361852424,.int .u32 2428436474,.int .u32 2756734187,.int .u32 3204031479,.int .u32 3329325298]) (.int .i64 (i:Int))=some (.iptr (ydu i)):=by
 have e:(ydt.map dW)=[.int .u32 1116352408,.int .u32 1899447441,.int .u32 3049323471,.int .u32 3921009573,.int .u32 961987163,.int .u32 1508970993,.int .u32 2453635748,.int .u32 2870763221,.int .u32 3624381080,.int .u32 310598401,.int .u32 607225278,.int .u32 1426881987,.int .u32 1925078388,.int .u32 2162078206,.int .u32 2614888103,.int .u32 3248222580,.int .u32 3835390401,.int .u32 4022224774,.int .u32 264347078,.int .u32 604807628,.int .u32 770255983,.int .u32 1249150122,.int .u32 1555081692,.int .u32 1996064986,.int .u32 2554220882,.int .u32 2821834349,.int .u32 2952996808,.int .u32 3210313671,.int .u32 3336571891,.int .u32 3584528711,.int .u32 113926993,.int .u32 338241895,.int .u32 666307205,.int .u32 773529912,.int .u32 1294757372,.int .u32 1396182291,.int .u32 1695183700,.int .u32 1986661051,.int .u32 2177026350,.int .u32 2456956037,.int .u32 2730485921,.int .u32 2820302411,.int .u32 3259730800,.int .u32 3345764771,.int .u32 3516065817,.int .u32 3600352804,.int .u32 4094571909,.int .u32 275423344,.int .u32 430227734,.int .u32 506948616,.int .u32 659060556,.int .u32 883997877,.int .u32 958139571,.int .u32 1322822218,.int .u32 1537002063,.int .u32 1747873779,.int .u32 1955562222,.int .u32 2024104815,.int .u32 2227730452,.int .u32 2361852424,.int .u32 2428436474,.int .u32 2756734187,.int .u32 3204031479,.int .u32 3329325298]:=rfl;rw[<- e,zns (m:=64) (e:=78) rfl,if_pos ⟨by omega,by omega⟩]
 rw[show(E.ty 78).size=1 from rfl,Nat.mul_one,bZ]
 rfl
theorem yle{i:Nat}{h:List Obj}(hi:i<64):y15 E h 78 (.iptr (ydu i))=some (dW (ydt.getD i 0)):=by
 have hl:i<(ydt.map dW).length:=by rw[aD,zky];exact hi
 unfold ydu;rw[ca hl,List.getElem_map,af,ac (by rw[zky];exact hi)]
 rfl
theorem sl_1{q:Nat}:y12 E 77 (.loc q 0) (some (.int .i64 1)) none none=some (.sl q 1 7 1 false false):=rfl
theorem sl_7{q:Nat}:y12 E 77 (.loc q 0) none (some (.int .i64 7)) none=some (.sl q 0 7 1 false false):=rfl
theorem cp8{H:List Obj}{q:Nat}{d0 d1 d2 d3 d4 d5 d6 d7:Wd}(h:H[q]? = some (.cells [dW d0,dW d1,dW d2,dW d3,dW d4,dW d5,dW d6,dW d7])):y7a E H 81 81 (.sl q 1 7 1 false false) (.sl q 0 7 1 false false)=some (.int .i64 7,H.set q (.cells [dW d0,dW d0,dW d1,dW d2,dW d3,dW d4,dW d5,dW d6])):=by
 unfold y7a;simp[h,y1a,y13,y31,y2b,ym]
 rfl
def rnd(w:List Wd)(i:Nat)(v:List Wd):List Wd:=match v with
 |[a,b,c,d,e,f,g,h]=>
  let t:=h+(y9e e 26 ^^^ y9e e 21 ^^^ y9e e 7)+(g ^^^ (e &&& (f ^^^ g)))+ydt.getD i 0+w.getD i 0
  [t+((y9e a 30 ^^^ y9e a 19 ^^^ y9e a 10)+((a &&& b) ||| (c &&& (a ||| b)))),a,b,c,d+t,e,f,g]
 |v=>v
def ybd(w:List Wd)(v:List Wd):Nat->List Wd
 | 0=>v
 |i+1=>rnd w i (ybd w v i)
theorem yh9{l:List Wd}(h:l.length=8):∃ a b c d e f g k,l=[a,b,c,d,e,f,g,k]:=by
 match l,h with
 |[a,b,c,d,e,f,g,k],_=>exact⟨a,b,c,d,e,f,g,k,rfl⟩
theorem ycy{w:List Wd}{i:Nat}{v:List Wd}(h:v.length=8):(rnd w i v).length=8:=by
 obtain⟨a,b,c,d,e,f,g,k,rfl⟩:=yh9 h
 rfl
theorem zeg{w v:List Wd}(h:v.length=8):∀{i:Nat},(ybd w v i).length=8
 | 0=>h
 |i+1=>ycy (zeg h)
theorem y2n.wk{i C:Nat}{hp hp':List Obj}(h:y2n C C hp hp'):y2n i C hp hp':=fun J h1 h2 h3=>h J h1 (fun hp j o hj hk=>h2 hp j o hj (by rcases hk with rfl | hk;exact .inr (aj _);exact .inr hk)) h3
def Blk(st:Nat)(hp:List Obj)(x:D)(b:List UInt8):Prop:=∀ i:Nat,i<16->∃ y,y12 E 30 x (some (dI (4*(i:Int)))) none none=some y /\ ∀ h,y2n st hp.length hp h->frz h 12 y=some (dBy (b.drop (4*i)))
theorem ye8{l:List UInt8}{h:List Obj}:frz h 12 (dBy l)=some (dBy l):=by rw[z3v,zk];rfl
def y98(s v:List Wd):Nat->List Wd
 | 0=>s
 |i+1=>(y98 s v i).set i ((y98 s v i).getD i 0+v.getD i 0)
theorem za4{s v:List Wd}:∀{i:Nat},(y98 s v i).length=s.length
 | 0=>rfl
 |i+1=>by rw[y98,bn,za4]
def y4b(s:List Wd)(b:List UInt8):List Wd:=y98 s (ybd (y4h b 48) s 64) 8
theorem yko{hp:List Obj}{st:Nat}{x:D}{b:List UInt8}{s:List Wd}(hs:s.length=8)(hb:64<=b.length)(S:Wds hp st s)(hx:Blk st hp x b) :
  ∃ d hp',y1g E (dL E) 404 [.loc st 0,x] hp=some (d,hp')/\(d=.tup []/\Wds hp' st (y4b s b)/\y2n st hp.length hp hp'/\hp.length<=hp'.length):=by
 refine z1i c404 (args:=[.loc st 0,x]) (hp:=hp) (R:=fun d hp'=>d=.tup []/\Wds hp' st (y4b s b)/\y2n st hp.length hp hp'/\hp.length<=hp'.length) (by simp) ?_
 conv in t404=>reduce;dsimp[ai]
 have hid:=At.lt S;simp[t404,n404];refine zl 16 (fun i env h=>∃(x3 x4 x5 x6 x7 x8 x9 x10 x11 x13 x14 x15 x16 x17 x18 x19 x20 x21:D) ,env=[.loc st 0,x,.loc hp.length 0,x3,x4,x5,x6,x7,x8,x9,x10,x11,dI i,x13,x14,x15,x16,x17,x18,x19,x20,x21]/\Wds h hp.length (yag b i)/\y2n hp.length hp.length hp h) 0 (by omega) ?_ ?_
 ·refine⟨_,_,_,_,_,_,_,_,_,_,_,_,_,_,_,_,_,_,rfl,?_,y2n.app⟩;unfold Wds yag;simp[At]
 rintro i env h hi ⟨x3,x4,x5,x6,x7,x8,x9,x10,x11,x13,x14,x15,x16,x17,x18,x19,x20,x21,rfl,w1,w2⟩
 by_cases hlt:i<16
 ·have hi16:(i:Int)<16:=by omega
  have hup:=ze hlt (by omega)
  obtain⟨y,hy,hf⟩:=hx i hlt;have hf:=hf h w2.wk;have hw4:aH.wrap (4*(i:Int))=4*(i:Int):=za ⟨by omega,by omega⟩
  have hy:y12 E 30 x (some (.int .i64 (4*(i:Int)))) none none=some y:=hy;have e:=r405 (b.drop (4*i)) (by simp;omega)
  have hi64:(i:Int)<64:=by omega
  have w1':h[hp.length]? = some (.cells ((yag b i).map dW)):=w1;have hl64:i+1<=(yag b i).length:=by rw[z9l];omega
  have hhl:hp.length<h.length:=w1.lt;have hst:yag b (i+1)=(yag b i).set i (yaf (b.drop (4*i)) 4):=rfl;generalize hbb:b.drop (4*i)=bb at hf e hst;have hl63:i<64:=by omega
  have hl65:i+1<=64:=by omega
  simp[hi16,hup,hw4,hy,hf,e,hi64,w1',z9l,hl63,hl65];refine⟨hlt,?_,w2.trans (y2n.set (.inr (aj _)))⟩;unfold Wds;rw[hst,iC];exact At.self hhl
 have:i=16:=by omega
 subst this;simp;refine zl 48 (fun k env h=>∃(x3 x5 x6 x7 x8 x9 x10 x11 x12 x13 x14 x15 x16 x17 x18 x19 x20 x21:D) ,env=[.loc st 0,x,.loc hp.length 0,x3,dI ((k:Int)+16),x5,x6,x7,x8,x9,x10,x11,x12,x13,x14,x15,x16,x17,x18,x19,x20,x21]/\Wds h hp.length (y4h b k)/\y2n hp.length hp.length hp h) 0 (by omega) ?_ ?_
 ·exact⟨_,_,_,_,_,_,_,_,_,_,_,_,_,_,_,_,_,_,rfl,w1,w2⟩
 clear hi hlt w1 w2 h;rintro k env h hi ⟨x3,x5,x6,x7,x8,x9,x10,x11,x12,x13,x14,x15,x16,x17,x18,x19,x20,x21,rfl,w1,w2⟩;have hhl:hp.length<h.length:=w1.lt;have w1':h[hp.length]? = some (.cells ((y4h b k).map dW)):=w1
 by_cases hlt:k<48
 ·have hk64:(k:Int)+16<64:=by omega
  have i15:aH.wrap ((k:Int)+16 - 15)=(k:Int)+1:=by rw[za ⟨by omega,by omega⟩];omega
  have i2:aH.wrap ((k:Int)+16 - 2)=(k:Int)+14:=by rw[za ⟨by omega,by omega⟩];omega
  have i16:aH.wrap ((k:Int)+16 - 16)=(k:Int):=by rw[za ⟨by omega,by omega⟩];omega
  have i7:aH.wrap ((k:Int)+16 - 7)=(k:Int)+9:=by rw[za ⟨by omega,by omega⟩];omega
  have i1:aH.wrap ((k:Int)+16+1)=(k:Int)+1+16:=by rw[za ⟨by omega,by omega⟩];omega
  have hst:y4h b (k+1)=(y4h b k).set (k+16) ((y4h b k).getD k 0+sg0 ((y4h b k).getD (k+1) 0)+(y4h b k).getD (k+9) 0+sg1 ((y4h b k).getD (k+14) 0)):=rfl;have hgd:∀ j,j<64->(y4h b k)[j]? = some ((y4h b k).getD j 0):=fun j hj=>by rw[af,ac (by rw[z7e];exact hj)];rfl
  have g0:=hgd k (by omega)
  have g1:=hgd (k+1) (by omega)
  have g9:=hgd (k+9) (by omega)
  have g14:=hgd (k+14) (by omega)
  have hlen:(y4h b k).length=64:=z7e;clear hgd;generalize (y4h b k).getD k 0=v0 at g0 hst;generalize (y4h b k).getD (k+1) 0=v1 at g1 hst;generalize (y4h b k).getD (k+9) 0=v9 at g9 hst;generalize (y4h b k).getD (k+14) 0=v14 at g14 hst;generalize y4h b k=W at g0 g1 g9 g14 hst hlen w1 w1';have b1:(0:Int)<=(k:Int)+1:=by omega
  have d1:(k:Int)+1<64:=by omega
  have t1:((k:Int)+1).toNat=k+1:=by omega
  have b14:(0:Int)<=(k:Int)+14:=by omega
  have d14:(k:Int)+14<64:=by omega
  have t14:((k:Int)+14).toNat=k+14:=by omega
  have b9:(0:Int)<=(k:Int)+9:=by omega
  have d9:(k:Int)+9<64:=by omega
  have t9:((k:Int)+9).toNat=k+9:=by omega
  have b16:(0:Int)<=(k:Int)+16:=by omega
  have d16:(k:Int)+16<64:=by omega
  have t16:((k:Int)+16).toNat=k+16:=by omega
  have d0:(k:Int)<64:=by omega
  have n16:k+16<64:=by omega
  have n17:k+16+1<=64:=by omega
  have wA:∀ r:List Obj,(h++r)[hp.length]? = some (.cells (W.map dW)):=fun r=>w1.app (r:=r)
  have r1:=yd3 v1 (-7) ⟨by decide,by decide⟩
  have r2:=yd3 v1 (-18) ⟨by decide,by decide⟩
  have r3:=yd3 v14 (-17) ⟨by decide,by decide⟩
  have rw4:=yd3 v14 (-19) ⟨by decide,by decide⟩
  have sh3:∀ x:Wd,(x.toNat:Int).fdiv 8=((x >>> 3).toNat:Nat):=fun x=>zzp (a:=x) (n:=3) (by omega)
  have sh10:∀ x:Wd,(x.toNat:Int).fdiv 1024=((x >>> 10).toNat:Nat):=fun x=>zzp (a:=x) (n:=10) (by omega)
  have i0:aH.wrap (k:Int)=(k:Int):=za ⟨by omega,by omega⟩
  simp[hk64,i0,i15,i2,i16,i7,i1,w1',wA,g0,g1,g9,g14,hlen,r1,r2,r3,rw4,b1,d1,t1,b14,d14,t14,b9,d9,t9,b16,t16,d0,n16,n17,zfd,sh3,sh10,zzo,zzr,-ju,-ie,-BitVec.toNat_ushiftRight];refine⟨hlt,?_,w2.trans (y2n.app.trans (y2n.set (.inr (aj _))))⟩;unfold Wds;rw[hst,iC];exact At.self (by simp;omega)
 have:k=48:=by omega
 subst this;have S':Wds h st s:=w2.at (by omega) hid S
 have S2:h[st]? = some (.cells (s.map dW)):=S';obtain⟨a0,a1,a2,a3,a4,a5,a6,a7,he⟩:=yh9 hs;rw[he]at S2;simp at S2;simp[S2];refine zl 64 (fun i env h'=>∃(x3 x4 x5 x6 x8 x9 x10 x11 x12 x13 x14 x15 x16 x18 x19 x20 x21:D) ,env=[.loc st 0,x,.loc hp.length 0,x3,x4,x5,x6,.loc h.length 0,x8,x9,x10,x11,x12,x13,x14,x15,x16,dI i,x18,x19,x20,x21]/\Wds h' hp.length (y4h b 48)/\Wds h' h.length (ybd (y4h b 48) s i)/\y2n hp.length hp.length hp h'/\h.length<h'.length) 0 (by omega) ?_ ?_
 ·refine⟨_,_,_,_,_,_,_,_,_,_,_,_,_,_,_,_,_,rfl,w1.app,?_,w2.trans y2n.app,by simp⟩
  simp[Wds,At,ybd,he]
 rintro i env h' hi ⟨x3,x4,x5,x6,x8,x9,x10,x11,x12,x13,x14,x15,x16,x18,x19,x20,x21,rfl,v1,v2,v3,v4⟩
 by_cases hlt':i<64
 ·have hi64:(i:Int)<64:=by omega
  have hup:=ze hlt' (by omega)
  obtain⟨a,b',c,d,e,f,g,g',hr⟩:=yh9 (zeg (w:=y4h b 48) (v:=s) (i:=i) hs);have hst:ybd (y4h b 48) s (i+1)=rnd (y4h b 48) i (ybd (y4h b 48) s i):=rfl;rw[hr]at v2 hst;have v1':∀ r:List Obj,(h'++r)[hp.length]? = some (.cells ((y4h b 48).map dW)):=fun r=>v1.app (r:=r)
  have v2':∀ r:List Obj,(h'++r)[h.length]? = some (.cells (([a,b',c,d,e,f,g,g']:List Wd).map dW)):=fun r=>v2.app (r:=r)
  have hw:(y4h b 48)[i]? = some ((y4h b 48).getD i 0):=by rw[af,ac (by rw[z7e];exact hlt')];rfl
  have k1:=ylf hlt';have k2:=fun h:List Obj=>yle (h:=h) hlt'
  have hlen:(y4h b 48).length=64:=z7e;generalize hW:(y4h b 48).getD i 0=wi at hw;generalize hK:ydt.getD i 0=ki at k2;have q1:=r407 e 6 11 25 (by decide) (by decide) (by decide)
  have q2:=r407 a 2 13 22 (by decide) (by decide) (by decide)
  simp at v2';have hcp:=fun r:List Obj=>cp8 (v2' r)
  have hset:∀(r:List Obj) (o:Obj),((h'++r).set h.length o)[h.length]? = some o:=fun r o=>At.self (by simp;omega)
  simp[hi64,hup,v1',v2',hw,q1,q2,zhr,k1,k2,z2f,sl_1,sl_7,↓hcp,↓hset,hlen,zzo,zzr,yj0,yiz,-ju,-ie,-BitVec.toNat_and,-BitVec.toNat_or];refine⟨hlt',v1.app.ne (by omega),?_,v3.trans (y2n.app.trans (y2n.set (.inr (by omega)))),by omega⟩
  unfold Wds;rw[hst];simp only[rnd,hK,hW];exact At.self (by simp;omega)
 have:i=64:=by omega
 subst this;simp;have hvl:(ybd (y4h b 48) s 64).length=8:=zeg hs;unfold y4b at *
 generalize ybd (y4h b 48) s 64=V at v2 hvl ⊢;have v5:Wds h' st s:=v3.at (by omega) hid S
 refine zl 8 (fun i env h2=>∃(x1 x2 x3 x4 x5 x6 x8 x9 x10 x11 x12 x13 x14 x15 x16 x17 x18 x19 x21:D) ,env=[.loc st 0,x1,x2,x3,x4,x5,x6,.loc h.length 0,x8,x9,x10,x11,x12,x13,x14,x15,x16,x17,x18,x19,dI i,x21]/\Wds h2 h.length V/\Wds h2 st (y98 s V i)/\y2n st hp.length hp h2/\hp.length<=h2.length) 0 (by omega) ?_ ?_
 ·exact⟨_,_,_,_,_,_,_,_,_,_,_,_,_,_,_,_,_,_,_,rfl,v2,v5,v3.wk,by omega⟩
 clear hi hlt' v1 v2 v3 v5;rintro i env h2 hi ⟨x1,x2,x3,x4,x5,x6,x8,x9,x10,x11,x12,x13,x14,x15,x16,x17,x18,x19,x21,rfl,v2,v5,v3,v6⟩
 by_cases hlt':i<8
 ·have hi8:(i:Int)<8:=by omega
  have hup:=ze hlt' (by omega)
  have g1:(y98 s V i)[i]? = some ((y98 s V i).getD i 0):=by rw[af,ac (by rw[za4];omega)];rfl
  have g2:V[i]? = some (V.getD i 0):=by rw[af,ac (by omega)];rfl
  have hst:y98 s V (i+1)=(y98 s V i).set i ((y98 s V i).getD i 0+V.getD i 0):=rfl;have v2':∀ r:List Obj,(h2++r)[h.length]? = some (.cells (V.map dW)):=fun r=>v2.app (r:=r)
  have v5':∀ r:List Obj,(h2++r)[st]? = some (.cells ((y98 s V i).map dW)):=fun r=>v5.app (r:=r)
  have hal:(y98 s V i).length=8:=by rw[za4];exact hs
  have hi9:i+1<=8:=by omega
  have hi88:i<8:=hlt';have e1:(y98 s V i).getD i 0=(y98 s V i)[i]'(by omega):=by rw[af,ac (by omega)];rfl
  have e2:V.getD i 0=V[i]'(by omega):=by rw[af,ac (by omega)];rfl
  rw[e1,e2]at hst;have v2l:=v2.lt;have v5l:=v5.lt;simp[hi8,hup,g1,g2,v2',v5',hal,hvl,hi9,hi88,zzr,-ie];refine⟨v2.app.ne (by omega),?_,(v3.trans y2n.app).trans (y2n.set (.inl rfl)),by omega⟩
  unfold Wds;rw[hst,iC];exact At.self (by simp;omega)
 ·have:i=8:=by omega
  subst this;simp;exact⟨v5,v3,v6⟩
theorem zym{b:List UInt8}{i:Nat}(h:i<=b.length):y12 E 30 (.imm .none (b.map yd)) (some (dI i)) none none=some (.imm .none ((b.drop i).map yd)):=by unfold y12;simp[bnd];exact⟨⟨h,zl2⟩,by unfold y25;simp,ba (by simp)⟩
theorem yev{st:Nat}{hp:List Obj}{b:List UInt8}(h:64<=b.length):Blk st hp (.imm .none (b.map yd)) b:=fun i hi=>⟨.imm .none ((b.drop (4*i)).map yd),by
 have:=zym (b:=b) (i:=4*i) (by omega)
 exact this,fun h _=>ye8⟩
theorem z78:∀(n:Nat) (l:List UInt8),n<=l.length->y31 1 false n (l.map yd)=some ((l.take n).map yd)
 | 0,l,_=>by simp[y31]
 |n+1,[],h=>by simp at h
 |n+1,c::l,h=>by
  have e:=z78 n l (by simp at h;omega)
  simp[y31,y2b,ym,e]
theorem zz6{st id off n:Nat}{gr:Bool}{hp:List Obj}{m:List UInt8}(B:Bys hp id m)(hid:id ≠ st)(hn:64<=n)(ho:off+n<=m.length):Blk st hp (.sl id off n 1 false gr) ((m.drop off).take n):=fun i hi=>⟨.sl id (off+4*i) (n - 4*i) 1 false false,by
  unfold y12;have h0:(0:Int)<=4*(i:Int):=by omega
  have h1:(4*(i:Int)).toNat=4*i:=by omega
  simp[bnd,h0,h1];omega,fun h k=>by
  have B':Bys h id m:=k.at hid B.lt B;have B2:h[id]? = some (.cells (m.map yd)):=B';rw[zl6];simp only[B2,y9x];rw[zc,<- jd,z78 _ _ (by simp;omega),zc,zk,al,List.drop_take,cx]⟩
def y9v:List Wd:=[1779033703,3144134277,1013904242,2773480762,1359893119,2600822924,528734635,1541459225]
def y5m(b:List UInt8):Nat->List Wd->List Wd
 | 0,s=>s
 |k+1,s=>y4b (y5m b k s) ((b.drop (64*k)).take 64)
theorem zjw{s:List Wd}{b:List UInt8}(h:s.length=8):(y4b s b).length=8:=by unfold y4b;rw[za4];exact h
theorem z5d{b:List UInt8}{s:List Wd}(h:s.length=8):∀{k:Nat},(y5m b k s).length=8
 | 0=>h
 |k+1=>zjw (z5d h)
theorem zow{E:Env}{cP:Nat->List D->Option D}{env:List D}{hp:List Obj}{t:Nat}{d:D}:xv E cP env hp (.n (.load t (.c d)) .nil)=y15 E hp t d:=by simp only[xv,xvs];simp only[yb,gOf];exact z17
theorem ydn{hp:List Obj}:y15 E hp 76 (.iptr [.int .u32 1779033703,.int .u32 3144134277,.int .u32 1013904242,.int .u32 2773480762,.int .u32 1359893119,.int .u32 2600822924,.int .u32 528734635,.int .u32 1541459225])=some (.agg (y9v.map dW)):=rfl
theorem ycu{b:List UInt8}(h:64<=b.length):y12 E 30 (.imm .none (b.map yd)) (some (.int .i64 64)) none none=some (.imm .none ((b.drop 64).map yd)):=zym (i:=64) h
theorem ycv{b:List UInt8}(h:64<=b.length):y12 E 30 (.imm .none (b.map yd)) none (some (.int .i64 64)) none=some (.imm .none ((b.take 64).map yd)):=zk8 (i:=64) h
def z32:List UInt8:=ah 32 0
def y9s:List UInt8:=ah 128 0
def tl0(r:List UInt8):List UInt8:=r++ah (128 - r.length) 0
theorem zpi{r:List UInt8}(h:r.length<=128):(tl0 r).length=128:=by unfold tl0;rw[ar,er];omega
theorem zf2:∀(l:List UInt8),yr (l.map yd)=l.map yd
 |[]=>rfl
 |c::l=>by have:=zf2 l;simp only[av,yr,bv]at this ⊢;rw[this];rfl
theorem yl8{h:List Obj}:y62 E h 30 (.int .i64 64) (.int .i64 128)=some (.sl h.length 0 64 1 false true,h++[.cells (y9s.map yd)]):=by
 have e:=zf2 y9s;have e2:y9s.map yd=ah 128 (D.int .u8 0):=by unfold y9s;rw[eZ];rfl
 rw[e2]at e ⊢;unfold y62;simp only[show(E.ty 30).k=.slice 13 from rfl,show y26 E 13=some (D.int .u8 0)from rfl,show(E.ty 13).size=1 from rfl,show(E.ty 13).ag=false from rfl]
 rw[if_pos (by refine⟨by decide,by decide,by decide⟩)]
 rw[show((128:Int)).toNat=128 from rfl,e]
 rfl
theorem zy7{l:List UInt8}:(l.map yd).all (fun d=>d.storable && d.cellsL.length == 1)=true:=z8s
theorem ylr{H:List Obj}{id:Nat}{r:List UInt8}(B:Bys H id y9s)(h:r.length<64):y7a E H 30 30 (.sl id 0 64 1 false true) (.imm .none (r.map yd))=some (.int .i64 r.length,H.set id (.cells ((tl0 r).map yd))):=by
 have B2:H[id]? = some (.cells (y9s.map yd)):=B;have hl:(y9s.map yd).length=128:=rfl;have hm:Nat.min r.length 64=r.length:=bS (by omega)
 have hs:setCells (y9s.map yd) 0 (yr (r.map yd))=(tl0 r).map yd:=by
  rw[zf2];have e:y9s.map yd=(ah r.length (0:UInt8)).map yd++(ah (128 - r.length) (0:UInt8)).map yd:=by rw[<- bm,List.replicate_append_replicate];unfold y9s;congr 2;omega
  rw[e,z27 (by simp),zx (by simp)]
  unfold tl0;rw[bm]
 have hL:y1a H 1 false (.imm .none (r.map yd))=some (r.map yd):=by unfold y1a;simp only[zy7,if_true]
 unfold y7a;simp only[show(E.ty 30).k=.slice 13 from rfl,B2,show(E.ty 13).size=1 from rfl,show(E.ty 13).ag=false from rfl,hL,aD,hm]
 rw[if_pos ⟨trivial,by simp[y9s]⟩,ba (by simp),hs]
def tl1(r:List UInt8):List UInt8:=(tl0 r).set r.length 128
theorem zhw{r:List UInt8}(h:r.length<=128):(tl1 r).length=128:=by unfold tl1;rw[bn,zpi h]
theorem rsl{h:List Obj}{r:List UInt8}(hr:r.length<=128):y3d E (h++[.cells ((tl1 r).map yd)]) 30 (.sl h.length 0 64 1 false true) (.int .i64 128)=some (.sl h.length 0 128 1 false true,h++[.cells ((tl1 r).map yd)]):=by
 have e:(h++[Obj.cells ((tl1 r).map yd)])[h.length]? = some (.cells ((tl1 r).map yd)):=by simp
 unfold y3d;simp only[show(E.ty 30).k=.slice 13 from rfl,e,show(E.ty 13).size=1 from rfl,aD,zhw hr]
 rfl
theorem ykm{q:Nat}:y12 E 30 (.sl q 0 64 1 false true) (some (.int .i64 56)) none none=some (.sl q 56 8 1 false false):=rfl
theorem ygp{q:Nat}:y12 E 30 (.sl q 0 128 1 false true) (some (.int .i64 120)) none none=some (.sl q 120 8 1 false false):=rfl
theorem zyn{q o l:Nat}{gr:Bool}(h:64<=l):y12 E 30 (.sl q o l 1 false gr) none (some (.int .i64 64)) none=some (.sl q o 64 1 false false):=by unfold y12;simp[bnd];omega
theorem zyl{q o l:Nat}{gr:Bool}(h:64<=l):y12 E 30 (.sl q o l 1 false gr) (some (.int .i64 64)) none none=some (.sl q (o+64) (l - 64) 1 false false):=by unfold y12;simp[bnd];omega
def rst(b:List UInt8)(k:Nat):List UInt8:=b.drop (64*k)
theorem yks{b:List UInt8}{k:Nat}:rst b (k+1)=(rst b k).drop 64:=by unfold rst;rw[cx];rfl
theorem zi8{b:List UInt8}{k:Nat}:(rst b k).length=b.length - 64*k:=by unfold rst;rw[eh]
theorem za5{E:Env}{cP:Nat->List D->Option D}{env:List D}{hp:List Obj}{t a b c:Nat}{x y z:Xp}(h1:b ≠ a)(h2:c ≠ a)(h3:c ≠ b):xv E cP env hp (.n (.slice t (.t a) (some (.t b)) (some (.t c)) none) (.cons a x (.cons b y (.cons c z .nil))))=ob (xv E cP env hp x) fun u=>ob (xv E cP env hp y) fun v=>ob (xv E cP env hp z) fun w=>y12 E t u (some v) (some w) none:=by
 simp only[xv,xvs];cases xv E cP env hp x <;> try rfl
 cases xv E cP env hp y <;> try rfl
 cases xv E cP env hp z <;> try rfl
 simp only[yb,al,Option.map_none,gOf,kv,zc,if_true,if_neg h1,if_neg h2,if_neg h3];exact z17
def y5p(v:List Wd):Nat->List UInt8
 | 0=>z32
 |i+1=>y7g (y5p v i) (4*i) 4 (v.getD i 0).toNat 4
theorem z47{v:List Wd}:∀{i:Nat},(y5p v i).length=32
 | 0=>rfl
 |i+1=>by rw[y5p,z68,z47]
def y8y(b:List UInt8):List UInt8:=
 if 55<(rst b (b.length / 64)).length then y5p (y5m (y7g (tl1 (rst b (b.length / 64))) 120 8 (b.length*8) 8) 2 (y5m b (b.length / 64) y9v)) 8
 else y5p (y5m (y7g (tl1 (rst b (b.length / 64))) 56 8 (b.length*8) 8) 1 (y5m b (b.length / 64) y9v)) 8
theorem z7w{H:List Obj}{m:List UInt8}(B:Bys H 0 m)(h:m.length=32):y15 E H 73 (.loc 0 0)=some (.agg (m.map yd)):=by
 have B2:H[0]? = some (.cells (m.map yd)):=B;have e:=z2l 32 0 (m.map yd) (by simp[h])
 unfold y15;simp only[y13,B2,show(E.ty 73).size=32 from rfl,e]
 rfl
theorem zyk{i:Nat}(h:i<8):y12 E 73 (.loc 0 0) (some (.int .i64 (4*(i:Int)))) (some (.int .i64 (4*(i:Int)+4))) none=some (.sl 0 (4*i) 4 1 false false):=by
 have h0:(0:Int)<=4*(i:Int):=by omega
 have h1:(4*(i:Int)).toNat=4*i:=by omega
 have h2:(0:Int)<=4*(i:Int)+4:=by omega
 have h3:(4*(i:Int)+4).toNat=4*i+4:=by omega
 unfold y12;simp only[show(E.ty 73).k=.arr 32 13 from rfl,bnd,if_pos h0,if_pos h2,h1,h3,show(E.ty 13).size=1 from rfl]
 rw[if_pos ⟨by omega,by omega⟩]
 simp
theorem r364(b:List UInt8)(hb:b.length<=1000000000):yu E (dL E) 364 [dBy b]=some (y8g (y8y b)):=by
 refine zg c364 (by simp) ?_
 conv in t364=>reduce;dsimp[ai]
 have hz:∀ x:List D,(D.agg (y9v.map dW)).cellsL=y9v.map dW:=fun _=>rfl
 simp[t364,n364,zow,ydn];refine zl (b.length / 64) (fun k env h=>∃(x5 x6 x7 x8 x9 x10 x11 x12 x13 x14 x15 x16 x17 x18 x19 x20 x21:D) ,env=[dBy b,.loc 0 0,.loc 1 0,.bfn 404 (.loc 1 0),.imm .none ((rst b k).map yd),x5,x6,x7,x8,x9,x10,x11,x12,x13,x14,x15,x16,x17,x18,x19,x20,x21]/\Bys h 0 z32/\Wds h 1 (y5m b k y9v)/\2<=h.length) 0 (by omega) ?_ ?_
 ·refine⟨_,_,_,_,_,_,_,_,_,_,_,_,_,_,_,_,_,rfl,?_,?_,by simp⟩
  ·rfl
  ·rfl
 rintro k env h hi ⟨x5,x6,x7,x8,x9,x10,x11,x12,x13,x14,x15,x16,x17,x18,x19,x20,x21,rfl,B,W,hl⟩
 by_cases hlt:k<b.length / 64
 ·have hrl:64<=(rst b k).length:=by rw[zi8];omega
  have h64:(64:Int)<=(rst b k).length:=by omega
  have e1:=ycu hrl;have e2:=ycv hrl;obtain⟨d,h2,e,rfl,w1,k1,l1⟩:=yko (st:=1) (hp:=h) (x:=.imm .none (((rst b k).take 64).map yd)) (b:=(rst b k).take 64) (s:=y5m b k y9v) (z5d rfl) (by rw[aZ];omega) W (yev (by rw[aZ];omega))
  have hs:rst b (k+1)=(rst b k).drop 64:=yks;have hst:y5m b (k+1) y9v=y4b (y5m b k y9v) ((rst b k).take 64):=rfl;have B2:Bys h2 0 _:=k1.at (by omega) (by omega) B
  rw[<- hst]at w1;generalize hT:(rst b k).take 64=T at e2 e hst;generalize hD:(rst b k).drop 64=Dr at e1 hs;simp[h64,e1,e2,e,z2f,hs];exact⟨hlt,B2,w1,by omega⟩
 ·have:k=b.length / 64:=by omega
  subst this;have h64 : ¬ (64:Int)<=(rst b (b.length / 64)).length:=by rw[zi8];omega
  have hr:(rst b (b.length / 64)).length<64:=by rw[zi8];omega
  have hs1:55<(rst b (b.length / 64)).length->y8y b=y5p (y5m (y7g (tl1 (rst b (b.length / 64))) 120 8 (b.length*8) 8) 2 (y5m b (b.length / 64) y9v)) 8:=fun h=>by unfold y8y;rw[if_pos h]
  have hs2 : ¬ 55<(rst b (b.length / 64)).length->y8y b=y5p (y5m (y7g (tl1 (rst b (b.length / 64))) 56 8 (b.length*8) 8) 1 (y5m b (b.length / 64) y9v)) 8:=fun h=>by unfold y8y;rw[if_neg h]
  generalize hR:rst b (b.length / 64)=r at hr h64 hs1 hs2;have hS:(y5m b (b.length / 64) y9v).length=8:=z5d rfl;generalize y5m b (b.length / 64) y9v=S at W hS hs1 hs2;have c1:=ylr (H:=h++[Obj.cells (y9s.map yd)]) (id:=h.length) (r:=r) (by simp[Bys,At]) hr
  have c2:∀ o:Obj,(h++[Obj.cells (y9s.map yd)]).set h.length o=h++[o]:=fun o=>by simp
  rw[c2]at c1;have c3:∀ o:Obj,(h++[o])[h.length]? = some o:=fun o=>by simp
  have c4:∀ o o':Obj,(h++[o]).set h.length o'=h++[o']:=fun o o'=>by simp
  have hr':(r.length:Int)<64:=by omega
  have htl:=zpi (r:=r) (by omega)
  have hr1:r.length+1<=128:=by omega
  have c5:(((tl0 r).map yd).set r.length (D.int .u8 128))=(tl1 r).map yd:=by unfold tl1;rw[iC];rfl
  have c6:=fun(h:List Obj)=>rsl (h:=h) (r:=r) (by omega)
  have hL:bI.wrap (b.length:Int)=b.length:=by rw[z2k];omega
  have hL8:bI.wrap ((b.length:Int)*8)=((b.length*8:Nat):Int):=by rw[z2k];omega
  have hL9:bI.wrap ((b.length:Int)*8)=(b.length:Int)*8:=by rw[z2k];omega
  have w56:aH.wrap 56=56:=by decide
  have w120:aH.wrap 120=120:=by decide
  simp[h64,yl8,c1,↓c3,↓c4,hr',htl,hr1,c5];have key:∀ n:Nat,n=64\/n=128->True:=fun _ _=>trivial
  split
  ·rename_i h55;obtain⟨d,h3,e3,rfl,rfl⟩:=yil (hp:=h++[Obj.cells ((tl1 r).map yd)]) (id:=h.length) (off:=120) (n:=8) (gr:=false) (m:=tl1 r) (b.length*8) (by omega) (by omega) (by unfold tl1;rw[bn,htl];omega) (by simp[Bys,At])
   rw[c4]at e3;simp at e3;simp[c6,ygp,hL,hL8,y40,e3,z4a,w120];have hM:(y7g (tl1 r) 120 8 (b.length*8) 8).length=128:=by rw[z68,zhw (by omega)]
   generalize y7g (tl1 r) 120 8 (b.length*8) 8=M at *
   refine zl 2 (fun j env h'=>∃(x4 x6 x7 x8 x9 x10 x11 x12 x13 x14 x15 x16 x17 x18 x19 x20 x21:D) (gr:Bool),env=[dBy b,.loc 0 0,.loc 1 0,.bfn 404 (.loc 1 0),x4,.sl h.length (64*j) (128 - 64*j) 1 false gr,x6,x7,x8,x9,x10,x11,x12,x13,x14,x15,x16,x17,x18,x19,x20,x21]/\Bys h' 0 z32/\Wds h' 1 (y5m M j S)/\Bys h' h.length M/\h.length<h'.length) 0 (by omega) ?_ ?_
   ·exact⟨_,_,_,_,_,_,_,_,_,_,_,_,_,_,_,_,_,true,rfl,B.app,W.app,by simp[Bys,At],by simp⟩
   rintro j env h' hj ⟨x4,x6,x7,x8,x9,x10,x11,x12,x13,x14,x15,x16,x17,x18,x19,x20,x21,gr,rfl,B1,W1,B2,hl1⟩
   by_cases hlt:j<2
   ·obtain⟨o,ho⟩:∃ o,o=64*j:=⟨_,rfl⟩;obtain⟨l,hl⟩:∃ l,l=128 - o:=⟨_,rfl⟩;have hb:y5m M (j+1) S=y4b (y5m M j S) ((M.drop o).take 64):=by rw[ho];rfl
    obtain⟨d,h2,e,rfl,w1,k1,l1⟩:=yko (st:=1) (hp:=h') (x:=.sl h.length o 64 1 false false) (b:=(M.drop o).take 64) (s:=y5m M j S) (z5d hS) (by simp;omega) W1 (zz6 B2 (by omega) (by omega) (by omega))
    rw[<- hb]at w1;have B1':Bys h2 0 z32:=k1.at (by omega) (by omega) B1
    have B2':Bys h2 h.length M:=k1.at (by omega) hl1 B2
    rw[<- ho,<- hl];have e1:=zyn (q:=h.length) (o:=o) (l:=l) (gr:=gr) (by omega)
    have e2:=zyl (q:=h.length) (o:=o) (l:=l) (gr:=gr) (by omega)
    have hpos:(0:Int)<l:=by omega
    have o1:64*(j+1)=o+64:=by omega
    have hpos':0<l:=by omega
    simp[hpos,hpos',e1,e2,e,z2f];exact⟨by omega,⟨by omega,by omega⟩,B1',w1,B2',by omega⟩
   ·have:j=2:=by omega
    subst this;have hSl:(y5m M 2 S).length=8:=z5d hS;have hsh:=hs1 (by omega)
    generalize y5m M 2 S=V at W1 hSl hsh;obtain⟨a0,a1,a2,a3,a4,a5,a6,a7,hV⟩:=yh9 hSl;have W2:h'[1]? = some (.cells (V.map dW)):=W1;rw[hV]at W2;simp at W2;simp[W2];rw[hsh];refine zl 8 (fun i env h3=>∃(x0 x2 x3 x4 x5 x6 x7 x8 x9 x10 x11 x12 x13 x14 x15 x16 x17 x20 x21:D) ,env=[x0,.loc 0 0,x2,x3,x4,x5,x6,x7,x8,x9,x10,x11,x12,x13,x14,x15,x16,x17,.agg [dW a0,dW a1,dW a2,dW a3,dW a4,dW a5,dW a6,dW a7],dI i,x20,x21]/\Bys h3 0 (y5p V i)) 0 (by omega) ?_ ?_
    ·exact⟨_,_,_,_,_,_,_,_,_,_,_,_,_,_,_,_,_,_,_,rfl,B1⟩
    rintro i env h3 hi ⟨x0,x2,x3,x4,x5,x6,x7,x8,x9,x10,x11,x12,x13,x14,x15,x16,x17,x20,x21,rfl,C⟩;have hidx:∀ i,i<8->([dW a0,dW a1,dW a2,dW a3,dW a4,dW a5,dW a6,dW a7]:List D)[i]? = some (dW (V.getD i 0)):=fun i hi=>by
     have e:([dW a0,dW a1,dW a2,dW a3,dW a4,dW a5,dW a6,dW a7]:List D)=V.map dW:=by rw[hV];rfl
     rw[e,ch,af,ac (by omega)];rfl
    by_cases hlt:i<8
    ·have hi8:(i:Int)<8:=by omega
     have hup:=ze hlt (by omega)
     have q1:aH.wrap (4*(i:Int))=4*(i:Int):=za ⟨by omega,by omega⟩
     have q2:aH.wrap (4*(i:Int)+4)=4*(i:Int)+4:=za ⟨by omega,by omega⟩
     have q3:=zyk hlt;have q4:bI.wrap ((V.getD i 0).toNat:Int)=(V.getD i 0).toNat:=by have:=yga (w:=V.getD i 0);rw[z2k];omega
     obtain⟨d,h4,e4,rfl,rfl⟩:=yil (hp:=h3) (id:=0) (off:=4*i) (n:=4) (gr:=false) (m:=y5p V i) (V.getD i 0).toNat (by have:=yga (w:=V.getD i 0);omega) (by omega) (by rw[z47];omega) C
     have hid:=hidx i hlt;have hst:y5p V (i+1)=y7g (y5p V i) (4*i) 4 (V.getD i 0).toNat 4:=rfl;have hc0:0<h3.length:=At.lt C;generalize V.getD i 0=w at hid q4 e4 hst;simp[hi8,hup,hid,q1,q2,q3,q4,e4,y40,z4a,za5];refine⟨hlt,?_⟩;rw[hst];exact At.self hc0
    ·have:i=8:=by omega
     subst this;have l1:=z7w C z47;have hsc:setCells ((y5p V 8).map yd) 0 ((y5p V 8).map yd)=(y5p V 8).map yd:=zx rfl;have hss:h3.set 0 (.cells ((y5p V 8).map yd))=h3:=z7i C;have C2:h3[0]? = some (.cells ((y5p V 8).map yd)):=C;have hol:(y5p V 8).length=32:=z47;simp[l1,zk,C2,hsc,hss,hol]
     try trace_state
  ·rename_i h55;obtain⟨d,h3,e3,rfl,rfl⟩:=yil (hp:=h++[Obj.cells ((tl1 r).map yd)]) (id:=h.length) (off:=56) (n:=8) (gr:=false) (m:=tl1 r) (b.length*8) (by omega) (by omega) (by unfold tl1;rw[bn,htl];omega) (by simp[Bys,At])
   rw[c4]at e3;simp at e3;simp[ykm,hL,hL8,y40,e3,z4a,w56];have hM:(y7g (tl1 r) 56 8 (b.length*8) 8).length=128:=by rw[z68,zhw (by omega)]
   generalize y7g (tl1 r) 56 8 (b.length*8) 8=M at *
   refine zl 1 (fun j env h'=>∃(x4 x6 x7 x8 x9 x10 x11 x12 x13 x14 x15 x16 x17 x18 x19 x20 x21:D) (gr:Bool),env=[dBy b,.loc 0 0,.loc 1 0,.bfn 404 (.loc 1 0),x4,.sl h.length (64*j) (64 - 64*j) 1 false gr,x6,x7,x8,x9,x10,x11,x12,x13,x14,x15,x16,x17,x18,x19,x20,x21]/\Bys h' 0 z32/\Wds h' 1 (y5m M j S)/\Bys h' h.length M/\h.length<h'.length) 0 (by omega) ?_ ?_
   ·exact⟨_,_,_,_,_,_,_,_,_,_,_,_,_,_,_,_,_,true,rfl,B.app,W.app,by simp[Bys,At],by simp⟩
   rintro j env h' hj ⟨x4,x6,x7,x8,x9,x10,x11,x12,x13,x14,x15,x16,x17,x18,x19,x20,x21,gr,rfl,B1,W1,B2,hl1⟩
   by_cases hlt:j<1
   ·obtain⟨o,ho⟩:∃ o,o=64*j:=⟨_,rfl⟩;obtain⟨l,hl⟩:∃ l,l=64 - o:=⟨_,rfl⟩;have hb:y5m M (j+1) S=y4b (y5m M j S) ((M.drop o).take 64):=by rw[ho];rfl
    obtain⟨d,h2,e,rfl,w1,k1,l1⟩:=yko (st:=1) (hp:=h') (x:=.sl h.length o 64 1 false false) (b:=(M.drop o).take 64) (s:=y5m M j S) (z5d hS) (by simp;omega) W1 (zz6 B2 (by omega) (by omega) (by omega))
    rw[<- hb]at w1;have B1':Bys h2 0 z32:=k1.at (by omega) (by omega) B1
    have B2':Bys h2 h.length M:=k1.at (by omega) hl1 B2
    rw[<- ho,<- hl];have e1:=zyn (q:=h.length) (o:=o) (l:=l) (gr:=gr) (by omega)
    have e2:=zyl (q:=h.length) (o:=o) (l:=l) (gr:=gr) (by omega)
    have hpos:(0:Int)<l:=by omega
    have o1:64*(j+1)=o+64:=by omega
    have hpos':0<l:=by omega
    simp[hpos,hpos',e1,e2,e,z2f];exact⟨by omega,⟨by omega,by omega⟩,B1',w1,B2',by omega⟩
   ·have:j=1:=by omega
    subst this;have hSl:(y5m M 1 S).length=8:=z5d hS;have hsh:=hs2 (by omega)
    generalize y5m M 1 S=V at W1 hSl hsh;obtain⟨a0,a1,a2,a3,a4,a5,a6,a7,hV⟩:=yh9 hSl;have W2:h'[1]? = some (.cells (V.map dW)):=W1;rw[hV]at W2;simp at W2;simp[W2];rw[hsh];refine zl 8 (fun i env h3=>∃(x0 x2 x3 x4 x5 x6 x7 x8 x9 x10 x11 x12 x13 x14 x15 x16 x17 x20 x21:D) ,env=[x0,.loc 0 0,x2,x3,x4,x5,x6,x7,x8,x9,x10,x11,x12,x13,x14,x15,x16,x17,.agg [dW a0,dW a1,dW a2,dW a3,dW a4,dW a5,dW a6,dW a7],dI i,x20,x21]/\Bys h3 0 (y5p V i)) 0 (by omega) ?_ ?_
    ·exact⟨_,_,_,_,_,_,_,_,_,_,_,_,_,_,_,_,_,_,_,rfl,B1⟩
    rintro i env h3 hi ⟨x0,x2,x3,x4,x5,x6,x7,x8,x9,x10,x11,x12,x13,x14,x15,x16,x17,x20,x21,rfl,C⟩;have hidx:∀ i,i<8->([dW a0,dW a1,dW a2,dW a3,dW a4,dW a5,dW a6,dW a7]:List D)[i]? = some (dW (V.getD i 0)):=fun i hi=>by
     have e:([dW a0,dW a1,dW a2,dW a3,dW a4,dW a5,dW a6,dW a7]:List D)=V.map dW:=by rw[hV];rfl
     rw[e,ch,af,ac (by omega)];rfl
    by_cases hlt:i<8
    ·have hi8:(i:Int)<8:=by omega
     have hup:=ze hlt (by omega)
     have q1:aH.wrap (4*(i:Int))=4*(i:Int):=za ⟨by omega,by omega⟩
     have q2:aH.wrap (4*(i:Int)+4)=4*(i:Int)+4:=za ⟨by omega,by omega⟩
     have q3:=zyk hlt;have q4:bI.wrap ((V.getD i 0).toNat:Int)=(V.getD i 0).toNat:=by have:=yga (w:=V.getD i 0);rw[z2k];omega
     obtain⟨d,h4,e4,rfl,rfl⟩:=yil (hp:=h3) (id:=0) (off:=4*i) (n:=4) (gr:=false) (m:=y5p V i) (V.getD i 0).toNat (by have:=yga (w:=V.getD i 0);omega) (by omega) (by rw[z47];omega) C
     have hid:=hidx i hlt;have hst:y5p V (i+1)=y7g (y5p V i) (4*i) 4 (V.getD i 0).toNat 4:=rfl;have hc0:0<h3.length:=At.lt C;generalize V.getD i 0=w at hid q4 e4 hst;simp[hi8,hup,hid,q1,q2,q3,q4,e4,y40,z4a,za5];refine⟨hlt,?_⟩;rw[hst];exact At.self hc0
    ·have:i=8:=by omega
     subst this;have l1:=z7w C z47;have hsc:setCells ((y5p V 8).map yd) 0 ((y5p V 8).map yd)=(y5p V 8).map yd:=zx rfl;have hss:h3.set 0 (.cells ((y5p V 8).map yd))=h3:=z7i C;have C2:h3[0]? = some (.cells ((y5p V 8).map yd)):=C;have hol:(y5p V 8).length=32:=z47;simp[l1,zk,C2,hsc,hss,hol]
     try trace_state
theorem s384(n:Int)(h:0<=n)(h':n<=1000000000)(hp:List Obj):y1g E (dL E) (384) [.imm .exact [],dI n] hp=some (.imm (.tok hp.length) [],hp++[.tok 0 1]):=by
 have e:E.fn (384)=some f384:=rfl;have e2:E.mp 384=false:=rfl;have e3 : ¬ n<0:=by omega
 have e4:n*2<=yg:=by unfold yg;omega
 have e5:y2j 1 []=true:=rfl;unfold y1g;simp only[e,e2,f384,yp,z9h,z5w,zhd,z5b,z6q,y2s];simp[yi,yf,yn,y2g,DOp.fin,yo,yb,yq,gOf,z6q,y29,y67,y3a,y1o,y39,y2w,y7i,y32,y1a,yj,y2f,z5b,z8v,yy,e3,e4,e5,h,y35]
def y8v(ls:List (List UInt8))(i:Nat):List UInt8:=(ls.take i).flatten
theorem zz4{ls:List (List UInt8)}{i:Nat}(h:i<ls.length):y8v ls (i+1)=y8v ls i++ls[i]:=by unfold y8v;rw[aL h,kP];simp
theorem zte{ls:List (List UInt8)}{i:Nat}:(y8v ls i).length<=(y8v ls ls.length).length:=by
 have h:ls.flatten=(ls.take i).flatten++(ls.drop i).flatten:=by rw[<- kP,bT]
 unfold y8v;rw[bg,h,ar];omega
theorem r365(ls:List (List UInt8))(h1:(y8v ls ls.length).length<=1000000000)(h2:ls.length<=1000000000):yu E (dL E) 365 [.imm .none (ls.map fun l=>.imm .none (l.map yd))]=some (.imm .none ((y8v ls ls.length).map yd)):=by
 refine zg c365 (by simp) ?_
 conv in t365=>reduce;dsimp[ai]
 simp[t365,n365];refine zl ls.length (fun i env h=>∃(x1 x3 x4 x5 x9 x10 x11 x12 x13 x14 x15 x16:D) (m:Nat),env=[.imm .none (ls.map fun l=>.imm .none (l.map yd)),x1,dI m,x3,x4,x5,.imm .none (ls.map fun l=>.imm .none (l.map yd)),dI ls.length,dI i,x9,x10,x11,x12,x13,x14,x15,x16]/\h=[]/\m=(y8v ls i).length) 0 (by omega) ⟨_,_,_,_,_,_,_,_,_,_,_,_,0,rfl,rfl,rfl⟩ ?_
 rintro i env h hi ⟨x1,x3,x4,x5,x9,x10,x11,x12,x13,x14,x15,x16,m,rfl,rfl,hm⟩
 by_cases hlt:i<ls.length
 ·have hs:=zz4 hlt;have hb:=zte (ls:=ls) (i:=i+1);obtain⟨W,hW⟩:∃ W,ls[i]=W:=⟨_,rfl⟩;rw[hW]at hs;rw[hs,ar]at hb;have w:=za (n:=(m:Int)+W.length) ⟨by omega,by omega⟩
  have hn : ¬ (m:Int)+W.length<0:=by omega
  rw[hm]at w hn;simp[hlt,hW,w,hn,ze hlt (by omega),hs,hm]
 ·have:i=ls.length:=by omega
  subst this;have e:=s384 (m:Int) (by omega) (by omega) []
  have fb:∀ l:List UInt8,((l.map yd).all fun d=>d.storable && d.cellsL.length == 1)=true:=fun l=>z8s
  simp[e];refine zl ls.length (fun i env h=>∃(x1 x2 x3 x5 x6 x7 x8 x9 x10 x11 x15 x16:D) (k:Nat),env=[.imm .none (ls.map fun l=>.imm .none (l.map yd)),x1,x2,x3,.imm (.tok k) ((y8v ls i).map yd),x5,x6,x7,x8,x9,x10,x11,.imm .none (ls.map fun l=>.imm .none (l.map yd)),dI ls.length,dI i,x15,x16]/\At h k (.tok ((y8v ls i).length*1) 1)) 0 (by omega) ⟨_,_,_,_,_,_,_,_,_,_,_,_,0,rfl,rfl⟩ ?_
  clear hi hm e;rintro i env h hi ⟨x1,x2,x3,x5,x6,x7,x8,x9,x10,x11,x15,x16,k,rfl,a1⟩
  by_cases hlt:i<ls.length
  ·have hs:=zz4 hlt;have hb:=zte (ls:=ls) (i:=i+1);obtain⟨W,hW⟩:∃ W,ls[i]=W:=⟨_,rfl⟩;obtain⟨C,hC⟩:∃ C,y8v ls i=C:=⟨_,rfl⟩;obtain⟨C',hC'⟩:∃ C,y8v ls (i+1)=C:=⟨_,rfl⟩;rw[hW,hC,hC']at hs;rw[hC',hs,ar]at hb;have hap:=z23 (l:=C) (new:=W.map yd) (by rw[aD];omega)
   rw[hC]at a1 ⊢;have hcat:C.map yd++W.map yd=C'.map yd:=by rw[hs];simp
   have hlen:C'.length=C.length+W.length:=by rw[hs];simp
   simp[hlt,hW,zo,z14,a1.eq,hap,fb,ze hlt (by omega),↓hC']
   have hg:=z1p (hp:=h.set k Obj.dead) (r:=[Obj.tok (C.length+W.length) 1]) (k:=0);rw[bn,Nat.add_zero]at hg
   repeat apply Exists.intro
   refine⟨?_,hg.trans (by rw[hlen];rfl)⟩
   and_intros <;> first | rfl | exact hcat
  ·have:i=ls.length:=by omega
   subst this;simp[zk]
theorem ygq(a b:List UInt8)(h:a.length+b.length<=1000000000):yu E (dL E) 365 [.imm .none [dBy a,dBy b]]=some (dBy (a++b)):=by
 have e:=r365 [a,b] (by simp[y8v];omega) (by simp)
 rw[show y8v [a,b] [a,b].length=a++b from by simp[y8v]]at e
 exact e
theorem z41{b:List UInt8}:(y8y b).length=32:=by unfold y8y;split <;> exact z47
def tgB:List UInt8->List UInt8->List UInt8:=fun t b=>y8y (y8y t++b)
theorem zbe{H:List Obj}{n:Nat}:∀(l:List UInt8),(l.map yd).flatMap (ids H (n+1))=[]
 |[]=>rfl
 |c::l=>by rw[av,bv,zbe l];rfl
theorem ye2{A:Obj}{T b:List UInt8}(hl:T.length=32):ids [A,.cells (T.map yd)] 12 (.imm .exact [.sl 1 0 32 1 false false,dBy b])=[1]:=by
 have h1:ids [A,.cells (T.map yd)] 11 (.sl 1 0 32 1 false false)=[1]:=by
  show 1::(((T.map yd).drop 0).take (32*1)).flatMap (ids [A,.cells (T.map yd)] 10)=[1]
  rw[dp,ba (by simp[hl]),zbe]
 have h2:ids [A,.cells (T.map yd)] 11 (dBy b)=[]:=by
  show(b.map yd).flatMap (ids [A,.cells (T.map yd)] 10)=[]
  exact zbe b
 show[D.sl 1 0 32 1 false false,dBy b].flatMap (ids [A,.cells (T.map yd)] 11)=[1]
 rw[bv,bv,h1,h2];rfl
theorem zwd{A:Obj}{cs:List D}:yz [A,.cells cs] [1]=[A,.frozen cs]:=rfl
theorem yky(t b:List UInt8)(ht:t.length<=1000)(hb:b.length<=900000000):yu E (dL E) 331 [.str t,dBy b]=some (y8g (tgB t b)):=by
 have e1:=r364 t (by omega)
 have e2:=ygq (y8y t) b (by rw[z41];omega)
 have e3:=r364 (y8y t++b) (by rw[ar,z41];omega)
 have hl:=z41 (b:=t);refine zg c331 (by simp) ?_
 conv in t331=>reduce;dsimp[ai]
 have hl3:=z41 (b:=y8y t++b);unfold tgB;generalize y8y t=T at e1 e2 e3 hl hl3 ⊢;generalize y8y (T++b)=U at e3 hl3 ⊢;have hsl:y12 E 73 (.loc 1 0) none none none=some (.sl 1 0 32 1 false false):=rfl;have hsc:setCells (z32.map yd) 0 (T.map yd)=T.map yd:=zx (by rw[aD,aD,hl];rfl)
 have hz:z32.map yd=ah 32 (D.int .u8 0):=by unfold z32;rw[eZ];rfl
 rw[hz]at hsc;simp only[ah]at hsc;have hck:y31 1 false 32 (T.map yd)=some (T.map yd):=by rw[z78 32 T (by omega),ba (by omega)]
 have hsc2:setCells (z32.map yd) 0 (U.map yd)=U.map yd:=zx (by rw[aD,aD,hl3];rfl)
 rw[hz]at hsc2;simp only[ah]at hsc2;have hfa:y1h (frz [] 11) (T.map yd++b.map yd)=some (T.map yd++b.map yd):=by rw[<- bm];exact zk
 have e3':yu E (dL E) 364 [.imm .none (T.map yd++b.map yd)]=some (y8g U):=by rw[<- bm];exact e3
 have hid:=fun A:Obj=>ye2 (A:=A) (b:=b) hl
 have hld:∀ A:Obj,y15 E [.cells (U.map yd),A] 73 (.loc 0 0)=some (.agg (U.map yd)):=fun A=>z7w rfl hl3
 simp[t331,n331,e1,e2,e3',zk,hl,hl3,hsl,↓hsc,↓hsc2,hck,hfa,↓hid,zwd,↓hld]
theorem r335(a b:List UInt8)(ha:a.length=32)(hb:b.length=32):yu E (dL E) 335 [y8g a,y8g b]=some (y8g (tgB [99,104,97,105,110] (a++b))):=by
 have e1:=ygq a b (by omega)
 have e2:=yky [99,104,97,105,110] (a++b) (by simp) (by simp;omega)
 have hl:(tgB [99,104,97,105,110] (a++b)).length=32:=z41;have s1:=zal ha;have s2:=zal hb;refine zg c335 (by simp) ?_
 conv in t335=>reduce;dsimp[ai]
 generalize tgB [99,104,97,105,110] (a++b)=U at e2 hl ⊢;have e2':yu E (dL E) 331 [.str [99,104,97,105,110],.imm .none (a.map yd++b.map yd)]=some (y8g U):=by rw[<- bm];exact e2
 have hfa:y1h (frz [] 11) (a.map yd++b.map yd)=some (a.map yd++b.map yd):=by rw[<- bm];exact zk
 have hsc2:setCells (z32.map yd) 0 (U.map yd)=U.map yd:=zx (by rw[aD,aD,hl];rfl)
 have hz:z32.map yd=ah 32 (D.int .u8 0):=by unfold z32;rw[eZ];rfl
 rw[hz]at hsc2;simp only[ah]at hsc2;have hld:∀ r:List Obj,y15 E (.cells (U.map yd)::r) 73 (.loc 0 0)=some (.agg (U.map yd)):=fun r=>z7w rfl hl
 have hfz:frz [] 11 (.str [99,104,97,105,110])=some (.str [99,104,97,105,110]):=rfl;have hfz2:frz [] 12 (.str [99,104,97,105,110])=some (.str [99,104,97,105,110]):=rfl;simp[t335,n335,e1,e2',zk,ha,hb,hl,s1,s2,↓hsc2,hfa,↓hld,hfz,hfz2]
abbrev pC(p:Pst):List D:=dI p.no::dI p.minute::dI p.corrects :: .imm .none (p.ents.map y2k)::p.prev.map yd
theorem zrb{h:List Obj}{p:Pst}(h32:p.prev.length=32):y15 E h 71 (.iptr (pC p))=some (y51 p):=zrr h32
theorem ydo{h r:List Obj}{p:Pst}(h32:p.prev.length=32):y15 E (h ++ .cells (pC p)::r) 71 (.loc h.length 0)=some (y51 p):=by
 have e:=z2l 36 0 (pC p) (by simp[h32])
 have e2:(h++Obj.cells (pC p)::r)[h.length]? = some (.cells (pC p)):=by simp
 unfold y15;simp only[e2,show(E.ty 71).size=36 from rfl,e]
 rfl
theorem stP{p:Pst}(h32:p.prev.length=32):setCells (dI p.no::dI p.minute::dI p.corrects :: .imm .none (p.ents.map y2k)::ah 32 (D.int .u8 0)) 4 (p.prev.map yd)=pC p:=by
 have e:=z15 (a:=[dI p.no,dI p.minute,dI p.corrects,.imm .none (p.ents.map y2k)]) (b:=ah 32 (D.int .u8 0)) (off:=0) (vs:=p.prev.map yd);rw[zx (by simp[h32])]at e
 exact e
def y9p(l:List Pst):Prop:=l.length<=1000000 /\ ∀ p,p ∈ l->p.prev.length=32/\p.ents.length<=1000000
open Classical in
noncomputable def rdD(l:List Pst):D:=.tup [y8g (if rdE tgB l=0 then y6m tgB l else z32),dI (rdE tgB l)]
theorem z8u:∀{a b:List Pst},y36 a=0->y36 (a++b)=y36 b
 |[],b,_=>rfl
 |p::a,b,h=>by
  simp only[y36,aJ]at h ⊢;split at h
  ·rename_i hp;rw[if_pos hp];exact z8u h
  ·rename_i hp;exact absurd h hp
theorem zsm{l:List Pst}{i:Nat}(h:i<l.length)(h0:y36 (l.take i)=0)(hp:y6t l[i] ≠ 0):y36 l=y6t l[i]:=by
 have e:l=l.take i++l.drop i:=(bT i l).symm;have e2:y36 l=y36 (l.drop i):=by
  conv=>lhs;rw[e]
  exact z8u h0
 rw[e2,ca h,y36,if_neg hp]
theorem zwk{l:List Pst}{i:Nat}(h:i<l.length)(h0:y36 (l.take i)=0)(hp:y6t l[i]=0):y36 (l.take (i+1))=0:=by rw[aL h,z8u h0,y36,if_pos hp];rfl
theorem zra{H:List Obj}{q:Nat}{m:List UInt8}(B:Bys H q m)(h:m.length=32):y15 E H 73 (.loc q 0)=some (.agg (m.map yd)):=by
 have B2:H[q]? = some (.cells (m.map yd)):=B;have e:=z2l 32 0 (m.map yd) (by simp[h])
 unfold y15;simp only[y13,B2,show(E.ty 73).size=32 from rfl,e]
 rfl
theorem zbq:∀{a b:List UInt8},a.length=b.length->eqL (a.map yd) (b.map yd)=some (decide (a=b))
 |[],[],_=>rfl
 |x::a,y::b,h=>by
  have ih:=zbq (a:=a) (b:=b) (by simpa using h)
  have e:y27 (yd x) (yd y)=some (((x.toNat:Int)) == (y.toNat:Int)):=by unfold y27 yd;simp
  rw[av,av,eqL,e,ih];simp only[aa]
  by_cases hxy:x=y
  ·subst hxy;simp
  ·have : ¬ ((x.toNat:Int))=(y.toNat:Int):=fun h=>hxy (UInt8.toNat_inj.1 (by omega))
   simp[hxy,this]
 |[],_::_,h=>by simp at h
 |_::_,[],h=>by simp at h
theorem z71:∀{a:List UInt8},y1y (a.map yd) (ah a.length (D.int .u8 0))=true
 |[]=>rfl
 |x::a=>by rw[av,aq,List.replicate_succ];simp only[y1y,yd,decide_true,Bool.true_and];exact z71
theorem zim{a b:List UInt8}(ha:a.length=32)(hb:b.length=32):y32 E .neq 73 (.agg (a.map yd)) (.agg (b.map yd))=some (.bool (!decide (a=b))):=by
 have h1:(E.ty 73).eqc=true:=rfl;have h2:(E.ty 73).zero=ah a.length (D.int .u8 0):=by rw[ha];rfl
 unfold y32;simp only[];rw[if_pos ⟨h1,by rw[h2];exact z71⟩,zbq (by rw[ha,hb])]
theorem yla{h r:List Obj}{p:Pst}(h32:p.prev.length=32):y15 E (h ++ .cells (pC p)::r) 73 (.loc h.length 4)=some (.agg (p.prev.map yd)):=by
 have e:=z2l 32 4 (pC p) (by simp[h32])
 have e2:(h++Obj.cells (pC p)::r)[h.length]? = some (.cells (pC p)):=by simp
 unfold y15;simp only[e2,show(E.ty 73).size=32 from rfl,e]
 rfl
theorem y79:∀{l:List Pst},(y6m tgB l).length=32:=by
 intro l;unfold y6m;rcases List.eq_nil_or_concat l with e | ⟨a,b,e⟩
 ·rw[e];show(tgB y5h []).length=32
  exact z41
 ·rw[e,List.concat_eq_append,List.foldl_append];exact(show(y8y _).length=32 from z41)
theorem r354(l:List Pst)(h:y9p l):yu E (dL E) 354 [y1x l]=some (rdD l):=by
 refine zg c354 (by simp) ?_
 conv in t354=>reduce;dsimp[ai]
 obtain⟨hl,hp⟩:=h
 by_cases hlen:65536<l.length
 ·have hE:rdE tgB l=2:=by unfold rdE;rw[if_pos hlen]
  unfold rdD;rw[hE,if_neg (by decide)]
  have hln:(65536:Int)<l.length:=by omega
  simp[t354,n354,hln]
  rfl
 ·have hln : ¬ (65536:Int)<l.length:=by omega
  simp[t354,n354,hln];refine zl l.length (fun i env h=>∃(x2 x3 x4 x5 x6 x7 x8 x9 x13 x14 x15 x16 x17 x18 x19 x20 x21 x22 x23:D) ,env=[y1x l,.loc 0 0,x2,x3,x4,x5,x6,x7,x8,x9,y1x l,dI l.length,dI i,x13,x14,x15,x16,x17,x18,x19,x20,x21,x22,x23]/\Bys h 0 z32/\y36 (l.take i)=0) 0 (by omega) ?_ ?_
  ·exact⟨_,_,_,_,_,_,_,_,_,_,_,_,_,_,_,_,_,_,_,rfl,rfl,rfl⟩
  rintro i env h hi ⟨x2,x3,x4,x5,x6,x7,x8,x9,x13,x14,x15,x16,x17,x18,x19,x20,x21,x22,x23,rfl,B,F⟩
  by_cases hlt:i<l.length
  ·obtain⟨p,hpi⟩:∃ p,p=l[i]:=⟨_,rfl⟩;have hp2:=hp p (by rw[hpi];exact au hlt)
   have h355:=ykv p hp2.1 hp2.2;have hup:=ze hlt (by omega)
   have hli:l[i]? = some p:=by rw[hpi];simp[hlt]
   have q1:=fun h:List Obj=>zrb (h:=h) hp2.1
   have q2:=fun h:List Obj=>ydo (h:=h) (r:=[]) hp2.1
   have q3:=stP hp2.1;have z1:∀ r:List Obj,y15 E (h++r) 73 (.loc 0 0)=some (.agg (z32.map yd)):=fun r=>z7w B.app rfl
   have z2:∀ r:List Obj,(h++r)[0]? = some (.cells (z32.map yd)):=fun r=>B.app
   have z3:setCells (z32.map yd) 0 (z32.map yd)=z32.map yd:=zx rfl;have z4:∀ r:List Obj,(h++r).set 0 (.cells (z32.map yd))=h++r:=fun r=>z7i B.app
   have z5:z32.length=32:=rfl;simp only[ah]at q3;simp[hlt,hup,<- hpi,hp2.1,↓q1,↓q2,↓q3,z2j,zk,h355,↓z1,↓z2,z3,↓z4,z5]
   by_cases hpc:y6t p=0
   ·rw[if_pos hpc];exact⟨B.app,zwk hlt F (by rw[<- hpi];exact hpc)⟩
   ·rw[if_neg hpc];have hf:=zsm hlt F (by rw[<- hpi];exact hpc)
    rw[<- hpi]at hf;have hE:rdE tgB l=y6t p:=by unfold rdE;rw[if_neg hlen,if_pos (by rw[hf];exact hpc),hf]
    unfold rdD;rw[hE,if_neg hpc]
  ·have:i=l.length:=by omega
   subst this;rw[bg]at F;have z1:∀ r:List Obj,y15 E (h++r) 73 (.loc 0 0)=some (.agg (z32.map yd)):=fun r=>z7w B.app rfl
   have e331:=yky y5h [] (by decide) (by simp)
   have hT:tgB y5h []=y7e tgB:=rfl;rw[hT]at e331;have hTl:(y7e tgB).length=32:=y79 (l:=[]);have hd0:y7e tgB=y6m tgB (l.take 0):=by rw[List.take_zero];rfl
   have e331:yu E (dL E) 331 [.str [112,111,115,116,105,110,103,115],.imm .none []]=some (y8g (y7e tgB)):=e331;generalize y7e tgB=d0 at e331 hTl hd0;have hsc2:setCells (z32.map yd) 0 (d0.map yd)=d0.map yd:=zx (by rw[aD,aD,hTl];rfl)
   have hz:z32.map yd=ah 32 (D.int .u8 0):=by unfold z32;rw[eZ];rfl
   rw[hz]at hsc2;simp only[ah]at hsc2;have hst:∀ n s,frz [] (n+1) (.str s)=some (.str s):=fun _ _=>rfl
   simp[e331,hTl,↓hsc2,hst];obtain⟨C,hC⟩:∃ C,C=h.length:=⟨_,rfl⟩;have hC0:0<C:=by rw[hC];exact At.lt B
   refine zl l.length (fun i env h'=>∃(x2 x3 x4 x6 x7 x8 x9 x10 x11 x12 x13 x14 x15 x19 x20 x21 x22 x23:D) ,env=[y1x l,.loc 0 0,x2,x3,x4,.loc C 0,x6,x7,x8,x9,x10,x11,x12,x13,x14,x15,y1x l,dI l.length,dI i,x19,x20,x21,x22,x23]/\Bys h' 0 z32/\Bys h' C (y6m tgB (l.take i)) /\ ∀ j p,j<i->l[j]? = some p->atP tgB l j p) 0 (by omega) ?_ ?_
   ·rw[<- hC];exact⟨_,_,_,_,_,_,_,_,_,_,_,_,_,_,_,_,_,_,rfl,B.app,by rw[<- hd0,hC];simp[Bys,At],fun j p hj=>absurd hj (by omega)⟩
   rintro i env h' hi ⟨x2,x3,x4,x6,x7,x8,x9,x10,x11,x12,x13,x14,x15,x19,x20,x21,x22,x23,rfl,B0,BC,V⟩
   by_cases hlt:i<l.length
   ·obtain⟨p,hpi⟩:∃ p,p=l[i]:=⟨_,rfl⟩;have hp2:=hp p (by rw[hpi];exact au hlt)
    have h334:=r334 p hp2.1 hp2.2;have hgp:gdP p:=z5a.1 F p (by rw[hpi];exact au hlt)
    unfold ylo at h334;rw[if_pos (z4k.2 hgp)]at h334;have hup:=ze hlt (by omega)
    have hli:l[i]? = some p:=by rw[hpi];simp[hlt]
    have q1:=fun h:List Obj=>zrb (h:=h) hp2.1
    have q2:=fun r:List Obj=>ydo (h:=h') (r:=r) hp2.1
    have q3:=stP hp2.1;have q4:=fun r:List Obj=>yla (h:=h') (r:=r) hp2.1
    have z1:∀ r:List Obj,y15 E (h'++r) 73 (.loc 0 0)=some (.agg (z32.map yd)):=fun r=>z7w B0.app rfl
    have z2:∀ r:List Obj,(h'++r)[0]? = some (.cells (z32.map yd)):=fun r=>B0.app
    have z3:setCells (z32.map yd) 0 (z32.map yd)=z32.map yd:=zx rfl;have z4:∀ r:List Obj,(h'++r).set 0 (.cells (z32.map yd))=h'++r:=fun r=>z7i B0.app
    have z5:z32.length=32:=rfl;obtain⟨Z,hZ⟩:∃ Z,Z=y6m tgB (l.take i):=⟨_,rfl⟩;rw[<- hZ]at BC;have hZ32:Z.length=32:=by rw[hZ];exact y79
    have y1:∀ r:List Obj,y15 E (h'++r) 73 (.loc C 0)=some (.agg (Z.map yd)):=fun r=>zra BC.app hZ32
    have y2:∀ r:List Obj,(h'++r)[C]? = some (.cells (Z.map yd)):=fun r=>BC.app
    have y3:=zim hp2.1 hZ32;have y1':∀ r r2:List Obj,y15 E (h'++r++r2) 73 (.loc C 0)=some (.agg (Z.map yd)):=fun r r2=>by rw[bi];exact y1 _
    have q4':∀ r:List Obj,y15 E (h'++[.cells (pC p)]++r) 73 (.loc h'.length 4)=some (.agg (p.prev.map yd)):=fun r=>by rw[bi];exact q4 _
    have q2':∀ r:List Obj,y15 E (h'++[.cells (pC p)]++r) 71 (.loc h'.length 0)=some (y51 p):=fun r=>by rw[bi];exact q2 _
    simp only[ah]at q3;have hen:(ya2 p).length<=900000000:=by
     have:=zll (zru hgp.fm) hp2.2 (by omega)
     omega
    have e331p:=yky y4a (ya2 p) (by decide) hen
    have hT32:(tgB y4a (ya2 p)).length=32:=z41;have e335:=r335 Z (tgB y4a (ya2 p)) hZ32 hT32;have hN:tgB [99,104,97,105,110] (Z++tgB y4a (ya2 p))=y6m tgB (l.take (i+1)):=by rw[zsy hlt,<- hZ,<- hpi];rfl
    rw[hN]at e335;have e331p:yu E (dL E) 331 [.str [112,111,115,116,105,110,103],dBy (ya2 p)]=some (y8g (tgB y4a (ya2 p))):=e331p;generalize tgB y4a (ya2 p)=Tp at e331p e335 hT32 hN;clear hN;have hN32:=y79 (l:=l.take (i+1));obtain⟨N,hNe⟩:∃ N,N=y6m tgB (l.take (i+1)):=⟨_,rfl⟩;rw[<- hNe]at e335 hN32;have y5:setCells (Z.map yd) 0 (N.map yd)=N.map yd:=zx (by rw[aD,aD,hZ32,hN32])
    have y6:∀ r:List Obj,(h'++r).set C (.cells (N.map yd))=h'.set C (.cells (N.map yd))++r:=fun r=>z1d (At.lt BC)
    have fin:∀ r:List Obj,Bys (h'.set C (.cells (N.map yd))++r) 0 z32/\Bys (h'.set C (.cells (N.map yd))++r) C (y6m tgB (l.take (i+1)))/\(p.no=i->p.prev=Z->(∀ q,0<i->l[i - 1]? = some q->q.minute<=p.minute)->∀ j p,j<i+1->l[j]? = some p->atP tgB l j p):=by
     intro r;refine⟨(At.ne B0 (by omega)).app,by rw[<- hNe];exact(At.self (At.lt BC)).app,fun h1 h2 h3 j p' hj hp'=>?_⟩
     by_cases hji:j<i
     ·exact V j p' hji hp'
     ·have:j=i:=by omega
      subst this;rw[hli]at hp';cases hp';exact⟨h1,by rw[h2,hZ],fun k q hk hq=>h3 q (by omega) (by rw[show j - 1=k from by omega];exact hq)⟩
    have bad:(¬ p.no=i\/(∃ q,l[i - 1]? = some q/\0<i/\p.minute<q.minute) \/ ¬ p.prev=Z)->rdD l=.tup [y8g z32,dI 410]:=by
     intro hb;have hv : ¬ vld tgB l:=by
      intro v;have a:=v.2.2 i p hli;rcases hb with h1 | ⟨q,h1,h2,h3⟩ | h1
      ·exact h1 a.no
      ·have:=a.minute (i - 1) q (by omega) h1
       omega
      ·exact h1 (by rw[hZ];exact a.prev)
     have hE:rdE tgB l=410:=by unfold rdE;rw[if_neg hlen,if_neg (by simp[F]),if_neg hv]
     unfold rdD;rw[hE,if_neg (by decide)]
    by_cases hno:p.no=(i:Int)
    ·have hno':=eq_true hno;have hst2:(0<i /\ ∃ q,l[i - 1]? = some q/\q.prev.length=32)\/i=0:=by
      rcases ek i with h0 | h0
      ·exact .inr h0
      ·exact .inl ⟨h0,l[i - 1],ac (by omega),(hp _ (au _)).1⟩
     have hw1:0<i->aH.wrap ((i:Int) - 1)=((i - 1:Nat):Int):=fun h0=>by rw[za ⟨by omega,by omega⟩];omega
     by_cases hpv:p.prev=Z
     ·have hpv':=eq_true hpv;rcases hst2 with⟨h0,q,hq,hq32⟩ | h0
      ·by_cases hm:p.minute<q.minute
       ·rw[bad (.inr (.inl ⟨q,hq,h0,hm⟩))];simp[hlt,<- hpi,hp2.1,↓q1,↓q3,↓q4,↓q4',↓q2,↓q2',↓y1,↓y1',y3,hno',h0,hw1 h0,hq,hq32,hm,↓z1,↓z2,z3,↓z4,z5,zk]
       ·simp[hlt,<- hpi,hp2.1,↓q1,↓q3,↓q4,↓q4',↓q2,↓q2',↓y1,↓y1',y3,hno',h0,hw1 h0,hq,hq32,hm,hpv',hup,h334,z2j,zk,hst,e331p,e335,hT32,hZ32,hN32,y5,↓y2,↓y6];exact⟨(fin _).1,(fin _).2.1,(fin []).2.2 hno hpv fun q' _ hq'=>by rw[hq]at hq';cases hq';omega⟩
      ·have h0' : ¬ 0<i:=by omega
       simp[h0',hlt,<- hpi,hp2.1,↓q1,↓q3,↓q4,↓q4',↓q2,↓q2',↓y1,↓y1',y3,hno',hpv',hup,h334,z2j,zk,hst,e331p,e335,hT32,hZ32,hN32,y5,↓y2,↓y6];exact⟨(fin _).1,(fin _).2.1,(fin []).2.2 hno hpv fun q' h0 _=>absurd h0 h0'⟩
     ·rw[bad (.inr (.inr hpv))];rcases hst2 with⟨h0,q,hq,hq32⟩ | h0
      ·by_cases hm:p.minute<q.minute
       ·simp[hlt,<- hpi,hp2.1,↓q1,↓q3,↓q4,↓q4',↓q2,↓q2',↓y1,↓y1',y3,hno',h0,hw1 h0,hq,hq32,hm,↓z1,↓z2,z3,↓z4,z5,zk]
       ·simp[hlt,<- hpi,hp2.1,↓q1,↓q3,↓q4,↓q4',↓q2,↓q2',↓y1,↓y1',y3,hno',h0,hw1 h0,hq,hq32,hm,hpv,↓z1,↓z2,z3,↓z4,z5,zk]
      ·have h0' : ¬ 0<i:=by omega
       simp[h0',hlt,<- hpi,hp2.1,↓q1,↓q3,↓q4,↓q4',↓q2,↓q2',↓y1,↓y1',y3,hno',hpv,↓z1,↓z2,z3,↓z4,z5,zk]
    ·rw[bad (.inl hno)];simp[hlt,<- hpi,hp2.1,↓q1,↓q3,↓q4,↓q4',↓q2,↓q2',↓y1,↓y1',y3,hno,↓z1,↓z2,z3,↓z4,z5,zk]
   ·have:i=l.length:=by omega
    subst this;rw[bg]at BC;have hv:vld tgB l:=⟨by omega,fun p hp=>z5a.1 F p hp,fun i p hi=>V i p (ae.1 hi).1 hi⟩
    have hE:rdE tgB l=0:=z26.2 hv;have y1:=zra BC y79;have z2:h'[0]? = some (.cells (z32.map yd)):=B0;have y4:setCells (z32.map yd) 0 ((y6m tgB l).map yd)=(y6m tgB l).map yd:=zx (by rw[aD,aD,y79];rfl)
    have hl0:0<h'.length:=At.lt B0;have y5:Bys (h'.set 0 (.cells ((y6m tgB l).map yd))) 0 (y6m tgB l):=At.self hl0;have y6:=z7w y5 y79;have hD:rdD l=.tup [y8g (y6m tgB l),dI 0]:=by unfold rdD;rw[hE,if_pos rfl]
    have d32:=y79 (l:=l);rw[hD];have z5:z32.length=32:=rfl;simp[y1,z2,y4,↓y6,d32,z5,zk]
theorem z7f:∀(a b:List D) (k:Nat) (pre:List D),pre.length=k->y2b (pre++a++b) k a.length=some a
 |[],b,k,pre,h=>rfl
 |x::a,b,k,pre,h=>by
  have ih:=z7f a b (k+1) (pre++[x]) (by simp[h])
  have hx:(pre++(x::a)++b)[k]? = some x:=by rw[bi,aF (by omega),h,fw];rfl
  rw[aq,y2b,hx];have e:pre++[x]++a++b=pre++x::a++b:=by simp
  rw[e]at ih;rw[ih]
theorem zdm{sz:Nat}:∀(els:List D),(∀ x,x ∈ els->x.cellsL.length=sz/\ym true x.cellsL=some x)->y31 sz true els.length (yr els)=some els
 |[],_=>rfl
 |x::els,h=>by
  obtain⟨h1,h2⟩:=h x (by simp)
  have ih:=zdm els fun y hy=>h y (by simp[hy])
  have ht:=z7f x.cellsL (yr els) 0 [] rfl;rw[bo,h1]at ht;rw[aq,y31,z1n,ht];simp only[h2];rw[show(x.cellsL++yr els).drop sz=yr els from by rw[<- h1];simp,ih]
theorem zqk{p:Pst}(h:p.prev.length=32):(pC p).length=36:=by simp[h]
theorem yl3{p:Pst}:∀ d,d ∈ pC p->d.atom=true:=by intro d hd;simp only[pC,aA,aK]at hd;rcases hd with rfl | rfl | rfl | rfl | ⟨b,_,rfl⟩ <;> rfl
theorem ygo{p:Pst}:(y51 p).storable=true:=by
 show(pC p).all D.atom=true
 rw[ay];exact yl3
theorem zh6{l:List Pst}(h:∀ p,p ∈ l->p.prev.length=32):y2j 36 (l.map y51)=true:=by
 unfold y2j;rw[ay];intro x hx;obtain⟨p,hp,rfl⟩:=aK.1 hx;have h1:((y51 p).cellsL.length == 36)=true:=by
  show((pC p).length == 36)=true
  rw[zqk (h p hp)];rfl
 rw[ygo,h1];rfl
theorem zb7{hp:List Obj}{sp:yt}{l:List Pst}(h:∀ p,p ∈ l->p.prev.length=32):y1a hp 36 true (.imm sp (l.map y51))=some (l.map y51):=by have:=zh6 h;unfold y2j at this;simp only[y1a];rw[if_pos this]
def pCs(l:List Pst):List D:=yr (l.map y51)
theorem yd6{l:List Pst}(h:∀ p,p ∈ l->p.prev.length=32):(pCs l).length=l.length*36:=by have:=zdg (zh6 h);unfold pCs;rw[this,aD]
theorem zv9{l:List Pst}{p:Pst}:pCs l++yr [y51 p]=pCs (l++[p]):=by unfold pCs;rw[bm,z20];rfl
theorem zod{l:List Pst}(h:∀ p,p ∈ l->p.prev.length=32):y31 36 true l.length (pCs l)=some (l.map y51):=by
 have:=zdm (sz:=36) (l.map y51) fun x hx=>by obtain⟨p,hp,rfl⟩:=aK.1 hx;exact⟨zqk (h p hp),rfl⟩
 rw[aD]at this;exact this
theorem zt{hp:List Obj}{n:Nat}{l:List Pst}:y1h (frz hp (n+5)) (l.map y51)=some (l.map y51):=z1e fun _ _=>ye6
theorem e70:(E.ty 70).k=.slice 71:=rfl
theorem zu1{hp:List Obj}{id:Nat}{sp:yt}{l:List Pst}(h:∀ p,p ∈ l->p.prev.length=32)(hl:l.length<=1000000)(h0:l ≠ []) :
  y1o E hp id 70 70 (.imm .exact []) (.imm sp (l.map y51))=some ⟨.sl id 0 l.length 36 true true,some (.cells (pCs l)),none⟩:=by
 have h4 : ¬ l.length=0:=fun h=>h0 (aI h)
 have h5:(0+l.length)*(80+1)<=yg/\80<=65536/\(y26 E 71).isSome=true/\y2j 36 ([]:List D)=true:=⟨by simp[yg];omega,by decide,rfl,rfl⟩
 unfold y1o;simp only[e70];rw[show y1a hp (E.ty 71).size (E.ty 71).ag (.imm sp (l.map y51))=some (l.map y51)from zb7 h]
 simp only[aD,aV];rw[if_neg h4,show(E.ty 71).bytes=80 from rfl,show(E.ty 71).size=36 from rfl,if_pos h5]
 simp only[bJ,pCs,yr,List.flatMap_nil,bo]
 rfl
def cpy(n:Nat)(l:List Pst):D:=if l=[]then .imm .exact []else .sl n 0 l.length 36 true true
def ya4(l:List Pst):List Obj:=if l=[]then[]else[.cells (pCs l)]
theorem s356(l:List Pst)(h:∀ p,p ∈ l->p.prev.length=32)(hl:l.length<=1000000)(hp:List Obj):y1g E (dL E) 356 [y1x l] hp=some (cpy hp.length l,hp++ya4 l):=by
 have:∃ d hp',y1g E (dL E) 356 [y1x l] hp=some (d,hp')/\(d=cpy hp.length l/\hp'=hp++ya4 l):=by
  refine z1i c356 (args:=[y1x l]) (hp:=hp) (R:=fun d hp'=>d=cpy hp.length l/\hp'=hp++ya4 l) (by simp) ?_
  conv in t356=>reduce;dsimp[ai]
  by_cases h0:l=[]
  ·subst h0;simp[t356,n356,cpy,ya4,y1o,y1a,yj]
  ·have ap:=fun hp id=>zu1 (hp:=hp) (id:=id) (sp:=.none) h hl h0
   simp[t356,n356,cpy,ya4,ap,yj,h0]
 obtain⟨d,hp',e,rfl,rfl⟩:=this;exact e
theorem yl7(l:List Pst)(h:∀ p,p ∈ l->p.prev.length=32)(hl:l.length<=1000000)(hp:List Obj):y75 (y1g E (dL E)) 356 [y1x l] hp=some (cpy hp.length l,hp++ya4 l):=by
 unfold y75;rw[s356 l h hl,er];have hm:yy (cpy hp.length l)=false:=by unfold cpy;split <;> rfl
 simp only[y18,hm,Bool.false_eq_true,if_false,al,aa,aw,true_and];rw[List.drop_append_of_le_length (by simp),List.drop_of_length_le (by simp),bo]
theorem yip(l:List Pst)(h:y9p l):yu E (dL E) 324 [y1x l]=some (dI (rdE tgB l)):=by
 refine zg c324 (by simp) ?_
 conv in t324=>reduce;dsimp[ai]
 have e:=r354 l h;unfold rdD at e;simp[t324,n324,e,zt]
theorem zd9{hp:List Obj}{sp:yt}{p:Pst}(h:p.prev.length=32):y1a hp 36 true (.imm sp [y51 p])=some [y51 p]:=zb7 (l:=[p]) (by simp[h])
theorem zy1{pre:List Obj}{l:List Pst}{p:Pst}{sp:yt}(h:∀ p,p ∈ l->p.prev.length=32)(hp:p.prev.length=32)(hl:l.length<=1000000) :
  ∃ m X,y3a E (pre++ya4 l) 70 70 (cpy pre.length l) (.imm sp [y51 p])=some (.sl m 0 (l.length+1) 36 true true,X)/\At X m (.cells (pCs (l++[p]))):=by
 by_cases h0:l=[]
 ·subst h0;refine⟨pre.length,pre++[.cells (pCs [p])],?_,by simp[At]⟩
  have h5:(0+1)*(80+1)<=yg/\80<=65536/\(y26 E 71).isSome=true/\y2j 36 ([]:List D)=true:=⟨by simp[yg],by decide,rfl,rfl⟩
  unfold y3a cpy ya4;simp only[if_true,bL,e70];rw[show y1a pre (E.ty 71).size (E.ty 71).ag (.imm sp [y51 p])=some [y51 p]from zd9 hp]
  simp only[aq,aV];rw[if_neg (by simp),show(E.ty 71).bytes=80 from rfl,show(E.ty 71).size=36 from rfl,if_pos h5]
  rfl
 ·have hg:(pre++ya4 l)[pre.length]? = some (.cells (pCs l)):=by unfold ya4;rw[if_neg h0];simp
  refine⟨(pre++ya4 l).length,(pre++ya4 l).set pre.length .dead++[.cells (pCs (l++[p]))],?_,by simp[At]⟩
  have h5:(l.length+1)*(80+1)<=yg/\80<=65536/\(y26 E 71).isSome=true/\(36:Nat)=36/\(pCs l).length=l.length*36:=⟨by simp[yg];omega,by decide,rfl,rfl,yd6 h⟩
  unfold y3a cpy;simp only[if_neg h0,e70];rw[show y1a (pre++ya4 l) (E.ty 71).size (E.ty 71).ag (.imm sp [y51 p])=some [y51 p]from zd9 hp,hg]
  simp only[aq,aV];rw[if_neg (by simp),show(E.ty 71).bytes=80 from rfl,show(E.ty 71).size=36 from rfl,if_pos h5,zv9]
  rfl
theorem zw3{X:List Obj}{m n:Nat}{L:List Pst}{gr:Bool}(h:At X m (.cells (pCs L)))(h32:∀ p,p ∈ L->p.prev.length=32):frz X (n+6) (.sl m 0 L.length 36 true gr)=some (y1x L):=by
 have hr:y13 X m=some (pCs L):=by unfold y13;rw[h.eq]
 show(match y13 X m with | some cs=>(match y31 36 true L.length (cs.drop 0)with | some els=>(y1h (frz X (n+5)) els).map (D.imm .none) | none=>none) | none=>none)=_
 rw[hr];simp only[dp];rw[zod h32];simp only[];rw[zt]
 rfl
open Classical in
noncomputable def poD(l:List Pst)(s:Stp):D:=.tup [y1x (if y4i tgB l s=0 then l++[y90 tgB l s]else[]),dI (y4i tgB l s)]
theorem r316(l:List Pst)(s:Stp)(h:y9p l)(hs:s.ents.length<=1000000):yu E (dL E) 316 [y1x l,dI s.minute,dI s.corrects,.imm .none (s.ents.map y2k)]=some (poD l s):=by
 refine zg c316 (by simp) ?_
 conv in t316=>reduce;dsimp[ai]
 have e354:=r354 l h;unfold rdD at e354;obtain⟨d,hd⟩:∃ d,d=(if rdE tgB l=0 then y6m tgB l else z32):=⟨_,rfl⟩
 have h32:d.length=32:=by rw[hd];split;exact y79;rfl
 rw[<- hd]at e354;have hsc:=zx (a:=ah 32 (D.int .u8 0)) (vs:=d.map yd) (by simp[h32])
 simp only[ah]at hsc
 by_cases h0:rdE tgB l=0
 ·have v:=z26.1 h0;have h0':rdE tgB l=0:=h0;rw[if_pos h0]at hd;have hl:l.length<=65536:=v.1;rw[h0]at e354
  by_cases hmax:l.length=65536
  ·have hm:((l.length:Nat):Int)=65536:=by omega
   have hE:y4i tgB l s=2:=by unfold y4i;rw[if_neg (by simp[h0]),if_pos hmax]
   unfold poD;rw[hE,if_neg (by decide)]
   simp[t316,n316,e354,zt,h32,hsc,hm]
  ·have hm : ¬ ((l.length:Nat):Int)=65536:=by omega
   have hlast:(0<l.length /\ ∃ q,l[l.length - 1]? = some q/\q.prev.length=32/\l.getLast? = some q) \/ ¬ 0<l.length:=by
    rcases ek l.length with h1 | h1
    ·exact .inr (by omega)
    ·exact .inl ⟨h1,l[l.length - 1],ac (by omega),(h.2 _ (au _)).1,by rw[gq,ac (by omega)]⟩
   have hw1:0<l.length->aH.wrap ((l.length:Int) - 1)=((l.length - 1:Nat):Int):=fun h0=>by rw[za ⟨by omega,by omega⟩];omega
   obtain⟨p,hp⟩:∃ p:Pst,p=y90 tgB l s:=⟨_,rfl⟩;have hp2:p=⟨l.length,s.minute,s.corrects,s.ents,d⟩:=by rw[hp,hd];rfl
   have p32:p.prev.length=32:=by rw[hp2];exact h32
   have hpE:(∀ q,l.getLast? = some q -> ¬ s.minute<q.minute)->y4i tgB l s=y6t p:=fun hq=>by rw[hp];exact zgk v (by omega) fun q h=>by have:=hq q h;omega
   have q4:setCells (dI (l.length:Int)::dI s.minute::dI s.corrects :: .imm .none (s.ents.map y2k)::ah 32 (D.int .u8 0)) 4 (d.map yd)=pC p:=by rw[hp2];exact stP (p:=⟨l.length,s.minute,s.corrects,s.ents,d⟩) h32
   have q2:∀(x:Obj) (r:List Obj),y15 E (x :: .cells (pC p)::r) 71 (.loc 1 0)=some (y51 p):=fun x r=>ydo (h:=[x]) (r:=r) p32
   have q2':∀(x:Obj) (r r2:List Obj),y15 E (x :: .cells (pC p)::r++r2) 71 (.loc 1 0)=some (y51 p):=fun x r r2=>q2 x (r++r2)
   have q3:=stP p32;simp only[ah]at q3 q4;have hld:∀ r:List Obj,y15 E (.cells (d.map yd)::r) 73 (.loc 0 0)=some (.agg (d.map yd)):=fun r=>z7w (m:=d) (by simp[Bys,At]) h32
   have h355:=ykv p p32 (by rw[hp2];exact hs)
   have m356:=yl7 l (fun p hp=>(h.2 p hp).1) h.1
   have hst:(pC p).length=36:=zqk p32;obtain⟨m,X,hG,hX⟩:=zy1 (pre:=[.cells (d.map yd),.cells (pC p),.dead,.dead,.dead,.dead,.dead,.dead,.dead]) (sp:=.exact) (fun p hp=>(h.2 p hp).1) p32 h.1
   have hL32:∀ q,q ∈ l++[p]->q.prev.length=32:=fun q hq=>by
    rcases aC.1 hq with hq | hq
    ·exact(h.2 q hq).1
    ·simp at hq;rw[hq];exact p32
   have hfz:=zw3 (n:=5) (gr:=true) hX hL32;have hll:(l++[p]).length=l.length+1:=by simp
   rw[hll]at hfz;simp only[aJ,bo,aq,aV]at hG;rcases hlast with⟨h1,q,hq,hq32,hql⟩ | h1
   ·by_cases hmn:s.minute<q.minute
    ·have hE:y4i tgB l s=410:=by unfold y4i;rw[if_neg (by simp[h0]),if_neg hmax,if_pos ⟨q,hql,hmn⟩]
     unfold poD;rw[hE,if_neg (by decide)]
     simp[t316,n316,e354,zt,h32,hsc,hm,h1,hw1 h1,hq,hq32,hmn]
    ·have hE:=hpE fun q' h=>by rw[hql]at h;cases h;exact hmn
     simp[t316,n316,e354,zt,h32,hsc,hm,h1,hw1 h1,hq,hq32,hmn,-z1c,hld,↓q4,p32,q2,↓q3,z2j,zk,h355,m356,hG,hfz];unfold poD;rw[hE,<- hp]
     by_cases hc:y6t p=0
     ·simp[hc]
     ·simp[hc]
   ·have hE:=hpE fun q' h=>by
     have:l=[]:=aI (by omega)
     subst this;simp at h
    simp[t316,n316,e354,zt,h32,hsc,hm,h1,-z1c,hld,↓q4,p32,q2,↓q3,z2j,zk,h355,m356,hG,hfz];unfold poD;rw[hE,<- hp]
    by_cases hc:y6t p=0
    ·simp[hc]
    ·simp[hc]
 ·have hE:y4i tgB l s=rdE tgB l:=by unfold y4i;rw[if_pos h0]
  have hne : ¬ rdE tgB l=0:=h0;unfold poD;rw[hE,if_neg h0];simp[t316,n316,e354,zt,h32,hsc,hne]
theorem r359(l:List Pst):yu E (dL E) 359 [y1x l]=some (.fn 380 [.iptr [y1x l]]):=by
 refine zg c359 (by simp) ?_
 conv in t359=>reduce;dsimp[ai]
 simp[t359,n359,zt]
def y4z(l:List Pst):List (Int × Ent):=l.flatMap fun p=>p.ents.map fun x=>(p.minute,x)
theorem znf:y4z []=[]:=rfl
theorem z58{p:Pst}{l:List Pst}:y4z (p::l)=(p.ents.map fun x=>(p.minute,x))++y4z l:=rfl
theorem ylb{H:List Obj}{q:Nat}{p:Pst}(B:At H q (.cells (pC p))):y15 E H 66 (.loc q 3)=some (.imm .none (p.ents.map y2k)):=by
 unfold y15;simp only[B.eq,show(E.ty 66).size=1 from rfl]
 rfl
theorem ld2{H:List Obj}{q:Nat}{p:Pst}(B:At H q (.cells (pC p))):y15 E H 2 (.loc q 1)=some (dI p.minute):=by
 unfold y15;simp only[B.eq,show(E.ty 2).size=1 from rfl]
 rfl
theorem i380(l:List Pst)(ok:y9p l)(L:Nat)(J:Nat->List (Int × Ent)->List Obj->Prop)(Fin:List Obj->Prop)
  (hext:∀ f rem hp r,J f rem hp->J f rem (hp++r))
  (hown:∀ f rem hp r,J f rem hp->J hp.length rem (hp++r))
  (hy:∀ f x rem hp o,J f (x::rem) hp->At hp f o->∃ t hp',y3c (dL E) L [dI x.1,y2k x.2] hp=some (.bool t,hp')/\(t=true->J f rem hp'/\At hp' f o)/\(t=false->Fin hp'))
  {hp:List Obj} {f0:Nat} (h0:J f0 (y4z l) hp) :
  ∃ d hp',y1g E (dL E) 380 [.yld L,.iptr [y1x l]] hp=some (d,hp')/\((∃ f,J f [] hp')\/Fin hp'):=by
 refine z1i c380 (R:=fun _ hp'=>(∃ f,J f [] hp')\/Fin hp') (by simp) ?_
 conv in t380=>reduce;dsimp[ai]
 have hl:=ok.1;simp[t380,n380];refine zl l.length (fun i env hp=>∃(x2 x3 x7 x8 x9 x10 x11 x12 x13 x14 x15:D) ,env=[.yld L,.iptr [y1x l],x2,x3,y1x l,dI l.length,dI i,x7,x8,x9,x10,x11,x12,x13,x14,x15] /\
  ∃ f,J f (y4z (l.drop i)) hp) 0 (by omega) ⟨_,_,_,_,_,_,_,_,_,_,_,rfl,f0,by simpa using h0⟩ ?_
 rintro i env hp hi ⟨x2,x3,x7,x8,x9,x10,x11,x12,x13,x14,x15,rfl,f,hJ⟩
 by_cases hlt:i<l.length
 rotate_left
 ·have:i=l.length:=by omega
  subst this;rw[br,znf]at hJ;simp;exact .inl ⟨f,hJ⟩
 obtain⟨p,hpi⟩:∃ p,p=l[i]:=⟨_,rfl⟩;have hp2:=ok.2 p (by rw[hpi];exact au hlt)
 have hup:=ze hlt (by omega)
 rw[zh hlt,<- hpi,z58]at hJ;obtain⟨rest,hrest⟩:∃ rest,rest=y4z (l.drop (i+1)):=⟨_,rfl⟩;rw[<- hrest]at hJ;have q1:=fun h:List Obj=>zrb (h:=h) hp2.1
 have q3:=stP hp2.1;simp only[ah]at q3;have hJ1:=hown _ _ _ [.cells (pC p)] hJ;have hA1:At (hp++[.cells (pC p)]) hp.length (.cells (pC p)):=by simp[At]
 have y1:=ylb hA1;simp[hlt,<- hpi,hp2.1,-z1c,q1,↓q3,y1];generalize hp++[Obj.cells (pC p)]=H0 at hJ1 hA1;generalize hp.length=C at hJ1 hA1;have hel:=hp2.2;refine zl p.ents.length (fun j env h=>∃(x3 x7 x8 x12 x13 x14 x15:D) ,env=[.yld L,.iptr [y1x l],.loc C 0,x3,y1x l,dI l.length,dI i,x7,x8,.imm .none (p.ents.map y2k),dI p.ents.length,dI j,x12,x13,x14,x15] /\
  J C ((p.ents.drop j).map (fun x=>(p.minute,x))++rest) h/\At h C (.cells (pC p))) 0 (by omega) ⟨_,_,_,_,_,_,_,rfl,by simpa using hJ1,hA1⟩ ?_
 rintro j env h hj ⟨x3,x7,x8,x12,x13,x14,x15,rfl,hJ2,hA2⟩
 by_cases hlt2:j<p.ents.length
 rotate_left
 ·have:j=p.ents.length:=by omega
  subst this;simp only[br,aN,bo]at hJ2;rw[hrest]at hJ2;simp[hlt,hup];exact⟨C,hJ2⟩
 have hup2:=ze hlt2 (by omega)
 obtain⟨x,hx⟩:∃ x,x=p.ents[j]:=⟨_,rfl⟩;rw[zh hlt2,av,aJ,<- hx]at hJ2;have y2:=fun r:List Obj=>ld2 (hA2.app (r:=r))
 have y3:y15 E (h++[.cells [dI x.kind,dI x.idx,dI x.amt]]) 72 (.loc h.length 0)=some (y2k x):=by
  unfold y15;simp only[List.getElem?_concat_length]
  rfl
 obtain⟨t,hp2,e1,e2,e3⟩:=hy C (p.minute,x) _ _ _ (hext _ _ _ [.cells [dI x.kind,dI x.idx,dI x.amt]] hJ2) (hA2.app);simp only at e1;cases t with
 |true=>obtain⟨hJ3,hA3⟩:=e2 rfl;rw[jd]at hJ3;simp[hlt2,<- hx,-z1c,y2,y3,e1,hup2];exact⟨hJ3,hA3⟩
 |false=>have hF:=e3 rfl;simp[hlt2,<- hx,-z1c,y2,y3,e1,hF]
def y5d(k i m:Int):List (Int × Ent)->Int
 |[]=>0
 |x::l=>(if x.1<=m/\x.2.kind=k/\x.2.idx=i then x.2.amt else 0)+y5d k i m l
theorem z91{k i m:Int}:∀(a b:List (Int × Ent)),y5d k i m (a++b)=y5d k i m a+y5d k i m b
 |[],b=>by simp[y5d]
 |x::a,b=>by simp only[aJ,y5d,z91 a b];omega
theorem zcn{k i m n:Int}:∀(l:List Ent),y5d k i m (l.map fun x=>(n,x))=if n<=m then y1c k i l else 0
 |[]=>by simp[y5d,y1c]
 |x::l=>by
  have ih:=zcn (k:=k) (i:=i) (m:=m) (n:=n) l;simp only[av,y5d,ih,y1c]
  by_cases h1:n<=m
  ·simp[h1]
  ·simp[h1]
theorem zae{k i m:Int}:∀(l:List Pst),y5d k i m (y4z l)=yf1 k i m l
 |[]=>rfl
 |p::l=>by rw[z58,z91,zcn,zae l];rfl
theorem zdc:∀(l:List Pst),(y4z l).length=y94 l
 |[]=>rfl
 |p::l=>by rw[z58,ar,aD,zdc l];rfl
theorem zng{l:List Pst}{x:Int × Ent}(h:x ∈ y4z l):∃ p,p ∈ l/\x.2 ∈ p.ents:=by obtain⟨p,hp,hx⟩:=bE.1 h;obtain⟨y,hy,rfl⟩:=aK.1 hx;exact⟨p,hp,hy⟩
open Classical in
noncomputable def blD(l:List Pst)(k i m:Int):D:=.tup [dI (if rdE tgB l=0 then yf1 k i m l else 0),dI (rdE tgB l)]
theorem r318(l:List Pst)(ok:y9p l)(hN:y94 l<=1000000)(k i m:Int):yu E (dL E) 318 [y1x l,y3g k i,dI m]=some (blD l k i m):=by
 have e324:=yip l ok;have e359:=r359 l;refine zg c318 (by simp) ?_
 conv in t318=>reduce;dsimp[ai]
 unfold blD
 by_cases h0:rdE tgB l=0
 ·have v:=z26.1 h0;rw[h0]at e324 ⊢;rw[if_pos rfl];obtain⟨B,hB⟩:∃ B,B=yf1 k i m l:=⟨_,rfl⟩;rw[<- hB];simp[t318,n318,zt,e324,e359];refine⟨380,_,rfl,?_⟩;intro L hL hcb;obtain⟨J,hJ⟩:∃ J:Nat->List (Int × Ent)->List Obj->Prop,J=fun f rem hp'=>2<=f /\ ∃(c:Int),At hp' 0 (.cells [dI c])/\At hp' 1 (L false none)/\c+y5d k i m rem=B/\rem.length<=1000000 /\ -(1099511627776*(1000000 - rem.length):Int)<=c/\c<=1099511627776*(1000000 - rem.length) /\ ∀ x,x ∈ rem->y7p x.2:=⟨_,rfl⟩
  have key:=i380 l ok 1 J (fun _=>False) (by
    rw[hJ];rintro f rem hp' r ⟨hf,c,a1,a2,a3⟩;exact⟨hf,c,a1.app,a2.app,a3⟩) (by
    rw[hJ];rintro f rem hp' r ⟨hf,c,a1,a2,a3⟩;exact⟨by have:=a2.lt;omega,c,a1.app,a2.app,a3⟩) (by
    intro f x rem hp1 o hj ho;rw[hJ]at hj;obtain⟨hf,c,a1,a2,a3,a4,a5,a6,a7⟩:=hj;have l1:=a2.lt;have⟨ok1,ok2,ok3,ok4,ok5⟩:=a7 x (by simp)
    obtain⟨mi,⟨kd,ix,am⟩⟩:=x;simp only at ok1 ok2 ok3 ok4 ok5;simp only[aq]at a4 a5 a6;simp only[y5d]at a3;obtain⟨H1,hH1⟩:∃ H1,H1=hp1.set 1 (L true none):=⟨_,rfl⟩;have b0:At H1 0 (.cells [dI c]):=by rw[hH1];exact a1.ne (by omega)
    have b1:At H1 1 (L true none):=by rw[hH1];exact At.self l1
    have bf:At H1 f o:=by rw[hH1];exact ho.ne (by omega)
    have hw:aH.wrap (c+am)=c+am:=za ⟨by omega,by omega⟩
    have l0:=b0.lt;obtain⟨t,hp2,e1,e2⟩:=hcb [dI mi,y2k ⟨kd,ix,am⟩] hp1 (fun t hp'=>t=true/\J f rem hp'/\At hp' f o) rfl a2 (by
     rw[show[Obj.cells [D.int aH 0]].length=1 from rfl]
     have y2:∀ r:List Obj,(hp1++r)[1]? = some (L false none):=fun r=>a2.app
     have y6:∀ r:List Obj,(hp1++r).set 1 (L true none)=H1++r:=fun r=>by rw[z1d l1,hH1]
     have y7:hp1.length=H1.length:=by rw[hH1,bn]
     have y0:∀ r:List Obj,(H1++r)[0]? = some (.cells [dI c]):=fun r=>b0.app
     have y8:∀(o:Obj) (r:List Obj),(H1++r).set 0 o=H1.set 0 o++r:=fun o r=>z1d l0
     have y9:∀(o:Obj) (r:List Obj),(H1.set 0 o++r)[1]? = some (L true none):=fun o r=>(b1.ne (by omega)).app
     have y10:∀ r:List Obj,(H1++r)[1]? = some (L true none):=fun r=>b1.app
     have fin:∀(c':Int) (G:List Obj),At G 0 (.cells [dI c'])->1<G.length->At G f o->c'+y5d k i m rem=B -> -(1099511627776*(1000000 - rem.length):Int)<=c'->c'<=1099511627776*(1000000 - rem.length)->∀ r:List Obj,J f rem ((G++r).set 1 (L false none))/\At ((G++r).set 1 (L false none)) f o:=by intro c' G g0 gl gf g3 g4 g5 r;have e:(G++r).set 1 (L false none)=G.set 1 (L false none)++r:=z1d gl;rw[e,hJ];exact⟨⟨hf,c',(g0.ne (by omega)).app,(At.self gl).app,g3,by omega,g4,g5,fun x hx=>a7 x (by simp[hx])⟩,(gf.ne (by omega)).app⟩
     by_cases hh:mi<=m/\kd=k/\ix=i
     ·obtain⟨g1,g2,g3⟩:=hh;subst g2 g3;simp[y23,↓y2,↓y6,y7,↓y0,↓y8,↓y9,↓y10,g1,hw];rw[if_pos ⟨g1,rfl,rfl⟩]at a3;exact fin (c+am) _ (At.self l0) (by rw[bn];omega) (bf.ne (by omega)) (by omega) (by omega) (by omega) _
     ·rw[if_neg hh]at a3;have hF:=fin c H1 b0 (by omega) bf (by omega) (by omega) (by omega)
      by_cases g1:mi<=m
      ·have hbf:(kd == k && ix == i)=false:=by
        rw[Bool.and_eq_false_iff]
        by_cases g2:kd=k
        ·right;have : ¬ ix=i:=fun g3=>hh ⟨g1,g2,g3⟩
         simpa using this
        ·left;simpa using g2
       simp[y23,↓y2,↓y6,y7,↓y10,g1,hbf];exact hF _
      ·simp[y23,↓y2,↓y6,y7,↓y10,g1];exact hF _)
    exact⟨t,hp2,e1,fun _=>e2.2,fun h=>by rw[e2.1]at h;cases h⟩) (hp:=[.cells [dI 0],L false none]) (f0:=2) (by
    rw[hJ];have hlen:=zdc l;refine⟨aj _,0,rfl,rfl,by rw[zae,Int.zero_add];exact hB.symm,by omega,by omega,by omega,fun x hx=>?_⟩
    obtain⟨p,hp,hx2⟩:=zng hx;exact(v.2.1 p hp).fm.ents.ok _ hx2)
  obtain⟨d,hp',h1,h2⟩:=key;rcases h2 with⟨f,h2⟩ | h2
  ·rw[hJ]at h2;obtain⟨_,c,a1,a2,a3,_⟩:=h2;simp only[y5d,Int.add_zero]at a3;subst a3;refine⟨d,hp',h1,.inl ⟨a2,?_⟩⟩;have l0:=a1.lt;have c0:∀ o,((hp'.set 1 .dead).set 0 o)[0]? = some o:=fun o=>At.self (by simpa using l0)
   simp[a1.eq,↓c0]
  ·exact h2.elim
 ·rw[if_neg h0];simp[t318,n318,zt,e324,h0]
theorem z62(p:Int × Int)(l:List (Int × Int)):yh (p::l)=dI p.1::dI p.2::yh l:=rfl
theorem z4q:∀(l:List (Int × Int)),(yh l).length=l.length*2
 |[]=>rfl
 |p::l=>by rw[z62,aq,aq,z4q l,aq];omega
theorem zac(a b:List (Int × Int)):yh (a++b)=yh a++yh b:=kQ
theorem zgn:∀(l:List (Int × Int)),y4o (yh l)=some l
 |[]=>rfl
 |p::l=>by rw[z62];simp only[y4o,zgn l]
theorem ze1:∀(l:List (Int × Int)) (k:Nat),(yh l).take (k*2)=yh (l.take k)
 |[],k=>by simp[yh]
 |p::l,0=>rfl
 |p::l,k+1=>by rw[z62,show(k+1)*2=k*2+1+1 from by omega,fF,fF,ze1 l k];rfl
theorem zzy{l:List (Int × Int)}{k:Nat}(h:k<l.length):y2b (yh l) (k*2) 2=some [dI l[k].1,dI l[k].2]:=by
 have e:yh l=yh (l.take k)++[dI l[k].1,dI l[k].2]++yh (l.drop (k+1)):=by
  conv=>lhs;rw[<- bT k l,ca h,zac,z62]
  simp
 rw[e];exact z7f [dI l[k].1,dI l[k].2] _ _ _ (by rw[z4q,aZ];omega)
theorem ycb{l:List (Int × Int)}{k:Nat}{a:Int × Int}(h:k<l.length):setCells (yh l) (k*2) [dI a.1,dI a.2]=yh (l.set k a):=by
 have e:yh l=yh (l.take k)++(dI l[k].1::dI l[k].2::yh (l.drop (k+1))):=by conv=>lhs;rw[<- bT k l,ca h,zac,z62]
 have hl:(yh (l.take k)).length=k*2:=by rw[z4q,aZ];omega
 have e2:=z15 (a:=yh (l.take k)) (b:=dI l[k].1::dI l[k].2::yh (l.drop (k+1))) (off:=0) (vs:=[dI a.1,dI a.2]);have e3:k*2+0=k*2:=rfl;rw[hl,e3]at e2;rw[e,e2,List.set_eq_take_append_cons_drop,if_pos h,zac,z62]
 rfl
theorem yis{H:List Obj}{q k:Nat}{l:List (Int × Int)}(A:At H q (.cells (yh l)))(h:k<l.length):y15 E H 65 (.loc q (k*2))=some (y3g l[k].1 l[k].2):=by
 unfold y15;simp only[A.eq,show(E.ty 65).size=2 from rfl,zzy h]
 rfl
theorem st65{H:List Obj}{q k:Nat}{l:List (Int × Int)}{a:Int × Int}(A:At H q (.cells (yh l)))(h:k<l.length):y4c E H 65 (.loc q (k*2)) (y3g a.1 a.2)=some (H.set q (.cells (yh (l.set k a)))):=by
 unfold y4c;simp only[A.eq];rw[if_pos ⟨rfl,rfl,by rw[z4q,show(E.ty 65).size=2 from rfl];omega⟩]
 rw[<- ycb h]
 rfl
theorem s361{hp:List Obj}{q:Nat}{xs:List (Int × Int)}{gr ag:Bool}{k:Nat}(hk:k=362\/k=386)(A:At hp q (.cells (yh xs)))(hl:xs.length<=1000000) :
  y1g E (dL E) (361) [.sl q 0 xs.length 2 ag gr,.fn k []] hp=some (.tup [],hp.set q (.cells (yh (y1t xs)))):=by
 have e:E.fn (361)=some f361:=rfl;have e2:E.mp 361=false:=rfl;have e3:[362,386].contains k=true:=by rcases hk with rfl | rfl <;> rfl
 have e4:E.prim 0=y7n [362,386]:=rfl;have e5:y7n [362,386] [.sl q 0 xs.length 2 ag gr,.fn k []] hp=some (.tup [],hp.set q (.cells (yh (y1t xs)))):=by unfold y7n;simp only[e3,if_true,A.eq];rw[if_pos ⟨z4q xs,by omega⟩,zgn]
 unfold y1g;simp only[e,e2,f361,yp,z9h,z5w,zhd,z5b,z6q,y2s];simp[yi,yf,yn,y2g,DOp.fin,yo,yb,yq,gOf,z6q,y29,y67,yj,y2f,z5b,z8v,yy,e4,e5,y2r]
theorem ykq{hp:List Obj}{k:Nat}(hk:k=362\/k=386):y1g E (dL E) (361) [.imm .exact [],.fn k []] hp=some (.tup [],hp):=by
 have e:E.fn (361)=some f361:=rfl;have e2:E.mp 361=false:=rfl;have e3:[362,386].contains k=true:=by rcases hk with rfl | rfl <;> rfl
 have e4:E.prim 0=y7n [362,386]:=rfl;have e5:y7n [362,386] [.imm .exact [],.fn k []] hp=some (.tup [],hp):=by unfold y7n;simp only[e3,if_true]
 unfold y1g;simp only[e,e2,f361,yp,z9h,z5w,zhd,z5b,z6q,y2s];simp[yi,yf,yn,y2g,DOp.fin,yo,yb,yq,gOf,z6q,y29,y67,yj,y2f,z5b,z8v,yy,e4,e5,y2r]
def y80(xs:List (Int × Int))(m:Nat):List (Int × Int):=y1r (xs.take m)++xs.drop (y1r (xs.take m)).length
theorem zlen{xs:List (Int × Int)}{m:Nat}:(y1r (xs.take m)).length<=m:=aM z5x (by rw[aZ];omega)
theorem z9k{xs:List (Int × Int)}{m:Nat}(h:m<=xs.length):(y80 xs m).length=xs.length:=by have:=zlen (xs:=xs) (m:=m);unfold y80;rw[ar,eh];omega
theorem zjx{xs:List (Int × Int)}{m j:Nat}(hj:(y1r (xs.take m)).length<=j)(h:j<xs.length)(hm:m<=xs.length):(y80 xs m)[j]'(by rw[z9k hm];exact h)=xs[j]:=by
 have:(y80 xs m)[j]? = some xs[j]:=by unfold y80;rw[aF hj,List.getElem?_drop,show(y1r (xs.take m)).length+(j - (y1r (xs.take m)).length)=j from by omega,ac h]
 rw[ac (by rw[z9k hm];exact h)]at this
 exact cr this
theorem zrd{xs:List (Int × Int)}{m:Nat}(h0:0<m)(h:m<=xs.length):(xs.take m).getLast? = some (xs[m - 1]'(by omega)):=by rw[gq,aZ,bS h,List.getElem?_take,if_pos (by omega),ac]
theorem zcm{xs:List (Int × Int)}{m:Nat}(h0:0<m)(h:m<xs.length):y1r (xs.take (m+1))=if xs[m - 1]'(by omega)=xs[m]then y1r (xs.take m)else y1r (xs.take m)++[xs[m]]:=by
 rw[aL h,zdk,zrd h0 (by omega)]
 simp
theorem zzb{xs:List (Int × Int)}{m:Nat}(h0:0<m)(h:m<xs.length)(he:xs[m - 1]'(by omega)=xs[m]):y80 xs (m+1)=y80 xs m:=by unfold y80;rw[zcm h0 h,if_pos he]
theorem zza{xs:List (Int × Int)}{m:Nat}(h0:0<m)(h:m<xs.length)(he : ¬ xs[m - 1]'(by omega)=xs[m]):y80 xs (m+1)=(y80 xs m).set (y1r (xs.take m)).length xs[m]:=by
 have hz:=zlen (xs:=xs) (m:=m);unfold y80;rw[zcm h0 h,if_neg he];rw[List.set_append_right _ _ (aj _),fw];generalize hc:(y1r (xs.take m)).length=c at hz;rw[ar,hc,ca (show c<xs.length by omega),List.set_cons_zero]
 simp only[bi,aJ,bo]
 rfl
def y5z(q:Nat)(h h':List Obj):Prop:=h.length<=h'.length /\ ∀ j o,j ≠ q->At h j o->At h' j o
theorem y5z.refl{q:Nat}{h:List Obj}:y5z q h h:=⟨aj _,fun _ _ _ a=>a⟩
theorem y5z.app{q:Nat}{h h' r:List Obj}(k:y5z q h h'):y5z q h (h'++r):=⟨by rw[ar];have:=k.1;omega,fun j o hj a=>(k.2 j o hj a).app⟩
theorem y5z.set{q:Nat}{h h':List Obj}{o:Obj}(k:y5z q h h'):y5z q h (h'.set q o):=⟨by rw[bn];exact k.1,fun j o hj a=>(k.2 j o hj a).ne (Ne.symm hj)⟩
theorem z75{xs:List (Int × Int)}(h:xs.length<2):y1r xs=xs:=by
 match xs,h with
 |[],_=>rfl
 |[x],_=>rfl
def Cp(q:Nat)(hp:List Obj)(xs:List (Int × Int))(d:D)(hp':List Obj):Prop:=
 ∃ cs,d=.sl q 0 (y1r xs).length 2 true true/\At hp' q (.cells cs)/\cs.take ((y1r xs).length*2)=yh (y1r xs)/\y5z q hp hp'
theorem zz0{a b:Int × Int}:y32 E .eql 65 (y3g a.1 a.2) (y3g b.1 b.2)=some (.bool (decide (a=b))):=by
 obtain⟨a1,a2⟩:=a;obtain⟨b1,b2⟩:=b;have:y32 E .eql 65 (y3g a1 a2) (y3g b1 b2)=some (.bool ((a1 == b1) && ((a2 == b2) && true))):=rfl;rw[this];simp only[aa,D.bool.injEq,aw,ed]
 by_cases h1:a1=b1 <;> by_cases h2:a2=b2 <;> simp[h1,h2]
theorem yh4{a b:Int × Int}:y32 E .neq 65 (y3g a.1 a.2) (y3g b.1 b.2)=some (.bool (!decide (a=b))):=by
 obtain⟨a1,a2⟩:=a;obtain⟨b1,b2⟩:=b;have:y32 E .neq 65 (y3g a1 a2) (y3g b1 b2)=some (.bool (!((a1 == b1) && ((a2 == b2) && true)))):=rfl;rw[this];simp only[aa,D.bool.injEq,aw,ed]
 by_cases h1:a1=b1 <;> by_cases h2:a2=b2 <;> simp[h1,h2]
theorem sl67{q n k:Nat}{gr:Bool}(h:k<=n):y12 E 67 (.sl q 0 n 2 true gr) (some (dI k)) none none=some (.sl q (k*2) (n - k) 2 true false):=by have hk:(E.ty 67).k=.slice 65:=rfl;unfold y12;simp only[hk,bnd,lw,if_true,bZ];rw[if_pos ⟨h,aj _,rfl⟩,bJ]
theorem ykn{H:List Obj}{q n k:Nat}{cs:List D}(A:At H q (.cells cs))(h:k*2<=cs.length):y3d E H 67 (.sl q 0 n 2 true true) (dI k)=some (.sl q 0 k 2 true true,H):=by have hk:(E.ty 67).k=.slice 65:=rfl;have hz:(E.ty 65).size=2:=rfl;unfold y3d;simp only[hk,hz,A.eq,lw,true_and,bZ];rw[if_pos ⟨h,by decide⟩]
theorem ylt{H:List Obj}{q kk:Nat}{zs:List (Int × Int)}{gr:Bool}(A:At H q (.cells (yh zs)))(h:kk<=zs.length) :
  ∃ cs,yc1 E H 67 (.sl q (kk*2) (zs.length - kk) 2 true gr)=some (.undef,H.set q (.cells cs))/\cs.take (kk*2)=yh (zs.take kk):=by
 have hk:(E.ty 67).k=.slice 65:=rfl;have hz:y26 E 65=some (y3g 0 0):=rfl;refine⟨setCells (yh zs) (kk*2) (yr (ah (zs.length - kk) (y3g 0 0))),?_,?_⟩
 ·unfold yc1;simp only[hk,hz,A.eq];rw[if_pos ⟨rfl,by rw[z4q];omega⟩]
 ·have hl:(yh (zs.take kk)).length=kk*2:=by rw[z4q,aZ];omega
  have e:yh zs=yh (zs.take kk)++yh (zs.drop kk):=by rw[<- zac,bT]
  have e2:=z15 (a:=yh (zs.take kk)) (b:=yh (zs.drop kk)) (off:=0) (vs:=yr (ah (zs.length - kk) (y3g 0 0)));rw[hl]at e2;have e3:kk*2+0=kk*2:=rfl;rw[e3]at e2;rw[e,e2,List.take_append_of_le_length (by omega),ba (by omega)]
theorem s363{hp:List Obj}{q:Nat}{xs:List (Int × Int)}(A:At hp q (.cells (yh xs)))(hl:xs.length<=1000000) :
  ∃ d hp',y1g E (dL E) 363 [.sl q 0 xs.length 2 true true] hp=some (d,hp')/\Cp q hp xs d hp':=by
 refine z1i c363 (args:=[.sl q 0 xs.length 2 true true]) (hp:=hp) (R:=Cp q hp xs) (by simp) ?_
 conv in t363=>reduce;dsimp[ai]
 by_cases h2:xs.length<2
 ·have h2':(xs.length:Int)<2:=by omega
  simp[t363,n363,h2'];exact⟨_,by rw[z75 h2],A,by rw[z75 h2,ze1,bg],y5z.refl⟩
 have h2' : ¬ (xs.length:Int)<2:=by omega
 simp[t363,n363,h2'];refine zl xs.length (fun k env h=>∃(x3 x4 x5 x6 x7 x8 x9 x10:D) ,env=[.sl q 0 xs.length 2 true true,.imm .exact [],dI k,x3,x4,x5,x6,x7,x8,x9,x10]/\1<=k/\At h q (.cells (yh xs))/\y5z q hp h/\y1r (xs.take k)=xs.take k) 1 (by omega) ⟨_,_,_,_,_,_,_,_,rfl,aj _,A,y5z.refl,z75 (by rw[aZ];omega)⟩ ?_
 rintro k env h hk ⟨x3,x4,x5,x6,x7,x8,x9,x10,rfl,hk1,B,K,hc⟩
 by_cases hlt:k<xs.length
 rotate_left
 ·have:k=xs.length:=by omega
  subst this;rw[bg]at hc;simp;exact⟨_,by rw[hc],B,by rw[hc,ze1,bg],K⟩
 have hup:=ze hlt (by omega)
 have hw1:aH.wrap ((k:Int) - 1)=((k - 1:Nat):Int):=by rw[za ⟨by omega,by omega⟩];omega
 have y1:∀ r:List Obj,y15 E (h++r) 65 (.loc q (k*2))=some (y3g xs[k].1 xs[k].2):=fun r=>yis B.app hlt
 have y2:∀ r:List Obj,y15 E (h++r) 65 (.loc q ((k - 1)*2))=some (y3g (xs[k - 1]'(by omega)).1 (xs[k - 1]'(by omega)).2):=fun r=>yis B.app (by omega)
 have hk1':(k - 1:Nat)<xs.length:=by omega
 have ez:=zz0 (a:=xs[k]) (b:=xs[k - 1]'(by omega))
 by_cases he:xs[k - 1]'(by omega)=xs[k]
 ·have he':=he.symm;have hs:=sl67 (q:=q) (gr:=true) (show k<=xs.length by omega)
  have hc1:y1r (xs.take (k+1))=xs.take k:=by rw[zcm hk1 hlt,if_pos he,hc]
  have hz1:y80 xs (k+1)=xs:=by unfold y80;rw[hc1,aZ,bS (by omega),bT]
  have hl1:(y1r (xs.take (k+1))).length=k:=by rw[hc1,aZ];omega
  simp[hlt,hup,hw1,hk1',-z1c,y1,y2,ez,he',hs];refine zl (xs.length - k) (fun j env h=>∃(x5 x6 x7 x8 x9 x10:D) ,env=[.sl q 0 xs.length 2 true true,.imm .exact [],dI (y1r (xs.take (k+j))).length,.sl q (k*2) (xs.length - k) 2 true false,dI j,x5,x6,x7,x8,x9,x10] /\
   1<=j/\(y1r (xs.take (k+j))).length+1<=k+j/\At h q (.cells (yh (y80 xs (k+j))))/\y5z q hp h) 1 (by omega) ⟨_,_,_,_,_,_,by rw[hl1];rfl,aj _,by rw[hl1];omega,by rw[hz1];exact B.app,K.app⟩ ?_
  rintro j env h3 hj ⟨x5,x6,x7,x8,x9,x10,rfl,hj1,hkk,B3,K3⟩
  by_cases hlt2:j<xs.length - k
  rotate_left
  ·have:j=xs.length - k:=by omega
   subst this;have hkn:k+(xs.length - k)=xs.length:=by omega
   rw[hkn]at hkk B3 ⊢;rw[bg]at hkk ⊢;have hzl:=z9k (xs:=xs) (aj _);have hzt:(y80 xs xs.length).take (y1r xs).length=y1r xs:=by unfold y80;rw[bg];simp
   obtain⟨cs,h4,h5⟩:=ylt (gr:=false) B3 (kk:=(y1r xs).length) (by omega)
   rw[hzl]at h4;rw[hzt]at h5;have hs2:=sl67 (q:=q) (gr:=true) (show(y1r xs).length<=xs.length from z5x)
   have hs3:=ykn (n:=xs.length) (k:=(y1r xs).length) (At.self (o:=.cells cs) B3.lt) (by have:=congrArg cM h5;rw[z4q,aZ]at this;have:=z5x (l:=xs);omega)
   simp[hs2,hs3,h4];exact⟨cs,rfl,At.self B3.lt,h5,K3.set⟩
  have hm:k+j<xs.length:=by omega
  have hnx:k+(j+1)=k+j+1:=by omega
  have hzl:=z9k (xs:=xs) (m:=k+j) (by omega)
  have g1:=zjx (xs:=xs) (m:=k+j) (j:=k+j) (by omega) hm (by omega)
  have g2:=zjx (xs:=xs) (m:=k+j) (j:=k+j - 1) (by omega) (by omega) (by omega)
  have hup2:=ze hlt2 (by omega)
  have hwj:aH.wrap ((j:Int) - 1)=((j - 1:Nat):Int):=by rw[za ⟨by omega,by omega⟩];omega
  have hj1':j - 1<xs.length - k:=by omega
  have z1:∀ r:List Obj,y15 E (h3++r) 65 (.loc q (k*2+j*2))=some (y3g xs[k+j].1 xs[k+j].2):=fun r=>by
   have:=yis (k:=k+j) (B3.app (r:=r)) (by omega)
   rw[g1,Nat.add_mul]at this;exact this
  have z2:∀ r:List Obj,y15 E (h3++r) 65 (.loc q (k*2+(j - 1)*2))=some (y3g (xs[k+j - 1]'(by omega)).1 (xs[k+j - 1]'(by omega)).2):=fun r=>by
   have:=yis (k:=k+j - 1) (B3.app (r:=r)) (by omega)
   rw[g2,show(k+j - 1)*2=k*2+(j - 1)*2 from by omega]at this
   exact this
  have zn:=yh4 (a:=xs[k+j]) (b:=xs[k+j - 1]'(by omega))
  by_cases he2:xs[k+j - 1]'(by omega)=xs[k+j]
  ·have hz2:=zzb (by omega) hm he2
   have hcm:=zcm (by omega) hm
   rw[if_pos he2]at hcm;simp[hlt2,-z1c,z1,z2,zn,he2.symm,hwj,hj1',hup2];rw[hnx,hcm,hz2];exact⟨rfl,by omega,B3.app,K3.app⟩
  ·have hz2:=zza (by omega) hm he2
   have hcm:=zcm (by omega) hm
   rw[if_neg he2]at hcm;have he3 : ¬ xs[k+j]=xs[k+j - 1]'(by omega):=fun h=>he2 h.symm
   obtain⟨kk,hkke⟩:∃ kk,kk=(y1r (xs.take (k+j))).length:=⟨_,rfl⟩;have hcl:(y1r (xs.take (k+(j+1)))).length=kk+1:=by rw[hnx,hcm,ar,hkke];rfl
   rw[<- hkke]at hz2 hkk;have hst:∀ r:List Obj,y4c E (h3++r) 65 (.loc q (kk*2)) (y3g xs[k+j].1 xs[k+j].2)=some ((h3++r).set q (.cells (yh ((y80 xs (k+j)).set kk xs[k+j])))):=fun r=>st65 B3.app (by omega)
   have hkn:kk<xs.length:=by omega
   have hup3:=ze hkn (by omega)
   simp[hlt2,-z1c,z1,z2,zn,he3,hwj,hj1',hup2,<- hkke,hst,hkn,hup3,hcl];exact⟨by omega,by rw[hnx,hz2];exact At.self (At.lt B3.app),K3.app.set⟩
 ·have he' : ¬ xs[k]=xs[k - 1]'(by omega):=fun h=>he h.symm
  simp[hlt,hup,hw1,hk1',-z1c,y1,y2,ez,he'];exact⟨B.app,K.app,by rw[zcm hk1 hlt,if_neg he,hc,<- aL hlt]⟩
def ybu(p:Int × Int):D:=y3g p.1 p.2
abbrev ya3(l:List (Int × Int)):D:=.imm .none (l.map ybu)
theorem zbv{sz:Nat}{rest:List D}:∀(els:List D),(∀ x,x ∈ els->x.cellsL.length=sz/\ym true x.cellsL=some x)->y31 sz true els.length (yr els++rest)=some els
 |[],_=>rfl
 |x::els,h=>by
  obtain⟨h1,h2⟩:=h x (by simp)
  have ih:=zbv (rest:=rest) els fun y hy=>h y (by simp[hy])
  have ht:=z7f x.cellsL (yr els++rest) 0 [] rfl;rw[bo,h1]at ht;rw[aq,y31,z1n,bi,ht];simp only[h2];rw[show(x.cellsL++(yr els++rest)).drop sz=yr els++rest from by rw[<- h1];simp,ih]
theorem zh4:∀(l:List (Int × Int)),yr (l.map ybu)=yh l
 |[]=>rfl
 |p::l=>by rw[av,z1n,zh4 l];rfl
theorem zw7{X:List Obj}{q n:Nat}{L:List (Int × Int)}{gr:Bool}{cs:List D}(h:At X q (.cells cs))(hc:cs.take (L.length*2)=yh L):frz X (n+3) (.sl q 0 L.length 2 true gr)=some (ya3 L):=by
 have hr:y13 X q=some cs:=by unfold y13;rw[h.eq]
 have hcs:cs=yr (L.map ybu)++cs.drop (L.length*2):=by rw[zh4,<- hc,bT]
 have hch:=zbv (sz:=2) (rest:=cs.drop (L.length*2)) (L.map ybu) (fun x hx=>by obtain⟨p,_,rfl⟩:=aK.1 hx;exact⟨rfl,rfl⟩)
 rw[<- hcs,aD]at hch;show(match y13 X q with | some cs=>(match y31 2 true L.length (cs.drop 0)with | some els=>(y1h (frz X (n+2)) els).map (D.imm .none) | none=>none) | none=>none)=_
 rw[hr];simp only[dp];rw[hch];simp only[];rw[show y1h (frz X (n+2)) (L.map ybu)=some (L.map ybu)from z1e fun _ _=>rfl]
 rfl
theorem ykp(hp:List Obj):y1g E (dL E) 363 [.imm .exact []] hp=some (.imm .exact [],hp):=by
 have:∃ d hp',y1g E (dL E) 363 [.imm .exact []] hp=some (d,hp')/\(d=.imm .exact []/\hp'=hp):=by
  refine z1i c363 (args:=[.imm .exact []]) (hp:=hp) (R:=fun d hp'=>d=.imm .exact []/\hp'=hp) (by simp) ?_
  conv in t363=>reduce;dsimp[ai]
  simp[t363,n363]
 obtain⟨d,hp',e,rfl,rfl⟩:=this;exact e
def y5k(f:Nat)(H:List Obj)(acc:List (Int × Int))(d:D):Prop:=
 (acc=[]/\d=.imm .exact []) \/ ∃ k,d=.sl k 0 acc.length 2 true true/\2<=k/\k ≠ f/\At H k (.cells (yh acc))
theorem y5k.app{f:Nat}{H r:List Obj}{acc:List (Int × Int)}{d:D}(h:y5k f H acc d):y5k f (H++r) acc d:=by
 rcases h with h | ⟨k,h1,h2,h3,h4⟩
 ·exact .inl h
 ·exact .inr ⟨k,h1,h2,h3,h4.app⟩
theorem y5k.set{f j:Nat}{H:List Obj}{o:Obj}{acc:List (Int × Int)}{d:D}(h:y5k f H acc d)(hj:j<2):y5k f (H.set j o) acc d:=by
 rcases h with h | ⟨k,h1,h2,h3,h4⟩
 ·exact .inl h
 ·exact .inr ⟨k,h1,h2,h3,h4.ne (by omega)⟩
theorem y5k.own{f:Nat}{H r:List Obj}{acc:List (Int × Int)}{d:D}(h:y5k f H acc d):y5k H.length (H++r) acc d:=by
 rcases h with h | ⟨k,h1,h2,h3,h4⟩
 ·exact .inl h
 ·exact .inr ⟨k,h1,h2,by have:=h4.lt;omega,h4.app⟩
theorem zy2{f:Nat}{H:List Obj}{acc:List (Int × Int)}{d:D}{a b:Int}(h:y5k f H acc d)(hl:acc.length<=1000000)(hf:f<H.length)(h2:2<=H.length) :
  ∃ d' H',y3a E H 67 67 d (.imm .exact [y3g a b])=some (d',H')/\y5k f H' (acc++[(a,b)]) d'/\d'.storable=true/\d'.cellsL=[d'] /\ ∀ j o,j<2\/j=f->At H j o->At H' j o:=by
 have hlo:y1a H 2 true (.imm .exact [y3g a b])=some [y3g a b]:=rfl;have e67:(E.ty 67).k=.slice 65:=rfl;rcases h with⟨rfl,rfl⟩ | ⟨k,rfl,hk,hkf,hA⟩
 ·refine⟨.sl H.length 0 1 2 true true,H++[.cells (yh [(a,b)])],?_,.inr ⟨H.length,rfl,by omega,by omega,by simp[At]⟩,rfl,rfl,fun j o _ a=>a.app⟩
  have h5:(0+1)*((E.ty 65).bytes+1)<=yg/\(E.ty 65).bytes<=65536/\(y26 E 65).isSome=true/\y2j (E.ty 65).size ([]:List D)=true:=⟨by decide,by decide,rfl,rfl⟩
  unfold y3a;simp only[e67];rw[show y1a H (E.ty 65).size (E.ty 65).ag (.imm .exact [y3g a b])=some [y3g a b]from hlo]
  simp only[aq,aV];rw[if_neg (by simp),if_pos h5]
  rfl
 ·have hb:(E.ty 65).bytes=16:=rfl;refine⟨.sl H.length 0 (acc.length+1) 2 true true,H.set k .dead++[.cells (yh (acc++[(a,b)]))],?_,.inr ⟨H.length,by rw[ar];rfl,by omega,by omega,by simp[At]⟩,rfl,rfl,fun j o hj a=>(a.ne (by omega)).app⟩
  have h5:(acc.length+1)*((E.ty 65).bytes+1)<=yg/\(E.ty 65).bytes<=65536/\(y26 E 65).isSome=true/\2=(E.ty 65).size/\(yh acc).length=acc.length*2:=⟨by rw[hb];simp[yg];omega,by decide,rfl,rfl,z4q acc⟩
  unfold y3a;simp only[e67];rw[show y1a H (E.ty 65).size (E.ty 65).ag (.imm .exact [y3g a b])=some [y3g a b]from hlo,hA.eq]
  simp only[aq,aV];rw[if_neg (by simp),if_pos h5,zac]
  rfl
def yff(x:Int × Ent):Int × Int:=(x.2.kind,x.2.idx)
theorem zdu:∀(l:List Pst),(y4z l).map yff=yfw l
 |[]=>rfl
 |p::l=>by
  have ih:=zdu l;rw[z58,bm,ih,gB]
  rfl
def yc9(H:List Obj)(A:List (Int × Int))(d:D):Prop:=
 (A=[]/\d=.imm .exact []) \/ ∃ k cs,d=.sl k 0 A.length 2 true true/\At H k (.cells cs)/\cs.take (A.length*2)=yh A
theorem s325(l:List Pst)(ok:y9p l)(hN:y94 l<=1000000):∃ d hp',y1g E (dL E) 325 [y1x l] []=some (d,hp')/\yc9 hp' (ybc l) d:=by
 have e359:=r359 l;refine z1i c325 (R:=fun d hp'=>yc9 hp' (ybc l) d) (by simp) ?_
 conv in t325=>reduce;dsimp[ai]
 obtain⟨AS,hAS⟩:∃ AS,AS=yfw l:=⟨_,rfl⟩;have hasl:AS.length=y94 l:=by rw[hAS];exact zfi l
 have hLs:ybc l=y1r (y1t AS):=by rw[hAS];rfl
 rw[hLs];simp[t325,n325,zt,e359];refine⟨380,_,rfl,?_⟩;intro L hL hcb;obtain⟨J,hJ⟩:∃ J:Nat->List (Int × Ent)->List Obj->Prop,J=fun f rem hp'=>2<=f /\ ∃ acc d,At hp' 0 (.cells [d])/\At hp' 1 (L false none)/\acc++rem.map yff=AS/\y5k f hp' acc d:=⟨_,rfl⟩
 have key:=i380 l ok 1 J (fun _=>False) (by
   rw[hJ];rintro f rem hp' r ⟨hf,acc,d,a1,a2,a3,a4⟩;exact⟨hf,acc,d,a1.app,a2.app,a3,a4.app⟩) (by
   rw[hJ];rintro f rem hp' r ⟨hf,acc,d,a1,a2,a3,a4⟩;exact⟨by have:=a2.lt;omega,acc,d,a1.app,a2.app,a3,a4.own⟩) (by
   intro f x rem hp1 o hj ho;rw[hJ]at hj;obtain⟨hf,acc,d,a1,a2,a3,a4⟩:=hj;have l1:=a2.lt;obtain⟨mi,⟨kd,ix,am⟩⟩:=x;have hal:acc.length<=1000000:=by have:=congrArg cM a3;rw[ar]at this;omega
   obtain⟨H1,hH1⟩:∃ H1,H1=hp1.set 1 (L true none):=⟨_,rfl⟩;have b0:At H1 0 (.cells [d]):=by rw[hH1];exact a1.ne (by omega)
   have b1:At H1 1 (L true none):=by rw[hH1];exact At.self l1
   have bf:At H1 f o:=by rw[hH1];exact ho.ne (by omega)
   have b4:y5k f H1 acc d:=by rw[hH1];exact a4.set (by omega)
   have l0:=b0.lt;have lf:=bf.lt;obtain⟨t,hp2,e1,e2⟩:=hcb [dI mi,y2k ⟨kd,ix,am⟩] hp1 (fun t hp'=>t=true/\J f rem hp'/\At hp' f o) rfl a2 (by
    rw[show[Obj.cells [D.imm yt.exact []]].length=1 from rfl]
    have y2:∀ r:List Obj,(hp1++r)[1]? = some (L false none):=fun r=>a2.app
    have y6:∀ r:List Obj,(hp1++r).set 1 (L true none)=H1++r:=fun r=>by rw[z1d l1,hH1]
    have y7:hp1.length=H1.length:=by rw[hH1,bn]
    have y0:∀ r:List Obj,(H1++r)[0]? = some (.cells [d]):=fun r=>b0.app
    have hda:d.atom=true:=by rcases a4 with⟨_,rfl⟩ | ⟨k,rfl,_⟩ <;> rfl
    obtain⟨d',H',g1,g2,g3,g4,g5⟩:=zy2 (a:=kd) (b:=ix) (b4.app (r:=[.cells [dI kd,dI ix,dI am]])) hal (by rw[ar];omega) (by rw[ar];omega)
    have c0:At H' 0 (.cells [d]):=g5 0 _ (.inl (by omega)) b0.app
    have c1:At H' 1 (L true none):=g5 1 _ (.inl (by omega)) b1.app
    have cf:At H' f o:=g5 f _ (.inr rfl) bf.app;have c10:∀ o,(H'.set 0 o)[1]? = some (L true none):=fun o=>c1.ne (by omega)
    have fin:J f rem ((H'.set 0 (.cells [d'])).set 1 (L false none))/\At ((H'.set 0 (.cells [d'])).set 1 (L false none)) f o:=by have k0:=c0.lt;have k1:=c1.lt;rw[hJ];refine⟨⟨hf,acc++[(kd,ix)],d',(At.self k0).ne (by omega),At.self (by rw[bn];exact k1),by rw[<- a3];simp[yff],(g2.set (by omega)).set (by omega)⟩,(cf.ne (by omega)).ne (by omega)⟩
    simp[y23,↓y2,↓y6,y7,↓y0,hda,g1,g3,g4,c0.eq,↓c10];exact fin)
   exact⟨t,hp2,e1,fun _=>e2.2,fun h=>by rw[e2.1]at h;cases h⟩) (hp:=[.cells [.imm .exact []],L false none]) (f0:=2) (by
   rw[hJ];exact⟨aj _,[],.imm .exact [],rfl,rfl,by rw[zdu,hAS];rfl,.inl ⟨rfl,rfl⟩⟩)
 obtain⟨d,hp',h1,h2⟩:=key;rcases h2 with⟨f,h2⟩ | h2
 ·rw[hJ]at h2;obtain⟨_,acc,dd,a1,a2,a3,a4⟩:=h2;rw[aN,bL]at a3;subst a3;refine⟨d,hp',h1,.inl ⟨a2,?_⟩⟩;have hal:acc.length<=1000000:=by omega
  obtain⟨H2,hH2⟩:∃ H2,H2=hp'.set 1 Obj.dead:=⟨_,rfl⟩;have b0:At H2 0 (.cells [dd]):=by rw[hH2];exact a1.ne (by omega)
  have b4:y5k f H2 acc dd:=by rw[hH2];exact a4.set (by omega)
  have l0:=b0.lt;rcases b4 with⟨rfl,rfl⟩ | ⟨k,rfl,hk2,hkf,b4⟩
  ·have e1:=ykq (hp:=H2) (k:=362) (.inl rfl);have e2:=ykp H2;have c0:∀ o,(H2.set 0 o)[0]? = some o:=fun o=>At.self l0
   simp[<- hH2,b0.eq,e1,e2,y18,↓c0];exact .inl ⟨by simp[y1t,y1r],rfl⟩
  ·have e1:=s361 (k:=362) (gr:=true) (ag:=true) (.inl rfl) b4 hal;obtain⟨H3,hH3⟩:∃ H3,H3=H2.set k (.cells (yh (y1t acc))):=⟨_,rfl⟩;have g0:At H3 0 (.cells [.sl k 0 acc.length 2 true true]):=by rw[hH3];exact b0.ne (by omega)
   have g4:At H3 k (.cells (yh (y1t acc))):=by rw[hH3];exact At.self b4.lt
   obtain⟨d',H4,e2,cs,rfl,f4,f5,K⟩:=s363 g4 (by rw[z31];exact hal)
   rw[z31]at e2;have f0:=K.2 0 _ (by omega) g0
   have c0:∀ o,(H4.set 0 o)[0]? = some o:=fun o=>At.self f0.lt
   simp[<- hH2,b0.eq,e1,<- hH3,g0.eq,e2,f0.eq,y18,↓c0];exact .inr ⟨k,cs,rfl,f4.ne (by omega),f5⟩
 ·exact h2.elim
theorem r325(l:List Pst)(ok:y9p l)(hN:y94 l<=1000000):yu E (dL E) 325 [y1x l]=some (ya3 (ybc l)):=by
 obtain⟨d,hp',e,h⟩:=s325 l ok hN;have hk:E.keep 325=false:=rfl;unfold yu;simp only[e,hk];show frz hp' 12 d=_
 rcases h with⟨h1,rfl⟩ | ⟨k,cs,rfl,h2,h3⟩
 ·rw[h1];rfl
 ·exact zw7 (n:=9) h2 h3
end Dv
namespace Dv
theorem zg7:∀{a b:List (Int × Int)},a.Perm b->a.Pairwise (fun x y=>y43 y x=false)->b.Pairwise (fun x y=>y43 y x=false)->a=b
 |[],b,hp,_,_=>by rw[List.nil_perm.1 hp]
 |x::a,[],hp,_,_=>by simp at hp
 |x::a,y::b,hp,ha,hb=>by
  obtain⟨a1,a2⟩:=cW.1 ha;obtain⟨b1,b2⟩:=cW.1 hb;have hxy:x=y:=by
   have h1:x ∈ y::b:=hp.mem_iff.1 (by simp)
   have h2:y ∈ x::a:=hp.mem_iff.2 (by simp)
   rcases aA.1 h1 with h1 | h1
   ·exact h1
   ·rcases aA.1 h2 with h2 | h2
    ·exact h2.symm
    ·have c1:=b1 x h1;have c2:=a1 y h2;rcases zau c2 with h | h
     ·exact h
     ·rw[h]at c1;simp at c1
  subst hxy;rw[zg7 ((List.perm_cons x).1 hp) a2 b2]
end Dv
namespace Dv
attribute [local simp] ah depth y22 y4y ya y16 y4t ye y2q y2f Ret
attribute [local congr] z1j z1k z19 z12 zw z1a zu
def y47:yt->List Obj->List Obj
 |.tok q,h=>h.set q .dead
 |_,h=>h
theorem z7z{sp:yt}{h:List Obj}:(y47 sp h).length=h.length:=by unfold y47;split <;> simp
def y5w(h:List Obj)(sp:yt)(n sz:Nat):Prop:=sp=.exact \/ ∃ k,sp=.tok k/\At h k (.tok (n*sz) sz)
theorem y5w.app{h r:List Obj}{sp:yt}{n sz:Nat}(R:y5w h sp n sz):y5w (h++r) sp n sz:=by
 rcases R with R | ⟨k,R,a⟩
 ·exact .inl R
 ·exact .inr ⟨k,R,a.app⟩
theorem zgx{h r:List Obj}{sp:yt}{n sz:Nat}(R:y5w h sp n sz):y47 sp (h++r)=y47 sp h++r:=by
 rcases R with rfl | ⟨k,rfl,a⟩
 ·rfl
 ·exact z1d a.lt
theorem zvp{h:List Obj}{sp:yt}{j:Nat}{o:Obj}(a:At h j o)(hj:∀ k,sp=.tok k->k ≠ j):At (y47 sp h) j o:=by
 cases sp with
 |tok k=>exact a.ne (hj k rfl)
 |exact=>exact a
 |none=>exact a
theorem zu3{hp:List Obj}{id t e sz:Nat}{sp sp':yt}{els new:List D}(hk:(E.ty t).k=.slice e)(hs:(E.ty e).size=sz)(hl:y1a hp (E.ty e).size (E.ty e).ag (.imm sp' new)=some new)(hap:y2o E e els new)(R:y5w hp sp els.length sz) :
  y97 E hp id t t (.imm sp els) (.imm sp' new)=some (.imm (.tok id) (els++new),y2f (y47 sp hp) id (.tok ((els.length+new.length)*sz) sz)):=by
 rw[hs]at hl;rcases R with rfl | ⟨k,rfl,a⟩
 ·rw[zz];simp only[hk,hl,zc,hs];rw[if_pos hap]
  rfl
 ·rw[z14];simp only[hk,hl,zc,hs];rw[if_pos hap,a.eq,z64,zc,if_pos ⟨rfl,rfl⟩]
  rfl
theorem zn7{hp:List Obj}{sp:yt}{sz:Nat}{ag:Bool}{els:List D}(h:∀ x,x ∈ els->x.storable=true/\x.cellsL.length=sz):y1a hp sz ag (.imm sp els)=some els:=by
 simp only[y1a];rw[if_pos (by
  rw[ay];intro x hx;rw[(h x hx).1,(h x hx).2];simp)]
theorem zwi{sz:Nat}{els:List D}(h:∀ x,x ∈ els->x.storable=true/\x.cellsL.length=sz):y2j sz els=true:=by unfold y2j;rw[ay];intro x hx;rw[(h x hx).1,(h x hx).2];simp
theorem zli{l:List Ent}:∀ x,x ∈ l.map y2k->x.storable=true/\x.cellsL.length=3:=fun x hx=>by obtain⟨s,_,rfl⟩:=aK.1 hx;exact⟨rfl,rfl⟩
theorem zu4{hp:List Obj}{id:Nat}{sp sp':yt}{l m:List Ent}(hl:l.length+m.length<=10000000)(R:y5w hp sp l.length 3) :
  y97 E hp id 66 66 (.imm sp (l.map y2k)) (.imm sp' (m.map y2k))=some (.imm (.tok id) (l.map y2k++m.map y2k),y2f (y47 sp hp) id (.tok ((l.length+m.length)*3) 3)):=by
 have:=zu3 (hp:=hp) (id:=id) (t:=66) (e:=72) (sz:=3) (sp:=sp) (sp':=sp') (els:=l.map y2k) (new:=m.map y2k) rfl rfl (zn7 zli) ⟨by
  rw[aD,aD,show(E.ty 72).bytes=24 from rfl];simp[yg];omega,by decide,rfl,zwi zli⟩ (by rw[aD];exact R)
 rw[aD,aD]at this;exact this
theorem yi6{h r:List Obj}{j:Nat}{sp:yt}{l:List Ent}{a b c:Int}(hl:l.length<=1000000)(R:y5w h sp l.length 3)(hj:j<r.length) :
  y97 E (h++r) (h.length+j) 66 66 (.imm sp (l.map y2k)) (.imm .exact [.agg [dI a,dI b,dI c]])=some (.imm (.tok (h.length+j)) (l.map y2k++[y2k ⟨a,b,c⟩]),y47 sp h++r.set j (.tok ((l.length+1)*3) 3)):=by
 have e:=zu4 (hp:=h++r) (id:=h.length+j) (sp:=sp) (sp':=.exact) (l:=l) (m:=[⟨a,b,c⟩]) (by simp;omega) R.app
 rw[zgx R]at e;have e2:y2f (y47 sp h++r) (h.length+j) (.tok ((l.length+1)*3) 3)=y47 sp h++r.set j (.tok ((l.length+1)*3) 3):=by
  unfold y2f;rw[if_pos (by rw[ar,z7z];omega)]
  have:=z42 (hp:=y47 sp h) (r:=r) (k:=j) (x:=.tok ((l.length+1)*3) 3);rwa [z7z]at this
 rw[<- e2];exact e
theorem y5w.ne{h:List Obj}{sp:yt}{n sz q:Nat}{o:Obj}(R:y5w h sp n sz)(B:At h q o)(ho:∀ u s,o ≠ .tok u s):∀ k,sp=.tok k->k ≠ q:=by
 intro k hk e;subst e;rcases R with rfl | ⟨k',rfl,a⟩
 ·cases hk
 ·cases hk;have:=a.eq.symm.trans B.eq;cases this;exact ho _ _ rfl
theorem ykj{h r:List Obj}{sp:yt}{j u s:Nat}(hr:r[j]? = some (.tok u s)):At (y47 sp h++r) (h.length+j) (.tok u s):=by have:=z1p (hp:=y47 sp h) (r:=r) (k:=j);rw[z7z]at this;unfold At;rw[this];exact hr
theorem zgf{h r:List Obj}{sp:yt}{n sz j:Nat}(hr:r[j]? = some (.tok (n*sz) sz)):y5w (y47 sp h++r) (.tok (h.length+j)) n sz:=.inr ⟨_,rfl,ykj hr⟩
def y68(m:y41):List (D × D):=m.map fun e=>(y3g e.1.1 e.1.2,dI e.2)
theorem zsq{a b:Key}:(y3g a.1 a.2).eqb (y3g b.1 b.2)=some (decide (a=b)):=by
 have h:(y3g a.1 a.2).eqb (y3g b.1 b.2)=some ((a.1 == b.1) && ((a.2 == b.2) && true)):=rfl;rw[h];obtain⟨a1,a2⟩:=a;obtain⟨b1,b2⟩:=b;simp only[aa,aw,ed]
 by_cases h1:a1=b1 <;> by_cases h2:a2=b2 <;> simp[h1,h2]
theorem zyv{a:Key}:∀{m:y41},y17 (y3g a.1 a.2) (y68 m)=some ((y3s a m).map dI)
 |[]=>rfl
 |e::r=>by
  have ih:=zyv (a:=a) (m:=r);have hc:y68 (e::r)=(y3g e.1.1 e.1.2,dI e.2)::y68 r:=rfl;rw[hc,y17];simp only[zsq];unfold y3s
  by_cases h:a=e.1
  ·simp[h]
  ·simp only[h,decide_false,if_false];exact ih
theorem ygs{a:Key}{n:Int}:∀{m:y41},y1k (y3g a.1 a.2) (dI n) (y68 m)=some (y68 (y7y a n m))
 |[]=>rfl
 |e::r=>by
  have ih:=ygs (a:=a) (n:=n) (m:=r);have hc:y68 (e::r)=(y3g e.1.1 e.1.2,dI e.2)::y68 r:=rfl;rw[hc,y1k];simp only[zsq];unfold y7y
  by_cases h:a=e.1
  ·simp only[h,decide_true,if_true];rfl
  ·simp only[h,decide_false,if_false,ih];rfl
theorem yir{H:List Obj}{q:Nat}{m:y41}{a b:Int}(A:At H q (.map (y68 m))):y2c E H 75 (.map (some q)) (y3g a b) false=some (dI (y28 (a,b) m)):=by have hk:(E.ty 75).k=.map 65 2:=rfl;have hz:y26 E 2=some (dI 0):=rfl;have hf:y17 (y3g a b) (y68 m)=some ((y3s (a,b) m).map dI):=zyv (a:=(a,b));have ho:y4r E 65 (y3g a b)=true:=rfl;unfold y2c;simp only[hk,ho,if_true,A.eq,hf,hz];unfold y28;cases y3s (a,b) m <;> rfl
theorem yl5{H:List Obj}{q:Nat}{m:y41}{a b n:Int}(A:At H q (.map (y68 m))):y38 E H 75 (.map (some q)) (y3g a b) (dI n)=some (H.set q (.map (y68 (y7y (a,b) n m)))):=by
 have hk:(E.ty 75).k=.map 65 2:=rfl;have hf:y1k (y3g a b) (dI n) (y68 m)=some (y68 (y7y (a,b) n m)):=ygs (a:=(a,b));have ho:y4r E 65 (y3g a b)=true:=rfl;unfold y38;simp only[hk,A.eq,hf];rw[if_pos ⟨ho,rfl,rfl⟩]
 rfl
theorem zkw:∀{m:y41},y6f (y68 m)=some (y2i m)
 |[]=>rfl
 |e::r=>by
  have ih:=zkw (m:=r);have hc:y68 (e::r)=(.agg [.int .i64 e.1.1,.int .i64 e.1.2],dI e.2)::y68 r:=rfl;rw[hc,y6f,ih]
  rfl
theorem s387(d:D)(hp:List Obj)(hd:d.storable=true)(hc:d.cellsL=[d])(hm:yy d=false):y1g E (dL E) 387 [d] hp=some (.fn 409 [.iptr [d]],hp):=by
 obtain⟨x,y,e,rfl,rfl⟩:∃ x y,y1g E (dL E) 387 [d] hp=some (x,y)/\(x=.fn 409 [.iptr [d]]/\y=hp):=by
  refine z1i c387 (R:=fun x y=>x=.fn 409 [.iptr [d]]/\y=hp) (by simp) ?_
  conv in t387=>reduce;dsimp[ai]
  simp[t387,n387,hd,hc,hm]
 exact e
theorem s388{hp:List Obj}{q:Nat}{m:y41}(A:At hp q (.map (y68 m)))(hl:m.length<=1000000) :
  y1g E (dL E) (388) [.fn 409 [.iptr [.map (some q)]],.fn 386 []] hp=some (ya3 (y1t (y2i m)),hp):=by
 have e:E.fn (388)=some f388:=rfl;have e2:E.mp (388)=false:=rfl;have e4:E.prim 1=ya0 [409] [386]:=rfl;have e5:ya0 [409] [386] [.fn 409 [.iptr [.map (some q)]],.fn 386 []] hp=some (ya3 (y1t (y2i m)),hp):=by
  unfold ya0;have hc:([409].contains 409 && [386].contains 386)=true:=rfl;simp only[hc,if_true,A.eq,zkw];rw[if_pos (by simp[y2i];omega)]
  rfl
 unfold y1g;simp only[e,e2,f388,yp,z9h,z5w,zhd,z5b,z6q,y2s];simp[yi,yf,yn,y2g,DOp.fin,yo,yb,yq,gOf,z6q,y29,y67,yj,y2f,z5b,z8v,yy,e4,e5,y2r]
theorem zst{m:y41}{l:List Key}{i:Nat}(h:i<l.length):y65 m (l.take (i+1))=if y28 l[i] m=0 then y65 m (l.take i)else y65 m (l.take i)++[⟨l[i].1,l[i].2,y28 l[i] m⟩]:=by
 have key:∀(a:List Key) (x:Key),y65 m (a++[x])=if y28 x m=0 then y65 m a else y65 m a++[⟨x.1,x.2,y28 x m⟩]:=by
  intro a x
  induction a with
  |nil=>simp only[bo,y65]
  |cons y a ih=>simp only[aJ,y65,ih];split <;> split <;> rfl
 rw[aL h,key]
theorem zwr{m:y41}{l:List Key}:(y65 m l).length<=l.length:=by have:=(z86 (m:=m) (l:=l)).length_le;simpa using this
theorem s370{hp:List Obj}{q:Nat}{m:y41}(A:At hp q (.map (y68 m)))(hl:m.length<=1000000) :
  ∃ d hp',y1g E (dL E) 370 [.map (some q)] hp=some (d,hp') /\ ∃ sp,d=.imm sp ((yau m).map y2k):=by
 refine z1i c370 (args:=[.map (some q)]) (hp:=hp) (R:=fun d hp'=>∃ sp,d=.imm sp ((yau m).map y2k)) (by simp) ?_
 conv in t370=>reduce;dsimp[ai]
 obtain⟨KS,hKS⟩:∃ KS,KS=y1t (y2i m):=⟨_,rfl⟩;have hkl:KS.length<=1000000:=by rw[hKS,z31];simp[y2i];omega
 have e1:=s387 (.map (some q)) hp rfl rfl rfl;have e2:=s388 A hl;rw[<- hKS]at e2;have hM:yau m=y65 m KS:=by rw[hKS];rfl
 rw[hM];simp[t370,n370,e1,e2,y18];refine zl KS.length (fun i env h=>∃(x3 x8 x9 x10 x11:D) (sp:yt),env=[.map (some q),.imm sp ((y65 m (KS.take i)).map y2k),.fn 386 [],x3,.fn 409 [.iptr [.map (some q)]],ya3 KS,dI KS.length,dI i,x8,x9,x10,x11] /\
  y5w h sp (y65 m (KS.take i)).length 3/\At h q (.map (y68 m))) 0 (by omega) ⟨_,_,_,_,_,.exact,rfl,.inl rfl,A⟩ ?_
 rintro i env h hi ⟨x3,x8,x9,x10,x11,sp,rfl,R,B⟩
 by_cases hlt:i<KS.length
 rotate_left
 ·have:i=KS.length:=by omega
  subst this;rw[bg];simp
 have hup:=ze hlt (by omega)
 have y1:=fun r:List Obj=>yir (a:=KS[i].1) (b:=KS[i].2) (B.app (r:=r))
 have pA:ybu KS[i]=.agg [dI KS[i].1,dI KS[i].2]:=rfl;have htk:=zst (m:=m) hlt;have hln:=zwr (m:=m) (l:=KS.take i);rw[aZ]at hln;obtain⟨L,hL⟩:∃ L,L=y65 m (KS.take i):=⟨_,rfl⟩;rw[<- hL]at htk hln R ⊢;have y2:∀(r:List Obj) (c:Int),8<r.length->y97 E (h++r) (h.length+1+7) 66 66 (.imm sp (L.map y2k)) (.imm .exact [.agg [dI KS[i].1,dI KS[i].2,dI c]])=some (.imm (.tok (h.length+8)) (L.map y2k++[y2k ⟨KS[i].1,KS[i].2,c⟩]),y47 sp h++r.set 8 (.tok ((L.length+1)*3) 3)):=fun r c hr=>yi6 (by omega) R hr
 by_cases h0:y28 KS[i] m=0
 ·have h0':y28 (KS[i].1,KS[i].2) m=0:=h0;rw[if_pos h0]at htk;simp[hlt,pA,-z1z,y1,h0',hup,htk];exact⟨_,_,_,_,_,_,⟨rfl,rfl,rfl,rfl,rfl,rfl⟩,R.app,B.app⟩
 ·have h0' : ¬ y28 (KS[i].1,KS[i].2) m=0:=h0;rw[if_neg h0]at htk;simp[hlt,pA,-z1z,y1,h0',hup,htk,y2];exact⟨_,_,_,_,_,_,⟨rfl,rfl,rfl,rfl,rfl,rfl⟩,zgf rfl,(zvp B (R.ne B (by simp))).app⟩
end Dv
namespace Dv
def okT(x:Ent):Prop:=(1<=x.kind/\x.kind<=4)/\(-1<=x.idx/\x.idx<=4095)/\(-1099511627776<=x.amt/\x.amt<=1099511627776)/\x.amt ≠ 0
instance(x:Ent):Decidable (okT x):=inferInstanceAs (Decidable (_/\_))
def tgt(t:List Ent):Prop:=(∀ x,x ∈ t->okT x)/\yfr t
def y5n(l:List Pst):List Ent:=l.flatMap fun p=>p.ents
def low(l:List Ent):List Ent:=l.filter fun x=>decide (x.kind<=4)
def bkN(l:List Pst)(t:List Ent):List Ent:=y6u (t++y6v (low (y5n l)))
def bkS(l:List Pst)(m:Int)(t:List Ent):Stp:=⟨m,(l.length:Int) - 1,bkN l t⟩
open Classical in
noncomputable def boE(tg:Tag)(l:List Pst)(m:Int)(t:List Ent):Int:=
 if rdE tg l ≠ 0 then rdE tg l else if ¬ tgt t then 430 else if bkN l t=[]then 0 else y4i tg l (bkS l m t)
open Classical in
noncomputable def boL(tg:Tag)(l:List Pst)(m:Int)(t:List Ent):List Pst:=
 if boE tg l m t=0 then(if bkN l t=[]then l else l++[y90 tg l (bkS l m t)])else[]
theorem zjv(a b:List Pst):y5n (a++b)=y5n a++y5n b:=kQ
theorem zn2(a b:List Ent):low (a++b)=low a++low b:=gA ..
theorem zfh:∀(l:List Pst),(y5n l).length=y94 l
 |[]=>rfl
 |p::l=>by have:=zfh l;simp only[y5n,bv,ar,y94]at this ⊢;omega
theorem zjt{k i:Int}:∀{l:List Ent},y1c k i (low l)=if k<=4 then y1c k i l else 0
 |[]=>by simp[low,y1c]
 |x::l=>by
  have ih:=zjt (k:=k) (i:=i) (l:=l);unfold low at ih ⊢;rw[ig]
  by_cases h:x.kind<=4
  ·rw[if_pos (by simpa using h)]
   simp only[y1c,ih]
   by_cases hk:k<=4
   ·simp[hk]
   ·have : ¬ (x.kind=k/\x.idx=i):=fun e=>hk (by omega)
    simp[hk,this]
  ·rw[if_neg (by simpa using h)]
   simp only[y1c,ih]
   by_cases hk:k<=4
   ·have : ¬ (x.kind=k/\x.idx=i):=fun e=>h (by omega)
    simp[this]
   ·simp[hk]
theorem zk1{t:List Ent}(h:tgt t){k i:Int}(hk : ¬ k<=4):y1c k i t=0:=by
 refine z8b fun hm=>?_
 obtain⟨x,hx,e⟩:=aK.1 hm;have:=(h.1 x hx).1.2;have e1:x.kind=k:=congrArg Prod.fst e;omega
theorem yex{l:List Pst}{t:List Ent}{k i:Int}:y1c k i (bkN l t)=y1c k i t - if k<=4 then y1c k i (y5n l)else 0:=by unfold bkN;rw[zaz,z36,zc6,zjt];omega
structure Bok(tg:Tag)(l:List Pst)(m:Int)(t:List Ent):Prop where
 v:vld tg l
 ok:tgt t
 post:bkN l t ≠ []->y4i tg l (bkS l m t)=0
open Classical in
theorem z8a{tg:Tag}{l:List Pst}{m:Int}{t:List Ent}:boE tg l m t=0 ↔ Bok tg l m t:=by
 unfold boE;constructor
 ·intro h;split at h
  ·rename_i h1;exact absurd h h1
  ·rename_i h1;split at h
   ·simp at h
   ·rename_i h2;refine⟨z26.1 (fR.1 h1),fR.1 h2,fun h3=>?_⟩
    rw[if_neg h3]at h;exact h
 ·intro ⟨h1,h2,h3⟩;rw[if_neg (by simp[z26.2 h1]),if_neg (by simp[h2])]
  split
  ·rfl
  ·rename_i h4;exact h3 h4
theorem zds{tg:Tag}{l:List Pst}{m:Int}{t:List Ent}(b:Bok tg l m t):boL tg l m t=if bkN l t=[]then l else l++[y90 tg l (bkS l m t)]:=by unfold boL;rw[if_pos (z8a.2 b)]
theorem Bok.all{tg:Tag}{l:List Pst}{m:Int}{t:List Ent}(b:Bok tg l m t)(k i:Int):y1c k i (y5n (boL tg l m t))=if k<=4 then y1c k i t else y1c k i (y5n l):=by
 have e:y1c k i (y5n (boL tg l m t))=y1c k i (y5n l)+y1c k i (bkN l t):=by
  rw[zds b];split
  ·rename_i h;rw[h];simp[y1c]
  ·rw[zjv,z36];have:y5n [y90 tg l (bkS l m t)]=bkN l t:=by simp[y5n,y90,bkS]
   rw[this]
 rw[e,yex];split
 ·omega
 ·rename_i hk;rw[zk1 b.ok hk];omega
theorem Bok.again{tg:Tag}{l:List Pst}{m:Int}{t:List Ent}(b:Bok tg l m t):bkN (boL tg l m t) t=[]:=by
 unfold bkN;refine zqu.2 fun k i=>?_
 rw[z36,zc6,zjt,b.all]
 by_cases hk:k<=4
 ·rw[if_pos hk,if_pos hk];omega
 ·rw[if_neg hk,zk1 b.ok hk];rfl
theorem yew{l:List Pst}{t:List Ent}:(bkN l t).length<=t.length+y94 l:=by unfold bkN;have h1:=zqv (l:=t++y6v (low (y5n l)));have h2:(low (y5n l)).length<=(y5n l).length:=im ..;rw[zfh]at h2;rw[ar,zkq]at h1;omega
def yc3(k i:Int):List Ent->Int
 |[]=>0
 |x::l=>if x.kind=k/\x.idx=i then x.amt else yc3 k i l
theorem zju{k i:Int}:∀{l:List Ent},yfr l->yc3 k i l=y1c k i l
 |[],_=>rfl
 |x::l,h=>by
  have hs:=z5l.2 h;obtain⟨h1,h2⟩:=z4h.1 hs;simp only[yc3,y1c];split
  ·rename_i e;have:y1c k i l=0:=z8b fun hm=>by
    have:=h1 _ hm;rw[show(k,i)=y5l x from by unfold y5l;rw[e.1,e.2],z69]at this
    cases this
   omega
  ·rw[zju (z5l.1 h2)];omega
def stE(l:List Pst)(k m:Int):List Ent:=((ybc l).filter fun a=>decide (a.1=k)).map fun a=>⟨a.1,a.2,yf1 a.1 a.2 m l⟩
end Dv
namespace Dv
attribute [local simp] ah depth y22 y4y ya y16 y4t ye y2q y2f Ret
attribute [local congr] z1j z1k z19 z12 zw z1a zu
def wib(x a b:Int):Bool:=decide (a<=x) && decide (x<=b)
theorem zhu{x a b:Int}:wib x a b=true ↔ a<=x/\x<=b:=by unfold wib;simp
theorem yin(x a b:Int):yu E (dL E) 368 [dI x,dI a,dI b]=some (.bool (wib x a b)):=by
 refine zg c368 (by simp) ?_
 conv in t368=>reduce;dsimp[ai]
 by_cases h:a<=x <;> simp[t368,n368,wib,h]
def okB(x:Ent):Bool:=wib x.kind 1 4 && (wib x.idx (-1) 4095 && (wib x.amt (-1099511627776) 1099511627776 && !decide (x.amt=0)))
theorem zqq{x:Ent}:okB x=true ↔ okT x:=by unfold okB okT;simp only[ak,zhu,Bool.not_eq_true',decide_eq_false_iff_not]
def ykk(t:List Ent)(j:Nat):Prop:=∃ x,t[j]? = some x/\okT x /\ ∀ i y,i+1=j->t[i]? = some y->ltA y x
theorem zpj{t:List Ent}:tgt t ↔ ∀ j,j<t.length->ykk t j:=by
 constructor
 ·intro h j hj;refine⟨t[j],ac hj,h.1 _ (au hj),fun i y e hy=>?_⟩
  subst e;have hi:=(ae.1 hy);obtain⟨h1,rfl⟩:=hi;exact h.2 i hj
 ·intro h;refine⟨fun x hx=>?_,fun i hi=>?_⟩
  ·obtain⟨j,hj⟩:=List.mem_iff_getElem?.1 hx;obtain⟨y,hy,ok,_⟩:=h j (ae.1 hj).1;rw[hj]at hy;cases hy;exact ok
  ·obtain⟨y,hy,_,o⟩:=h (i+1) hi;rw[ac hi]at hy;cases hy;exact o i _ rfl (ac (by omega))
open Classical in
theorem r375(t:List Ent)(hl:t.length<=1000000):yu E (dL E) 375 [.imm .none (t.map y2k)]=some (.bool (decide (tgt t))):=by
 have e368:=yin;refine zg c375 (by simp) ?_
 conv in t375=>reduce;dsimp[ai]
 obtain⟨B,hB⟩:∃ B,B=decide (tgt t):=⟨_,rfl⟩;have hBf : ¬ tgt t->B=false:=fun h=>by rw[hB];simp[h]
 have hBt:tgt t->B=true:=fun h=>by rw[hB];simp[h]
 rw[<- hB];simp[t375,n375];refine zl t.length (fun i env h=>∃(x2 x3 x4 x5 x9 x10 x11 x12 x13 x14 x15:D) ,env=[.imm .none (t.map y2k),.bool false,x2,x3,x4,x5,.imm .none (t.map y2k),dI t.length,dI i,x9,x10,x11,x12,x13,x14,x15] /\ ∀ j,j<i->ykk t j) 0 (by omega) ⟨_,_,_,_,_,_,_,_,_,_,_,rfl,fun j hj=>by omega⟩ ?_
 rintro i env h hi ⟨x2,x3,x4,x5,x9,x10,x11,x12,x13,x14,x15,rfl,ht⟩
 by_cases hlt:i<t.length
 rotate_left
 ·have:i=t.length:=by omega
  subst this;have:=hBt (zpj.2 ht);simp[this]
 have hup:=ze hlt (by omega)
 obtain⟨x,hx⟩:∃ x,x=t[i]:=⟨_,rfl⟩;have hx2:t[i]? = some x:=by rw[hx];exact ac hlt
 have no:okB x=false->B=false:=fun h=>hBf fun h2=>by obtain⟨y,hy,ok,_⟩:=zpj.1 h2 i hlt;rw[hx2]at hy;cases hy;rw[zqq.2 ok]at h;cases h
 by_cases h1:wib x.kind 1 4=true
 rotate_left
 ·have h1:wib x.kind 1 4=false:=by simpa using h1
  have:=no (by unfold okB;rw[h1];rfl)
  simp[hlt,e368,<- hx,h1,this]
 by_cases h2:wib x.idx (-1) 4095=true
 rotate_left
 ·have h2:wib x.idx (-1) 4095=false:=by simpa using h2
  have:=no (by unfold okB;rw[h1,h2];rfl)
  simp[hlt,e368,<- hx,h1,h2,this]
 by_cases h3:wib x.amt (-1099511627776) 1099511627776=true
 rotate_left
 ·have h3:wib x.amt (-1099511627776) 1099511627776=false:=by simpa using h3
  have:=no (by unfold okB;rw[h1,h2,h3];rfl)
  simp[hlt,e368,<- hx,h1,h2,h3,this]
 by_cases h4:x.amt=0
 ·have:=no (by unfold okB;rw[h1,h2,h3,decide_eq_true h4];rfl)
  simp[hlt,e368,<- hx,h1,h2,h3,h4,this]
 have ok:okT x:=zqq.1 (by unfold okB;rw[h1,h2,h3,decide_eq_false h4];rfl)
 rcases ek i with h0 | h0
 ·subst h0;simp[hlt,e368,<- hx,h1,h2,h3,h4];exact⟨rfl,x,hx2,ok,fun i y e=>by omega⟩
 ·have hw:aH.wrap ((i:Int) - 1)=((i - 1:Nat):Int):=by rw[za ⟨by omega,by omega⟩];omega
  have hlt':i - 1<t.length:=by omega
  obtain⟨y,hy⟩:∃ y,y=t[i - 1]:=⟨_,rfl⟩;have hy2:t[i - 1]? = some y:=by rw[hy];exact ac hlt'
  have no2 : ¬ ltA y x->B=false:=fun h=>hBf fun h2=>by obtain⟨x',hx',_,o⟩:=zpj.1 h2 i hlt;rw[hx2]at hx';cases hx';exact h (o (i - 1) y (by omega) hy2)
  have yes:ltA y x->∀ j,j<i+1->ykk t j:=fun h j hj=>by
   rcases Nat.lt_or_ge j i with h5 | h5
   ·exact ht j h5
   ·have:j=i:=by omega
    subst this;refine⟨x,hx2,ok,fun k z e hz=>?_⟩
    have:k=j - 1:=by omega
    subst this;rw[hy2]at hz;cases hz;exact h
  by_cases ha:x.kind<y.kind
  ·have:=no2 (by unfold ltA;omega)
   simp[hlt,e368,<- hx,h1,h2,h3,h4,h0,hw,hlt',<- hy,ha,this]
  by_cases hb:y.kind=x.kind
  ·by_cases hc:x.idx<=y.idx
   ·have:=no2 (by unfold ltA;omega)
    simp[hlt,e368,<- hx,h1,h2,h3,h4,h0,hw,hlt',<- hy,ha,hb,hc,this]
   ·have:=yes (by unfold ltA;omega)
    simp[hlt,e368,<- hx,h1,h2,h3,h4,h0,hw,hlt',<- hy,ha,hb,hc,hup];exact this
  ·have:=yes (by unfold ltA;omega)
   simp[hlt,e368,<- hx,h1,h2,h3,h4,h0,hw,hlt',<- hy,ha,hb,hup];exact this
theorem z34{hp:List Obj}{n:Nat}{l:List Ent}:y1h (frz hp (n+2)) (l.map y2k)=some (l.map y2k):=z1e fun _ _=>rfl
noncomputable def boD(l:List Pst)(m:Int)(t:List Ent):D:=.tup [y1x (boL tgB l m t),dI (boE tgB l m t)]
def bdE(x:Ent):Prop:=-1099511627776<=x.amt/\x.amt<=1099511627776
theorem za7{L r F:List Ent}{x:Ent}(hF:∀ x,x ∈ F->bdE x)(hl:F.length<=2000000)(e:L++x::r=F):aH.wrap (y28 (x.kind,x.idx) (y1n L [])+x.amt)=y28 (x.kind,x.idx) (y1n L [])+x.amt:=by
 have h1:=z4r (k:=x.kind) (i:=x.idx) (l:=L) (m:=[]);have h2:=zfg (k:=x.kind) (i:=x.idx) (l:=L) (B:=1099511627776) (fun y hy=>hF y (by rw[<- e];simp[hy])) (by omega)
 have h3:=hF x (by rw[<- e];simp)
 have h4:L.length<=2000000:=by have:=congrArg cM e;rw[ar]at this;omega
 rw[h1];unfold bdE at h3;have h5:y28 (x.kind,x.idx) []=0:=rfl;rw[h5];rw[za ⟨by omega,by omega⟩]
theorem zad{L r F:List Ent}{x:Ent}(e:L++x::r=F):(L++[x])++r=F/\y7y (x.kind,x.idx) (y28 (x.kind,x.idx) (y1n L [])+x.amt) (y1n L [])=y1n (L++[x]) []:=by
 refine⟨by rw[<- e];simp,?_⟩
 rw[ze3];rfl
theorem zvl{x:Ent}{l:List Ent}:low (x::l)=if x.kind<=4 then x::low l else low l:=by unfold low;rw[ig];by_cases h:x.kind<=4 <;> simp[h]
theorem zin(a b:List Ent):y6v (a++b)=y6v a++y6v b:=bm ..
theorem zqw(x:Ent)(a:List Ent):y6v (x::a)=yde x::y6v a:=rfl
theorem yf0{l:List Pst}{t:List Ent}(v:vld tgB l)(ht:tgt t):∀ x,x ∈ t++y6v (low (y5n l))->bdE x:=by
 intro x hx;rcases aC.1 hx with hx | hx
 ·exact(ht.1 x hx).2.2.1
 ·obtain⟨y,hy,rfl⟩:=aK.1 hx;have hy:=(List.mem_filter.1 hy).1;obtain⟨p,hp,hy⟩:=bE.1 hy;have:=((v.2.1 p hp).fm.ents.ok y hy).2.2;unfold bdE yde;simp only;omega
theorem zw1{l:List Pst}{t:List Ent}:(t++y6v (low (y5n l))).length<=t.length+y94 l:=by have h2:(low (y5n l)).length<=(y5n l).length:=im ..;rw[zfh]at h2;rw[ar,zkq];omega
theorem ykx(l:List Pst)(m:Int)(t:List Ent)(ok:y9p l)(hN:t.length+y94 l<=1000000):yu E (dL E) 345 [y1x l,dI m,.imm .none (t.map y2k)]=some (boD l m t):=by
 have e324:=yip l ok;have e375:=r375 t (by omega)
 refine zg c345 (by simp) ?_
 conv in t345=>reduce;dsimp[ai]
 unfold boD
 by_cases h0:rdE tgB l=0
 rotate_left
 ·have hE:boE tgB l m t=rdE tgB l:=by unfold boE;rw[if_pos h0]
  have hL:boL tgB l m t=[]:=by unfold boL;rw[if_neg (by rw[hE];exact h0)]
  rw[hE,hL];simp[t345,n345,zt,z34,e324,h0]
 have v:=z26.1 h0;rw[h0]at e324
 by_cases ht:tgt t
 rotate_left
 ·have hE:boE tgB l m t=430:=by unfold boE;rw[if_neg (by simp[h0]),if_pos ht]
  have hL:boL tgB l m t=[]:=by unfold boL;rw[if_neg (by rw[hE];decide)]
  rw[hE,hL];simp[t345,n345,zt,z34,e324,e375,ht]
 have hl:=ok.1;obtain⟨F,hF⟩:∃ F,F=t++y6v (low (y5n l)):=⟨_,rfl⟩;have hFb:∀ x,x ∈ F->bdE x:=by rw[hF];exact yf0 v ht
 have hFl:F.length<=1000000:=by rw[hF];have:=zw1 (l:=l) (t:=t);omega
 have hbk:bkN l t=y6u F:=by rw[hF];rfl
 obtain⟨X,hX⟩:∃ X,X=D.tup [y1x (boL tgB l m t),dI (boE tgB l m t)]:=⟨_,rfl⟩;rw[<- hX];simp[t345,n345,zt,z34,e324,e375,ht];refine zl t.length (fun i env h=>∃(x3 x4 x6 x7 x8 x9 x10 x11 x12 x16 x17 x18 x19 x20 x21 x22 x23 x24 x25 x26 x27 x28 x29 x30 x31 x32 x33:D) (L:List Ent),env=[y1x l,dI m,.imm .none (t.map y2k),x3,x4,.map (some 0),x6,x7,x8,x9,x10,x11,x12,.imm .none (t.map y2k),dI t.length,dI i,x16,x17,x18,x19,x20,x21,x22,x23,x24,x25,x26,x27,x28,x29,x30,x31,x32,x33]/\At h 0 (.map (y68 (y1n L [])))/\L++(t.drop i++y6v (low (y5n l)))=F) 0 (by omega) ⟨_,_,_,_,_,_,_,_,_,_,_,_,_,_,_,_,_,_,_,_,_,_,_,_,_,_,_,[],rfl,rfl,by rw[hF];simp⟩ ?_
 rintro i env h hi ⟨x3,x4,x6,x7,x8,x9,x10,x11,x12,x16,x17,x18,x19,x20,x21,x22,x23,x24,x25,x26,x27,x28,x29,x30,x31,x32,x33,L,rfl,A,hLF⟩
 by_cases hlt:i<t.length
 ·have hup:=ze hlt (by omega)
  obtain⟨x,hx⟩:∃ x,x=t[i]:=⟨_,rfl⟩;rw[zh hlt,aJ,<- hx]at hLF;have hw:=za7 hFb (by omega) hLF
  obtain⟨hs1,hs2⟩:=zad hLF;have y1:=fun r:List Obj=>yir (a:=x.kind) (b:=x.idx) (A.app (r:=r))
  have y2:=fun(r:List Obj) (n:Int)=>yl5 (a:=x.kind) (b:=x.idx) (n:=n) (A.app (r:=r))
  simp[hlt,<- hx,-z1z,-z33,y1,y2,hw,hs2,hup];exact⟨L++[x],At.self (A.app.lt),hs1⟩
 ·have:i=t.length:=by omega
  subst this;rw[br,bo]at hLF;simp;refine zl l.length (fun j env h=>∃(x3 x4 x6 x7 x8 x9 x10 x11 x12 x13 x14 x15 x16 x17 x18 x22 x23 x24 x25 x26 x27 x28 x29 x30 x31 x32 x33:D) (L:List Ent),env=[y1x l,dI m,.imm .none (t.map y2k),x3,x4,.map (some 0),x6,x7,x8,x9,x10,x11,x12,x13,x14,x15,x16,x17,x18,y1x l,dI l.length,dI j,x22,x23,x24,x25,x26,x27,x28,x29,x30,x31,x32,x33]/\At h 0 (.map (y68 (y1n L [])))/\L++y6v (low (y5n (l.drop j)))=F) 0 (by omega) ⟨_,_,_,_,_,_,_,_,_,_,_,_,_,_,_,_,_,_,_,_,_,_,_,_,_,_,_,L,rfl,A,by rw[<- hLF];rfl⟩ ?_
  clear A hLF;clear L h x3 x4 x6 x7 x8 x9 x10 x11 x12 x16 x17 x18 x19 x20 x21 x22 x23 x24 x25 x26 x27 x28 x29 x30 x31 x32 x33;rintro j env h hj ⟨x3,x4,x6,x7,x8,x9,x10,x11,x12,x13,x14,x15,x16,x17,x18,x22,x23,x24,x25,x26,x27,x28,x29,x30,x31,x32,x33,L,rfl,A,hLF⟩
  by_cases hlt:j<l.length
  rotate_left
  ·have:j=l.length:=by omega
   subst this;rw[br]at hLF;have hLF:L=F:=by rw[<- hLF];simp[y5n,low,y6v]
   subst hLF;have hm:(y1n L []).length<=1000000:=by have:=z65 (l:=L) (m:=[]);simp at this;omega
   obtain⟨d,hp',e,sp,rfl⟩:=s370 A hm;have hbk2:bkN l t=yau (y1n L []):=hbk;have hbl:=yew (l:=l) (t:=t);rw[<- hbk2]at e
   by_cases hb:bkN l t=[]
   ·rw[hb]at e;have b:Bok tgB l m t:=⟨v,ht,fun h=>absurd hb h⟩
    have hE:boE tgB l m t=0:=z8a.2 b;have hL:boL tgB l m t=l:=by rw[zds b,if_pos hb]
    rw[hE,hL]at hX;simp[e,y18,hX,zt]
   ·have e316:=r316 l (bkS l m t) ok (by unfold bkS;simp only;omega)
    have hw:aH.wrap ((l.length:Int) - 1)=(l.length:Int) - 1:=za ⟨by omega,by omega⟩
    have hE:boE tgB l m t=y4i tgB l (bkS l m t):=by unfold boE;rw[if_neg (by simp[h0]),if_neg (by simp[ht]),if_neg hb]
    have hL:boL tgB l m t=if y4i tgB l (bkS l m t)=0 then l++[y90 tgB l (bkS l m t)]else[]:=by unfold boL;rw[hE,if_neg hb]
    have hX2:X=poD l (bkS l m t):=by rw[hX,hE,hL];rfl
    have e316':yu E (dL E) 316 [y1x l,dI m,dI ((l.length:Int) - 1),.imm .none ((bkN l t).map y2k)]=some X:=by rw[hX2];exact e316
    have hn : ¬ (((bkN l t).length:Int)=0):=by have:=List.length_pos_iff.2 hb;omega
    obtain⟨P,hP⟩:∃ P,P=boL tgB l m t:=⟨_,rfl⟩;obtain⟨Q,hQ⟩:∃ Q,Q=boE tgB l m t:=⟨_,rfl⟩;rw[<- hP,<- hQ]at hX;subst hX;simp[e,y18,zt,z34,hb,hw,e316']
  have hup:=ze hlt (by omega)
  obtain⟨p,hpi⟩:∃ p,p=l[j]:=⟨_,rfl⟩;have hp2:=ok.2 p (by rw[hpi];exact au hlt)
  obtain⟨R,hR⟩:∃ R,R=y6v (low (y5n (l.drop (j+1)))):=⟨_,rfl⟩;rw[zh hlt,<- hpi,show y5n (p::l.drop (j+1))=p.ents++y5n (l.drop (j+1))from rfl,zn2,zin,<- hR]at hLF
  have q1:=fun h:List Obj=>zrb (h:=h) hp2.1
  have q3:=stP hp2.1;simp only[ah]at q3;have hA1:At (h++[.cells (pC p)]) h.length (.cells (pC p)):=by simp[At]
  have A2:=A.app (r:=[.cells (pC p)]);have y1:=ylb hA1;simp[hlt,<- hpi,hp2.1,-z1c,q1,↓q3,y1];generalize h++[Obj.cells (pC p)]=H0 at A2 hA1;generalize h.length=C at hA1;have hel:=hp2.2;refine zl p.ents.length (fun i env h=>∃(x3 x4 x6 x7 x8 x9 x10 x11 x12 x13 x14 x15 x16 x17 x18 x22 x23 x27 x28 x29 x30 x31 x32 x33:D) (L:List Ent),env=[y1x l,dI m,.imm .none (t.map y2k),x3,x4,.map (some 0),x6,x7,x8,x9,x10,x11,x12,x13,x14,x15,x16,x17,x18,y1x l,dI l.length,dI j,x22,x23,.imm .none (p.ents.map y2k),dI p.ents.length,dI i,x27,x28,x29,x30,x31,x32,x33]/\At h 0 (.map (y68 (y1n L [])))/\L++(y6v (low (p.ents.drop i))++R)=F) 0 (by omega) ⟨_,_,_,_,_,_,_,_,_,_,_,_,_,_,_,_,_,_,_,_,_,_,_,_,L,rfl,A2,hLF⟩ ?_
  clear A A2 hLF y1 hA1 q1 q3;clear L h x3 x4 x6 x7 x8 x9 x10 x11 x12 x13 x14 x15 x16 x17 x18 x22 x23 x24 x25 x26 x27 x28 x29 x30 x31 x32 x33;rintro i env h hi ⟨x3,x4,x6,x7,x8,x9,x10,x11,x12,x13,x14,x15,x16,x17,x18,x22,x23,x27,x28,x29,x30,x31,x32,x33,L,rfl,A,hLF⟩
  by_cases hlt2:i<p.ents.length
  rotate_left
  ·have:i=p.ents.length:=by omega
   subst this;rw[br]at hLF;have hLF:L++R=F:=by rw[<- hLF];simp[low,y6v]
   simp[hlt,hup];exact⟨L,A,by rw[<- hR];exact hLF⟩
  have hup2:=ze hlt2 (by omega)
  obtain⟨x,hx⟩:∃ x,x=p.ents[i]:=⟨_,rfl⟩;rw[zh hlt2,zvl,<- hx]at hLF;have y1:=fun r:List Obj=>yir (a:=x.kind) (b:=x.idx) (A.app (r:=r))
  have y2:=fun(r:List Obj) (n:Int)=>yl5 (a:=x.kind) (b:=x.idx) (n:=n) (A.app (r:=r))
  by_cases hk:x.kind<=4
  ·rw[if_pos hk,zqw,aJ]at hLF;have hw:=za7 hFb (by omega) hLF
   obtain⟨hs1,hs2⟩:=zad hLF;have hw:aH.wrap (y28 (x.kind,x.idx) (y1n L []) - x.amt)=y28 (x.kind,x.idx) (y1n L []) - x.amt:=hw;have hs2:y7y (x.kind,x.idx) (y28 (x.kind,x.idx) (y1n L []) - x.amt) (y1n L [])=y1n (L++[yde x]) []:=hs2;simp[hlt2,<- hx,-z1z,-z33,y1,y2,hw,hs2,hup2,hk];exact⟨L++[yde x],At.self (A.app.lt),hs1⟩
  ·rw[if_neg hk]at hLF;simp[hlt2,<- hx,-z1z,-z33,hup2,hk];exact⟨L,A.app,hLF⟩
theorem yhr{a b:List UInt8}(ha:a.length=32)(hb:b.length=32):y32 E .eql 73 (.agg (a.map yd)) (.agg (b.map yd))=some (.bool (decide (a=b))):=by
 have h1:(E.ty 73).eqc=true:=rfl;have h2:(E.ty 73).zero=ah a.length (D.int .u8 0):=by rw[ha];rfl
 unfold y32;simp only[];rw[if_pos ⟨h1,by rw[h2];exact z71⟩,zbq (by rw[ha,hb])]
theorem okn:y9p []:=⟨by simp,by simp⟩
theorem two{A:Type}{l:List A}(h:l.length=2):∃ a b,l=[a,b]:=by
 match l,h with
 |[a,b],_=>exact⟨a,b,rfl⟩
theorem zya{l:List Pst}:(ybc l).length<=y94 l:=by unfold ybc;exact aM z5x (by rw[z31,zfi];exact aj _)
theorem yh3{a b:Ent}:y32 E .neq 72 (y2k a) (y2k b)=some (.bool (!decide (a=b))):=by
 obtain⟨a1,a2,a3⟩:=a;obtain⟨b1,b2,b3⟩:=b;have e:(decide ((⟨a1,a2,a3⟩:Ent)=⟨b1,b2,b3⟩))=(a1 == b1 && (a2 == b2 && a3 == b3)):=by by_cases h1:a1=b1 <;> by_cases h2:a2=b2 <;> by_cases h3:a3=b3 <;> simp[h1,h2,h3]
 rw[e];simp[y32,E,y46,y1y,eqL,y27]
theorem zdh{A:Type}{a b:List A}(hl:a.length=b.length)(h:∀ i,∀ h:i<a.length,a[i]=b[i]'(by omega)):a=b:=
 List.ext_getElem hl fun i h1 _=>h i h1
theorem yio(a b:List Ent)(ha:a.length<=1000000)(hb:b.length<=1000000):yu E (dL E) 342 [.imm .none (a.map y2k),.imm .none (b.map y2k)]=some (.bool (decide (a=b))):=by
 refine zg c342 (by simp) ?_
 conv in t342=>reduce;dsimp[ai]
 by_cases hl:a.length=b.length
 rotate_left
 ·have h1 : ¬ (a.length:Int)=b.length:=by omega
  have h2 : ¬ a=b:=fun h=>hl (by rw[h])
  simp[t342,n342,h1,h2]
 have h1:(a.length:Int)=b.length:=by omega
 obtain⟨B,hB⟩:∃ B,B=decide (a=b):=⟨_,rfl⟩;rw[<- hB];simp[t342,n342,h1];refine zl a.length (fun i env h=>∃(x4 x5 x6:D) ,env=[.imm .none (a.map y2k),.imm .none (b.map y2k),.bool false,dI i,x4,x5,x6] /\ ∀ j,(hj:j<a.length)->j<i->a[j]=b[j]'(by omega)) 0 (by omega) ⟨_,_,_,rfl,fun _ _ h=>absurd h (by omega)⟩ ?_
 rintro i env h hi ⟨x4,x5,x6,rfl,F⟩
 by_cases hlt:i<a.length
 rotate_left
 ·have hge : ¬ (i:Int)<a.length:=by omega
  have:i=a.length:=by omega
  have hB2:B=true:=by rw[hB,decide_eq_true_eq];exact zdh hl fun j hj=>F j hj (by omega)
  simp[hge,hB2,this]
 have hup:=ze hlt (by omega)
 have hlt2:i<b.length:=by omega
 obtain⟨x,hx⟩:∃ x,x=a[i]:=⟨_,rfl⟩;obtain⟨y,hy⟩:∃ y,y=b[i]:=⟨_,rfl⟩;have n1:=yh3 (a:=x) (b:=y);have l72:∀(h:List Obj) (x:Ent),y15 E h 72 (.iptr [dI x.kind,dI x.idx,dI x.amt])=some (y2k x):=fun _ _=>rfl
 by_cases hxy:x=y
 ·have hd:decide (x=y)=true:=by simpa using hxy
  rw[hd]at n1;simp[hlt,hlt2,<- hx,<- hy,hup,n1,l72,-z1f,-zbz];intro j hj hji
  by_cases hje:j<i
  ·exact F j hj hje
  ·have:j=i:=by omega
   subst this;rw[<- hx,<- hy];exact hxy
 ·have hd:decide (x=y)=false:=by simpa using hxy
  rw[hd]at n1;have hB2:B=false:=by rw[hB,decide_eq_false_iff_not];intro h;subst h;exact hxy (by rw[hx,hy])
  simp[hlt,hlt2,<- hx,<- hy,hup,n1,l72,hB2,-z1f,-zbz]
theorem yft{h:List Obj}{es r:List D}:y15 E h 66 (.iptr (.imm .none es::r))=some (.imm .none es):=rfl
theorem il2{h:List Obj}{a:Int}{r:List D}:y15 E h 2 (.iptr (dI a::r))=some (dI a):=rfl
theorem il73{h:List Obj}{p:Pst}(hp:p.prev.length=32):y15 E h 73 (.iptr (p.prev.map yd))=some (y8g p.prev):=by
 have e:=z2l 32 0 (p.prev.map yd) (by simp[hp])
 unfold y15;simp only[show(E.ty 73).size=32 from rfl,e]
 rfl
theorem r346(a b:List Pst)(ha:y9p a)(hb:y9p b):yu E (dL E) 346 [y1x a,y1x b]=some (.bool (decide (a=b))):=by
 refine zg c346 (by simp) ?_
 conv in t346=>reduce;dsimp[ai]
 obtain⟨ha1,ha2⟩:=ha;obtain⟨hb1,hb2⟩:=hb
 by_cases hl:a.length=b.length
 rotate_left
 ·have h1 : ¬ (a.length:Int)=b.length:=by omega
  have h2 : ¬ a=b:=fun h=>hl (by rw[h])
  simp[t346,n346,h1,h2]
 have h1:(a.length:Int)=b.length:=by omega
 obtain⟨B,hB⟩:∃ B,B=decide (a=b):=⟨_,rfl⟩;rw[<- hB];simp[t346,n346,h1];refine zl a.length (fun i env h=>∃(x4 x5 x6:D) ,env=[y1x a,y1x b,.bool false,dI i,x4,x5,x6] /\ ∀ j,(hj:j<a.length)->j<i->a[j]=b[j]'(by omega)) 0 (by omega) ⟨_,_,_,rfl,fun _ _ h=>absurd h (by omega)⟩ ?_
 rintro i env h hi ⟨x4,x5,x6,rfl,F⟩
 by_cases hlt:i<a.length
 rotate_left
 ·have hge : ¬ (i:Int)<a.length:=by omega
  have:i=a.length:=by omega
  have hB2:B=true:=by rw[hB,decide_eq_true_eq];exact zdh hl fun j hj=>F j hj (by omega)
  simp[hge,hB2,this]
 have hup:=ze hlt (by omega)
 have hlt2:i<b.length:=by omega
 obtain⟨x,hx⟩:∃ x,x=a[i]:=⟨_,rfl⟩;obtain⟨y,hy⟩:∃ y,y=b[i]:=⟨_,rfl⟩;have px:=ha2 x (by rw[hx];exact au hlt)
 have py:=hb2 y (by rw[hy];exact au hlt2)
 have n1:=yio x.ents y.ents px.2 py.2;have q1:=fun h:List Obj=>il73 (h:=h) px.1
 have q2:=fun h:List Obj=>il73 (h:=h) py.1
 have eqd:=yhr px.1 py.1;have no : ¬ x=y->B=false:=fun h=>by rw[hB,decide_eq_false_iff_not];intro h2;subst h2;exact h (by rw[hx,hy])
 have hpq:(x=y) ↔ ((((x.no=y.no/\x.minute=y.minute)/\x.corrects=y.corrects)/\x.prev=y.prev)/\x.ents=y.ents):=by
  clear n1 q1 q2 eqd no hx hy px py;obtain⟨a,b,c,d,e⟩:=x;obtain⟨a',b',c',d',e'⟩:=y;simp only[Pst.mk.injEq];constructor
  ·rintro⟨rfl,rfl,rfl,rfl,rfl⟩;exact⟨⟨⟨⟨rfl,rfl⟩,rfl⟩,rfl⟩,rfl⟩
  ·rintro⟨⟨⟨⟨rfl,rfl⟩,rfl⟩,rfl⟩,rfl⟩;exact⟨rfl,rfl,rfl,rfl,rfl⟩
 by_cases h2:x.no=y.no
 rotate_left
 ·have hB2:=no fun h=>h2 (by rw[h])
  simp[hlt,hlt2,<- hx,<- hy,px.1,py.1,il2,yft,↓q1,↓q2,-z1f,h2,hB2]
 by_cases h3:x.minute=y.minute
 rotate_left
 ·have hB2:=no fun h=>h3 (by rw[h])
  simp[hlt,hlt2,<- hx,<- hy,px.1,py.1,il2,yft,↓q1,↓q2,-z1f,h2,h3,hB2]
 by_cases h4:x.corrects=y.corrects
 rotate_left
 ·have hB2:=no fun h=>h4 (by rw[h])
  simp[hlt,hlt2,<- hx,<- hy,px.1,py.1,il2,yft,↓q1,↓q2,-z1f,h2,h3,h4,hB2]
 by_cases h5:x.prev=y.prev
 rotate_left
 ·have hB2:=no fun h=>h5 (by rw[h])
  rw[decide_eq_false h5]at eqd;have ned:y32 E .neq 73 (y8g x.prev) (y8g y.prev)=some (.bool true):=by have:=zim px.1 py.1;rwa [decide_eq_false h5]at this
  simp[hlt,hlt2,<- hx,<- hy,px.1,py.1,il2,yft,↓q1,↓q2,-z1f,h2,h3,h4,ned,hB2]
 have ned:y32 E .neq 73 (y8g y.prev) (y8g y.prev)=some (.bool false):=by have:=zim py.1 py.1;rwa [decide_eq_true rfl]at this
 rw[h5]at q1
 by_cases h6:x.ents=y.ents
 ·have hxy:x=y:=hpq.2 ⟨⟨⟨⟨h2,h3⟩,h4⟩,h5⟩,h6⟩;rw[decide_eq_true h6]at n1;rw[h6]at n1;simp[hlt,hlt2,<- hx,<- hy,px.1,py.1,il2,yft,↓q1,↓q2,-z1f,h2,h3,h4,h5,h6,ned,z2j,n1,hup];intro j hj hji
  by_cases hje:j<i
  ·exact F j hj hje
  ·have:j=i:=by omega
   subst this;rw[<- hx,<- hy];exact hxy
 ·have hB2:=no fun h=>h6 (by rw[h])
  rw[decide_eq_false h6]at n1;simp[hlt,hlt2,<- hx,<- hy,px.1,py.1,il2,yft,↓q1,↓q2,-z1f,h2,h3,h4,h5,ned,z2j,n1,hup,hB2]
theorem r348(t:List Ent)(hl:t.length<=1000000)(k i:Int):yu E (dL E) 348 [.imm .none (t.map y2k),dI k,dI i]=some (dI (yc3 k i t)):=by
 refine zg c348 (by simp) ?_
 conv in t348=>reduce;dsimp[ai]
 obtain⟨X,hX⟩:∃ X,X=yc3 k i t:=⟨_,rfl⟩;rw[<- hX];simp[t348,n348];refine zl t.length (fun j env h=>∃(x5 x6:D) ,env=[.imm .none (t.map y2k),dI k,dI i,dI 0,dI j,x5,x6]/\X=yc3 k i (t.drop j)) 0 (by omega) ⟨_,_,rfl,by simpa using hX⟩ ?_
 rintro j env h hj ⟨x5,x6,rfl,F⟩
 by_cases hlt:j<t.length
 rotate_left
 ·have:j=t.length:=by omega
  subst this;rw[br]at F;simp[F,yc3]
 have hup:=ze hlt (by omega)
 obtain⟨x,hx⟩:∃ x,x=t[j]:=⟨_,rfl⟩;rw[zh hlt,<- hx]at F;simp only[yc3]at F;have ea:=zz0 (a:=(x.kind,x.idx)) (b:=(k,i));simp only[aw]at ea
 by_cases he:x.kind=k/\x.idx=i
 ·rw[if_pos he]at F;rw[decide_eq_true he]at ea;simp[hlt,<- hx,hup,ea,-zc0,F]
 ·rw[if_neg he]at F;rw[decide_eq_false he]at ea;simp[hlt,<- hx,hup,ea,-zc0];exact F
def stF(l:List Pst)(k m:Int)(as:List Key):List Ent:=(as.filter fun a=>decide (a.1=k)).map fun a=>⟨a.1,a.2,yf1 a.1 a.2 m l⟩
theorem zuu{l:List Pst}{k m:Int}{as:List Key}{i:Nat}(h:i<as.length):stF l k m (as.take (i+1))=if as[i].1=k then stF l k m (as.take i)++[⟨as[i].1,as[i].2,yf1 as[i].1 as[i].2 m l⟩]else stF l k m (as.take i):=by
 unfold stF;rw[aL h,gA,bm]
 by_cases hk:as[i].1=k <;> simp[hk]
theorem ycr{l:List Pst}{k m:Int}{as:List Key}:(stF l k m as).length<=as.length:=by unfold stF;rw[aD];exact im ..
theorem yf9{h:List Obj}{c:Obj}{sp:yt}{l:List Ent}{a b n:Int}(hl:l.length<=1000000)(R:y5w h sp l.length 3) :
  y97 E (h++[c]) (h.length+1) 66 66 (.imm sp (l.map y2k)) (.imm .exact [.agg [dI a,dI b,dI n]])=some (.imm (.tok (h.length+1)) (l.map y2k++[y2k ⟨a,b,n⟩]),y47 sp h++[c,.tok ((l.length+1)*3) 3]):=by
 have e:=zu4 (hp:=h++[c]) (id:=h.length+1) (sp:=sp) (sp':=.exact) (l:=l) (m:=[⟨a,b,n⟩]) (by simp;omega) R.app
 rw[zgx R]at e;have e2:y2f (y47 sp h++[c]) (h.length+1) (.tok ((l.length+1)*3) 3)=y47 sp h++[c,.tok ((l.length+1)*3) 3]:=by unfold y2f;rw[if_neg (by rw[ar,z7z];simp),bi];rfl
 rw[<- e2];exact e
open Classical in
noncomputable def stX(l:List Pst)(k:Int):Int:=if rdE tgB l ≠ 0 then rdE tgB l else if wib k 1 5=true then 0 else 430
open Classical in
noncomputable def stD(l:List Pst)(k m:Int):D:=.tup [.imm .none ((if stX l k=0 then stE l k m else[]).map y2k),dI (stX l k)]
theorem ykw(l:List Pst)(ok:y9p l)(hN:y94 l<=1000000)(k m:Int):yu E (dL E) 352 [y1x l,dI k,dI m]=some (stD l k m):=by
 have e324:=yip l ok;have e325:=r325 l ok hN;have e368:=yin;refine zg c352 (by simp) ?_
 conv in t352=>reduce;dsimp[ai]
 unfold stD
 by_cases h0:rdE tgB l=0
 rotate_left
 ·have hX:stX l k=rdE tgB l:=by unfold stX;rw[if_pos h0]
  rw[hX,if_neg h0];simp[t352,n352,zt,e324,h0]
 by_cases hk:wib k 1 5=true
 rotate_left
 ·have hk2:wib k 1 5=false:=by simpa using hk
  have hX:stX l k=430:=by unfold stX;rw[if_neg (by simp[h0]),if_neg hk]
  rw[hX,if_neg (by decide)]
  rw[h0]at e324;simp[t352,n352,zt,e324,e368,hk2]
 have hX:stX l k=0:=by unfold stX;rw[if_neg (by simp[h0]),if_pos hk]
 rw[hX,if_pos rfl];have e318:=fun a b=>r318 l ok hN a b m
 unfold blD at e318;rw[h0]at e324 e318;simp only[if_true]at e318;have hal:=zya (l:=l);obtain⟨AS,hAS⟩:∃ AS,AS=ybc l:=⟨_,rfl⟩;have hst:stE l k m=stF l k m AS:=by rw[hAS];rfl
 rw[<- hAS]at e325 hal;rw[hst];simp[t352,n352,zt,e324,e368,hk,e325];refine zl AS.length (fun i env h=>∃(x5 x6 x7 x8 x9 x13 x14 x15 x16 x17 x18:D) (sp:yt),env=[y1x l,dI k,dI m,.imm sp ((stF l k m (AS.take i)).map y2k),dI 0,x5,x6,x7,x8,x9,ya3 AS,dI AS.length,dI i,x13,x14,x15,x16,x17,x18]/\y5w h sp (stF l k m (AS.take i)).length 3) 0 (by omega) ⟨_,_,_,_,_,_,_,_,_,_,_,.exact,rfl,.inl rfl⟩ ?_
 rintro i env h hi ⟨x5,x6,x7,x8,x9,x13,x14,x15,x16,x17,x18,sp,rfl,R⟩
 by_cases hlt:i<AS.length
 rotate_left
 ·have:i=AS.length:=by omega
  subst this;rw[bg];simp[z34]
 have hup:=ze hlt (by omega)
 have pA:ybu AS[i]=.agg [dI AS[i].1,dI AS[i].2]:=rfl;have e318:=e318 AS[i].1 AS[i].2;have htk:=zuu (l:=l) (k:=k) (m:=m) hlt;have hln:=ycr (l:=l) (k:=k) (m:=m) (as:=AS.take i);rw[aZ]at hln;obtain⟨L,hL⟩:∃ L,L=stF l k m (AS.take i):=⟨_,rfl⟩;rw[<- hL]at htk hln R ⊢;have y2:∀(c:Obj) (n:Int),y97 E (h++[c]) (h.length+1) 66 66 (.imm sp (L.map y2k)) (.imm .exact [.agg [dI AS[i].1,dI AS[i].2,dI n]])=some (.imm (.tok (h.length+1)) (L.map y2k++[y2k ⟨AS[i].1,AS[i].2,n⟩]),y47 sp h++[c,.tok ((L.length+1)*3) 3]):=fun c n=>yf9 (by omega) R
 by_cases h0:AS[i].1=k
 ·rw[if_pos h0]at htk;subst h0;simp[hlt,pA,hup,htk,zt,e318,y2];exact⟨_,_,_,_,_,_,_,_,_,_,_,_,⟨rfl,rfl,rfl,rfl,rfl,rfl,rfl,rfl,rfl,rfl,rfl,rfl⟩,zgf (j:=1) rfl⟩
 ·rw[if_neg h0]at htk;simp[hlt,pA,h0,hup,htk];exact⟨_,_,_,_,_,_,_,_,_,_,_,_,⟨rfl,rfl,rfl,rfl,rfl,rfl,rfl,rfl,rfl,rfl,rfl,rfl⟩,R.app⟩
theorem r350(l:List Pst)(ok:y9p l):yu E (dL E) 350 [y1x l]=some (.tup [.bool (decide (rdE tgB l=0)),dI (rdE tgB l)]):=by
 have e324:=yip l ok;refine zg c350 (by simp) ?_
 conv in t350=>reduce;dsimp[ai]
 by_cases h0:rdE tgB l=0
 rotate_left
 ·simp[t350,n350,zt,e324,h0]
 have v:=z26.1 h0;rw[h0]at e324 ⊢;have hl:=ok.1;simp[t350,n350,zt,e324];refine zl l.length (fun j env h=>∃(x3 x4 x5 x6 x7 x10 x11 x12 x13 x14 x15 x16 x17 x18 x19 x20 x21 x22:D) ,env=[y1x l,.bool false,dI 0,x3,x4,x5,x6,x7,dI l.length,dI j,x10,x11,x12,x13,x14,x15,x16,x17,x18,x19,x20,x21,x22]) 0 (by omega) ⟨_,_,_,_,_,_,_,_,_,_,_,_,_,_,_,_,_,_,rfl⟩ ?_
 rintro j env h hj ⟨x3,x4,x5,x6,x7,x10,x11,x12,x13,x14,x15,x16,x17,x18,x19,x20,x21,x22,rfl⟩
 by_cases hltj:j<l.length
 rotate_left
 ·have:j=l.length:=by omega
  subst this;simp
 have hupj:=ze hltj (by omega)
 obtain⟨z,hz⟩:∃ z,z=l[j]:=⟨_,rfl⟩;have hz2:=ok.2 z (by rw[hz];exact au hltj)
 simp[hltj];refine zl l.length (fun i env h=>∃(x5 x6 x7 x10 x14 x15 x16 x17 x18 x19 x20 x21 x22:D) ,env=[y1x l,.bool false,dI 0,dI j,dI 0,x5,x6,x7,dI l.length,dI j,x10,y1x l,dI l.length,dI i,x14,x15,x16,x17,x18,x19,x20,x21,x22]) 0 (by omega) ⟨_,_,_,_,_,_,_,_,_,_,_,_,_,rfl⟩ ?_
 clear h x3 x4 x5 x6 x7 x10 x11 x12 x13 x14 x15 x16 x17 x18 x19 x20 x21 x22;rintro i env h hi ⟨x5,x6,x7,x10,x14,x15,x16,x17,x18,x19,x20,x21,x22,rfl⟩
 by_cases hlt:i<l.length
 rotate_left
 ·have:i=l.length:=by omega
  subst this;simp[hltj,hupj]
 have hup:=ze hlt (by omega)
 obtain⟨p,hpi⟩:∃ p,p=l[i]:=⟨_,rfl⟩;have hpm:p ∈ l:=by rw[hpi];exact au hlt
 have hp2:=ok.2 p hpm;have g:=v.2.1 p hpm;have q1:=fun h:List Obj=>zrb (h:=h) hp2.1
 have q3:=stP hp2.1;simp only[ah]at q3;have hA1:∀ r,At (h ++ .cells (pC p)::r) h.length (.cells (pC p)):=fun r=>by simp[At]
 have y1:=fun r:List Obj=>ylb (hA1 r)
 have y2:=fun r:List Obj=>ld2 (hA1 r)
 by_cases hm:p.minute<=z.minute
 rotate_left
 ·have hm':z.minute<p.minute:=by omega
  simp[hlt,hltj,<- hpi,<- hz,hp2.1,hz2.1,-z1c,-z1f,q1,↓q3,y1,y2,il2,hm,hm',hup]
 simp[hlt,hltj,<- hpi,<- hz,hp2.1,hz2.1,-z1c,-z1f,q1,↓q3,y1,y2,il2,hm,hup];generalize h ++ .cells (pC p)::_=H0;generalize h.length=C;clear q1 q3 hA1 y1 y2;have hel:=hp2.2;have hz0:y3x p.ents=0:=g.sum;have hmost:=g.fm.ents.most;refine zl p.ents.length (fun e env h=>∃(x5 x6 x7 x10 x14 x15 x16 x20 x21 x22:D) (c:Int),env=[y1x l,.bool false,dI 0,dI j,dI c,x5,x6,x7,dI l.length,dI j,x10,y1x l,dI l.length,dI i,x14,x15,x16,.imm .none (p.ents.map y2k),dI p.ents.length,dI e,x20,x21,x22]/\c+y3x (p.ents.drop e)=0 /\ -(1099511627776*(e:Int))<=c/\c<=1099511627776*(e:Int)) 0 (by omega) ⟨_,_,_,_,_,_,_,_,_,_,0,rfl,by simp[hz0],by simp,by simp⟩ ?_
 clear h x5 x6 x7 x10 x14 x15 x16 x17 x18 x19 x20 x21 x22;rintro e env h he ⟨x5,x6,x7,x10,x14,x15,x16,x20,x21,x22,c,rfl,b1,b2,b3⟩
 by_cases hlt2:e<p.ents.length
 rotate_left
 ·have:e=p.ents.length:=by omega
  subst this;rw[br]at b1;have hc:c=0:=by simpa[y3x]using b1
  subst hc;simp[hup]
 have hup2:=ze hlt2 (by omega)
 obtain⟨x,hx⟩:∃ x,x=p.ents[e]:=⟨_,rfl⟩;have okx:=(g.fm.ents.ok x (by rw[hx];exact au hlt2)).2.2.2
 rw[zh hlt2,<- hx]at b1;simp only[y3x]at b1;have hw:aH.wrap (c+x.amt)=c+x.amt:=za ⟨by omega,by omega⟩
 simp[hlt2,<- hx,hup2,hw];exact⟨_,_,_,_,_,_,_,_,_,_,_,⟨rfl,rfl,rfl,rfl,rfl,rfl,rfl,rfl,rfl,rfl,rfl⟩,by omega,by omega,by omega⟩
structure Bkg where
 prod:Int
 var:Int
 amt:Int
abbrev yhw(b:Bkg):D:=.agg [dI b.prod,dI b.var,dI b.amt]
def nd(c:List Int)(i:Int):Int:=(c[i.toNat]?).getD 0
def nvA(p:yl)(i:Int):Int:=((p.vars[i.toNat]?).map fun v=>v.a).getD 0
def bk4(p:yl)(c:List Int)(k:Int)(b:Bkg):List Ent:=[⟨1,nd c b.var,b.amt⟩,⟨2,nvA p b.var,b.amt⟩,⟨3,b.prod,-b.amt⟩,⟨4,k,-b.amt⟩]
def yab(p:yl)(b:Bkg):Bool:=wib b.var 0 ((p.vars.length:Int) - 1) && (wib (nvA p b.var) 0 4095 && (wib b.prod (-1) 7 && wib b.amt (-1048576) 1048576))
def y6x(p:yl)(c:List Int)(k:Int)(bs:List Bkg):List Ent:=bs.flatMap (bk4 p c k)
def y6e(p:yl)(c:List Int)(k:Int)(bs:List Bkg):Bool:=decide (c.length=p.vars.length) && (c.all (fun n=>wib n 0 7) && (wib k 0 3 && (decide (bs.length<=1024) && bs.all (yab p))))
noncomputable def enE(p:yl)(c:List Int)(k:Int)(bs:List Bkg):Int:=if ck p ≠ 0 then ck p else if y6e p c k bs=true then 0 else 430
noncomputable def enD(p:yl)(c:List Int)(k:Int)(bs:List Bkg):D:=.tup [.imm .none ((if enE p c k bs=0 then y6u (y6x p c k bs)else[]).map y2k),dI (enE p c k bs)]
theorem r367(n:Int):yu E (dL E) 367 [dI n]=some (.bool (!wib n 0 7)):=by
 have e:=yin;refine zg c367 (by simp) ?_
 conv in t367=>reduce;dsimp[ai]
 simp[t367,n367,e]
theorem r369(b:Bkg)(n1 n2 k:Int):yu E (dL E) 369 [yhw b,dI n1,dI n2,dI k]=some (.fn 385 [.iptr [dI n1],.iptr [dI b.prod,dI b.var,dI b.amt],.iptr [dI n2],.iptr [dI k]]):=by
 refine zg c369 (by simp) ?_
 conv in t369=>reduce;dsimp[ai]
 simp[t369,n369]
theorem i385(b:Bkg)(n1 n2 k:Int)(hb:i64 (-b.amt))(L:Nat)(J:List Ent->List Obj->Prop)
  (hy:∀ x rem hp,J (x::rem) hp->∃ hp',y3c (dL E) L [y3g x.kind x.idx,dI x.amt] hp=some (.bool true,hp')/\J rem hp')
  {hp:List Obj} {rem:List Ent} (h0:J ([⟨1,n1,b.amt⟩,⟨2,n2,b.amt⟩,⟨3,b.prod,-b.amt⟩,⟨4,k,-b.amt⟩]++rem) hp) :
  ∃ d hp',y1g E (dL E) 385 [.yld L,.iptr [dI n1],.iptr [dI b.prod,dI b.var,dI b.amt],.iptr [dI n2],.iptr [dI k]] hp=some (d,hp')/\J rem hp':=by
 refine z1i c385 (R:=fun _ hp'=>J rem hp') (by simp) ?_
 conv in t385=>reduce;dsimp[ai]
 obtain⟨H1,e1,h1⟩:=hy _ _ _ h0;obtain⟨H2,e2,h2⟩:=hy _ _ _ h1;obtain⟨H3,e3,h3⟩:=hy _ _ _ h2;obtain⟨H4,e4,h4⟩:=hy _ _ _ h3;have hw:aH.wrap (-b.amt) = -b.amt:=za hb;simp only at e1 e2 e3 e4;simp[t385,n385,e1,e2,e3,e4,hw];exact h4
theorem zfc{p:yl}{c:List Int}{k:Int}:∀{bs:List Bkg},(y6x p c k bs).length=bs.length*4
 |[]=>rfl
 |b::r=>by have ih:=zfc (p:=p) (c:=c) (k:=k) (bs:=r);have e:y6x p c k (b::r)=bk4 p c k b++y6x p c k r:=rfl;rw[e,ar,ih,show(bk4 p c k b).length=4 from rfl,aq];omega
theorem r340(p:yl)(S:y1d p)(c:List Int)(hc:c.length<=1000000)(k:Int)(bs:List Bkg)(hbs:bs.length<=1000000):yu E (dL E) 340 [ye p,ya c,dI k,.imm .none (bs.map yhw)]=some (enD p c k bs):=by
 have e15:=r15 p S;have e368:=yin;have e71:=r71 c 367 (fun n=>!wib n 0 7) r367 hc
 rw[<- List.not_all_eq_any_not]at e71;refine zg c340 (by simp) ?_
 conv in t340=>reduce;dsimp[ai]
 unfold enD;have hnv:=S.vars
 by_cases h0:ck p=0
 rotate_left
 ·have hE:enE p c k bs=ck p:=by unfold enE;rw[if_pos h0]
  rw[hE,if_neg h0];simp[t340,n340,e15,h0]
 rw[h0]at e15;have hE:enE p c k bs=if y6e p c k bs=true then 0 else 430:=by unfold enE;rw[if_neg (by simp[h0])]
 have bad:y6e p c k bs=false->(D.tup [.imm .none ((if enE p c k bs=0 then y6u (y6x p c k bs)else[]).map y2k),dI (enE p c k bs)])=.tup [.imm .none [],dI 430]:=fun h=>by rw[hE,h];rfl
 by_cases h1:c.length=p.vars.length
 rotate_left
 ·have h1' : ¬ (c.length:Int)=p.vars.length:=by omega
  rw[bad (by unfold y6e;rw[decide_eq_false h1];rfl)]
  simp[t340,n340,e15,h1']
 by_cases h2:c.all (fun n=>wib n 0 7)=true
 rotate_left
 ·have h2:c.all (fun n=>wib n 0 7)=false:=by simpa using h2
  rw[bad (by unfold y6e;rw[decide_eq_true h1,h2];rfl)]
  rw[h2]at e71;simp[t340,n340,e15,h1,e71]
 rw[h2]at e71
 by_cases h3:wib k 0 3=true
 rotate_left
 ·have h3:wib k 0 3=false:=by simpa using h3
  rw[bad (by unfold y6e;rw[decide_eq_true h1,h2,h3];rfl)]
  simp[t340,n340,e15,h1,e71,e368,h3]
 by_cases h4:bs.length<=1024
 rotate_left
 ·have h4':(1024:Int)<bs.length:=by omega
  rw[bad (by unfold y6e;rw[decide_eq_true h1,h2,h3,decide_eq_false h4];rfl)]
  simp[t340,n340,e15,h1,e71,e368,h3,h4']
 have h4' : ¬ (1024:Int)<bs.length:=by omega
 have hok:y6e p c k bs=bs.all (yab p):=by unfold y6e;rw[decide_eq_true h1,h2,h3,decide_eq_true h4];rfl
 rw[hok]at bad;obtain⟨F,hF⟩:∃ F,F=y6x p c k bs:=⟨_,rfl⟩;have hFl:F.length=bs.length*4:=by rw[hF];exact zfc
 obtain⟨X,hX⟩:∃ X,X=(D.tup [.imm .none ((if enE p c k bs=0 then y6u (y6x p c k bs)else[]).map y2k),dI (enE p c k bs)]):=⟨_,rfl⟩
 have good:bs.all (yab p)=true->X=.tup [.imm .none ((y6u F).map y2k),dI 0]:=fun h=>by rw[hX,hE,hok,h,if_pos rfl,if_pos rfl,hF]
 rw[<- hX]at bad ⊢;simp[t340,n340,e15,h1,e71,e368,h3,h4'];refine zl bs.length (fun i env h=>∃(x3 x7 x9 x10 x11 x12 x13 x14 x18 x19 x20 x21 x22 x23 x24 x25:D) (L:List Ent),env=[ye p,ya c,dI k,x3,.iptr (ye p).cellsL,.imm .exact [],dI 0,x7,.loc 1 0,x9,x10,x11,x12,x13,x14,.imm .none (bs.map yhw),dI bs.length,dI i,x18,x19,x20,x21,x22,x23,x24,x25]/\At h 0 (.map (y68 (y1n L [])))/\At h 1 (.cells [.map (some 0)])/\L++y6x p c k (bs.drop i)=F/\(∀ b,b ∈ bs.take i->yab p b=true) /\ ∀ x,x ∈ L->bdE x) 0 (by omega) ⟨_,_,_,_,_,_,_,_,_,_,_,_,_,_,_,_,[],rfl,rfl,rfl,by rw[hF];rfl,by simp,by simp⟩ ?_
 rintro i env h hi ⟨x3,x7,x9,x10,x11,x12,x13,x14,x18,x19,x20,x21,x22,x23,x24,x25,L,rfl,A,A1,hLF,hgd,hbd⟩
 by_cases hlt:i<bs.length
 rotate_left
 ·have:i=bs.length:=by omega
  subst this;rw[bg]at hgd;rw[br]at hLF;have hLF:L=F:=by rw[<- hLF];simp[y6x]
  subst hLF;have hm:(y1n L []).length<=1000000:=by have:=z65 (l:=L) (m:=[]);simp at this;omega
  obtain⟨d,hp',e,sp,rfl⟩:=s370 A hm;have hX2:=good (ay.2 hgd);have hn:yau (y1n L [])=y6u L:=rfl;rw[hn]at e;have y:y15 E h 75 (.loc 1 0)=some (.map (some 0)):=by
   unfold y15;simp only[A1.eq]
   rfl
  simp[-z1c,y,e,y18,hX2,z34]
 have hup:=ze hlt (by omega)
 obtain⟨b,hb⟩:∃ b,b=bs[i]:=⟨_,rfl⟩;have hbm:b ∈ bs:=by rw[hb];exact au hlt
 have no:yab p b=false->X=D.tup [.imm .none [],dI 430]:=fun h=>bad (by
  rw[<- Bool.not_eq_true,ay];intro h2;rw[h2 b hbm]at h;cases h)
 rw[zh hlt,<- hb]at hLF;obtain⟨R,hR⟩:∃ R,R=y6x p c k (bs.drop (i+1)):=⟨_,rfl⟩;have hLF:L++(bk4 p c k b++R)=F:=by rw[hR];exact hLF
 obtain⟨pr,vr,am⟩:=b;have hwn:aH.wrap ((p.vars.length:Int) - 1)=(p.vars.length:Int) - 1:=za ⟨by omega,by omega⟩
 by_cases a1:wib vr 0 ((p.vars.length:Int) - 1)=true
 rotate_left
 ·have a1:wib vr 0 ((p.vars.length:Int) - 1)=false:=by simpa using a1
  have hX2:=no (by unfold yab;rw[a1];rfl)
  simp[hlt,<- hb,e368,hwn,a1,hX2]
 have a1':=zhu.1 a1;obtain⟨v,rfl⟩:∃ v:Nat,vr=v:=⟨vr.toNat,by omega⟩
 have hv:v<p.vars.length:=by omega
 have hvc:v<c.length:=by omega
 have hnd:nd c (v:Int)=c[v]:=by unfold nd;simp[hvc]
 have hnv2:nvA p (v:Int)=p.vars[v].a:=by unfold nvA;simp[hv]
 obtain⟨n1,hn1⟩:∃ n1,n1=c[v]:=⟨_,rfl⟩;obtain⟨w,hw⟩:∃ w,w=p.vars[v]:=⟨_,rfl⟩;rw[<- hw]at hnv2;rw[<- hn1]at hnd
 by_cases a2:wib w.a 0 4095=true
 rotate_left
 ·have a2:wib w.a 0 4095=false:=by simpa using a2
  have hX2:=no (by unfold yab;simp only[a1,hnv2,a2];rfl)
  simp[hlt,<- hb,e368,hwn,a1,hv,<- hw,a2,hX2]
 by_cases a3:wib pr (-1) 7=true
 rotate_left
 ·have a3:wib pr (-1) 7=false:=by simpa using a3
  have hX2:=no (by unfold yab;simp only[a1,hnv2,a2,a3];rfl)
  simp[hlt,<- hb,e368,hwn,a1,hv,<- hw,a2,a3,hX2]
 by_cases a4:wib am (-1048576) 1048576=true
 rotate_left
 ·have a4:wib am (-1048576) 1048576=false:=by simpa using a4
  have hX2:=no (by unfold yab;simp only[a1,hnv2,a2,a3,a4];rfl)
  simp[hlt,<- hb,e368,hwn,a1,hv,<- hw,a2,a3,a4,hX2]
 have hgd2:yab p ⟨pr,v,am⟩=true:=by unfold yab;simp only[a1,hnv2,a2,a3,a4];rfl
 have e369:=r369 ⟨pr,v,am⟩ n1 w.a k;simp only at e369;have a4':=zhu.1 a4;simp[hlt,<- hb,e368,hwn,a1,hv,<- hw,a2,a3,a4,hvc,<- hn1,e369];have A:=A.app (r:=.cells [dI pr,dI (v:Int),dI am]::ah 15 Obj.dead);have A1:=A1.app (r:=.cells [dI pr,dI (v:Int),dI am]::ah 15 Obj.dead);simp only[ah]at A A1;generalize h ++ .cells [dI pr,dI (v:Int),dI am]::_=H0 at A A1;refine⟨385,_,rfl,?_⟩;intro Lf hLf hcb;obtain⟨C,hC⟩:∃ C,C=H0.length:=⟨_,rfl⟩;have hC2:2<=C:=by have:=A1.lt;omega
 obtain⟨F',hF'⟩:∃ F',F'=L++bk4 p c k ⟨pr,v,am⟩:=⟨_,rfl⟩;have hFb:∀ x,x ∈ F'->bdE x:=by
  intro x hx;rw[hF']at hx;rcases aC.1 hx with hx | hx
  ·exact hbd x hx
  ·unfold bdE;simp only[bk4,aA,fB,or_false]at hx;rcases hx with rfl | rfl | rfl | rfl <;> simp only <;> omega
 have hFl2:F'.length<=2000000:=by have:=congrArg cM hLF;rw[ar,ar]at this;rw[hF',ar];omega
 obtain⟨J,hJ⟩:∃ J:List Ent->List Obj->Prop,J=fun rem H=>∃ Ls,At H 0 (.map (y68 (y1n Ls [])))/\At H 1 (.cells [.map (some 0)])/\At H C (Lf false none)/\Ls++rem=F':=⟨_,rfl⟩
 have key:=i385 ⟨pr,v,am⟩ n1 w.a k (by unfold i64;simp only;omega) C J (by
  intro x rem H hj;rw[hJ]at hj;obtain⟨Ls,b0,b1,b2,b3⟩:=hj;obtain⟨t,hp2,e1,e2⟩:=hcb [y3g x.kind x.idx,dI x.amt] H (fun t hp'=>t=true/\J rem hp') rfl (by rw[<- hC];exact b2) (by
   rw[<- hC];obtain⟨H1,hH1⟩:∃ H1,H1=H.set C (Lf true none):=⟨_,rfl⟩;have lC:=b2.lt;have c0:At H1 0 (.map (y68 (y1n Ls []))):=by rw[hH1];exact b0.ne (by omega)
   have c1:At H1 1 (.cells [.map (some 0)]):=by rw[hH1];exact b1.ne (by omega)
   have c2:At H1 C (Lf true none):=by rw[hH1];exact At.self lC
   have y2:∀ r:List Obj,(H++r)[C]? = some (Lf false none):=fun r=>b2.app
   have y6:∀ r:List Obj,(H++r).set C (Lf true none)=H1++r:=fun r=>by rw[z1d lC,hH1]
   have y7:H.length=H1.length:=by rw[hH1,bn]
   have hw:=za7 hFb hFl2 b3;obtain⟨hs1,hs2⟩:=zad b3;have y1:=fun r:List Obj=>yir (a:=x.kind) (b:=x.idx) (c0.app (r:=r))
   have y3:=fun(r:List Obj) (n:Int)=>yl5 (a:=x.kind) (b:=x.idx) (n:=n) (c0.app (r:=r))
   have y4:∀ r:List Obj,y15 E (H1++r) 75 (.loc 1 0)=some (.map (some 0)):=fun r=>by
    unfold y15;simp only[c1.appE]
    rfl
   have y5:∀ r:List Obj,y15 E (H1 ++ .cells [dI x.kind,dI x.idx]::r) 65 (.loc H1.length 0)=some (y3g x.kind x.idx):=fun r=>by
    unfold y15;simp only[z1h]
    rfl
   simp[y23,↓y2,↓y6,y7,-z1c,y4,y5,-z1z,-z33,y1,y3,hw,hs2];have l0:=c0.lt;refine⟨(c2.app).ne (by omega),?_⟩
   rw[hJ];exact⟨Ls++[x],(At.self (by rw[ar];omega)).ne (by omega),((c1.app).ne (by omega)).ne (by omega),At.self (by rw[bn,ar,<- y7];omega),hs1⟩)
  rw[e2.1,<- hC]at e1;exact⟨hp2,e1,e2.2⟩) (hp:=H0++[Lf false none]) (rem:=[]) (by
  rw[hJ];refine⟨L,A.app,A1.app,by rw[hC];simp[At],?_⟩
  rw[hF',bL];simp only[bk4,hnd,hnv2])
 obtain⟨d,hp',e,hj⟩:=key;rw[hJ]at hj;obtain⟨Ls,b0,b1,b2,b3⟩:=hj;rw[bL]at b3;subst b3;rw[hC]at e b2;refine⟨d,hp',e,.inl ⟨b2,?_⟩⟩;rw[<- hC];simp[hup];refine⟨Ls,b0.ne (by omega),b1.ne (by omega),?_,?_,hFb⟩
 ·rw[hF',bi,<- hR];exact hLF
 ·intro b' hb';rw[aL hlt,<- hb]at hb';rcases aC.1 hb' with hb' | hb'
  ·exact hgd b' hb'
  ·simp at hb';rw[hb'];exact hgd2
end Dv
namespace Dv
def shB(s:y44):Bkg:=⟨s.cause,s.vr,s.minutes⟩
theorem zx3{l:List y44}:l.map y3p=(l.map shB).map yhw:=by rw[gB];rfl
def upS:Nat->(Nat->Int)->Int
 | 0,_=>0
 |n+1,f=>upS n f+f n
theorem ze0:∀{n:Nat},upS n (fun _=>0)=0
 | 0=>rfl
 |n+1=>by simp only[upS,ze0];omega
theorem zpd:∀{n:Nat} {f g:Nat->Int},upS n (fun i=>f i+g i)=upS n f+upS n g
 | 0,_,_=>rfl
 |n+1,f,g=>by simp only[upS,zpd];omega
theorem zfq:∀{n:Nat} {f g:Nat->Int},(∀ i,i<n->f i=g i)->upS n f=upS n g
 | 0,_,_,_=>rfl
 |n+1,f,g,h=>by simp only[upS];rw[zfq fun i hi=>h i (by omega),h n (by omega)]
theorem zpb:∀{n a:Nat} {v:Int},a<n->upS n (fun i=>if i=a then v else 0)=v
 | 0,_,_,h=>by omega
 |n+1,a,v,h=>by
  simp only[upS]
  by_cases e:a=n
  ·subst e;have:upS a (fun i=>if i=a then v else 0)=0:=(zfq fun i hi=>by rw[if_neg (by omega)]).trans ze0
   rw[this,if_pos rfl];omega
  ·rw[zpb (by omega),if_neg (fun h=>e h.symm)];omega
theorem zpc{M:Int}:∀{n:Nat} {f:Nat->Int},(∀ i,i<n -> -M<=f i/\f i<=M) -> -(n*M)<=upS n f/\upS n f<=n*M
 | 0,_,_=>by simp[upS]
 |n+1,f,h=>by
  have h1:=zpc (n:=n) (f:=f) fun i hi=>h i (by omega)
  have h2:=h n (by omega)
  have e:((n+1:Nat):Int)*M=n*M+M:=by rw[jF,Int.add_mul];simp
  rw[e];simp only[upS];omega
def mnS(c:Nat->Bool):List y44->Int
 |[]=>0
 |s::r=>(if c s.vr.toNat=true then s.minutes else 0)+mnS c r
theorem zio{n:Nat}{c:Nat->Bool}:∀{l:List y44},(∀ s,s ∈ l->0<=s.vr/\s.vr<n)->mnS c l=upS n (fun i=>if c i=true then y6z i l else 0)
 |[],_=>by
  have:(fun i:Nat=>if c i=true then y6z i []else 0)=fun _=>0:=by funext i;simp[y6z]
  rw[this,ze0];rfl
 |s::l,h=>by
  obtain⟨h1,h2⟩:=h s (by simp)
  simp only[mnS];rw[zio (l:=l) fun t ht=>h t (by simp[ht])]
  have e:upS n (fun i=>if c i=true then y6z i (s::l)else 0)=upS n (fun i=>(if i=s.vr.toNat then(if c s.vr.toNat=true then s.minutes else 0)else 0)+(if c i=true then y6z i l else 0)):=by
   refine zfq fun i _=>?_
   simp only[y6z]
   by_cases hi:i=s.vr.toNat
   ·subst hi;have:s.vr=((s.vr.toNat:Nat):Int):=by omega
    rw[if_pos this,if_pos rfl];split <;> omega
   ·have : ¬ s.vr=(i:Int):=by omega
    rw[if_neg this,if_neg hi];split <;> omega
  rw[e,zpd,zpb (by omega)]
theorem ztn{p:yl}{c:List Int}{k F:Int}:∀{l:List y44},y1c 2 F (y6x p c k (l.map shB))=mnS (fun i=>decide (nvA p i=F)) l
 |[]=>rfl
 |s::l=>by
  have ih:=ztn (p:=p) (c:=c) (k:=k) (F:=F) (l:=l);unfold y6x at ih ⊢;rw[av,bv,z36,ih];simp only[mnS,bk4,shB,y1c,decide_eq_true_eq];have e:nvA p ((s.vr.toNat:Nat):Int)=nvA p s.vr:=by unfold nvA;rw[bZ]
  rw[e];simp
theorem ztm{p:yl}{c:List Int}{k:Int}:∀{l:List y44},y1c 4 k (y6x p c k (l.map shB)) = -mnS (fun _=>true) l
 |[]=>rfl
 |s::l=>by have ih:=ztm (p:=p) (c:=c) (k:=k) (l:=l);unfold y6x at ih ⊢;rw[av,bv,z36,ih];simp only[mnS,bk4,shB,y1c];simp;omega
theorem ztl{p:yl}{c:List Int}{k:Int}:∀{l:List Bkg},y3x (y6x p c k l)=0
 |[]=>rfl
 |s::l=>by have ih:=ztl (p:=p) (c:=c) (k:=k) (l:=l);unfold y6x at ih ⊢;rw[bv,z6u,ih];simp only[bk4,y3x];omega
def flS(p:yl)(d:List Int)(F:Int)(n:Nat):Int:=upS n fun i=>if nvA p i=F then d.getD i 0 else 0
theorem yll{p:yl}{d:List Int}{F:Int}{n:Nat}:flS p d F (n+1)=flS p d F n+if nvA p n=F then d.getD n 0 else 0:=rfl
def dlS(d:List Int)(n:Nat):Int:=upS n fun i=>d.getD i 0
theorem ylp{d:List Int}{n:Nat}:dlS d (n+1)=dlS d n+d.getD n 0:=rfl
theorem zeb{p:yl}{c:List y2p}(ok:OkP p)(C:OkC p c)(S:y1d p){as:List Int}{k F:Int} :
  y1c 2 F (y6u (y6x p as k ((y3f p c).map shB)))=flS p (y95 p) F p.vars.length:=by
 rw[zaz,ztn,zio fun s hs=>⟨(z9o ok C S s hs).2.2.1,(z9o ok C S s hs).2.2.2.1⟩]
 unfold flS;refine zfq fun i hi=>?_
 rw[zct ok C S hi];simp only[decide_eq_true_eq]
theorem zec{p:yl}{c:List y2p}(ok:OkP p)(C:OkC p c)(S:y1d p){as:List Int}{k:Int} :
  y1c 4 k (y6u (y6x p as k ((y3f p c).map shB))) = -dlS (y95 p) p.vars.length:=by
 rw[zaz,ztm,zio fun s hs=>⟨(z9o ok C S s hs).2.2.1,(z9o ok C S s hs).2.2.2.1⟩]
 unfold dlS;congr 1;refine zfq fun i hi=>?_
 rw[zct ok C S hi,if_pos rfl]
end Dv
namespace Dv
attribute [local simp] ah depth y22 y4y ya y16 y4t ye y2q y2f Ret
attribute [local congr] z1j z1k z19 z12 zw z1a zu
def pq0:yl:=⟨[],[[]],[⟨7,0,[0],[⟨0,0,0,[]⟩]⟩]⟩
def eq0:List Ent:=[⟨1,3,10⟩,⟨2,7,10⟩,⟨3,2,-10⟩,⟨4,1,-10⟩]
def sq0:Stp:=⟨5,-1,eq0⟩
def pp0:Pst:=y90 tgB [] sq0
theorem zv2:y1d pq0:=by
 refine⟨by decide,by decide,?_,by decide,?_,?_,?_⟩
 ·intro l hl;simp[pq0]at hl;subst hl;simp
 ·intro v hv;simp[pq0]at hv;subst hv;simp
 ·intro v hv;simp[pq0]at hv;subst hv;simp
 ·intro v hv c hc;simp[pq0]at hv;subst hv;simp at hc;subst hc;simp
theorem yl2:ck pq0=0:=by
 unfold ck;rw[if_pos];refine⟨by decide,?_,?_,?_,?_⟩
 ·intro c hc;simp[pq0]at hc
 ·intro i h;simp[pq0]at h
 ·intro l hl;simp[pq0]at hl;subst hl;simp[pq0]
 ·intro v hv;simp[pq0]at hv;subst hv;refine⟨by simp,by simp,by simp,?_,?_,?_⟩
  ·intro n hn;simp at hn;subst hn;simp[wi,pq0]
  ·intro i h;simp at h
  ·intro c hc;simp at hc;subst hc;refine⟨by simp[wi],by simp[wi],by simp[wi],?_,?_⟩
   ·intro u hu;simp at hu
   ·intro i h;simp at h
theorem zjd:y5f eq0:=by unfold y5f;decide
theorem ylm:∀ e,e ∈ eq0->e.amt ≠ 0:=by intro e he;simp only[eq0,aA,fB,or_false]at he;rcases he with rfl | rfl | rfl | rfl <;> decide
theorem zyz:y6u eq0=eq0:=zko zjd ylm fun _ _=>rfl
theorem zyy:∀ e,e ∈ eq0->okT e:=by intro e he;simp only[eq0,aA,fB,or_false]at he;rcases he with rfl | rfl | rfl | rfl <;> decide
theorem zyx:tgt eq0:=⟨zyy,z5l.1 zjd⟩
theorem yhq:y3x eq0=0:=by decide
theorem yln:fmE eq0:=⟨by decide,by decide,fun x hx=>by
 have:=zyy x hx;unfold okT at this;unfold y7p;omega,z5l.1 zjd⟩
theorem zqi:y4i tgB [] sq0=0:=by
 rw[zgk za9 (by simp) (by simp)]
 exact z4k.2 ⟨⟨by simp[y90],by simp[y90,sq0],by simp[y90,sq0],yln⟩,yhq⟩
theorem zqh:vld tgB [pp0]:=(zv3 zqi).2.2.1
theorem enD0:enD pq0 [3] 1 [⟨2,0,10⟩]=.tup [.imm .none (eq0.map y2k),dI 0]:=by
 have h1:y6e pq0 [3] 1 [⟨2,0,10⟩]=true:=by decide
 have h2:enE pq0 [3] 1 [⟨2,0,10⟩]=0:=by unfold enE;rw[yl2,h1];rfl
 have h3:y6x pq0 [3] 1 [⟨2,0,10⟩]=eq0:=rfl;unfold enD;rw[h2,h3,zyz]
 rfl
theorem bk0:bkN [] eq0=eq0:=by unfold bkN;have:eq0++y6v (low (y5n []))=eq0:=rfl;rw[this,zyz]
theorem bo0:Bok tgB [] 5 eq0:=⟨za9,zyx,fun _=>by unfold bkS;rw[bk0];exact zqi⟩
theorem boD0:boD [] 5 eq0=.tup [y1x [pp0],dI 0]:=by
 unfold boD;rw[z8a.2 bo0,zds bo0,bk0,if_neg (by decide)]
 unfold bkS;rw[bk0]
 rfl
theorem bk1:bkN [pp0] eq0=[]:=by
 have:=bo0.again;rw[zds bo0,bk0,if_neg (by decide)]at this
 unfold bkS at this;rw[bk0]at this;exact this
theorem bo1:Bok tgB [pp0] 9 eq0:=⟨zqh,zyx,fun h=>absurd bk1 h⟩
theorem boD1:boD [pp0] 9 eq0=.tup [y1x [pp0],dI 0]:=by unfold boD;rw[z8a.2 bo1,zds bo1,if_pos bk1]
theorem bk2:bkN [] []=[]:=zqu.2 fun _ _=>rfl
theorem bo2:Bok tgB [] 5 []:=⟨za9,⟨by simp,fun i hi=>by simp at hi⟩,fun h=>absurd bk2 h⟩
theorem boD2:boD [] 5 []=.tup [y1x [],dI 0]:=by unfold boD;rw[z8a.2 bo2,zds bo2,if_pos bk2]
theorem zqj:ybc [pp0]=[(1,3),(2,7),(3,2),(4,1)]:=by
 have es:y1t [(1,3),(2,7),(3,2),(4,1)]=[(1,3),(2,7),(3,2),(4,1)]:=
  zg7 (z3i _) (z9a _) (by decide)
 unfold ybc;have:yfw [pp0]=[(1,3),(2,7),(3,2),(4,1)]:=rfl;rw[this,es]
 decide
theorem stX0:stX [pp0] 3=0:=by unfold stX;rw[if_neg (by simp[z26.2 zqh]),if_pos (by decide)]
theorem stD0:stD [pp0] 3 5=.tup [.imm .none [y2k ⟨3,2,-10⟩],dI 0]:=by
 unfold stD;rw[stX0,if_pos rfl];unfold stE;rw[zqj]
 rfl
theorem stD1:stD [pp0] 3 4=.tup [.imm .none [y2k ⟨3,2,0⟩],dI 0]:=by
 unfold stD;rw[stX0,if_pos rfl];unfold stE;rw[zqj]
 rfl
theorem stD2:stD [] 0 5=.tup [.imm .none [],dI 430]:=by
 have:stX [] 0=430:=by unfold stX;rw[if_neg (by simp[z26.2 za9]),if_neg (by decide)]
 unfold stD;rw[this,if_neg (by decide)]
 rfl
theorem zmo:y9p [pp0]:=⟨by simp,fun p hp=>by simp at hp;subst hp;exact⟨y79,by decide⟩⟩
theorem r339:yu E (dL E) 339 []=some (.bool true):=by
 have a1:=r340 pq0 zv2 [3] (by decide) 1 [⟨2,0,10⟩] (by decide)
 rw[enD0]at a1;have b1:=ykx [] 5 eq0 okn (by decide)
 have b2:=ykx [pp0] 9 eq0 zmo (by decide)
 have b3:=ykx [] 5 [] okn (by decide)
 rw[boD0]at b1;rw[boD1]at b2;rw[boD2]at b3;have c1:=ykw [pp0] zmo (by decide) 3 5
 have c2:=ykw [pp0] zmo (by decide) 3 4
 have c3:=ykw [] okn (by decide) 0 5
 rw[stD0]at c1;rw[stD1]at c2;rw[stD2]at c3;have d1:=r350 [pp0] zmo;have d2:=r350 [] okn;rw[z26.2 zqh]at d1;rw[z26.2 za9]at d2;have e1:=yio eq0 eq0 (by decide) (by decide)
 have e2:=yio [⟨3,2,-10⟩] [⟨3,2,-10⟩] (by decide) (by decide)
 have e3:=yio [⟨3,2,0⟩] [⟨3,2,0⟩] (by decide) (by decide)
 have f1:=r346 [pp0] [pp0] zmo zmo;have n0:pp0.prev.length=32:=y79;have pc:pp0.corrects = -1:=rfl;simp only[y1x,av,aN,eq0,decide_true,ye,pq0,ya,y22,y4t,y16,yhw,y4y]at a1 b1 b2 b3 c1 c2 c3 d1 d2 e1 e2 e3 f1;generalize pp0=p0 at *
 have l2i:∀(h:List Obj) (a:Int) (r:List D),y15 E h 2 (.iptr (dI a::r))=some (dI a):=fun _ _ _=>rfl
 have bc:(p0.corrects == -1)=true:=by rw[pc];rfl
 refine zg c339 (by simp) ?_
 conv in t339=>reduce;dsimp[ai]
 simp[t339,n339,a1,b1,b2,b3,c1,c2,c3,d1,d2,e1,e2,e3,f1,n0,bc,l2i,z2j,zk,y18,-z1f]
theorem zwv{p:yl}{c:List Int}{k:Int}{bs:List Bkg}(h:enE p c k bs=0):bs.length<=1024 /\ ∀ x,x ∈ y6x p c k bs -> -1048576<=x.amt/\x.amt<=1048576:=by
 unfold enE at h;split at h
 ·rename_i h1;exact absurd h h1
 ·split at h
  ·rename_i h2;unfold y6e at h2;simp only[ak,decide_eq_true_eq,ay]at h2;obtain⟨_,_,_,h3,h4⟩:=h2;refine⟨h3,fun x hx=>?_⟩
   obtain⟨b,hb,hx⟩:=bE.1 hx;have h5:=h4 b hb;unfold yab at h5;simp only[ak]at h5;obtain⟨_,_,_,h6⟩:=h5;unfold wib at h6;simp at h6;unfold bk4 at hx;simp at hx;rcases hx with rfl | rfl | rfl | rfl <;> simp <;> omega
  ·cases h
theorem zpm{M:Int}:∀{l:List Ent},(∀ x,x ∈ l -> -M<=x.amt/\x.amt<=M) -> -(M*l.length)<=y3x l/\y3x l<=M*l.length
 |[],_=>by simp[y3x]
 |x::l,h=>by
  have h1:=zpm (l:=l) fun y hy=>h y (by simp[hy])
  have h2:=h x (by simp)
  have e:M*((x::l).length:Int)=M*l.length+M:=by rw[aq,jF,Int.mul_add];simp
  rw[e];simp only[y3x];omega
theorem yha(p:yl)(c:List y2p)(as:List Int)(ce:Nat)(hc:c.length<=9223372036854775807)(hce:ce<256):yu E (dL E) 432 [ye p,.imm .none (c.map y1s),ya as,.int .u8 ce]=some (.bool true):=by
 have s0:=r339;refine zg c432 (by simp) ?_
 conv in t432=>reduce;dsimp[ai]
 have h179:=r179 p c hc;have h2:=r2 p;simp only[ye,ya,y1s]at h179 h2;cases hf:y8e p c with
 |false=>simp[t432,n432,s0,h179,hf,zy]
 |true=>
 cases hg:yeb p with
 |false=>simp[t432,n432,s0,h179,hf,h2,hg,zy]
 |true=>
 by_cases h20:(20:Int)<(as.length:Int)
 ·simp[t432,n432,s0,h179,hf,h2,hg,h20,zy]
 obtain⟨S,M,c4⟩:=yea hf;have h180:=r180 p c S M;have h184:=r184 p S;unfold ycz at h180;unfold y9f at h184;simp only[ye,ya,y1s]at h180 h184
 by_cases h0:ckC p c=0
 rotate_left
 ·rw[if_neg h0]at h180;obtain⟨E1,hE1⟩:∃ e,e=ckC p c:=⟨_,rfl⟩;rw[<- hE1]at h180 h0
  by_cases h1:ck p=0
  ·rw[if_pos h1]at h184;simp[t432,n432,s0,h179,hf,h2,hg,h20,zy,h180,h184,h0]
  ·rw[if_neg h1]at h184;simp[t432,n432,s0,h179,hf,h2,hg,h20,zy,h180,h184,h0,h1]
 obtain⟨ok,C⟩:=zz3 h0;have h1:ck p=0:=by simp[ck,ok]
 rw[if_pos h0]at h180;rw[if_pos h1]at h184;obtain⟨k,hk⟩:∃ k:Nat,k=ce % 4:=⟨_,rfl⟩;have hbl:((y3f p c).map shB).length<=1000000:=by
  have h3:=zi4 (m:=p.vars.length) (l:=y4d p c) (k:=0) (b:=ah p.vars.length 0) (fun x hx=>by
   obtain⟨j,_,rfl⟩:=aK.1 hx;rw[z6h (z3k ok C S) (z61 ok C)];exact aj _)
  have hl:(y4d p c).length=c.length+1:=by simp[y4d]
  have h5:(y4d p c).length*p.vars.length<=5*6:=Nat.mul_le_mul (by omega) S.vars
  rw[aD];unfold y3f;omega
 have hcv:y40 E 13 2 (D.int .u8 ((ce:Int).tmod 4))=some (.int .i64 (k:Int)):=by
  have e1:(ce:Int).tmod 4=(k:Int):=by rw[hk];exact(Int.ofNat_tmod ce 4).symm
  have w:=za (n:=(k:Int)) ⟨by omega,by omega⟩
  rw[e1];simp[y40,w]
 have h340:=r340 p S as (by omega) k ((y3f p c).map shB) hbl
 have hfl:=fun F=>zeb (as:=as) (k:=(k:Int)) (F:=F) ok C S
 have hce:=zec (as:=as) (k:=(k:Int)) ok C S;have hdl:=z6h S ok;have hdb:=zsx ok;rw[<- zx3]at h340;obtain⟨Sh,hSh⟩:∃ Sh,Sh=y3f p c:=⟨_,rfl⟩;rw[<- hSh]at h180 h340 hfl hce hbl;obtain⟨d,hd⟩:∃ d,d=y95 p:=⟨_,rfl⟩;rw[<- hd]at h184 hfl hce hdl hdb;obtain⟨X,hX⟩:∃ X,X=y6u (y6x p as k (Sh.map shB)):=⟨_,rfl⟩;unfold enD at h340
 by_cases h4:enE p as k (Sh.map shB)=0
 rotate_left
 ·rw[if_neg h4]at h340;obtain⟨e,he⟩:∃ e,e=enE p as k (Sh.map shB):=⟨_,rfl⟩;rw[<- he]at h340 h4;simp only[ye,ya]at h340;simp[t432,n432,s0,h179,hf,h2,hg,h20,zy,h180,h184,hcv,z8p,h340,h4]
 have F:=zwv h4;rw[if_pos h4,h4,<- hX]at h340;rw[<- hX]at hce;have hfl:∀ F,y1c 2 F X=flS p d F p.vars.length:=fun F=>by rw[hX];exact hfl F
 have hord:yfr X:=by rw[hX,<- z5l];exact zkp
 have hs0:y3x X=0:=by rw[hX,ydd];exact ztl
 have hXl:X.length<=4096:=by have:=zqv (l:=y6x p as k (Sh.map shB));rw[zfc]at this;rw[hX];have:=F.1;omega
 have hXb:∀ x,x ∈ X -> -4294967296<=x.amt/\x.amt<=4294967296:=fun x hx=>by
  rw[hX]at hx;have h6:=yh2 (B:=1048576) F.2 (by decide) hx
  rw[zfc]at h6;have:=F.1;omega
 have am2:=fun n=>r348 X (by omega) 2 n
 have am4:=r348 X (by omega) 4 (k:Int)
 rw[zju hord,hce]at am4;have am2:∀ n:Int,yu E (dL E) 348 [.imm .none (X.map y2k),.int .i64 2,dI n]=some (dI (flS p d n p.vars.length)):=fun n=>by rw[<- hfl,<- zju hord];exact am2 n
 clear hX hSh hd hfl hce;simp only[ye,ya]at h340;simp[t432,n432,s0,h179,hf,h2,hg,h20,zy,h180,h184,hcv,z8p,h340];refine zl X.length (fun i env h=>∃(x0 x1 x2 x5 x6 x7 x9 x11 x15 x16 x17 x18 x19 x20 x21 x22 x23 x24 x25 x26 x27 x28 x29 x30 x31:D) ,env=[x0,x1,x2,.int .u8 ce,.iptr (ye p).cellsL,x5,x6,x7,.imm .none (d.map dI),x9,.imm .none (X.map y2k),x11,dI (y3x (X.take i)),dI 0,dI i,x15,x16,x17,x18,x19,x20,x21,x22,x23,x24,x25,x26,x27,x28,x29,x30,x31]) 0 (by omega) ⟨_,_,_,_,_,_,_,_,_,_,_,_,_,_,_,_,_,_,_,_,_,_,_,_,_,rfl⟩ ?_
 rintro i env h hi ⟨x0,x1,x2,x5,x6,x7,x9,x11,x15,x16,x17,x18,x19,x20,x21,x22,x23,x24,x25,x26,x27,x28,x29,x30,x31,rfl⟩
 by_cases hlt:i<X.length
 ·have hup:=ze hlt (by omega)
  have ht:y3x (X.take (i+1))=y3x (X.take i)+X[i].amt:=by rw[aL hlt,z6u];simp[y3x]
  have hb:=zpm (M:=4294967296) (l:=X.take (i+1)) fun x hx=>hXb x (List.mem_of_mem_take hx)
  rw[ht,aZ]at hb;have hw:=za (n:=y3x (X.take i)+X[i].amt) ⟨by omega,by omega⟩
  rw[<- ht]at hw;rw[ht]at hw ⊢;simp[hlt,hup,hw]
 have:i=X.length:=by omega
 subst this;rw[bg,hs0];simp[hdl];have hvl:=S.vars;have nv:∀ j (hj:j<p.vars.length),nvA p j=p.vars[j].a:=fun j hj=>by unfold nvA;rw[bZ,ac hj];rfl
 have dg:∀ j (hj:j<d.length),d.getD j 0=d[j]:=fun j hj=>by rw[af,ac hj];rfl
 have db:∀ j,0<=d.getD j 0/\d.getD j 0<=1000000000:=fun j=>by
  by_cases hj:j<d.length
  ·rw[dg j hj];exact hdb _ (au hj)
  ·rw[af,List.getElem?_eq_none (by omega)];simp
 have bl:∀ n,n<=6 -> -6000000000<=dlS d n/\dlS d n<=6000000000:=fun n hn=>by
  have:=zpc (M:=1000000000) (n:=n) (f:=fun i=>d.getD i 0) fun i _=>by have:=db i;omega
  unfold dlS;omega
 have bf:∀ F n,n<=6 -> -6000000000<=flS p d F n/\flS p d F n<=6000000000:=fun F n hn=>by
  have:=zpc (M:=1000000000) (n:=n) (f:=fun i=>if nvA p i=F then d.getD i 0 else 0) fun i _=>by have:=db i;split <;> omega
  unfold flS;omega
 refine zl p.vars.length (fun i env h=>∃(x0 x1 x2 x5 x6 x7 x9 x11 x12 x14 x16 x17 x18 x19 x20 x21 x22 x23 x24 x25 x26 x27 x28 x29 x30 x31:D) ,env=[x0,x1,x2,.int .u8 ce,.iptr (ye p).cellsL,x5,x6,x7,.imm .none (d.map dI),x9,.imm .none (X.map y2k),x11,x12,dI (dlS d i),x14,dI i,x16,x17,x18,x19,x20,x21,x22,x23,x24,x25,x26,x27,x28,x29,x30,x31]) 0 (by omega) ⟨_,_,_,_,_,_,_,_,_,_,_,_,_,_,_,_,_,_,_,_,_,_,_,_,_,_,rfl⟩ ?_
 rintro i env h hi ⟨x0,x1,x2,x5,x6,x7,x9,x11,x12,x14,x16,x17,x18,x19,x20,x21,x22,x23,x24,x25,x26,x27,x28,x29,x30,x31,rfl⟩
 by_cases hlt:i<p.vars.length
 ·have hup:=ze hlt (by omega)
  simp[hlt];refine zl p.vars.length (fun kk env h=>∃(x0 x1 x2 x5 x6 x7 x9 x11 x12 x14 x18 x19 x20 x21 x22 x23 x24 x25 x26 x27 x28 x29 x30 x31:D) ,env=[x0,x1,x2,.int .u8 ce,.iptr (ye p).cellsL,x5,x6,x7,.imm .none (d.map dI),x9,.imm .none (X.map y2k),x11,x12,dI (dlS d i),x14,dI i,dI (flS p d (nvA p i) kk),dI kk,x18,x19,x20,x21,x22,x23,x24,x25,x26,x27,x28,x29,x30,x31]) 0 (by omega) ⟨_,_,_,_,_,_,_,_,_,_,_,_,_,_,_,_,_,_,_,_,_,_,_,_,rfl⟩ ?_
  rintro kk env h hkk ⟨x0,x1,x2,x5,x6,x7,x9,x11,x12,x14,x18,x19,x20,x21,x22,x23,x24,x25,x26,x27,x28,x29,x30,x31,rfl⟩
  by_cases hlk:kk<p.vars.length
  ·have hupk:=ze hlk (by omega)
   have hs:=yll (p:=p) (d:=d) (F:=nvA p i) (n:=kk);have hlkd:kk<d.length:=by omega
   rw[nv kk hlk,nv i hlt,dg kk hlkd]at hs;rw[nv i hlt];have hb:=bf p.vars[i].a (kk+1) (by omega)
   by_cases he:p.vars[kk].a=p.vars[i].a
   ·rw[if_pos he]at hs;have hw:=za (n:=flS p d p.vars[i].a kk+d[kk]) ⟨by omega,by omega⟩
    simp[hlt,hlk,hupk,he,hlkd,hw,hs]
   ·rw[if_neg he]at hs;simp[hlt,hlk,hupk,he,hlkd,hs]
  have:kk=p.vars.length:=by omega
  subst this;have hs:=ylp (d:=d) (n:=i);have hltd:i<d.length:=by omega
  rw[dg i hltd]at hs;have hb:=bl (i+1) (by omega)
  have hw:=za (n:=dlS d i+d[i]) ⟨by omega,by omega⟩
  have am2:=am2 p.vars[i].a;rw[nv i hlt]
  by_cases ha:0<=p.vars[i].a
  ·by_cases hb:p.vars[i].a<=4095
   ·simp[hlt,hltd,hup,hw,hs,ha,hb,z34,am2]
   ·simp[hlt,hltd,hup,hw,hs,ha,hb]
  ·simp[hlt,hltd,hup,hw,hs,ha]
 have:i=p.vars.length:=by omega
 subst this;have hb:=bl p.vars.length (by omega)
 have hw:=za (n:=-dlS d p.vars.length) ⟨by omega,by omega⟩
 simp[hcv,z34,am4,hw]
theorem zuk{x:D}(h:y59 E 39 x):∃ c,x=y1s c/\True:=by
 obtain⟨ds,rfl,h1⟩:=z4e h rfl;obtain⟨hl,hf⟩:=z4f h1 (fs:=[(0,2),(1,9)]) rfl;have hl2:ds.length=2:=hl
 match ds,hl2 with
 |[x,y],_=>
  obtain⟨n,h2,_⟩:=z6m (hf 0 _ rfl) rfl;obtain⟨els,h3,_,h4⟩:=z3z (hf 1 _ rfl) (e:=6) rfl;simp[E,y46]at h2 h3;subst h2 h3;obtain⟨l,rfl,_⟩:=z52 (f:=ya) (R:=fun _=>True) (els:=els) fun x hx=>by obtain⟨l,h5,_⟩:=ze2 (z4d (h4 x hx) rfl) rfl;simp at h5;exact⟨l,h5,trivial⟩
  exact⟨⟨n,l⟩,rfl,trivial⟩
theorem zph{x:D}(h:y59 E 38 x):∃ c:List y2p,x=.imm .none (c.map y1s)/\c.length<=9223372036854775807:=by
 obtain⟨els,h3,hl,he⟩:=z3z (e:=39) (z4d h rfl) rfl;simp only[List.cons.injEq,and_true]at h3;obtain⟨c,h4,_⟩:=z52 (f:=y1s) (R:=fun _=>True) (els:=els) fun y hy=>zuk (he y hy)
 subst h4;have:Go.maxLen<=9223372036854775807:=by decide
 exact⟨c,h3,by simp at hl;omega⟩
theorem accountsShares:∀ xs,y8m E [0,38,6,13] xs->∃ n,yu E (dC E n) 432 xs=some (.bool true):=by
 intro xs h
 match xs,h with
 |[x,y,z,w],⟨t1,t2,t3,t4,_⟩=>obtain⟨p,rfl,_⟩:=ycf t1;obtain⟨c,rfl,hc⟩:=zph t2;obtain⟨l,rfl,_⟩:=ycg t3 rfl;obtain⟨m,rfl,hm⟩:=yj2 t4 rfl;exact z8h (yha p c l m hc (by omega))
 |[],h=>exact h.elim
 |[_],h=>exact h.2.elim
 |[_,_],h=>exact h.2.2.elim
 |[_,_,_],h=>exact h.2.2.2.elim
 |_::_::_::_::_::_,h=>exact h.2.2.2.2.elim
end Dv
