/- Texts that a proof of this claim uses, joined: Lw.W211, Lw.W212, Lw.W213, Lw.W214, Lw.W217, Lw.W218, Lw.W219, Lw.W220, Lw.W221, Lw.W222, Lw.W223, Lw.W224, Lw.W225, Lw.W241, Lw.W242, Lw.W243, Lw.W244, Lw.S41, Lw.W226, Lw.W227, Lw.W228, Lw.W245, Lw.W246, Lw.W247, Lw.W300, Lw.W248, Lw.W301, Lw.W249, Lw.W250. -/
import Derived.Test.YthcmaiplkbbioaaGreatDoorGc
import Derived.Test.YthcmaiplkbbioaaGreatDoorGa
import Derived.Test.YthcmaiplkbbioaaGreatDoorDvd
set_option linter.all false
open BitVec renaming toNat_add->iq,toNat_xor->jB
open Bool renaming and_eq_true->ak,and_true->ek
open Decidable renaming not_not->fX
open Go.IntKind renaming i64->aJ,u64->bL
open Int renaming natCast_add->jM,natCast_nonneg->lH,negSucc_eq->ai,toNat_natCast->bT
open List renaming all_eq_true->ay,append_assoc->bi,append_nil->bG,cons_append->aG,drop_drop->cx,drop_eq_getElem_cons->ce,drop_length->bv,drop_zero->dz,eq_nil_of_length_eq_zero->aK,filter_append->gK,filter_cons->ir,flatMap_append->k8,flatMap_cons->bm,flatten_append->kZ,getD_eq_getElem?_getD->af,getElem?_append_right->aH,getElem?_eq_getElem->ac,getElem?_eq_some_iff->ae,getElem?_map->ch,getElem_mem->av,getLast?_eq_getElem?->gC,length->cQ,length_append->ao,length_cons->ar,length_drop->er,length_filter_le->gc,length_map->aF,length_nil->aY,length_replicate->eA,length_set->bq,length_take->bc,map_append->bp,map_cons->al,map_drop->jj,map_map->gL,map_nil->aO,map_replicate->fe,map_set->iK,mem_append->aB,mem_cons->aA,mem_flatMap->bB,mem_map->aL,nil_append->bn,replicate->ah,take_append_drop->bV,take_length->bh,take_of_length_le->bd,take_succ_cons->fM,take_succ_eq_append_getElem->aN
open Nat renaming eq_zero_or_pos->eu,le_refl->aj,le_trans->aM,min_eq_left->bU,sub_self->fE,zero_add->bM
open Option renaming map_some->aq
open Option.some renaming inj->cr,injEq->aa
open Prod.mk renaming injEq->aw
set_option maxRecDepth 100000
set_option maxHeartbeats 16000000
namespace Dv
attribute [local simp] ah depth y1z y51 ya y15 y4p ye y2p y2e Ret
attribute [local congr] z1f z1g z16 z12 zx z17 zw
def yak(b:List UInt8):Nat->List Wd
 | 0=>ah 64 0
 |i+1=>(yak b i).set i (yaj (b.drop (4*i)) 4)
def z9m{b:List UInt8}:∀{i:Nat},(yak b i).length=64
 | 0=>by simp[yak]
 |i+1=>by rw[yak,bq,z9m]
def sg0(x:Wd):Wd:=y9i x 25 ^^^ y9i x 14 ^^^ (x >>> 3)
def sg1(x:Wd):Wd:=y9i x 15 ^^^ y9i x 13 ^^^ (x >>> 10)
def y4h(b:List UInt8):Nat->List Wd
 | 0=>yak b 16
 |k+1=>(y4h b k).set (k+16) ((y4h b k).getD k 0+sg0 ((y4h b k).getD (k+1) 0)+(y4h b k).getD (k+9) 0+sg1 ((y4h b k).getD (k+14) 0))
def z7d{b:List UInt8}:∀{i:Nat},(y4h b i).length=64
 | 0=>z9m
 |i+1=>by rw[y4h,bq,z7d]
def Wds(hp:List Obj)(id:Nat)(m:List Wd):Prop:=At hp id (.cells (m.map dW))
def yeu:List Wd:=[1116352408,1899447441,3049323471,3921009573,961987163,1508970993,2453635748,2870763221,3624381080,310598401,607225278,1426881987,1925078388,2162078206,2614888103,3248222580,3835390401,4022224774,264347078,604807628,770255983,1249150122,1555081692,1996064986,2554220882,2821834349,2952996808,3210313671,3336571891,3584528711,113926993,338241895,666307205,773529912,1294757372,1396182291,1695183700,1986661051,2177026350,2456956037,2730485921,2820302411,3259730800,3345764771,3516065817,3600352804,4094571909,275423344,430227734,506948616,659060556,883997877,958139571,1322822218,1537002063,1747873779,1955562222,2024104815,2227730452,2361852424,2428436474,2756734187,3204031479,3329325298]
def zlc:yeu.length=64:=rfl
def zi4{E:Env}{cP:Nat->List D->Option D}{env:List D}{hp:List Obj}{b t:Nat}{d:D}{x:Xp}:xv E cP env hp (.n (.iaddr t (.c d) (.t b)) (.cons b x .nil))=ob (xv E cP env hp x) fun u=>y3w E t d u:=by
 simp only[xv,xvs];cases xv E cP env hp x <;> try rfl
 simp only[yb,gOf,kv,if_true,zc];exact z19
def yev(i:Nat):List D:=(yeu.map dW).drop i
def ymc{i:Nat}(h:i<64):y3w E 80 (.iptr [.int .u32 1116352408,.int .u32 1899447441,.int .u32 3049323471,.int .u32 3921009573,.int .u32 961987163,.int .u32 1508970993,.int .u32 2453635748,.int .u32 2870763221,.int .u32 3624381080,.int .u32 310598401,.int .u32 607225278,.int .u32 1426881987,.int .u32 1925078388,.int .u32 2162078206,.int .u32 2614888103,.int .u32 3248222580,.int .u32 3835390401,.int .u32 4022224774,.int .u32 264347078,.int .u32 604807628,.int .u32 770255983,.int .u32 1249150122,.int .u32 1555081692,.int .u32 1996064986,.int .u32 2554220882,.int .u32 2821834349,.int .u32 2952996808,.int .u32 3210313671,.int .u32 3336571891,.int .u32 3584528711,.int .u32 113926993,.int .u32 338241895,.int .u32 666307205,.int .u32 773529912,.int .u32 1294757372,.int .u32 1396182291,.int .u32 1695183700,.int .u32 1986661051,.int .u32 2177026350,.int .u32 2456956037,.int .u32 2730485921,.int .u32 2820302411,.int .u32 3259730800,.int .u32 3345764771,.int .u32 3516065817,.int .u32 3600352804,.int .u32 4094571909,.int .u32 275423344,.int .u32 430227734,.int .u32 506948616,.int .u32 659060556,.int .u32 883997877,.int .u32 958139571,.int .u32 1322822218,.int .u32 1537002063,.int .u32 1747873779,.int .u32 1955562222,.int .u32 2024104815,.int .u32 2227730452,.int .u32 2361852424,.int .u32 2428436474,.int .u32 2756734187,.int .u32 3204031479,.int .u32 3329325298]) (.int .i64 (i:Int))=some (.iptr (yev i)):=by
 have e:(yeu.map dW)=[.int .u32 1116352408,.int .u32 1899447441,.int .u32 3049323471,.int .u32 3921009573,.int .u32 961987163,.int .u32 1508970993,.int .u32 2453635748,.int .u32 2870763221,.int .u32 3624381080,.int .u32 310598401,.int .u32 607225278,.int .u32 1426881987,.int .u32 1925078388,.int .u32 2162078206,.int .u32 2614888103,.int .u32 3248222580,.int .u32 3835390401,.int .u32 4022224774,.int .u32 264347078,.int .u32 604807628,.int .u32 770255983,.int .u32 1249150122,.int .u32 1555081692,.int .u32 1996064986,.int .u32 2554220882,.int .u32 2821834349,.int .u32 2952996808,.int .u32 3210313671,.int .u32 3336571891,.int .u32 3584528711,.int .u32 113926993,.int .u32 338241895,.int .u32 666307205,.int .u32 773529912,.int .u32 1294757372,.int .u32 1396182291,.int .u32 1695183700,.int .u32 1986661051,.int .u32 2177026350,.int .u32 2456956037,.int .u32 2730485921,.int .u32 2820302411,.int .u32 3259730800,.int .u32 3345764771,.int .u32 3516065817,.int .u32 3600352804,.int .u32 4094571909,.int .u32 275423344,.int .u32 430227734,.int .u32 506948616,.int .u32 659060556,.int .u32 883997877,.int .u32 958139571,.int .u32 1322822218,.int .u32 1537002063,.int .u32 1747873779,.int .u32 1955562222,.int .u32 2024104815,.int .u32 2227730452,.int .u32 2361852424,.int .u32 2428436474,.int .u32 2756734187,.int .u32 3204031479,.int .u32 3329325298]:=rfl;rw[<- e,zoa (m:=64) (e:=78) rfl,if_pos ⟨by omega,by omega⟩]
 rw[show(E.ty 78).size=1 from rfl,Nat.mul_one,bT]
 rfl
def ymb{i:Nat}{h:List Obj}(hi:i<64):y1c E h 78 (.iptr (yev i))=some (dW (yeu.getD i 0)):=by
 have hl:i<(yeu.map dW).length:=by rw[aF,zlc];exact hi
 unfold yev;rw[ce hl,List.getElem_map,af,ac (by rw[zlc];exact hi)]
 rfl
def sl_1{q:Nat}:y13 E 77 (.loc q 0) (some (.int .i64 1)) none none=some (.sl q 1 7 1 false false):=rfl
def sl_7{q:Nat}:y13 E 77 (.loc q 0) none (some (.int .i64 7)) none=some (.sl q 0 7 1 false false):=rfl
def cp8{H:List Obj}{q:Nat}{d0 d1 d2 d3 d4 d5 d6 d7:Wd}(h:H[q]? = some (.cells [dW d0,dW d1,dW d2,dW d3,dW d4,dW d5,dW d6,dW d7])):y7d E H 81 81 (.sl q 1 7 1 false false) (.sl q 0 7 1 false false)=some (.int .i64 7,H.set q (.cells [dW d0,dW d0,dW d1,dW d2,dW d3,dW d4,dW d5,dW d6])):=by
 unfold y7d;simp[h,y1b,y14,y31,y2d,ym]
 rfl
def rnd(w:List Wd)(i:Nat)(v:List Wd):List Wd:=match v with
 |[a,b,c,d,e,f,g,h]=>
  let t:=h+(y9i e 26 ^^^ y9i e 21 ^^^ y9i e 7)+(g ^^^ (e &&& (f ^^^ g)))+yeu.getD i 0+w.getD i 0
  [t+((y9i a 30 ^^^ y9i a 19 ^^^ y9i a 10)+((a &&& b) ||| (c &&& (a ||| b)))),a,b,c,d+t,e,f,g]
 |v=>v
def ybi(w:List Wd)(v:List Wd):Nat->List Wd
 | 0=>v
 |i+1=>rnd w i (ybi w v i)
def yi2{l:List Wd}(h:l.length=8):∃ a b c d e f g k,l=[a,b,c,d,e,f,g,k]:=by
 match l,h with
 |[a,b,c,d,e,f,g,k],_=>exact⟨a,b,c,d,e,f,g,k,rfl⟩
def ydx{w:List Wd}{i:Nat}{v:List Wd}(h:v.length=8):(rnd w i v).length=8:=by
 obtain⟨a,b,c,d,e,f,g,k,rfl⟩:=yi2 h
 rfl
def zek{w v:List Wd}(h:v.length=8):∀{i:Nat},(ybi w v i).length=8
 | 0=>h
 |i+1=>ydx (zek h)
def y2n.wk{i C:Nat}{hp hp':List Obj}(h:y2n C C hp hp'):y2n i C hp hp':=fun J h1 h2 h3=>h J h1 (fun hp j o hj hk=>h2 hp j o hj (by rcases hk with rfl | hk;exact .inr (aj _);exact .inr hk)) h3
def Blk(st:Nat)(hp:List Obj)(x:D)(b:List UInt8):Prop:=∀ i:Nat,i<16->∃ y,y13 E 30 x (some (dI (4*(i:Int)))) none none=some y /\ ∀ h,y2n st hp.length hp h->frz h 12 y=some (dBy (b.drop (4*i)))
def yf9{l:List UInt8}{h:List Obj}:frz h 12 (dBy l)=some (dBy l):=by rw[z3u,zp];rfl
def y9c(s v:List Wd):Nat->List Wd
 | 0=>s
 |i+1=>(y9c s v i).set i ((y9c s v i).getD i 0+v.getD i 0)
def za7{s v:List Wd}:∀{i:Nat},(y9c s v i).length=s.length
 | 0=>rfl
 |i+1=>by rw[y9c,bq,za7]
def y4d(s:List Wd)(b:List UInt8):List Wd:=y9c s (ybi (y4h b 48) s 64) 8
def yln{hp:List Obj}{st:Nat}{x:D}{b:List UInt8}{s:List Wd}(hs:s.length=8)(hb:64<=b.length)(S:Wds hp st s)(hx:Blk st hp x b) :
  ∃ d hp',y1j E (dL E) 404 [.loc st 0,x] hp=some (d,hp')/\(d=.tup []/\Wds hp' st (y4d s b)/\y2n st hp.length hp hp'/\hp.length<=hp'.length):=by
 refine z1j c404 (args:=[.loc st 0,x]) (hp:=hp) (R:=fun d hp'=>d=.tup []/\Wds hp' st (y4d s b)/\y2n st hp.length hp hp'/\hp.length<=hp'.length) (by simp) ?_
 conv in t404=>reduce;dsimp[ai]
 have hid:=At.lt S;simp[t404,n404];refine zo 16 (fun i env h=>∃(x3 x4 x5 x6 x7 x8 x9 x10 x11 x13 x14 x15 x16 x17 x18 x19 x20 x21:D) ,env=[.loc st 0,x,.loc hp.length 0,x3,x4,x5,x6,x7,x8,x9,x10,x11,dI i,x13,x14,x15,x16,x17,x18,x19,x20,x21]/\Wds h hp.length (yak b i)/\y2n hp.length hp.length hp h) 0 (by omega) ?_ ?_
 ·refine⟨_,_,_,_,_,_,_,_,_,_,_,_,_,_,_,_,_,_,rfl,?_,y2n.app⟩;unfold Wds yak;simp[At]
 rintro i env h hi ⟨x3,x4,x5,x6,x7,x8,x9,x10,x11,x13,x14,x15,x16,x17,x18,x19,x20,x21,rfl,w1,w2⟩
 by_cases hlt:i<16
 ·have hi16:(i:Int)<16:=by omega
  have hup:=ze hlt (by omega)
  obtain⟨y,hy,hf⟩:=hx i hlt;have hf:=hf h w2.wk;have hw4:aJ.wrap (4*(i:Int))=4*(i:Int):=za ⟨by omega,by omega⟩
  have hy:y13 E 30 x (some (.int .i64 (4*(i:Int)))) none none=some y:=hy;have e:=r405 (b.drop (4*i)) (by simp;omega)
  have hi64:(i:Int)<64:=by omega
  have w1':h[hp.length]? = some (.cells ((yak b i).map dW)):=w1;have hl64:i+1<=(yak b i).length:=by rw[z9m];omega
  have hhl:hp.length<h.length:=w1.lt;have hst:yak b (i+1)=(yak b i).set i (yaj (b.drop (4*i)) 4):=rfl;generalize hbb:b.drop (4*i)=bb at hf e hst;have hl63:i<64:=by omega
  have hl65:i+1<=64:=by omega
  simp[hi16,hup,hw4,hy,hf,e,hi64,w1',z9m,hl63,hl65];refine⟨hlt,?_,w2.trans (y2n.set (.inr (aj _)))⟩;unfold Wds;rw[hst,iK];exact At.self hhl
 have:i=16:=by omega
 subst this;simp;refine zo 48 (fun k env h=>∃(x3 x5 x6 x7 x8 x9 x10 x11 x12 x13 x14 x15 x16 x17 x18 x19 x20 x21:D) ,env=[.loc st 0,x,.loc hp.length 0,x3,dI ((k:Int)+16),x5,x6,x7,x8,x9,x10,x11,x12,x13,x14,x15,x16,x17,x18,x19,x20,x21]/\Wds h hp.length (y4h b k)/\y2n hp.length hp.length hp h) 0 (by omega) ?_ ?_
 ·exact⟨_,_,_,_,_,_,_,_,_,_,_,_,_,_,_,_,_,_,rfl,w1,w2⟩
 clear hi hlt w1 w2 h;rintro k env h hi ⟨x3,x5,x6,x7,x8,x9,x10,x11,x12,x13,x14,x15,x16,x17,x18,x19,x20,x21,rfl,w1,w2⟩;have hhl:hp.length<h.length:=w1.lt;have w1':h[hp.length]? = some (.cells ((y4h b k).map dW)):=w1
 by_cases hlt:k<48
 ·have hk64:(k:Int)+16<64:=by omega
  have i15:aJ.wrap ((k:Int)+16 - 15)=(k:Int)+1:=by rw[za ⟨by omega,by omega⟩];omega
  have i2:aJ.wrap ((k:Int)+16 - 2)=(k:Int)+14:=by rw[za ⟨by omega,by omega⟩];omega
  have i16:aJ.wrap ((k:Int)+16 - 16)=(k:Int):=by rw[za ⟨by omega,by omega⟩];omega
  have i7:aJ.wrap ((k:Int)+16 - 7)=(k:Int)+9:=by rw[za ⟨by omega,by omega⟩];omega
  have i1:aJ.wrap ((k:Int)+16+1)=(k:Int)+1+16:=by rw[za ⟨by omega,by omega⟩];omega
  have hst:y4h b (k+1)=(y4h b k).set (k+16) ((y4h b k).getD k 0+sg0 ((y4h b k).getD (k+1) 0)+(y4h b k).getD (k+9) 0+sg1 ((y4h b k).getD (k+14) 0)):=rfl;have hgd:∀ j,j<64->(y4h b k)[j]? = some ((y4h b k).getD j 0):=fun j hj=>by rw[af,ac (by rw[z7d];exact hj)];rfl
  have g0:=hgd k (by omega)
  have g1:=hgd (k+1) (by omega)
  have g9:=hgd (k+9) (by omega)
  have g14:=hgd (k+14) (by omega)
  have hlen:(y4h b k).length=64:=z7d;clear hgd;generalize (y4h b k).getD k 0=v0 at g0 hst;generalize (y4h b k).getD (k+1) 0=v1 at g1 hst;generalize (y4h b k).getD (k+9) 0=v9 at g9 hst;generalize (y4h b k).getD (k+14) 0=v14 at g14 hst;generalize y4h b k=W at g0 g1 g9 g14 hst hlen w1 w1';have b1:(0:Int)<=(k:Int)+1:=by omega
  have d1:(k:Int)+1<64:=by omega
  have t1:((k:Int)+1).toNat=k+1:=by omega
  have b14:(0:Int)<=(k:Int)+14:=by omega
  have d14:(k:Int)+14<64:=by omega
  have t14:((k:Int)+14).toNat=k+14:=by omega
  have b9:(0:Int)<=(k:Int)+9:=by omega
  have d9:(k:Int)+9<64:=by omega
  have t9:((k:Int)+9).toNat=k+9:=by omega
  have b16:(0:Int)<=(k:Int)+16:=by omega
  have d16:(k:Int)+16<64:=by omega
  have t16:((k:Int)+16).toNat=k+16:=by omega
  have d0:(k:Int)<64:=by omega
  have n16:k+16<64:=by omega
  have n17:k+16+1<=64:=by omega
  have wA:∀ r:List Obj,(h++r)[hp.length]? = some (.cells (W.map dW)):=fun r=>w1.app (r:=r)
  have r1:=ye2 v1 (-7) ⟨by decide,by decide⟩
  have r2:=ye2 v1 (-18) ⟨by decide,by decide⟩
  have r3:=ye2 v14 (-17) ⟨by decide,by decide⟩
  have rw4:=ye2 v14 (-19) ⟨by decide,by decide⟩
  have sh3:∀ x:Wd,(x.toNat:Int).fdiv 8=((x >>> 3).toNat:Nat):=fun x=>ycy (a:=x) (n:=3) (by omega)
  have sh10:∀ x:Wd,(x.toNat:Int).fdiv 1024=((x >>> 10).toNat:Nat):=fun x=>ycy (a:=x) (n:=10) (by omega)
  have i0:aJ.wrap (k:Int)=(k:Int):=za ⟨by omega,by omega⟩
  simp[hk64,i0,i15,i2,i16,i7,i1,w1',wA,g0,g1,g9,g14,hlen,r1,r2,r3,rw4,b1,d1,t1,b14,d14,t14,b9,d9,t9,b16,t16,d0,n16,n17,zfh,sh3,sh10,ycx,yd0,-jB,-iq,-BitVec.toNat_ushiftRight];refine⟨hlt,?_,w2.trans (y2n.app.trans (y2n.set (.inr (aj _))))⟩;unfold Wds;rw[hst,iK];exact At.self (by simp;omega)
 have:k=48:=by omega
 subst this;have S':Wds h st s:=w2.at (by omega) hid S
 have S2:h[st]? = some (.cells (s.map dW)):=S';obtain⟨a0,a1,a2,a3,a4,a5,a6,a7,he⟩:=yi2 hs;rw[he]at S2;simp at S2;simp[S2];refine zo 64 (fun i env h'=>∃(x3 x4 x5 x6 x8 x9 x10 x11 x12 x13 x14 x15 x16 x18 x19 x20 x21:D) ,env=[.loc st 0,x,.loc hp.length 0,x3,x4,x5,x6,.loc h.length 0,x8,x9,x10,x11,x12,x13,x14,x15,x16,dI i,x18,x19,x20,x21]/\Wds h' hp.length (y4h b 48)/\Wds h' h.length (ybi (y4h b 48) s i)/\y2n hp.length hp.length hp h'/\h.length<h'.length) 0 (by omega) ?_ ?_
 ·refine⟨_,_,_,_,_,_,_,_,_,_,_,_,_,_,_,_,_,rfl,w1.app,?_,w2.trans y2n.app,by simp⟩
  simp[Wds,At,ybi,he]
 rintro i env h' hi ⟨x3,x4,x5,x6,x8,x9,x10,x11,x12,x13,x14,x15,x16,x18,x19,x20,x21,rfl,v1,v2,v3,v4⟩
 by_cases hlt':i<64
 ·have hi64:(i:Int)<64:=by omega
  have hup:=ze hlt' (by omega)
  obtain⟨a,b',c,d,e,f,g,g',hr⟩:=yi2 (zek (w:=y4h b 48) (v:=s) (i:=i) hs);have hst:ybi (y4h b 48) s (i+1)=rnd (y4h b 48) i (ybi (y4h b 48) s i):=rfl;rw[hr]at v2 hst;have v1':∀ r:List Obj,(h'++r)[hp.length]? = some (.cells ((y4h b 48).map dW)):=fun r=>v1.app (r:=r)
  have v2':∀ r:List Obj,(h'++r)[h.length]? = some (.cells (([a,b',c,d,e,f,g,g']:List Wd).map dW)):=fun r=>v2.app (r:=r)
  have hw:(y4h b 48)[i]? = some ((y4h b 48).getD i 0):=by rw[af,ac (by rw[z7d];exact hlt')];rfl
  have k1:=ymc hlt';have k2:=fun h:List Obj=>ymb (h:=h) hlt'
  have hlen:(y4h b 48).length=64:=z7d;generalize hW:(y4h b 48).getD i 0=wi at hw;generalize hK:yeu.getD i 0=ki at k2;have q1:=r407 e 6 11 25 (by decide) (by decide) (by decide)
  have q2:=r407 a 2 13 22 (by decide) (by decide) (by decide)
  simp at v2';have hcp:=fun r:List Obj=>cp8 (v2' r)
  have hset:∀(r:List Obj) (o:Obj),((h'++r).set h.length o)[h.length]? = some o:=fun r o=>At.self (by simp;omega)
  simp[hi64,hup,v1',v2',hw,q1,q2,zi4,k1,k2,z2f,sl_1,sl_7,↓hcp,↓hset,hlen,ycx,yd0,yjz,yjy,-jB,-iq,-BitVec.toNat_and,-BitVec.toNat_or];refine⟨hlt',v1.app.ne (by omega),?_,v3.trans (y2n.app.trans (y2n.set (.inr (by omega)))),by omega⟩
  unfold Wds;rw[hst];simp only[rnd,hK,hW];exact At.self (by simp;omega)
 have:i=64:=by omega
 subst this;simp;have hvl:(ybi (y4h b 48) s 64).length=8:=zek hs;unfold y4d at *
 generalize ybi (y4h b 48) s 64=V at v2 hvl ⊢;have v5:Wds h' st s:=v3.at (by omega) hid S
 refine zo 8 (fun i env h2=>∃(x1 x2 x3 x4 x5 x6 x8 x9 x10 x11 x12 x13 x14 x15 x16 x17 x18 x19 x21:D) ,env=[.loc st 0,x1,x2,x3,x4,x5,x6,.loc h.length 0,x8,x9,x10,x11,x12,x13,x14,x15,x16,x17,x18,x19,dI i,x21]/\Wds h2 h.length V/\Wds h2 st (y9c s V i)/\y2n st hp.length hp h2/\hp.length<=h2.length) 0 (by omega) ?_ ?_
 ·exact⟨_,_,_,_,_,_,_,_,_,_,_,_,_,_,_,_,_,_,_,rfl,v2,v5,v3.wk,by omega⟩
 clear hi hlt' v1 v2 v3 v5;rintro i env h2 hi ⟨x1,x2,x3,x4,x5,x6,x8,x9,x10,x11,x12,x13,x14,x15,x16,x17,x18,x19,x21,rfl,v2,v5,v3,v6⟩
 by_cases hlt':i<8
 ·have hi8:(i:Int)<8:=by omega
  have hup:=ze hlt' (by omega)
  have g1:(y9c s V i)[i]? = some ((y9c s V i).getD i 0):=by rw[af,ac (by rw[za7];omega)];rfl
  have g2:V[i]? = some (V.getD i 0):=by rw[af,ac (by omega)];rfl
  have hst:y9c s V (i+1)=(y9c s V i).set i ((y9c s V i).getD i 0+V.getD i 0):=rfl;have v2':∀ r:List Obj,(h2++r)[h.length]? = some (.cells (V.map dW)):=fun r=>v2.app (r:=r)
  have v5':∀ r:List Obj,(h2++r)[st]? = some (.cells ((y9c s V i).map dW)):=fun r=>v5.app (r:=r)
  have hal:(y9c s V i).length=8:=by rw[za7];exact hs
  have hi9:i+1<=8:=by omega
  have hi88:i<8:=hlt';have e1:(y9c s V i).getD i 0=(y9c s V i)[i]'(by omega):=by rw[af,ac (by omega)];rfl
  have e2:V.getD i 0=V[i]'(by omega):=by rw[af,ac (by omega)];rfl
  rw[e1,e2]at hst;have v2l:=v2.lt;have v5l:=v5.lt;simp[hi8,hup,g1,g2,v2',v5',hal,hvl,hi9,hi88,yd0,-iq];refine⟨v2.app.ne (by omega),?_,(v3.trans y2n.app).trans (y2n.set (.inl rfl)),by omega⟩
  unfold Wds;rw[hst,iK];exact At.self (by simp;omega)
 ·have:i=8:=by omega
  subst this;simp;exact⟨v5,v3,v6⟩
def zze{b:List UInt8}{i:Nat}(h:i<=b.length):y13 E 30 (.imm .none (b.map yd)) (some (dI i)) none none=some (.imm .none ((b.drop i).map yd)):=by unfold y13;simp[bnd];exact⟨⟨h,zlg⟩,by unfold y27;simp,bd (by simp)⟩
def yft{st:Nat}{hp:List Obj}{b:List UInt8}(h:64<=b.length):Blk st hp (.imm .none (b.map yd)) b:=fun i hi=>⟨.imm .none ((b.drop (4*i)).map yd),by
 have:=zze (b:=b) (i:=4*i) (by omega)
 exact this,fun h _=>yf9⟩
def z75:∀(n:Nat) (l:List UInt8),n<=l.length->y31 1 false n (l.map yd)=some ((l.take n).map yd)
 | 0,l,_=>by simp[y31]
 |n+1,[],h=>by simp at h
 |n+1,c::l,h=>by
  have e:=z75 n l (by simp at h;omega)
  simp[y31,y2d,ym,e]
def zzu{st id off n:Nat}{gr:Bool}{hp:List Obj}{m:List UInt8}(B:Bys hp id m)(hid:id ≠ st)(hn:64<=n)(ho:off+n<=m.length):Blk st hp (.sl id off n 1 false gr) ((m.drop off).take n):=fun i hi=>⟨.sl id (off+4*i) (n - 4*i) 1 false false,by
  unfold y13;have h0:(0:Int)<=4*(i:Int):=by omega
  have h1:(4*(i:Int)).toNat=4*i:=by omega
  simp[bnd,h0,h1];omega,fun h k=>by
  have B':Bys h id m:=k.at hid B.lt B;have B2:h[id]? = some (.cells (m.map yd)):=B';rw[zlk];simp only[B2,ya1];rw[zc,<- jj,z75 _ _ (by simp;omega),zc,zp,aq,List.drop_take,cx]⟩
def y9z:List Wd:=[1779033703,3144134277,1013904242,2773480762,1359893119,2600822924,528734635,1541459225]
def y5r(b:List UInt8):Nat->List Wd->List Wd
 | 0,s=>s
 |k+1,s=>y4d (y5r b k s) ((b.drop (64*k)).take 64)
def zk9{s:List Wd}{b:List UInt8}(h:s.length=8):(y4d s b).length=8:=by unfold y4d;rw[za7];exact h
def z5g{b:List UInt8}{s:List Wd}(h:s.length=8):∀{k:Nat},(y5r b k s).length=8
 | 0=>h
 |k+1=>zk9 (z5g h)
def zpf{E:Env}{cP:Nat->List D->Option D}{env:List D}{hp:List Obj}{t:Nat}{d:D}:xv E cP env hp (.n (.load t (.c d)) .nil)=y1c E hp t d:=by simp only[xv,xvs];simp only[yb,gOf];exact z19
def yem{hp:List Obj}:y1c E hp 76 (.iptr [.int .u32 1779033703,.int .u32 3144134277,.int .u32 1013904242,.int .u32 2773480762,.int .u32 1359893119,.int .u32 2600822924,.int .u32 528734635,.int .u32 1541459225])=some (.agg (y9z.map dW)):=rfl
def yds{b:List UInt8}(h:64<=b.length):y13 E 30 (.imm .none (b.map yd)) (some (.int .i64 64)) none none=some (.imm .none ((b.drop 64).map yd)):=zze (i:=64) h
def ydt{b:List UInt8}(h:64<=b.length):y13 E 30 (.imm .none (b.map yd)) none (some (.int .i64 64)) none=some (.imm .none ((b.take 64).map yd)):=zkn (i:=64) h
def z32:List UInt8:=ah 32 0
def y9w:List UInt8:=ah 128 0
def tl0(r:List UInt8):List UInt8:=r++ah (128 - r.length) 0
def zq1{r:List UInt8}(h:r.length<=128):(tl0 r).length=128:=by unfold tl0;rw[ao,eA];omega
def zf7:∀(l:List UInt8),yr (l.map yd)=l.map yd
 |[]=>rfl
 |c::l=>by have:=zf7 l;simp only[al,yr,bm]at this ⊢;rw[this];rfl
def ym6{h:List Obj}:y67 E h 30 (.int .i64 64) (.int .i64 128)=some (.sl h.length 0 64 1 false true,h++[.cells (y9w.map yd)]):=by
 have e:=zf7 y9w;have e2:y9w.map yd=ah 128 (D.int .u8 0):=by unfold y9w;rw[fe];rfl
 rw[e2]at e ⊢;unfold y67;simp only[show(E.ty 30).k=.slice 13 from rfl,show y28 E 13=some (D.int .u8 0)from rfl,show(E.ty 13).size=1 from rfl,show(E.ty 13).ag=false from rfl]
 rw[if_pos (by refine⟨by decide,by decide,by decide⟩)]
 rw[show((128:Int)).toNat=128 from rfl,e]
 rfl
def zyx{l:List UInt8}:(l.map yd).all (fun d=>d.storable && d.cellsL.length == 1)=true:=z8r
def ymq{H:List Obj}{id:Nat}{r:List UInt8}(B:Bys H id y9w)(h:r.length<64):y7d E H 30 30 (.sl id 0 64 1 false true) (.imm .none (r.map yd))=some (.int .i64 r.length,H.set id (.cells ((tl0 r).map yd))):=by
 have B2:H[id]? = some (.cells (y9w.map yd)):=B;have hl:(y9w.map yd).length=128:=rfl;have hm:Nat.min r.length 64=r.length:=bU (by omega)
 have hs:setCells (y9w.map yd) 0 (yr (r.map yd))=(tl0 r).map yd:=by
  rw[zf7];have e:y9w.map yd=(ah r.length (0:UInt8)).map yd++(ah (128 - r.length) (0:UInt8)).map yd:=by rw[<- bp,List.replicate_append_replicate];unfold y9w;congr 2;omega
  rw[e,z24 (by simp),zy (by simp)]
  unfold tl0;rw[bp]
 have hL:y1b H 1 false (.imm .none (r.map yd))=some (r.map yd):=by unfold y1b;simp only[zyx,if_true]
 unfold y7d;simp only[show(E.ty 30).k=.slice 13 from rfl,B2,show(E.ty 13).size=1 from rfl,show(E.ty 13).ag=false from rfl,hL,aF,hm]
 rw[if_pos ⟨trivial,by simp[y9w]⟩,bd (by simp),hs]
def tl1(r:List UInt8):List UInt8:=(tl0 r).set r.length 128
def zi8{r:List UInt8}(h:r.length<=128):(tl1 r).length=128:=by unfold tl1;rw[bq,zq1 h]
def rsl{h:List Obj}{r:List UInt8}(hr:r.length<=128):y3e E (h++[.cells ((tl1 r).map yd)]) 30 (.sl h.length 0 64 1 false true) (.int .i64 128)=some (.sl h.length 0 128 1 false true,h++[.cells ((tl1 r).map yd)]):=by
 have e:(h++[Obj.cells ((tl1 r).map yd)])[h.length]? = some (.cells ((tl1 r).map yd)):=by simp
 unfold y3e;simp only[show(E.ty 30).k=.slice 13 from rfl,e,show(E.ty 13).size=1 from rfl,aF,zi8 hr]
 rfl
def yll{q:Nat}:y13 E 30 (.sl q 0 64 1 false true) (some (.int .i64 56)) none none=some (.sl q 56 8 1 false false):=rfl
def yhk{q:Nat}:y13 E 30 (.sl q 0 128 1 false true) (some (.int .i64 120)) none none=some (.sl q 120 8 1 false false):=rfl
def zzf{q o l:Nat}{gr:Bool}(h:64<=l):y13 E 30 (.sl q o l 1 false gr) none (some (.int .i64 64)) none=some (.sl q o 64 1 false false):=by unfold y13;simp[bnd];omega
def zzd{q o l:Nat}{gr:Bool}(h:64<=l):y13 E 30 (.sl q o l 1 false gr) (some (.int .i64 64)) none none=some (.sl q (o+64) (l - 64) 1 false false):=by unfold y13;simp[bnd];omega
def rst(b:List UInt8)(k:Nat):List UInt8:=b.drop (64*k)
def ylr{b:List UInt8}{k:Nat}:rst b (k+1)=(rst b k).drop 64:=by unfold rst;rw[cx];rfl
def zil{b:List UInt8}{k:Nat}:(rst b k).length=b.length - 64*k:=by unfold rst;rw[er]
def za8{E:Env}{cP:Nat->List D->Option D}{env:List D}{hp:List Obj}{t a b c:Nat}{x y z:Xp}(h1:b ≠ a)(h2:c ≠ a)(h3:c ≠ b):xv E cP env hp (.n (.slice t (.t a) (some (.t b)) (some (.t c)) none) (.cons a x (.cons b y (.cons c z .nil))))=ob (xv E cP env hp x) fun u=>ob (xv E cP env hp y) fun v=>ob (xv E cP env hp z) fun w=>y13 E t u (some v) (some w) none:=by
 simp only[xv,xvs];cases xv E cP env hp x <;> try rfl
 cases xv E cP env hp y <;> try rfl
 cases xv E cP env hp z <;> try rfl
 simp only[yb,aq,Option.map_none,gOf,kv,zc,if_true,if_neg h1,if_neg h2,if_neg h3];exact z19
def y5t(v:List Wd):Nat->List UInt8
 | 0=>z32
 |i+1=>y7j (y5t v i) (4*i) 4 (v.getD i 0).toNat 4
def z43{v:List Wd}:∀{i:Nat},(y5t v i).length=32
 | 0=>rfl
 |i+1=>by rw[y5t,z6b,z43]
def y94(b:List UInt8):List UInt8:=
 if 55<(rst b (b.length / 64)).length then y5t (y5r (y7j (tl1 (rst b (b.length / 64))) 120 8 (b.length*8) 8) 2 (y5r b (b.length / 64) y9z)) 8
 else y5t (y5r (y7j (tl1 (rst b (b.length / 64))) 56 8 (b.length*8) 8) 1 (y5r b (b.length / 64) y9z)) 8
def z7v{H:List Obj}{m:List UInt8}(B:Bys H 0 m)(h:m.length=32):y1c E H 73 (.loc 0 0)=some (.agg (m.map yd)):=by
 have B2:H[0]? = some (.cells (m.map yd)):=B;have e:=z3g 32 0 (m.map yd) (by simp[h])
 unfold y1c;simp only[y14,B2,show(E.ty 73).size=32 from rfl,e]
 rfl
def zzc{i:Nat}(h:i<8):y13 E 73 (.loc 0 0) (some (.int .i64 (4*(i:Int)))) (some (.int .i64 (4*(i:Int)+4))) none=some (.sl 0 (4*i) 4 1 false false):=by
 have h0:(0:Int)<=4*(i:Int):=by omega
 have h1:(4*(i:Int)).toNat=4*i:=by omega
 have h2:(0:Int)<=4*(i:Int)+4:=by omega
 have h3:(4*(i:Int)+4).toNat=4*i+4:=by omega
 unfold y13;simp only[show(E.ty 73).k=.arr 32 13 from rfl,bnd,if_pos h0,if_pos h2,h1,h3,show(E.ty 13).size=1 from rfl]
 rw[if_pos ⟨by omega,by omega⟩]
 simp
def r364(b:List UInt8)(hb:b.length<=1000000000):yu E (dL E) 364 [dBy b]=some (yag (y94 b)):=by
 refine zg c364 (by simp) ?_
 conv in t364=>reduce;dsimp[ai]
 have hz:∀ x:List D,(D.agg (y9z.map dW)).cellsL=y9z.map dW:=fun _=>rfl
 simp[t364,n364,zpf,yem];refine zo (b.length / 64) (fun k env h=>∃(x5 x6 x7 x8 x9 x10 x11 x12 x13 x14 x15 x16 x17 x18 x19 x20 x21:D) ,env=[dBy b,.loc 0 0,.loc 1 0,.bfn 404 (.loc 1 0),.imm .none ((rst b k).map yd),x5,x6,x7,x8,x9,x10,x11,x12,x13,x14,x15,x16,x17,x18,x19,x20,x21]/\Bys h 0 z32/\Wds h 1 (y5r b k y9z)/\2<=h.length) 0 (by omega) ?_ ?_
 ·refine⟨_,_,_,_,_,_,_,_,_,_,_,_,_,_,_,_,_,rfl,?_,?_,by simp⟩
  ·rfl
  ·rfl
 rintro k env h hi ⟨x5,x6,x7,x8,x9,x10,x11,x12,x13,x14,x15,x16,x17,x18,x19,x20,x21,rfl,B,W,hl⟩
 by_cases hlt:k<b.length / 64
 ·have hrl:64<=(rst b k).length:=by rw[zil];omega
  have h64:(64:Int)<=(rst b k).length:=by omega
  have e1:=yds hrl;have e2:=ydt hrl;obtain⟨d,h2,e,rfl,w1,k1,l1⟩:=yln (st:=1) (hp:=h) (x:=.imm .none (((rst b k).take 64).map yd)) (b:=(rst b k).take 64) (s:=y5r b k y9z) (z5g rfl) (by rw[bc];omega) W (yft (by rw[bc];omega))
  have hs:rst b (k+1)=(rst b k).drop 64:=ylr;have hst:y5r b (k+1) y9z=y4d (y5r b k y9z) ((rst b k).take 64):=rfl;have B2:Bys h2 0 _:=k1.at (by omega) (by omega) B
  rw[<- hst]at w1;generalize hT:(rst b k).take 64=T at e2 e hst;generalize hD:(rst b k).drop 64=Dr at e1 hs;simp[h64,e1,e2,e,z2f,hs];exact⟨hlt,B2,w1,by omega⟩
 ·have:k=b.length / 64:=by omega
  subst this;have h64 : ¬ (64:Int)<=(rst b (b.length / 64)).length:=by rw[zil];omega
  have hr:(rst b (b.length / 64)).length<64:=by rw[zil];omega
  have hs1:55<(rst b (b.length / 64)).length->y94 b=y5t (y5r (y7j (tl1 (rst b (b.length / 64))) 120 8 (b.length*8) 8) 2 (y5r b (b.length / 64) y9z)) 8:=fun h=>by unfold y94;rw[if_pos h]
  have hs2 : ¬ 55<(rst b (b.length / 64)).length->y94 b=y5t (y5r (y7j (tl1 (rst b (b.length / 64))) 56 8 (b.length*8) 8) 1 (y5r b (b.length / 64) y9z)) 8:=fun h=>by unfold y94;rw[if_neg h]
  generalize hR:rst b (b.length / 64)=r at hr h64 hs1 hs2;have hS:(y5r b (b.length / 64) y9z).length=8:=z5g rfl;generalize y5r b (b.length / 64) y9z=S at W hS hs1 hs2;have c1:=ymq (H:=h++[Obj.cells (y9w.map yd)]) (id:=h.length) (r:=r) (by simp[Bys,At]) hr
  have c2:∀ o:Obj,(h++[Obj.cells (y9w.map yd)]).set h.length o=h++[o]:=fun o=>by simp
  rw[c2]at c1;have c3:∀ o:Obj,(h++[o])[h.length]? = some o:=fun o=>by simp
  have c4:∀ o o':Obj,(h++[o]).set h.length o'=h++[o']:=fun o o'=>by simp
  have hr':(r.length:Int)<64:=by omega
  have htl:=zq1 (r:=r) (by omega)
  have hr1:r.length+1<=128:=by omega
  have c5:(((tl0 r).map yd).set r.length (D.int .u8 128))=(tl1 r).map yd:=by unfold tl1;rw[iK];rfl
  have c6:=fun(h:List Obj)=>rsl (h:=h) (r:=r) (by omega)
  have hL:bL.wrap (b.length:Int)=b.length:=by rw[z2k];omega
  have hL8:bL.wrap ((b.length:Int)*8)=((b.length*8:Nat):Int):=by rw[z2k];omega
  have hL9:bL.wrap ((b.length:Int)*8)=(b.length:Int)*8:=by rw[z2k];omega
  have w56:aJ.wrap 56=56:=by decide
  have w120:aJ.wrap 120=120:=by decide
  simp[h64,ym6,c1,↓c3,↓c4,hr',htl,hr1,c5];have key:∀ n:Nat,n=64\/n=128->True:=fun _ _=>trivial
  split
  ·rename_i h55;obtain⟨d,h3,e3,rfl,rfl⟩:=yji (hp:=h++[Obj.cells ((tl1 r).map yd)]) (id:=h.length) (off:=120) (n:=8) (gr:=false) (m:=tl1 r) (b.length*8) (by omega) (by omega) (by unfold tl1;rw[bq,htl];omega) (by simp[Bys,At])
   rw[c4]at e3;simp at e3;simp[c6,yhk,hL,hL8,y49,e3,z48,w120];have hM:(y7j (tl1 r) 120 8 (b.length*8) 8).length=128:=by rw[z6b,zi8 (by omega)]
   generalize y7j (tl1 r) 120 8 (b.length*8) 8=M at *
   refine zo 2 (fun j env h'=>∃(x4 x6 x7 x8 x9 x10 x11 x12 x13 x14 x15 x16 x17 x18 x19 x20 x21:D) (gr:Bool),env=[dBy b,.loc 0 0,.loc 1 0,.bfn 404 (.loc 1 0),x4,.sl h.length (64*j) (128 - 64*j) 1 false gr,x6,x7,x8,x9,x10,x11,x12,x13,x14,x15,x16,x17,x18,x19,x20,x21]/\Bys h' 0 z32/\Wds h' 1 (y5r M j S)/\Bys h' h.length M/\h.length<h'.length) 0 (by omega) ?_ ?_
   ·exact⟨_,_,_,_,_,_,_,_,_,_,_,_,_,_,_,_,_,true,rfl,B.app,W.app,by simp[Bys,At],by simp⟩
   rintro j env h' hj ⟨x4,x6,x7,x8,x9,x10,x11,x12,x13,x14,x15,x16,x17,x18,x19,x20,x21,gr,rfl,B1,W1,B2,hl1⟩
   by_cases hlt:j<2
   ·obtain⟨o,ho⟩:∃ o,o=64*j:=⟨_,rfl⟩;obtain⟨l,hl⟩:∃ l,l=128 - o:=⟨_,rfl⟩;have hb:y5r M (j+1) S=y4d (y5r M j S) ((M.drop o).take 64):=by rw[ho];rfl
    obtain⟨d,h2,e,rfl,w1,k1,l1⟩:=yln (st:=1) (hp:=h') (x:=.sl h.length o 64 1 false false) (b:=(M.drop o).take 64) (s:=y5r M j S) (z5g hS) (by simp;omega) W1 (zzu B2 (by omega) (by omega) (by omega))
    rw[<- hb]at w1;have B1':Bys h2 0 z32:=k1.at (by omega) (by omega) B1
    have B2':Bys h2 h.length M:=k1.at (by omega) hl1 B2
    rw[<- ho,<- hl];have e1:=zzf (q:=h.length) (o:=o) (l:=l) (gr:=gr) (by omega)
    have e2:=zzd (q:=h.length) (o:=o) (l:=l) (gr:=gr) (by omega)
    have hpos:(0:Int)<l:=by omega
    have o1:64*(j+1)=o+64:=by omega
    have hpos':0<l:=by omega
    simp[hpos,hpos',e1,e2,e,z2f];exact⟨by omega,⟨by omega,by omega⟩,B1',w1,B2',by omega⟩
   ·have:j=2:=by omega
    subst this;have hSl:(y5r M 2 S).length=8:=z5g hS;have hsh:=hs1 (by omega)
    generalize y5r M 2 S=V at W1 hSl hsh;obtain⟨a0,a1,a2,a3,a4,a5,a6,a7,hV⟩:=yi2 hSl;have W2:h'[1]? = some (.cells (V.map dW)):=W1;rw[hV]at W2;simp at W2;simp[W2];rw[hsh];refine zo 8 (fun i env h3=>∃(x0 x2 x3 x4 x5 x6 x7 x8 x9 x10 x11 x12 x13 x14 x15 x16 x17 x20 x21:D) ,env=[x0,.loc 0 0,x2,x3,x4,x5,x6,x7,x8,x9,x10,x11,x12,x13,x14,x15,x16,x17,.agg [dW a0,dW a1,dW a2,dW a3,dW a4,dW a5,dW a6,dW a7],dI i,x20,x21]/\Bys h3 0 (y5t V i)) 0 (by omega) ?_ ?_
    ·exact⟨_,_,_,_,_,_,_,_,_,_,_,_,_,_,_,_,_,_,_,rfl,B1⟩
    rintro i env h3 hi ⟨x0,x2,x3,x4,x5,x6,x7,x8,x9,x10,x11,x12,x13,x14,x15,x16,x17,x20,x21,rfl,C⟩;have hidx:∀ i,i<8->([dW a0,dW a1,dW a2,dW a3,dW a4,dW a5,dW a6,dW a7]:List D)[i]? = some (dW (V.getD i 0)):=fun i hi=>by
     have e:([dW a0,dW a1,dW a2,dW a3,dW a4,dW a5,dW a6,dW a7]:List D)=V.map dW:=by rw[hV];rfl
     rw[e,ch,af,ac (by omega)];rfl
    by_cases hlt:i<8
    ·have hi8:(i:Int)<8:=by omega
     have hup:=ze hlt (by omega)
     have q1:aJ.wrap (4*(i:Int))=4*(i:Int):=za ⟨by omega,by omega⟩
     have q2:aJ.wrap (4*(i:Int)+4)=4*(i:Int)+4:=za ⟨by omega,by omega⟩
     have q3:=zzc hlt;have q4:bL.wrap ((V.getD i 0).toNat:Int)=(V.getD i 0).toNat:=by have:=yh4 (w:=V.getD i 0);rw[z2k];omega
     obtain⟨d,h4,e4,rfl,rfl⟩:=yji (hp:=h3) (id:=0) (off:=4*i) (n:=4) (gr:=false) (m:=y5t V i) (V.getD i 0).toNat (by have:=yh4 (w:=V.getD i 0);omega) (by omega) (by rw[z43];omega) C
     have hid:=hidx i hlt;have hst:y5t V (i+1)=y7j (y5t V i) (4*i) 4 (V.getD i 0).toNat 4:=rfl;have hc0:0<h3.length:=At.lt C;generalize V.getD i 0=w at hid q4 e4 hst;simp[hi8,hup,hid,q1,q2,q3,q4,e4,y49,z48,za8];refine⟨hlt,?_⟩;rw[hst];exact At.self hc0
    ·have:i=8:=by omega
     subst this;have l1:=z7v C z43;have hsc:setCells ((y5t V 8).map yd) 0 ((y5t V 8).map yd)=(y5t V 8).map yd:=zy rfl;have hss:h3.set 0 (.cells ((y5t V 8).map yd))=h3:=z7h C;have C2:h3[0]? = some (.cells ((y5t V 8).map yd)):=C;have hol:(y5t V 8).length=32:=z43;simp[l1,zp,C2,hsc,hss,hol]
     try trace_state
  ·rename_i h55;obtain⟨d,h3,e3,rfl,rfl⟩:=yji (hp:=h++[Obj.cells ((tl1 r).map yd)]) (id:=h.length) (off:=56) (n:=8) (gr:=false) (m:=tl1 r) (b.length*8) (by omega) (by omega) (by unfold tl1;rw[bq,htl];omega) (by simp[Bys,At])
   rw[c4]at e3;simp at e3;simp[yll,hL,hL8,y49,e3,z48,w56];have hM:(y7j (tl1 r) 56 8 (b.length*8) 8).length=128:=by rw[z6b,zi8 (by omega)]
   generalize y7j (tl1 r) 56 8 (b.length*8) 8=M at *
   refine zo 1 (fun j env h'=>∃(x4 x6 x7 x8 x9 x10 x11 x12 x13 x14 x15 x16 x17 x18 x19 x20 x21:D) (gr:Bool),env=[dBy b,.loc 0 0,.loc 1 0,.bfn 404 (.loc 1 0),x4,.sl h.length (64*j) (64 - 64*j) 1 false gr,x6,x7,x8,x9,x10,x11,x12,x13,x14,x15,x16,x17,x18,x19,x20,x21]/\Bys h' 0 z32/\Wds h' 1 (y5r M j S)/\Bys h' h.length M/\h.length<h'.length) 0 (by omega) ?_ ?_
   ·exact⟨_,_,_,_,_,_,_,_,_,_,_,_,_,_,_,_,_,true,rfl,B.app,W.app,by simp[Bys,At],by simp⟩
   rintro j env h' hj ⟨x4,x6,x7,x8,x9,x10,x11,x12,x13,x14,x15,x16,x17,x18,x19,x20,x21,gr,rfl,B1,W1,B2,hl1⟩
   by_cases hlt:j<1
   ·obtain⟨o,ho⟩:∃ o,o=64*j:=⟨_,rfl⟩;obtain⟨l,hl⟩:∃ l,l=64 - o:=⟨_,rfl⟩;have hb:y5r M (j+1) S=y4d (y5r M j S) ((M.drop o).take 64):=by rw[ho];rfl
    obtain⟨d,h2,e,rfl,w1,k1,l1⟩:=yln (st:=1) (hp:=h') (x:=.sl h.length o 64 1 false false) (b:=(M.drop o).take 64) (s:=y5r M j S) (z5g hS) (by simp;omega) W1 (zzu B2 (by omega) (by omega) (by omega))
    rw[<- hb]at w1;have B1':Bys h2 0 z32:=k1.at (by omega) (by omega) B1
    have B2':Bys h2 h.length M:=k1.at (by omega) hl1 B2
    rw[<- ho,<- hl];have e1:=zzf (q:=h.length) (o:=o) (l:=l) (gr:=gr) (by omega)
    have e2:=zzd (q:=h.length) (o:=o) (l:=l) (gr:=gr) (by omega)
    have hpos:(0:Int)<l:=by omega
    have o1:64*(j+1)=o+64:=by omega
    have hpos':0<l:=by omega
    simp[hpos,hpos',e1,e2,e,z2f];exact⟨by omega,⟨by omega,by omega⟩,B1',w1,B2',by omega⟩
   ·have:j=1:=by omega
    subst this;have hSl:(y5r M 1 S).length=8:=z5g hS;have hsh:=hs2 (by omega)
    generalize y5r M 1 S=V at W1 hSl hsh;obtain⟨a0,a1,a2,a3,a4,a5,a6,a7,hV⟩:=yi2 hSl;have W2:h'[1]? = some (.cells (V.map dW)):=W1;rw[hV]at W2;simp at W2;simp[W2];rw[hsh];refine zo 8 (fun i env h3=>∃(x0 x2 x3 x4 x5 x6 x7 x8 x9 x10 x11 x12 x13 x14 x15 x16 x17 x20 x21:D) ,env=[x0,.loc 0 0,x2,x3,x4,x5,x6,x7,x8,x9,x10,x11,x12,x13,x14,x15,x16,x17,.agg [dW a0,dW a1,dW a2,dW a3,dW a4,dW a5,dW a6,dW a7],dI i,x20,x21]/\Bys h3 0 (y5t V i)) 0 (by omega) ?_ ?_
    ·exact⟨_,_,_,_,_,_,_,_,_,_,_,_,_,_,_,_,_,_,_,rfl,B1⟩
    rintro i env h3 hi ⟨x0,x2,x3,x4,x5,x6,x7,x8,x9,x10,x11,x12,x13,x14,x15,x16,x17,x20,x21,rfl,C⟩;have hidx:∀ i,i<8->([dW a0,dW a1,dW a2,dW a3,dW a4,dW a5,dW a6,dW a7]:List D)[i]? = some (dW (V.getD i 0)):=fun i hi=>by
     have e:([dW a0,dW a1,dW a2,dW a3,dW a4,dW a5,dW a6,dW a7]:List D)=V.map dW:=by rw[hV];rfl
     rw[e,ch,af,ac (by omega)];rfl
    by_cases hlt:i<8
    ·have hi8:(i:Int)<8:=by omega
     have hup:=ze hlt (by omega)
     have q1:aJ.wrap (4*(i:Int))=4*(i:Int):=za ⟨by omega,by omega⟩
     have q2:aJ.wrap (4*(i:Int)+4)=4*(i:Int)+4:=za ⟨by omega,by omega⟩
     have q3:=zzc hlt;have q4:bL.wrap ((V.getD i 0).toNat:Int)=(V.getD i 0).toNat:=by have:=yh4 (w:=V.getD i 0);rw[z2k];omega
     obtain⟨d,h4,e4,rfl,rfl⟩:=yji (hp:=h3) (id:=0) (off:=4*i) (n:=4) (gr:=false) (m:=y5t V i) (V.getD i 0).toNat (by have:=yh4 (w:=V.getD i 0);omega) (by omega) (by rw[z43];omega) C
     have hid:=hidx i hlt;have hst:y5t V (i+1)=y7j (y5t V i) (4*i) 4 (V.getD i 0).toNat 4:=rfl;have hc0:0<h3.length:=At.lt C;generalize V.getD i 0=w at hid q4 e4 hst;simp[hi8,hup,hid,q1,q2,q3,q4,e4,y49,z48,za8];refine⟨hlt,?_⟩;rw[hst];exact At.self hc0
    ·have:i=8:=by omega
     subst this;have l1:=z7v C z43;have hsc:setCells ((y5t V 8).map yd) 0 ((y5t V 8).map yd)=(y5t V 8).map yd:=zy rfl;have hss:h3.set 0 (.cells ((y5t V 8).map yd))=h3:=z7h C;have C2:h3[0]? = some (.cells ((y5t V 8).map yd)):=C;have hol:(y5t V 8).length=32:=z43;simp[l1,zp,C2,hsc,hss,hol]
     try trace_state
def s384(n:Int)(h:0<=n)(h':n<=1000000000)(hp:List Obj):y1j E (dL E) (384) [.imm .exact [],dI n] hp=some (.imm (.tok hp.length) [],hp++[.tok 0 1]):=by
 have e:E.fn (384)=some f384:=rfl;have e2:E.mp 384=false:=rfl;have e3 : ¬ n<0:=by omega
 have e4:n*2<=yg:=by unfold yg;omega
 have e5:y2k 1 []=true:=rfl;unfold y1j;simp only[e,e2,f384,yp,z9h,z5z,zhm,z5d,z6s,y2s];simp[yi,yf,yn,y2i,DOp.fin,yo,yb,yq,gOf,z6s,y29,y6c,y3b,y1q,y3a,y2x,y7l,y3h,y1b,yk,y2e,z5d,z8v,yy,e3,e4,e5,h,y38]
def y90(ls:List (List UInt8))(i:Nat):List UInt8:=(ls.take i).flatten
def zzr{ls:List (List UInt8)}{i:Nat}(h:i<ls.length):y90 ls (i+1)=y90 ls i++ls[i]:=by unfold y90;rw[aN h,kZ];simp
def zu0{ls:List (List UInt8)}{i:Nat}:(y90 ls i).length<=(y90 ls ls.length).length:=by
 have h:ls.flatten=(ls.take i).flatten++(ls.drop i).flatten:=by rw[<- kZ,bV]
 unfold y90;rw[bh,h,ao];omega
def r365(ls:List (List UInt8))(h1:(y90 ls ls.length).length<=1000000000)(h2:ls.length<=1000000000):yu E (dL E) 365 [.imm .none (ls.map fun l=>.imm .none (l.map yd))]=some (.imm .none ((y90 ls ls.length).map yd)):=by
 refine zg c365 (by simp) ?_
 conv in t365=>reduce;dsimp[ai]
 simp[t365,n365];refine zo ls.length (fun i env h=>∃(x1 x3 x4 x5 x9 x10 x11 x12 x13 x14 x15 x16:D) (m:Nat),env=[.imm .none (ls.map fun l=>.imm .none (l.map yd)),x1,dI m,x3,x4,x5,.imm .none (ls.map fun l=>.imm .none (l.map yd)),dI ls.length,dI i,x9,x10,x11,x12,x13,x14,x15,x16]/\h=[]/\m=(y90 ls i).length) 0 (by omega) ⟨_,_,_,_,_,_,_,_,_,_,_,_,0,rfl,rfl,rfl⟩ ?_
 rintro i env h hi ⟨x1,x3,x4,x5,x9,x10,x11,x12,x13,x14,x15,x16,m,rfl,rfl,hm⟩
 by_cases hlt:i<ls.length
 ·have hs:=zzr hlt;have hb:=zu0 (ls:=ls) (i:=i+1);obtain⟨W,hW⟩:∃ W,ls[i]=W:=⟨_,rfl⟩;rw[hW]at hs;rw[hs,ao]at hb;have w:=za (n:=(m:Int)+W.length) ⟨by omega,by omega⟩
  have hn : ¬ (m:Int)+W.length<0:=by omega
  rw[hm]at w hn;simp[hlt,hW,w,hn,ze hlt (by omega),hs,hm]
 ·have:i=ls.length:=by omega
  subst this;have e:=s384 (m:Int) (by omega) (by omega) []
  have fb:∀ l:List UInt8,((l.map yd).all fun d=>d.storable && d.cellsL.length == 1)=true:=fun l=>z8r
  simp[e];refine zo ls.length (fun i env h=>∃(x1 x2 x3 x5 x6 x7 x8 x9 x10 x11 x15 x16:D) (k:Nat),env=[.imm .none (ls.map fun l=>.imm .none (l.map yd)),x1,x2,x3,.imm (.tok k) ((y90 ls i).map yd),x5,x6,x7,x8,x9,x10,x11,.imm .none (ls.map fun l=>.imm .none (l.map yd)),dI ls.length,dI i,x15,x16]/\At h k (.tok ((y90 ls i).length*1) 1)) 0 (by omega) ⟨_,_,_,_,_,_,_,_,_,_,_,_,0,rfl,rfl⟩ ?_
  clear hi hm e;rintro i env h hi ⟨x1,x2,x3,x5,x6,x7,x8,x9,x10,x11,x15,x16,k,rfl,a1⟩
  by_cases hlt:i<ls.length
  ·have hs:=zzr hlt;have hb:=zu0 (ls:=ls) (i:=i+1);obtain⟨W,hW⟩:∃ W,ls[i]=W:=⟨_,rfl⟩;obtain⟨C,hC⟩:∃ C,y90 ls i=C:=⟨_,rfl⟩;obtain⟨C',hC'⟩:∃ C,y90 ls (i+1)=C:=⟨_,rfl⟩;rw[hW,hC,hC']at hs;rw[hC',hs,ao]at hb;have hap:=z21 (l:=C) (new:=W.map yd) (by rw[aF];omega)
   rw[hC]at a1 ⊢;have hcat:C.map yd++W.map yd=C'.map yd:=by rw[hs];simp
   have hlen:C'.length=C.length+W.length:=by rw[hs];simp
   simp[hlt,hW,zq,z14,a1.eq,hap,fb,ze hlt (by omega),↓hC']
   have hg:=z1o (hp:=h.set k Obj.dead) (r:=[Obj.tok (C.length+W.length) 1]) (k:=0);rw[bq,Nat.add_zero]at hg
   repeat apply Exists.intro
   refine⟨?_,hg.trans (by rw[hlen];rfl)⟩
   and_intros <;> first | rfl | exact hcat
  ·have:i=ls.length:=by omega
   subst this;simp[zp]
def yhl(a b:List UInt8)(h:a.length+b.length<=1000000000):yu E (dL E) 365 [.imm .none [dBy a,dBy b]]=some (dBy (a++b)):=by
 have e:=r365 [a,b] (by simp[y90];omega) (by simp)
 rw[show y90 [a,b] [a,b].length=a++b from by simp[y90]]at e
 exact e
def z3z{b:List UInt8}:(y94 b).length=32:=by unfold y94;split <;> exact z43
def tgB:List UInt8->List UInt8->List UInt8:=fun t b=>y94 (y94 t++b)
def zbg{H:List Obj}{n:Nat}:∀(l:List UInt8),(l.map yd).flatMap (ids H (n+1))=[]
 |[]=>rfl
 |c::l=>by rw[al,bm,zbg l];rfl
def yf3{A:Obj}{T b:List UInt8}(hl:T.length=32):ids [A,.cells (T.map yd)] 12 (.imm .exact [.sl 1 0 32 1 false false,dBy b])=[1]:=by
 have h1:ids [A,.cells (T.map yd)] 11 (.sl 1 0 32 1 false false)=[1]:=by
  show 1::(((T.map yd).drop 0).take (32*1)).flatMap (ids [A,.cells (T.map yd)] 10)=[1]
  rw[dz,bd (by simp[hl]),zbg]
 have h2:ids [A,.cells (T.map yd)] 11 (dBy b)=[]:=by
  show(b.map yd).flatMap (ids [A,.cells (T.map yd)] 10)=[]
  exact zbg b
 show[D.sl 1 0 32 1 false false,dBy b].flatMap (ids [A,.cells (T.map yd)] 11)=[1]
 rw[bm,bm,h1,h2];rfl
def zx3{A:Obj}{cs:List D}:y11 [A,.cells cs] [1]=[A,.frozen cs]:=rfl
def ylw(t b:List UInt8)(ht:t.length<=1000)(hb:b.length<=900000000):yu E (dL E) 331 [.str t,dBy b]=some (yag (tgB t b)):=by
 have e1:=r364 t (by omega)
 have e2:=yhl (y94 t) b (by rw[z3z];omega)
 have e3:=r364 (y94 t++b) (by rw[ao,z3z];omega)
 have hl:=z3z (b:=t);refine zg c331 (by simp) ?_
 conv in t331=>reduce;dsimp[ai]
 have hl3:=z3z (b:=y94 t++b);unfold tgB;generalize y94 t=T at e1 e2 e3 hl hl3 ⊢;generalize y94 (T++b)=U at e3 hl3 ⊢;have hsl:y13 E 73 (.loc 1 0) none none none=some (.sl 1 0 32 1 false false):=rfl;have hsc:setCells (z32.map yd) 0 (T.map yd)=T.map yd:=zy (by rw[aF,aF,hl];rfl)
 have hz:z32.map yd=ah 32 (D.int .u8 0):=by unfold z32;rw[fe];rfl
 rw[hz]at hsc;simp only[ah]at hsc;have hck:y31 1 false 32 (T.map yd)=some (T.map yd):=by rw[z75 32 T (by omega),bd (by omega)]
 have hsc2:setCells (z32.map yd) 0 (U.map yd)=U.map yd:=zy (by rw[aF,aF,hl3];rfl)
 rw[hz]at hsc2;simp only[ah]at hsc2;have hfa:y1k (frz [] 11) (T.map yd++b.map yd)=some (T.map yd++b.map yd):=by rw[<- bp];exact zp
 have e3':yu E (dL E) 364 [.imm .none (T.map yd++b.map yd)]=some (yag U):=by rw[<- bp];exact e3
 have hid:=fun A:Obj=>yf3 (A:=A) (b:=b) hl
 have hld:∀ A:Obj,y1c E [.cells (U.map yd),A] 73 (.loc 0 0)=some (.agg (U.map yd)):=fun A=>z7v rfl hl3
 simp[t331,n331,e1,e2,e3',zp,hl,hl3,hsl,↓hsc,↓hsc2,hck,hfa,↓hid,zx3,↓hld]
def r335(a b:List UInt8)(ha:a.length=32)(hb:b.length=32):yu E (dL E) 335 [yag a,yag b]=some (yag (tgB [99,104,97,105,110] (a++b))):=by
 have e1:=yhl a b (by omega)
 have e2:=ylw [99,104,97,105,110] (a++b) (by simp) (by simp;omega)
 have hl:(tgB [99,104,97,105,110] (a++b)).length=32:=z3z;have s1:=zan ha;have s2:=zan hb;refine zg c335 (by simp) ?_
 conv in t335=>reduce;dsimp[ai]
 generalize tgB [99,104,97,105,110] (a++b)=U at e2 hl ⊢;have e2':yu E (dL E) 331 [.str [99,104,97,105,110],.imm .none (a.map yd++b.map yd)]=some (yag U):=by rw[<- bp];exact e2
 have hfa:y1k (frz [] 11) (a.map yd++b.map yd)=some (a.map yd++b.map yd):=by rw[<- bp];exact zp
 have hsc2:setCells (z32.map yd) 0 (U.map yd)=U.map yd:=zy (by rw[aF,aF,hl];rfl)
 have hz:z32.map yd=ah 32 (D.int .u8 0):=by unfold z32;rw[fe];rfl
 rw[hz]at hsc2;simp only[ah]at hsc2;have hld:∀ r:List Obj,y1c E (.cells (U.map yd)::r) 73 (.loc 0 0)=some (.agg (U.map yd)):=fun r=>z7v rfl hl
 have hfz:frz [] 11 (.str [99,104,97,105,110])=some (.str [99,104,97,105,110]):=rfl;have hfz2:frz [] 12 (.str [99,104,97,105,110])=some (.str [99,104,97,105,110]):=rfl;simp[t335,n335,e1,e2',zp,ha,hb,hl,s1,s2,↓hsc2,hfa,↓hld,hfz,hfz2]
abbrev pC(p:Pst):List D:=dI p.no::dI p.minute::dI p.corrects :: .imm .none (p.ents.map y2v)::p.prev.map yd
def zrq{h:List Obj}{p:Pst}(h32:p.prev.length=32):y1c E h 71 (.iptr (pC p))=some (y56 p):=zsa h32
def yen{h r:List Obj}{p:Pst}(h32:p.prev.length=32):y1c E (h ++ .cells (pC p)::r) 71 (.loc h.length 0)=some (y56 p):=by
 have e:=z3g 36 0 (pC p) (by simp[h32])
 have e2:(h++Obj.cells (pC p)::r)[h.length]? = some (.cells (pC p)):=by simp
 unfold y1c;simp only[e2,show(E.ty 71).size=36 from rfl,e]
 rfl
def stP{p:Pst}(h32:p.prev.length=32):setCells (dI p.no::dI p.minute::dI p.corrects :: .imm .none (p.ents.map y2v)::ah 32 (D.int .u8 0)) 4 (p.prev.map yd)=pC p:=by
 have e:=z15 (a:=[dI p.no,dI p.minute,dI p.corrects,.imm .none (p.ents.map y2v)]) (b:=ah 32 (D.int .u8 0)) (off:=0) (vs:=p.prev.map yd);rw[zy (by simp[h32])]at e
 exact e
def y9t(l:List Pst):Prop:=l.length<=1000000 /\ ∀ p,p ∈ l->p.prev.length=32/\p.ents.length<=1000000
open Classical in
noncomputable def rdD(l:List Pst):D:=.tup [yag (if rdE tgB l=0 then y6s tgB l else z32),dI (rdE tgB l)]
def z8t:∀{a b:List Pst},y35 a=0->y35 (a++b)=y35 b
 |[],b,_=>rfl
 |p::a,b,h=>by
  simp only[y35,aG]at h ⊢;split at h
  ·rename_i hp;rw[if_pos hp];exact z8t h
  ·rename_i hp;exact absurd h hp
def zt6{l:List Pst}{i:Nat}(h:i<l.length)(h0:y35 (l.take i)=0)(hp:y6z l[i] ≠ 0):y35 l=y6z l[i]:=by
 have e:l=l.take i++l.drop i:=(bV i l).symm;have e2:y35 l=y35 (l.drop i):=by
  conv=>lhs;rw[e]
  exact z8t h0
 rw[e2,ce h,y35,if_neg hp]
def zxa{l:List Pst}{i:Nat}(h:i<l.length)(h0:y35 (l.take i)=0)(hp:y6z l[i]=0):y35 (l.take (i+1))=0:=by rw[aN h,z8t h0,y35,if_pos hp];rfl
def zrp{H:List Obj}{q:Nat}{m:List UInt8}(B:Bys H q m)(h:m.length=32):y1c E H 73 (.loc q 0)=some (.agg (m.map yd)):=by
 have B2:H[q]? = some (.cells (m.map yd)):=B;have e:=z3g 32 0 (m.map yd) (by simp[h])
 unfold y1c;simp only[y14,B2,show(E.ty 73).size=32 from rfl,e]
 rfl
def zhl:∀{a b:List UInt8},a.length=b.length->eqL (a.map yd) (b.map yd)=some (decide (a=b))
 |[],[],_=>rfl
 |x::a,y::b,h=>by
  have ih:=zhl (a:=a) (b:=b) (by simpa using h)
  have e:y2a (yd x) (yd y)=some (((x.toNat:Int)) == (y.toNat:Int)):=by unfold y2a yd;simp
  rw[al,al,eqL,e,ih];simp only[aa]
  by_cases hxy:x=y
  ·subst hxy;simp
  ·have : ¬ ((x.toNat:Int))=(y.toNat:Int):=fun h=>hxy (UInt8.toNat_inj.1 (by omega))
   simp[hxy,this]
 |[],_::_,h=>by simp at h
 |_::_,[],h=>by simp at h
def zba:∀{a:List UInt8},y24 (a.map yd) (ah a.length (D.int .u8 0))=true
 |[]=>rfl
 |x::a=>by rw[al,ar,List.replicate_succ];simp only[y24,yd,decide_true,Bool.true_and];exact zba
def yed{a b:List UInt8}(ha:a.length=32)(hb:b.length=32):y3h E .neq 73 (.agg (a.map yd)) (.agg (b.map yd))=some (.bool (!decide (a=b))):=by
 have h1:(E.ty 73).eqc=true:=rfl;have h2:(E.ty 73).zero=ah a.length (D.int .u8 0):=by rw[ha];rfl
 unfold y3h;simp only[];rw[if_pos ⟨h1,by rw[h2];exact zba⟩,zhl (by rw[ha,hb])]
def ym8{h r:List Obj}{p:Pst}(h32:p.prev.length=32):y1c E (h ++ .cells (pC p)::r) 73 (.loc h.length 4)=some (.agg (p.prev.map yd)):=by
 have e:=z3g 32 4 (pC p) (by simp[h32])
 have e2:(h++Obj.cells (pC p)::r)[h.length]? = some (.cells (pC p)):=by simp
 unfold y1c;simp only[e2,show(E.ty 73).size=32 from rfl,e]
 rfl
def y7w:∀{l:List Pst},(y6s tgB l).length=32:=by
 intro l;unfold y6s;rcases List.eq_nil_or_concat l with e | ⟨a,b,e⟩
 ·rw[e];show(tgB y5n []).length=32
  exact z3z
 ·rw[e,List.concat_eq_append,List.foldl_append];exact(show(y94 _).length=32 from z3z)
def r354(l:List Pst)(h:y9t l):yu E (dL E) 354 [y1t l]=some (rdD l):=by
 refine zg c354 (by simp) ?_
 conv in t354=>reduce;dsimp[ai]
 obtain⟨hl,hp⟩:=h
 by_cases hlen:65536<l.length
 ·have hE:rdE tgB l=2:=by unfold rdE;rw[if_pos hlen]
  unfold rdD;rw[hE,if_neg (by decide)]
  have hln:(65536:Int)<l.length:=by omega
  simp[t354,n354,hln]
  rfl
 ·have hln : ¬ (65536:Int)<l.length:=by omega
  simp[t354,n354,hln];refine zo l.length (fun i env h=>∃(x2 x3 x4 x5 x6 x7 x8 x9 x13 x14 x15 x16 x17 x18 x19 x20 x21 x22 x23:D) ,env=[y1t l,.loc 0 0,x2,x3,x4,x5,x6,x7,x8,x9,y1t l,dI l.length,dI i,x13,x14,x15,x16,x17,x18,x19,x20,x21,x22,x23]/\Bys h 0 z32/\y35 (l.take i)=0) 0 (by omega) ?_ ?_
  ·exact⟨_,_,_,_,_,_,_,_,_,_,_,_,_,_,_,_,_,_,_,rfl,rfl,rfl⟩
  rintro i env h hi ⟨x2,x3,x4,x5,x6,x7,x8,x9,x13,x14,x15,x16,x17,x18,x19,x20,x21,x22,x23,rfl,B,F⟩
  by_cases hlt:i<l.length
  ·obtain⟨p,hpi⟩:∃ p,p=l[i]:=⟨_,rfl⟩;have hp2:=hp p (by rw[hpi];exact av hlt)
   have h355:=ylu p hp2.1 hp2.2;have hup:=ze hlt (by omega)
   have hli:l[i]? = some p:=by rw[hpi];simp[hlt]
   have q1:=fun h:List Obj=>zrq (h:=h) hp2.1
   have q2:=fun h:List Obj=>yen (h:=h) (r:=[]) hp2.1
   have q3:=stP hp2.1;have z1:∀ r:List Obj,y1c E (h++r) 73 (.loc 0 0)=some (.agg (z32.map yd)):=fun r=>z7v B.app rfl
   have z2:∀ r:List Obj,(h++r)[0]? = some (.cells (z32.map yd)):=fun r=>B.app
   have z3:setCells (z32.map yd) 0 (z32.map yd)=z32.map yd:=zy rfl;have z4:∀ r:List Obj,(h++r).set 0 (.cells (z32.map yd))=h++r:=fun r=>z7h B.app
   have z5:z32.length=32:=rfl;simp only[ah]at q3;simp[hlt,hup,<- hpi,hp2.1,↓q1,↓q2,↓q3,z3b,zp,h355,↓z1,↓z2,z3,↓z4,z5]
   by_cases hpc:y6z p=0
   ·rw[if_pos hpc];exact⟨B.app,zxa hlt F (by rw[<- hpi];exact hpc)⟩
   ·rw[if_neg hpc];have hf:=zt6 hlt F (by rw[<- hpi];exact hpc)
    rw[<- hpi]at hf;have hE:rdE tgB l=y6z p:=by unfold rdE;rw[if_neg hlen,if_pos (by rw[hf];exact hpc),hf]
    unfold rdD;rw[hE,if_neg hpc]
  ·have:i=l.length:=by omega
   subst this;rw[bh]at F;have z1:∀ r:List Obj,y1c E (h++r) 73 (.loc 0 0)=some (.agg (z32.map yd)):=fun r=>z7v B.app rfl
   have e331:=ylw y5n [] (by decide) (by simp)
   have hT:tgB y5n []=y7h tgB:=rfl;rw[hT]at e331;have hTl:(y7h tgB).length=32:=y7w (l:=[]);have hd0:y7h tgB=y6s tgB (l.take 0):=by rw[List.take_zero];rfl
   have e331:yu E (dL E) 331 [.str [112,111,115,116,105,110,103,115],.imm .none []]=some (yag (y7h tgB)):=e331;generalize y7h tgB=d0 at e331 hTl hd0;have hsc2:setCells (z32.map yd) 0 (d0.map yd)=d0.map yd:=zy (by rw[aF,aF,hTl];rfl)
   have hz:z32.map yd=ah 32 (D.int .u8 0):=by unfold z32;rw[fe];rfl
   rw[hz]at hsc2;simp only[ah]at hsc2;have hst:∀ n s,frz [] (n+1) (.str s)=some (.str s):=fun _ _=>rfl
   simp[e331,hTl,↓hsc2,hst];obtain⟨C,hC⟩:∃ C,C=h.length:=⟨_,rfl⟩;have hC0:0<C:=by rw[hC];exact At.lt B
   refine zo l.length (fun i env h'=>∃(x2 x3 x4 x6 x7 x8 x9 x10 x11 x12 x13 x14 x15 x19 x20 x21 x22 x23:D) ,env=[y1t l,.loc 0 0,x2,x3,x4,.loc C 0,x6,x7,x8,x9,x10,x11,x12,x13,x14,x15,y1t l,dI l.length,dI i,x19,x20,x21,x22,x23]/\Bys h' 0 z32/\Bys h' C (y6s tgB (l.take i)) /\ ∀ j p,j<i->l[j]? = some p->atP tgB l j p) 0 (by omega) ?_ ?_
   ·rw[<- hC];exact⟨_,_,_,_,_,_,_,_,_,_,_,_,_,_,_,_,_,_,rfl,B.app,by rw[<- hd0,hC];simp[Bys,At],fun j p hj=>absurd hj (by omega)⟩
   rintro i env h' hi ⟨x2,x3,x4,x6,x7,x8,x9,x10,x11,x12,x13,x14,x15,x19,x20,x21,x22,x23,rfl,B0,BC,V⟩
   by_cases hlt:i<l.length
   ·obtain⟨p,hpi⟩:∃ p,p=l[i]:=⟨_,rfl⟩;have hp2:=hp p (by rw[hpi];exact av hlt)
    have h334:=r334 p hp2.1 hp2.2;have hgp:gdP p:=z5c.1 F p (by rw[hpi];exact av hlt)
    unfold ymj at h334;rw[if_pos (z4j.2 hgp)]at h334;have hup:=ze hlt (by omega)
    have hli:l[i]? = some p:=by rw[hpi];simp[hlt]
    have q1:=fun h:List Obj=>zrq (h:=h) hp2.1
    have q2:=fun r:List Obj=>yen (h:=h') (r:=r) hp2.1
    have q3:=stP hp2.1;have q4:=fun r:List Obj=>ym8 (h:=h') (r:=r) hp2.1
    have z1:∀ r:List Obj,y1c E (h'++r) 73 (.loc 0 0)=some (.agg (z32.map yd)):=fun r=>z7v B0.app rfl
    have z2:∀ r:List Obj,(h'++r)[0]? = some (.cells (z32.map yd)):=fun r=>B0.app
    have z3:setCells (z32.map yd) 0 (z32.map yd)=z32.map yd:=zy rfl;have z4:∀ r:List Obj,(h'++r).set 0 (.cells (z32.map yd))=h'++r:=fun r=>z7h B0.app
    have z5:z32.length=32:=rfl;obtain⟨Z,hZ⟩:∃ Z,Z=y6s tgB (l.take i):=⟨_,rfl⟩;rw[<- hZ]at BC;have hZ32:Z.length=32:=by rw[hZ];exact y7w
    have y1:∀ r:List Obj,y1c E (h'++r) 73 (.loc C 0)=some (.agg (Z.map yd)):=fun r=>zrp BC.app hZ32
    have y2:∀ r:List Obj,(h'++r)[C]? = some (.cells (Z.map yd)):=fun r=>BC.app
    have y3:=yed hp2.1 hZ32;have y1':∀ r r2:List Obj,y1c E (h'++r++r2) 73 (.loc C 0)=some (.agg (Z.map yd)):=fun r r2=>by rw[bi];exact y1 _
    have q4':∀ r:List Obj,y1c E (h'++[.cells (pC p)]++r) 73 (.loc h'.length 4)=some (.agg (p.prev.map yd)):=fun r=>by rw[bi];exact q4 _
    have q2':∀ r:List Obj,y1c E (h'++[.cells (pC p)]++r) 71 (.loc h'.length 0)=some (y56 p):=fun r=>by rw[bi];exact q2 _
    simp only[ah]at q3;have hen:(ya7 p).length<=900000000:=by
     have:=zlz (zsd hgp.fm) hp2.2 (by omega)
     omega
    have e331p:=ylw y4c (ya7 p) (by decide) hen
    have hT32:(tgB y4c (ya7 p)).length=32:=z3z;have e335:=r335 Z (tgB y4c (ya7 p)) hZ32 hT32;have hN:tgB [99,104,97,105,110] (Z++tgB y4c (ya7 p))=y6s tgB (l.take (i+1)):=by rw[ztl hlt,<- hZ,<- hpi];rfl
    rw[hN]at e335;have e331p:yu E (dL E) 331 [.str [112,111,115,116,105,110,103],dBy (ya7 p)]=some (yag (tgB y4c (ya7 p))):=e331p;generalize tgB y4c (ya7 p)=Tp at e331p e335 hT32 hN;clear hN;have hN32:=y7w (l:=l.take (i+1));obtain⟨N,hNe⟩:∃ N,N=y6s tgB (l.take (i+1)):=⟨_,rfl⟩;rw[<- hNe]at e335 hN32;have y5:setCells (Z.map yd) 0 (N.map yd)=N.map yd:=zy (by rw[aF,aF,hZ32,hN32])
    have y6:∀ r:List Obj,(h'++r).set C (.cells (N.map yd))=h'.set C (.cells (N.map yd))++r:=fun r=>z1d (At.lt BC)
    have fin:∀ r:List Obj,Bys (h'.set C (.cells (N.map yd))++r) 0 z32/\Bys (h'.set C (.cells (N.map yd))++r) C (y6s tgB (l.take (i+1)))/\(p.no=i->p.prev=Z->(∀ q,0<i->l[i - 1]? = some q->q.minute<=p.minute)->∀ j p,j<i+1->l[j]? = some p->atP tgB l j p):=by
     intro r;refine⟨(At.ne B0 (by omega)).app,by rw[<- hNe];exact(At.self (At.lt BC)).app,fun h1 h2 h3 j p' hj hp'=>?_⟩
     by_cases hji:j<i
     ·exact V j p' hji hp'
     ·have:j=i:=by omega
      subst this;rw[hli]at hp';cases hp';exact⟨h1,by rw[h2,hZ],fun k q hk hq=>h3 q (by omega) (by rw[show j - 1=k from by omega];exact hq)⟩
    have bad:(¬ p.no=i\/(∃ q,l[i - 1]? = some q/\0<i/\p.minute<q.minute) \/ ¬ p.prev=Z)->rdD l=.tup [yag z32,dI 410]:=by
     intro hb;have hv : ¬ vld tgB l:=by
      intro v;have a:=v.2.2 i p hli;rcases hb with h1 | ⟨q,h1,h2,h3⟩ | h1
      ·exact h1 a.no
      ·have:=a.minute (i - 1) q (by omega) h1
       omega
      ·exact h1 (by rw[hZ];exact a.prev)
     have hE:rdE tgB l=410:=by unfold rdE;rw[if_neg hlen,if_neg (by simp[F]),if_neg hv]
     unfold rdD;rw[hE,if_neg (by decide)]
    by_cases hno:p.no=(i:Int)
    ·have hno':=eq_true hno;have hst2:(0<i /\ ∃ q,l[i - 1]? = some q/\q.prev.length=32)\/i=0:=by
      rcases eu i with h0 | h0
      ·exact .inr h0
      ·exact .inl ⟨h0,l[i - 1],ac (by omega),(hp _ (av _)).1⟩
     have hw1:0<i->aJ.wrap ((i:Int) - 1)=((i - 1:Nat):Int):=fun h0=>by rw[za ⟨by omega,by omega⟩];omega
     by_cases hpv:p.prev=Z
     ·have hpv':=eq_true hpv;rcases hst2 with⟨h0,q,hq,hq32⟩ | h0
      ·by_cases hm:p.minute<q.minute
       ·rw[bad (.inr (.inl ⟨q,hq,h0,hm⟩))];simp[hlt,<- hpi,hp2.1,↓q1,↓q3,↓q4,↓q4',↓q2,↓q2',↓y1,↓y1',y3,hno',h0,hw1 h0,hq,hq32,hm,↓z1,↓z2,z3,↓z4,z5,zp]
       ·simp[hlt,<- hpi,hp2.1,↓q1,↓q3,↓q4,↓q4',↓q2,↓q2',↓y1,↓y1',y3,hno',h0,hw1 h0,hq,hq32,hm,hpv',hup,h334,z3b,zp,hst,e331p,e335,hT32,hZ32,hN32,y5,↓y2,↓y6];exact⟨(fin _).1,(fin _).2.1,(fin []).2.2 hno hpv fun q' _ hq'=>by rw[hq]at hq';cases hq';omega⟩
      ·have h0' : ¬ 0<i:=by omega
       simp[h0',hlt,<- hpi,hp2.1,↓q1,↓q3,↓q4,↓q4',↓q2,↓q2',↓y1,↓y1',y3,hno',hpv',hup,h334,z3b,zp,hst,e331p,e335,hT32,hZ32,hN32,y5,↓y2,↓y6];exact⟨(fin _).1,(fin _).2.1,(fin []).2.2 hno hpv fun q' h0 _=>absurd h0 h0'⟩
     ·rw[bad (.inr (.inr hpv))];rcases hst2 with⟨h0,q,hq,hq32⟩ | h0
      ·by_cases hm:p.minute<q.minute
       ·simp[hlt,<- hpi,hp2.1,↓q1,↓q3,↓q4,↓q4',↓q2,↓q2',↓y1,↓y1',y3,hno',h0,hw1 h0,hq,hq32,hm,↓z1,↓z2,z3,↓z4,z5,zp]
       ·simp[hlt,<- hpi,hp2.1,↓q1,↓q3,↓q4,↓q4',↓q2,↓q2',↓y1,↓y1',y3,hno',h0,hw1 h0,hq,hq32,hm,hpv,↓z1,↓z2,z3,↓z4,z5,zp]
      ·have h0' : ¬ 0<i:=by omega
       simp[h0',hlt,<- hpi,hp2.1,↓q1,↓q3,↓q4,↓q4',↓q2,↓q2',↓y1,↓y1',y3,hno',hpv,↓z1,↓z2,z3,↓z4,z5,zp]
    ·rw[bad (.inl hno)];simp[hlt,<- hpi,hp2.1,↓q1,↓q3,↓q4,↓q4',↓q2,↓q2',↓y1,↓y1',y3,hno,↓z1,↓z2,z3,↓z4,z5,zp]
   ·have:i=l.length:=by omega
    subst this;rw[bh]at BC;have hv:vld tgB l:=⟨by omega,fun p hp=>z5c.1 F p hp,fun i p hi=>V i p (ae.1 hi).1 hi⟩
    have hE:rdE tgB l=0:=z27.2 hv;have y1:=zrp BC y7w;have z2:h'[0]? = some (.cells (z32.map yd)):=B0;have y4:setCells (z32.map yd) 0 ((y6s tgB l).map yd)=(y6s tgB l).map yd:=zy (by rw[aF,aF,y7w];rfl)
    have hl0:0<h'.length:=At.lt B0;have y5:Bys (h'.set 0 (.cells ((y6s tgB l).map yd))) 0 (y6s tgB l):=At.self hl0;have y6:=z7v y5 y7w;have hD:rdD l=.tup [yag (y6s tgB l),dI 0]:=by unfold rdD;rw[hE,if_pos rfl]
    have d32:=y7w (l:=l);rw[hD];have z5:z32.length=32:=rfl;simp[y1,z2,y4,↓y6,d32,z5,zp]
def z7e:∀(a b:List D) (k:Nat) (pre:List D),pre.length=k->y2d (pre++a++b) k a.length=some a
 |[],b,k,pre,h=>rfl
 |x::a,b,k,pre,h=>by
  have ih:=z7e a b (k+1) (pre++[x]) (by simp[h])
  have hx:(pre++(x::a)++b)[k]? = some x:=by rw[bi,aH (by omega),h,fE];rfl
  rw[ar,y2d,hx];have e:pre++[x]++a++b=pre++x::a++b:=by simp
  rw[e]at ih;rw[ih]
def zdp{sz:Nat}:∀(els:List D),(∀ x,x ∈ els->x.cellsL.length=sz/\ym true x.cellsL=some x)->y31 sz true els.length (yr els)=some els
 |[],_=>rfl
 |x::els,h=>by
  obtain⟨h1,h2⟩:=h x (by simp)
  have ih:=zdp els fun y hy=>h y (by simp[hy])
  have ht:=z7e x.cellsL (yr els) 0 [] rfl;rw[bn,h1]at ht;rw[ar,y31,z1m,ht];simp only[h2];rw[show(x.cellsL++yr els).drop sz=yr els from by rw[<- h1];simp,ih]
def zqz{p:Pst}(h:p.prev.length=32):(pC p).length=36:=by simp[h]
def ym1{p:Pst}:∀ d,d ∈ pC p->d.atom=true:=by intro d hd;simp only[pC,aA,aL]at hd;rcases hd with rfl | rfl | rfl | rfl | ⟨b,_,rfl⟩ <;> rfl
def yhi{p:Pst}:(y56 p).storable=true:=by
 show(pC p).all D.atom=true
 rw[ay];exact ym1
def zhe{l:List Pst}(h:∀ p,p ∈ l->p.prev.length=32):y2k 36 (l.map y56)=true:=by
 unfold y2k;rw[ay];intro x hx;obtain⟨p,hp,rfl⟩:=aL.1 hx;have h1:((y56 p).cellsL.length == 36)=true:=by
  show((pC p).length == 36)=true
  rw[zqz (h p hp)];rfl
 rw[yhi,h1];rfl
def zb8{hp:List Obj}{sp:yt}{l:List Pst}(h:∀ p,p ∈ l->p.prev.length=32):y1b hp 36 true (.imm sp (l.map y56))=some (l.map y56):=by have:=zhe h;unfold y2k at this;simp only[y1b];rw[if_pos this]
def pCs(l:List Pst):List D:=yr (l.map y56)
def ye5{l:List Pst}(h:∀ p,p ∈ l->p.prev.length=32):(pCs l).length=l.length*36:=by have:=zdj (zhe h);unfold pCs;rw[this,aF]
def zvz{l:List Pst}{p:Pst}:pCs l++yr [y56 p]=pCs (l++[p]):=by unfold pCs;rw[bp,z1z];rfl
def zov{l:List Pst}(h:∀ p,p ∈ l->p.prev.length=32):y31 36 true l.length (pCs l)=some (l.map y56):=by
 have:=zdp (sz:=36) (l.map y56) fun x hx=>by obtain⟨p,hp,rfl⟩:=aL.1 hx;exact⟨zqz (h p hp),rfl⟩
 rw[aF]at this;exact this
def zl{hp:List Obj}{n:Nat}{l:List Pst}:y1k (frz hp (n+5)) (l.map y56)=some (l.map y56):=z1e fun _ _=>yf7
def e70:(E.ty 70).k=.slice 71:=rfl
def zuq{hp:List Obj}{id:Nat}{sp:yt}{l:List Pst}(h:∀ p,p ∈ l->p.prev.length=32)(hl:l.length<=1000000)(h0:l ≠ []) :
  y1q E hp id 70 70 (.imm .exact []) (.imm sp (l.map y56))=some ⟨.sl id 0 l.length 36 true true,some (.cells (pCs l)),none⟩:=by
 have h4 : ¬ l.length=0:=fun h=>h0 (aK h)
 have h5:(0+l.length)*(80+1)<=yg/\80<=65536/\(y28 E 71).isSome=true/\y2k 36 ([]:List D)=true:=⟨by simp[yg];omega,by decide,rfl,rfl⟩
 unfold y1q;simp only[e70];rw[show y1b hp (E.ty 71).size (E.ty 71).ag (.imm sp (l.map y56))=some (l.map y56)from zb8 h]
 simp only[aF,aY];rw[if_neg h4,show(E.ty 71).bytes=80 from rfl,show(E.ty 71).size=36 from rfl,if_pos h5]
 simp only[bM,pCs,yr,List.flatMap_nil,bn]
 rfl
def cpy(n:Nat)(l:List Pst):D:=if l=[]then .imm .exact []else .sl n 0 l.length 36 true true
def ya9(l:List Pst):List Obj:=if l=[]then[]else[.cells (pCs l)]
def s356(l:List Pst)(h:∀ p,p ∈ l->p.prev.length=32)(hl:l.length<=1000000)(hp:List Obj):y1j E (dL E) 356 [y1t l] hp=some (cpy hp.length l,hp++ya9 l):=by
 have:∃ d hp',y1j E (dL E) 356 [y1t l] hp=some (d,hp')/\(d=cpy hp.length l/\hp'=hp++ya9 l):=by
  refine z1j c356 (args:=[y1t l]) (hp:=hp) (R:=fun d hp'=>d=cpy hp.length l/\hp'=hp++ya9 l) (by simp) ?_
  conv in t356=>reduce;dsimp[ai]
  by_cases h0:l=[]
  ·subst h0;simp[t356,n356,cpy,ya9,y1q,y1b,yk]
  ·have ap:=fun hp id=>zuq (hp:=hp) (id:=id) (sp:=.none) h hl h0
   simp[t356,n356,cpy,ya9,ap,yk,h0]
 obtain⟨d,hp',e,rfl,rfl⟩:=this;exact e
def ym5(l:List Pst)(h:∀ p,p ∈ l->p.prev.length=32)(hl:l.length<=1000000)(hp:List Obj):y79 (y1j E (dL E)) 356 [y1t l] hp=some (cpy hp.length l,hp++ya9 l):=by
 unfold y79;rw[s356 l h hl,eA];have hm:yy (cpy hp.length l)=false:=by unfold cpy;split <;> rfl
 simp only[y18,hm,Bool.false_eq_true,if_false,aq,aa,aw,true_and];rw[List.drop_append_of_le_length (by simp),List.drop_of_length_le (by simp),bn]
def yjm(l:List Pst)(h:y9t l):yu E (dL E) 324 [y1t l]=some (dI (rdE tgB l)):=by
 refine zg c324 (by simp) ?_
 conv in t324=>reduce;dsimp[ai]
 have e:=r354 l h;unfold rdD at e;simp[t324,n324,e,zl]
def zdc{hp:List Obj}{sp:yt}{p:Pst}(h:p.prev.length=32):y1b hp 36 true (.imm sp [y56 p])=some [y56 p]:=zb8 (l:=[p]) (by simp[h])
def zys{pre:List Obj}{l:List Pst}{p:Pst}{sp:yt}(h:∀ p,p ∈ l->p.prev.length=32)(hp:p.prev.length=32)(hl:l.length<=1000000) :
  ∃ m X,y3b E (pre++ya9 l) 70 70 (cpy pre.length l) (.imm sp [y56 p])=some (.sl m 0 (l.length+1) 36 true true,X)/\At X m (.cells (pCs (l++[p]))):=by
 by_cases h0:l=[]
 ·subst h0;refine⟨pre.length,pre++[.cells (pCs [p])],?_,by simp[At]⟩
  have h5:(0+1)*(80+1)<=yg/\80<=65536/\(y28 E 71).isSome=true/\y2k 36 ([]:List D)=true:=⟨by simp[yg],by decide,rfl,rfl⟩
  unfold y3b cpy ya9;simp only[if_true,bG,e70];rw[show y1b pre (E.ty 71).size (E.ty 71).ag (.imm sp [y56 p])=some [y56 p]from zdc hp]
  simp only[ar,aY];rw[if_neg (by simp),show(E.ty 71).bytes=80 from rfl,show(E.ty 71).size=36 from rfl,if_pos h5]
  rfl
 ·have hg:(pre++ya9 l)[pre.length]? = some (.cells (pCs l)):=by unfold ya9;rw[if_neg h0];simp
  refine⟨(pre++ya9 l).length,(pre++ya9 l).set pre.length .dead++[.cells (pCs (l++[p]))],?_,by simp[At]⟩
  have h5:(l.length+1)*(80+1)<=yg/\80<=65536/\(y28 E 71).isSome=true/\(36:Nat)=36/\(pCs l).length=l.length*36:=⟨by simp[yg];omega,by decide,rfl,rfl,ye5 h⟩
  unfold y3b cpy;simp only[if_neg h0,e70];rw[show y1b (pre++ya9 l) (E.ty 71).size (E.ty 71).ag (.imm sp [y56 p])=some [y56 p]from zdc hp,hg]
  simp only[ar,aY];rw[if_neg (by simp),show(E.ty 71).bytes=80 from rfl,show(E.ty 71).size=36 from rfl,if_pos h5,zvz]
  rfl
def zwt{X:List Obj}{m n:Nat}{L:List Pst}{gr:Bool}(h:At X m (.cells (pCs L)))(h32:∀ p,p ∈ L->p.prev.length=32):frz X (n+6) (.sl m 0 L.length 36 true gr)=some (y1t L):=by
 have hr:y14 X m=some (pCs L):=by unfold y14;rw[h.eq]
 show(match y14 X m with | some cs=>(match y31 36 true L.length (cs.drop 0)with | some els=>(y1k (frz X (n+5)) els).map (D.imm .none) | none=>none) | none=>none)=_
 rw[hr];simp only[dz];rw[zov h32];simp only[];rw[zl]
 rfl
open Classical in
noncomputable def poD(l:List Pst)(s:Stp):D:=.tup [y1t (if y4s tgB l s=0 then l++[y8a tgB l s]else[]),dI (y4s tgB l s)]
def r316(l:List Pst)(s:Stp)(h:y9t l)(hs:s.ents.length<=1000000):yu E (dL E) 316 [y1t l,dI s.minute,dI s.corrects,.imm .none (s.ents.map y2v)]=some (poD l s):=by
 refine zg c316 (by simp) ?_
 conv in t316=>reduce;dsimp[ai]
 have e354:=r354 l h;unfold rdD at e354;obtain⟨d,hd⟩:∃ d,d=(if rdE tgB l=0 then y6s tgB l else z32):=⟨_,rfl⟩
 have h32:d.length=32:=by rw[hd];split;exact y7w;rfl
 rw[<- hd]at e354;have hsc:=zy (a:=ah 32 (D.int .u8 0)) (vs:=d.map yd) (by simp[h32])
 simp only[ah]at hsc
 by_cases h0:rdE tgB l=0
 ·have v:=z27.1 h0;have h0':rdE tgB l=0:=h0;rw[if_pos h0]at hd;have hl:l.length<=65536:=v.1;rw[h0]at e354
  by_cases hmax:l.length=65536
  ·have hm:((l.length:Nat):Int)=65536:=by omega
   have hE:y4s tgB l s=2:=by unfold y4s;rw[if_neg (by simp[h0]),if_pos hmax]
   unfold poD;rw[hE,if_neg (by decide)]
   simp[t316,n316,e354,zl,h32,hsc,hm]
  ·have hm : ¬ ((l.length:Nat):Int)=65536:=by omega
   have hlast:(0<l.length /\ ∃ q,l[l.length - 1]? = some q/\q.prev.length=32/\l.getLast? = some q) \/ ¬ 0<l.length:=by
    rcases eu l.length with h1 | h1
    ·exact .inr (by omega)
    ·exact .inl ⟨h1,l[l.length - 1],ac (by omega),(h.2 _ (av _)).1,by rw[gC,ac (by omega)]⟩
   have hw1:0<l.length->aJ.wrap ((l.length:Int) - 1)=((l.length - 1:Nat):Int):=fun h0=>by rw[za ⟨by omega,by omega⟩];omega
   obtain⟨p,hp⟩:∃ p:Pst,p=y8a tgB l s:=⟨_,rfl⟩;have hp2:p=⟨l.length,s.minute,s.corrects,s.ents,d⟩:=by rw[hp,hd];rfl
   have p32:p.prev.length=32:=by rw[hp2];exact h32
   have hpE:(∀ q,l.getLast? = some q -> ¬ s.minute<q.minute)->y4s tgB l s=y6z p:=fun hq=>by rw[hp];exact zgs v (by omega) fun q h=>by have:=hq q h;omega
   have q4:setCells (dI (l.length:Int)::dI s.minute::dI s.corrects :: .imm .none (s.ents.map y2v)::ah 32 (D.int .u8 0)) 4 (d.map yd)=pC p:=by rw[hp2];exact stP (p:=⟨l.length,s.minute,s.corrects,s.ents,d⟩) h32
   have q2:∀(x:Obj) (r:List Obj),y1c E (x :: .cells (pC p)::r) 71 (.loc 1 0)=some (y56 p):=fun x r=>yen (h:=[x]) (r:=r) p32
   have q2':∀(x:Obj) (r r2:List Obj),y1c E (x :: .cells (pC p)::r++r2) 71 (.loc 1 0)=some (y56 p):=fun x r r2=>q2 x (r++r2)
   have q3:=stP p32;simp only[ah]at q3 q4;have hld:∀ r:List Obj,y1c E (.cells (d.map yd)::r) 73 (.loc 0 0)=some (.agg (d.map yd)):=fun r=>z7v (m:=d) (by simp[Bys,At]) h32
   have h355:=ylu p p32 (by rw[hp2];exact hs)
   have m356:=ym5 l (fun p hp=>(h.2 p hp).1) h.1
   have hst:(pC p).length=36:=zqz p32;obtain⟨m,X,hG,hX⟩:=zys (pre:=[.cells (d.map yd),.cells (pC p),.dead,.dead,.dead,.dead,.dead,.dead,.dead]) (sp:=.exact) (fun p hp=>(h.2 p hp).1) p32 h.1
   have hL32:∀ q,q ∈ l++[p]->q.prev.length=32:=fun q hq=>by
    rcases aB.1 hq with hq | hq
    ·exact(h.2 q hq).1
    ·simp at hq;rw[hq];exact p32
   have hfz:=zwt (n:=5) (gr:=true) hX hL32;have hll:(l++[p]).length=l.length+1:=by simp
   rw[hll]at hfz;simp only[aG,bn,ar,aY]at hG;rcases hlast with⟨h1,q,hq,hq32,hql⟩ | h1
   ·by_cases hmn:s.minute<q.minute
    ·have hE:y4s tgB l s=410:=by unfold y4s;rw[if_neg (by simp[h0]),if_neg hmax,if_pos ⟨q,hql,hmn⟩]
     unfold poD;rw[hE,if_neg (by decide)]
     simp[t316,n316,e354,zl,h32,hsc,hm,h1,hw1 h1,hq,hq32,hmn]
    ·have hE:=hpE fun q' h=>by rw[hql]at h;cases h;exact hmn
     simp[t316,n316,e354,zl,h32,hsc,hm,h1,hw1 h1,hq,hq32,hmn,-z1c,hld,↓q4,p32,q2,↓q3,z3b,zp,h355,m356,hG,hfz];unfold poD;rw[hE,<- hp]
     by_cases hc:y6z p=0
     ·simp[hc]
     ·simp[hc]
   ·have hE:=hpE fun q' h=>by
     have:l=[]:=aK (by omega)
     subst this;simp at h
    simp[t316,n316,e354,zl,h32,hsc,hm,h1,-z1c,hld,↓q4,p32,q2,↓q3,z3b,zp,h355,m356,hG,hfz];unfold poD;rw[hE,<- hp]
    by_cases hc:y6z p=0
    ·simp[hc]
    ·simp[hc]
 ·have hE:y4s tgB l s=rdE tgB l:=by unfold y4s;rw[if_pos h0]
  have hne : ¬ rdE tgB l=0:=h0;unfold poD;rw[hE,if_neg h0];simp[t316,n316,e354,zl,h32,hsc,hne]
def r359(l:List Pst):yu E (dL E) 359 [y1t l]=some (.fn 380 [.iptr [y1t l]]):=by
 refine zg c359 (by simp) ?_
 conv in t359=>reduce;dsimp[ai]
 simp[t359,n359,zl]
def y54(l:List Pst):List (Int × Ent):=l.flatMap fun p=>p.ents.map fun x=>(p.minute,x)
def znx:y54 []=[]:=rfl
def z5a{p:Pst}{l:List Pst}:y54 (p::l)=(p.ents.map fun x=>(p.minute,x))++y54 l:=rfl
def ym9{H:List Obj}{q:Nat}{p:Pst}(B:At H q (.cells (pC p))):y1c E H 66 (.loc q 3)=some (.imm .none (p.ents.map y2v)):=by
 unfold y1c;simp only[B.eq,show(E.ty 66).size=1 from rfl]
 rfl
def ld2{H:List Obj}{q:Nat}{p:Pst}(B:At H q (.cells (pC p))):y1c E H 2 (.loc q 1)=some (dI p.minute):=by
 unfold y1c;simp only[B.eq,show(E.ty 2).size=1 from rfl]
 rfl
def i380(l:List Pst)(ok:y9t l)(L:Nat)(J:Nat->List (Int × Ent)->List Obj->Prop)(Fin:List Obj->Prop)
  (hext:∀ f rem hp r,J f rem hp->J f rem (hp++r))
  (hown:∀ f rem hp r,J f rem hp->J hp.length rem (hp++r))
  (hy:∀ f x rem hp o,J f (x::rem) hp->At hp f o->∃ t hp',y3d (dL E) L [dI x.1,y2v x.2] hp=some (.bool t,hp')/\(t=true->J f rem hp'/\At hp' f o)/\(t=false->Fin hp'))
  {hp:List Obj} {f0:Nat} (h0:J f0 (y54 l) hp) :
  ∃ d hp',y1j E (dL E) 380 [.yld L,.iptr [y1t l]] hp=some (d,hp')/\((∃ f,J f [] hp')\/Fin hp'):=by
 refine z1j c380 (R:=fun _ hp'=>(∃ f,J f [] hp')\/Fin hp') (by simp) ?_
 conv in t380=>reduce;dsimp[ai]
 have hl:=ok.1;simp[t380,n380];refine zo l.length (fun i env hp=>∃(x2 x3 x7 x8 x9 x10 x11 x12 x13 x14 x15:D) ,env=[.yld L,.iptr [y1t l],x2,x3,y1t l,dI l.length,dI i,x7,x8,x9,x10,x11,x12,x13,x14,x15] /\
  ∃ f,J f (y54 (l.drop i)) hp) 0 (by omega) ⟨_,_,_,_,_,_,_,_,_,_,_,rfl,f0,by simpa using h0⟩ ?_
 rintro i env hp hi ⟨x2,x3,x7,x8,x9,x10,x11,x12,x13,x14,x15,rfl,f,hJ⟩
 by_cases hlt:i<l.length
 rotate_left
 ·have:i=l.length:=by omega
  subst this;rw[bv,znx]at hJ;simp;exact .inl ⟨f,hJ⟩
 obtain⟨p,hpi⟩:∃ p,p=l[i]:=⟨_,rfl⟩;have hp2:=ok.2 p (by rw[hpi];exact av hlt)
 have hup:=ze hlt (by omega)
 rw[zh hlt,<- hpi,z5a]at hJ;obtain⟨rest,hrest⟩:∃ rest,rest=y54 (l.drop (i+1)):=⟨_,rfl⟩;rw[<- hrest]at hJ;have q1:=fun h:List Obj=>zrq (h:=h) hp2.1
 have q3:=stP hp2.1;simp only[ah]at q3;have hJ1:=hown _ _ _ [.cells (pC p)] hJ;have hA1:At (hp++[.cells (pC p)]) hp.length (.cells (pC p)):=by simp[At]
 have y1:=ym9 hA1;simp[hlt,<- hpi,hp2.1,-z1c,q1,↓q3,y1];generalize hp++[Obj.cells (pC p)]=H0 at hJ1 hA1;generalize hp.length=C at hJ1 hA1;have hel:=hp2.2;refine zo p.ents.length (fun j env h=>∃(x3 x7 x8 x12 x13 x14 x15:D) ,env=[.yld L,.iptr [y1t l],.loc C 0,x3,y1t l,dI l.length,dI i,x7,x8,.imm .none (p.ents.map y2v),dI p.ents.length,dI j,x12,x13,x14,x15] /\
  J C ((p.ents.drop j).map (fun x=>(p.minute,x))++rest) h/\At h C (.cells (pC p))) 0 (by omega) ⟨_,_,_,_,_,_,_,rfl,by simpa using hJ1,hA1⟩ ?_
 rintro j env h hj ⟨x3,x7,x8,x12,x13,x14,x15,rfl,hJ2,hA2⟩
 by_cases hlt2:j<p.ents.length
 rotate_left
 ·have:j=p.ents.length:=by omega
  subst this;simp only[bv,aO,bn]at hJ2;rw[hrest]at hJ2;simp[hlt,hup];exact⟨C,hJ2⟩
 have hup2:=ze hlt2 (by omega)
 obtain⟨x,hx⟩:∃ x,x=p.ents[j]:=⟨_,rfl⟩;rw[zh hlt2,al,aG,<- hx]at hJ2;have y2:=fun r:List Obj=>ld2 (hA2.app (r:=r))
 have y3:y1c E (h++[.cells [dI x.kind,dI x.idx,dI x.amt]]) 72 (.loc h.length 0)=some (y2v x):=by
  unfold y1c;simp only[List.getElem?_concat_length]
  rfl
 obtain⟨t,hp2,e1,e2,e3⟩:=hy C (p.minute,x) _ _ _ (hext _ _ _ [.cells [dI x.kind,dI x.idx,dI x.amt]] hJ2) (hA2.app);simp only at e1;cases t with
 |true=>obtain⟨hJ3,hA3⟩:=e2 rfl;rw[jj]at hJ3;simp[hlt2,<- hx,-z1c,y2,y3,e1,hup2];exact⟨hJ3,hA3⟩
 |false=>have hF:=e3 rfl;simp[hlt2,<- hx,-z1c,y2,y3,e1,hF]
def y5i(k i m:Int):List (Int × Ent)->Int
 |[]=>0
 |x::l=>(if x.1<=m/\x.2.kind=k/\x.2.idx=i then x.2.amt else 0)+y5i k i m l
def z91{k i m:Int}:∀(a b:List (Int × Ent)),y5i k i m (a++b)=y5i k i m a+y5i k i m b
 |[],b=>by simp[y5i]
 |x::a,b=>by simp only[aG,y5i,z91 a b];omega
def zcp{k i m n:Int}:∀(l:List Ent),y5i k i m (l.map fun x=>(n,x))=if n<=m then yz k i l else 0
 |[]=>by simp[y5i,yz]
 |x::l=>by
  have ih:=zcp (k:=k) (i:=i) (m:=m) (n:=n) l;simp only[al,y5i,ih,yz]
  by_cases h1:n<=m
  ·simp[h1]
  ·simp[h1]
def zag{k i m:Int}:∀(l:List Pst),y5i k i m (y54 l)=y4q k i m l
 |[]=>rfl
 |p::l=>by rw[z5a,z91,zcp,zag l];rfl
def zdf:∀(l:List Pst),(y54 l).length=y4o l
 |[]=>rfl
 |p::l=>by rw[z5a,ao,aF,zdf l];rfl
def zny{l:List Pst}{x:Int × Ent}(h:x ∈ y54 l):∃ p,p ∈ l/\x.2 ∈ p.ents:=by obtain⟨p,hp,hx⟩:=bB.1 h;obtain⟨y,hy,rfl⟩:=aL.1 hx;exact⟨p,hp,hy⟩
open Classical in
noncomputable def blD(l:List Pst)(k i m:Int):D:=.tup [dI (if rdE tgB l=0 then y4q k i m l else 0),dI (rdE tgB l)]
def yjn(l:List Pst)(ok:y9t l)(hN:y4o l<=1000000)(k i m:Int):yu E (dL E) 318 [y1t l,y3g k i,dI m]=some (blD l k i m):=by
 have e324:=yjm l ok;have e359:=r359 l;refine zg c318 (by simp) ?_
 conv in t318=>reduce;dsimp[ai]
 unfold blD
 by_cases h0:rdE tgB l=0
 ·have v:=z27.1 h0;rw[h0]at e324 ⊢;rw[if_pos rfl];obtain⟨B,hB⟩:∃ B,B=y4q k i m l:=⟨_,rfl⟩;rw[<- hB];simp[t318,n318,zl,e324,e359];refine⟨380,_,rfl,?_⟩;intro L hL hcb;obtain⟨J,hJ⟩:∃ J:Nat->List (Int × Ent)->List Obj->Prop,J=fun f rem hp'=>2<=f /\ ∃(c:Int),At hp' 0 (.cells [dI c])/\At hp' 1 (L false none)/\c+y5i k i m rem=B/\rem.length<=1000000 /\ -(1099511627776*(1000000 - rem.length):Int)<=c/\c<=1099511627776*(1000000 - rem.length) /\ ∀ x,x ∈ rem->y76 x.2:=⟨_,rfl⟩
  have key:=i380 l ok 1 J (fun _=>False) (by
    rw[hJ];rintro f rem hp' r ⟨hf,c,a1,a2,a3⟩;exact⟨hf,c,a1.app,a2.app,a3⟩) (by
    rw[hJ];rintro f rem hp' r ⟨hf,c,a1,a2,a3⟩;exact⟨by have:=a2.lt;omega,c,a1.app,a2.app,a3⟩) (by
    intro f x rem hp1 o hj ho;rw[hJ]at hj;obtain⟨hf,c,a1,a2,a3,a4,a5,a6,a7⟩:=hj;have l1:=a2.lt;have⟨ok1,ok2,ok3,ok4,ok5⟩:=a7 x (by simp)
    obtain⟨mi,⟨kd,ix,am⟩⟩:=x;simp only at ok1 ok2 ok3 ok4 ok5;simp only[ar]at a4 a5 a6;simp only[y5i]at a3;obtain⟨H1,hH1⟩:∃ H1,H1=hp1.set 1 (L true none):=⟨_,rfl⟩;have b0:At H1 0 (.cells [dI c]):=by rw[hH1];exact a1.ne (by omega)
    have b1:At H1 1 (L true none):=by rw[hH1];exact At.self l1
    have bf:At H1 f o:=by rw[hH1];exact ho.ne (by omega)
    have hw:aJ.wrap (c+am)=c+am:=za ⟨by omega,by omega⟩
    have l0:=b0.lt;obtain⟨t,hp2,e1,e2⟩:=hcb [dI mi,y2v ⟨kd,ix,am⟩] hp1 (fun t hp'=>t=true/\J f rem hp'/\At hp' f o) rfl a2 (by
     rw[show[Obj.cells [D.int aJ 0]].length=1 from rfl]
     have y2:∀ r:List Obj,(hp1++r)[1]? = some (L false none):=fun r=>a2.app
     have y6:∀ r:List Obj,(hp1++r).set 1 (L true none)=H1++r:=fun r=>by rw[z1d l1,hH1]
     have y7:hp1.length=H1.length:=by rw[hH1,bq]
     have y0:∀ r:List Obj,(H1++r)[0]? = some (.cells [dI c]):=fun r=>b0.app
     have y8:∀(o:Obj) (r:List Obj),(H1++r).set 0 o=H1.set 0 o++r:=fun o r=>z1d l0
     have y9:∀(o:Obj) (r:List Obj),(H1.set 0 o++r)[1]? = some (L true none):=fun o r=>(b1.ne (by omega)).app
     have y10:∀ r:List Obj,(H1++r)[1]? = some (L true none):=fun r=>b1.app
     have fin:∀(c':Int) (G:List Obj),At G 0 (.cells [dI c'])->1<G.length->At G f o->c'+y5i k i m rem=B -> -(1099511627776*(1000000 - rem.length):Int)<=c'->c'<=1099511627776*(1000000 - rem.length)->∀ r:List Obj,J f rem ((G++r).set 1 (L false none))/\At ((G++r).set 1 (L false none)) f o:=by intro c' G g0 gl gf g3 g4 g5 r;have e:(G++r).set 1 (L false none)=G.set 1 (L false none)++r:=z1d gl;rw[e,hJ];exact⟨⟨hf,c',(g0.ne (by omega)).app,(At.self gl).app,g3,by omega,g4,g5,fun x hx=>a7 x (by simp[hx])⟩,(gf.ne (by omega)).app⟩
     by_cases hh:mi<=m/\kd=k/\ix=i
     ·obtain⟨g1,g2,g3⟩:=hh;subst g2 g3;simp[y23,↓y2,↓y6,y7,↓y0,↓y8,↓y9,↓y10,g1,hw];rw[if_pos ⟨g1,rfl,rfl⟩]at a3;exact fin (c+am) _ (At.self l0) (by rw[bq];omega) (bf.ne (by omega)) (by omega) (by omega) (by omega) _
     ·rw[if_neg hh]at a3;have hF:=fin c H1 b0 (by omega) bf (by omega) (by omega) (by omega)
      by_cases g1:mi<=m
      ·have hbf:(kd == k && ix == i)=false:=by
        rw[Bool.and_eq_false_iff]
        by_cases g2:kd=k
        ·right;have : ¬ ix=i:=fun g3=>hh ⟨g1,g2,g3⟩
         simpa using this
        ·left;simpa using g2
       simp[y23,↓y2,↓y6,y7,↓y10,g1,hbf];exact hF _
      ·simp[y23,↓y2,↓y6,y7,↓y10,g1];exact hF _)
    exact⟨t,hp2,e1,fun _=>e2.2,fun h=>by rw[e2.1]at h;cases h⟩) (hp:=[.cells [dI 0],L false none]) (f0:=2) (by
    rw[hJ];have hlen:=zdf l;refine⟨aj _,0,rfl,rfl,by rw[zag,Int.zero_add];exact hB.symm,by omega,by omega,by omega,fun x hx=>?_⟩
    obtain⟨p,hp,hx2⟩:=zny hx;exact(v.2.1 p hp).fm.ents.ok _ hx2)
  obtain⟨d,hp',h1,h2⟩:=key;rcases h2 with⟨f,h2⟩ | h2
  ·rw[hJ]at h2;obtain⟨_,c,a1,a2,a3,_⟩:=h2;simp only[y5i,Int.add_zero]at a3;subst a3;refine⟨d,hp',h1,.inl ⟨a2,?_⟩⟩;have l0:=a1.lt;have c0:∀ o,((hp'.set 1 .dead).set 0 o)[0]? = some o:=fun o=>At.self (by simpa using l0)
   simp[a1.eq,↓c0]
  ·exact h2.elim
 ·rw[if_neg h0];simp[t318,n318,zl,e324,h0]
def z63(p:Int × Int)(l:List (Int × Int)):yh (p::l)=dI p.1::dI p.2::yh l:=rfl
def z4r:∀(l:List (Int × Int)),(yh l).length=l.length*2
 |[]=>rfl
 |p::l=>by rw[z63,ar,ar,z4r l,ar];omega
def zae(a b:List (Int × Int)):yh (a++b)=yh a++yh b:=k8
def zgu:∀(l:List (Int × Int)),y4t (yh l)=some l
 |[]=>rfl
 |p::l=>by rw[z63];simp only[y4t,zgu l]
def ze4:∀(l:List (Int × Int)) (k:Nat),(yh l).take (k*2)=yh (l.take k)
 |[],k=>by simp[yh]
 |p::l,0=>rfl
 |p::l,k+1=>by rw[z63,show(k+1)*2=k*2+1+1 from by omega,fM,fM,ze4 l k];rfl
def yd8{l:List (Int × Int)}{k:Nat}(h:k<l.length):y2d (yh l) (k*2) 2=some [dI l[k].1,dI l[k].2]:=by
 have e:yh l=yh (l.take k)++[dI l[k].1,dI l[k].2]++yh (l.drop (k+1)):=by
  conv=>lhs;rw[<- bV k l,ce h,zae,z63]
  simp
 rw[e];exact z7e [dI l[k].1,dI l[k].2] _ _ _ (by rw[z4r,bc];omega)
def yd9{l:List (Int × Int)}{k:Nat}{a:Int × Int}(h:k<l.length):setCells (yh l) (k*2) [dI a.1,dI a.2]=yh (l.set k a):=by
 have e:yh l=yh (l.take k)++(dI l[k].1::dI l[k].2::yh (l.drop (k+1))):=by conv=>lhs;rw[<- bV k l,ce h,zae,z63]
 have hl:(yh (l.take k)).length=k*2:=by rw[z4r,bc];omega
 have e2:=z15 (a:=yh (l.take k)) (b:=dI l[k].1::dI l[k].2::yh (l.drop (k+1))) (off:=0) (vs:=[dI a.1,dI a.2]);have e3:k*2+0=k*2:=rfl;rw[hl,e3]at e2;rw[e,e2,List.set_eq_take_append_cons_drop,if_pos h,zae,z63]
 rfl
def yjr{H:List Obj}{q k:Nat}{l:List (Int × Int)}(A:At H q (.cells (yh l)))(h:k<l.length):y1c E H 65 (.loc q (k*2))=some (y3g l[k].1 l[k].2):=by
 unfold y1c;simp only[A.eq,show(E.ty 65).size=2 from rfl,yd8 h]
 rfl
def st65{H:List Obj}{q k:Nat}{l:List (Int × Int)}{a:Int × Int}(A:At H q (.cells (yh l)))(h:k<l.length):y4e E H 65 (.loc q (k*2)) (y3g a.1 a.2)=some (H.set q (.cells (yh (l.set k a)))):=by
 unfold y4e;simp only[A.eq];rw[if_pos ⟨rfl,rfl,by rw[z4r,show(E.ty 65).size=2 from rfl];omega⟩]
 rw[<- yd9 h]
 rfl
def s361{hp:List Obj}{q:Nat}{xs:List (Int × Int)}{gr ag:Bool}{k:Nat}(hk:k=362\/k=386)(A:At hp q (.cells (yh xs)))(hl:xs.length<=1000000) :
  y1j E (dL E) (361) [.sl q 0 xs.length 2 ag gr,.fn k []] hp=some (.tup [],hp.set q (.cells (yh (y1u xs)))):=by
 have e:E.fn (361)=some f361:=rfl;have e2:E.mp 361=false:=rfl;have e3:[362,386].contains k=true:=by rcases hk with rfl | rfl <;> rfl
 have e4:E.prim 0=y7q [362,386]:=rfl;have e5:y7q [362,386] [.sl q 0 xs.length 2 ag gr,.fn k []] hp=some (.tup [],hp.set q (.cells (yh (y1u xs)))):=by unfold y7q;simp only[e3,if_true,A.eq];rw[if_pos ⟨z4r xs,by omega⟩,zgu]
 unfold y1j;simp only[e,e2,f361,yp,z9h,z5z,zhm,z5d,z6s,y2s];simp[yi,yf,yn,y2i,DOp.fin,yo,yb,yq,gOf,z6s,y29,y6c,yk,y2e,z5d,z8v,yy,e4,e5,y2r]
def ylp{hp:List Obj}{k:Nat}(hk:k=362\/k=386):y1j E (dL E) (361) [.imm .exact [],.fn k []] hp=some (.tup [],hp):=by
 have e:E.fn (361)=some f361:=rfl;have e2:E.mp 361=false:=rfl;have e3:[362,386].contains k=true:=by rcases hk with rfl | rfl <;> rfl
 have e4:E.prim 0=y7q [362,386]:=rfl;have e5:y7q [362,386] [.imm .exact [],.fn k []] hp=some (.tup [],hp):=by unfold y7q;simp only[e3,if_true]
 unfold y1j;simp only[e,e2,f361,yp,z9h,z5z,zhm,z5d,z6s,y2s];simp[yi,yf,yn,y2i,DOp.fin,yo,yb,yq,gOf,z6s,y29,y6c,yk,y2e,z5d,z8v,yy,e4,e5,y2r]
def y85(xs:List (Int × Int))(m:Nat):List (Int × Int):=y1i (xs.take m)++xs.drop (y1i (xs.take m)).length
def zlen{xs:List (Int × Int)}{m:Nat}:(y1i (xs.take m)).length<=m:=aM z60 (by rw[bc];omega)
def z9l{xs:List (Int × Int)}{m:Nat}(h:m<=xs.length):(y85 xs m).length=xs.length:=by have:=zlen (xs:=xs) (m:=m);unfold y85;rw[ao,er];omega
def zka{xs:List (Int × Int)}{m j:Nat}(hj:(y1i (xs.take m)).length<=j)(h:j<xs.length)(hm:m<=xs.length):(y85 xs m)[j]'(by rw[z9l hm];exact h)=xs[j]:=by
 have:(y85 xs m)[j]? = some xs[j]:=by unfold y85;rw[aH hj,List.getElem?_drop,show(y1i (xs.take m)).length+(j - (y1i (xs.take m)).length)=j from by omega,ac h]
 rw[ac (by rw[z9l hm];exact h)]at this
 exact cr this
def zrs{xs:List (Int × Int)}{m:Nat}(h0:0<m)(h:m<=xs.length):(xs.take m).getLast? = some (xs[m - 1]'(by omega)):=by rw[gC,bc,bU h,List.getElem?_take,if_pos (by omega),ac]
def zcm{xs:List (Int × Int)}{m:Nat}(h0:0<m)(h:m<xs.length):y1i (xs.take (m+1))=if xs[m - 1]'(by omega)=xs[m]then y1i (xs.take m)else y1i (xs.take m)++[xs[m]]:=by
 rw[aN h,zdm,zrs h0 (by omega)]
 simp
def yci{xs:List (Int × Int)}{m:Nat}(h0:0<m)(h:m<xs.length)(he:xs[m - 1]'(by omega)=xs[m]):y85 xs (m+1)=y85 xs m:=by unfold y85;rw[zcm h0 h,if_pos he]
def ych{xs:List (Int × Int)}{m:Nat}(h0:0<m)(h:m<xs.length)(he : ¬ xs[m - 1]'(by omega)=xs[m]):y85 xs (m+1)=(y85 xs m).set (y1i (xs.take m)).length xs[m]:=by
 have hz:=zlen (xs:=xs) (m:=m);unfold y85;rw[zcm h0 h,if_neg he];rw[List.set_append_right _ _ (aj _),fE];generalize hc:(y1i (xs.take m)).length=c at hz;rw[ao,hc,ce (show c<xs.length by omega),List.set_cons_zero]
 simp only[bi,aG,bn]
 rfl
def y64(q:Nat)(h h':List Obj):Prop:=h.length<=h'.length /\ ∀ j o,j ≠ q->At h j o->At h' j o
def y64.refl{q:Nat}{h:List Obj}:y64 q h h:=⟨aj _,fun _ _ _ a=>a⟩
def y64.app{q:Nat}{h h' r:List Obj}(k:y64 q h h'):y64 q h (h'++r):=⟨by rw[ao];have:=k.1;omega,fun j o hj a=>(k.2 j o hj a).app⟩
def y64.set{q:Nat}{h h':List Obj}{o:Obj}(k:y64 q h h'):y64 q h (h'.set q o):=⟨by rw[bq];exact k.1,fun j o hj a=>(k.2 j o hj a).ne (Ne.symm hj)⟩
def z74{xs:List (Int × Int)}(h:xs.length<2):y1i xs=xs:=by
 match xs,h with
 |[],_=>rfl
 |[x],_=>rfl
def Cp(q:Nat)(hp:List Obj)(xs:List (Int × Int))(d:D)(hp':List Obj):Prop:=
 ∃ cs,d=.sl q 0 (y1i xs).length 2 true true/\At hp' q (.cells cs)/\cs.take ((y1i xs).length*2)=yh (y1i xs)/\y64 q hp hp'
def yil{a b:Int × Int}:y3h E .eql 65 (y3g a.1 a.2) (y3g b.1 b.2)=some (.bool (decide (a=b))):=by
 obtain⟨a1,a2⟩:=a;obtain⟨b1,b2⟩:=b;have:y3h E .eql 65 (y3g a1 a2) (y3g b1 b2)=some (.bool ((a1 == b1) && ((a2 == b2) && true))):=rfl;rw[this];simp only[aa,D.bool.injEq,aw,ek]
 by_cases h1:a1=b1 <;> by_cases h2:a2=b2 <;> simp[h1,h2]
def yhx{a b:Int × Int}:y3h E .neq 65 (y3g a.1 a.2) (y3g b.1 b.2)=some (.bool (!decide (a=b))):=by
 obtain⟨a1,a2⟩:=a;obtain⟨b1,b2⟩:=b;have:y3h E .neq 65 (y3g a1 a2) (y3g b1 b2)=some (.bool (!((a1 == b1) && ((a2 == b2) && true)))):=rfl;rw[this];simp only[aa,D.bool.injEq,aw,ek]
 by_cases h1:a1=b1 <;> by_cases h2:a2=b2 <;> simp[h1,h2]
def sl67{q n k:Nat}{gr:Bool}(h:k<=n):y13 E 67 (.sl q 0 n 2 true gr) (some (dI k)) none none=some (.sl q (k*2) (n - k) 2 true false):=by have hk:(E.ty 67).k=.slice 65:=rfl;unfold y13;simp only[hk,bnd,lH,if_true,bT];rw[if_pos ⟨h,aj _,rfl⟩,bM]
def ylm{H:List Obj}{q n k:Nat}{cs:List D}(A:At H q (.cells cs))(h:k*2<=cs.length):y3e E H 67 (.sl q 0 n 2 true true) (dI k)=some (.sl q 0 k 2 true true,H):=by have hk:(E.ty 67).k=.slice 65:=rfl;have hz:(E.ty 65).size=2:=rfl;unfold y3e;simp only[hk,hz,A.eq,lH,true_and,bT];rw[if_pos ⟨h,by decide⟩]
def yms{H:List Obj}{q kk:Nat}{zs:List (Int × Int)}{gr:Bool}(A:At H q (.cells (yh zs)))(h:kk<=zs.length) :
  ∃ cs,yc9 E H 67 (.sl q (kk*2) (zs.length - kk) 2 true gr)=some (.undef,H.set q (.cells cs))/\cs.take (kk*2)=yh (zs.take kk):=by
 have hk:(E.ty 67).k=.slice 65:=rfl;have hz:y28 E 65=some (y3g 0 0):=rfl;refine⟨setCells (yh zs) (kk*2) (yr (ah (zs.length - kk) (y3g 0 0))),?_,?_⟩
 ·unfold yc9;simp only[hk,hz,A.eq];rw[if_pos ⟨rfl,by rw[z4r];omega⟩]
 ·have hl:(yh (zs.take kk)).length=kk*2:=by rw[z4r,bc];omega
  have e:yh zs=yh (zs.take kk)++yh (zs.drop kk):=by rw[<- zae,bV]
  have e2:=z15 (a:=yh (zs.take kk)) (b:=yh (zs.drop kk)) (off:=0) (vs:=yr (ah (zs.length - kk) (y3g 0 0)));rw[hl]at e2;have e3:kk*2+0=kk*2:=rfl;rw[e3]at e2;rw[e,e2,List.take_append_of_le_length (by omega),bd (by omega)]
def s363{hp:List Obj}{q:Nat}{xs:List (Int × Int)}(A:At hp q (.cells (yh xs)))(hl:xs.length<=1000000) :
  ∃ d hp',y1j E (dL E) 363 [.sl q 0 xs.length 2 true true] hp=some (d,hp')/\Cp q hp xs d hp':=by
 refine z1j c363 (args:=[.sl q 0 xs.length 2 true true]) (hp:=hp) (R:=Cp q hp xs) (by simp) ?_
 conv in t363=>reduce;dsimp[ai]
 by_cases h2:xs.length<2
 ·have h2':(xs.length:Int)<2:=by omega
  simp[t363,n363,h2'];exact⟨_,by rw[z74 h2],A,by rw[z74 h2,ze4,bh],y64.refl⟩
 have h2' : ¬ (xs.length:Int)<2:=by omega
 simp[t363,n363,h2'];refine zo xs.length (fun k env h=>∃(x3 x4 x5 x6 x7 x8 x9 x10:D) ,env=[.sl q 0 xs.length 2 true true,.imm .exact [],dI k,x3,x4,x5,x6,x7,x8,x9,x10]/\1<=k/\At h q (.cells (yh xs))/\y64 q hp h/\y1i (xs.take k)=xs.take k) 1 (by omega) ⟨_,_,_,_,_,_,_,_,rfl,aj _,A,y64.refl,z74 (by rw[bc];omega)⟩ ?_
 rintro k env h hk ⟨x3,x4,x5,x6,x7,x8,x9,x10,rfl,hk1,B,K,hc⟩
 by_cases hlt:k<xs.length
 rotate_left
 ·have:k=xs.length:=by omega
  subst this;rw[bh]at hc;simp;exact⟨_,by rw[hc],B,by rw[hc,ze4,bh],K⟩
 have hup:=ze hlt (by omega)
 have hw1:aJ.wrap ((k:Int) - 1)=((k - 1:Nat):Int):=by rw[za ⟨by omega,by omega⟩];omega
 have y1:∀ r:List Obj,y1c E (h++r) 65 (.loc q (k*2))=some (y3g xs[k].1 xs[k].2):=fun r=>yjr B.app hlt
 have y2:∀ r:List Obj,y1c E (h++r) 65 (.loc q ((k - 1)*2))=some (y3g (xs[k - 1]'(by omega)).1 (xs[k - 1]'(by omega)).2):=fun r=>yjr B.app (by omega)
 have hk1':(k - 1:Nat)<xs.length:=by omega
 have ez:=yil (a:=xs[k]) (b:=xs[k - 1]'(by omega))
 by_cases he:xs[k - 1]'(by omega)=xs[k]
 ·have he':=he.symm;have hs:=sl67 (q:=q) (gr:=true) (show k<=xs.length by omega)
  have hc1:y1i (xs.take (k+1))=xs.take k:=by rw[zcm hk1 hlt,if_pos he,hc]
  have hz1:y85 xs (k+1)=xs:=by unfold y85;rw[hc1,bc,bU (by omega),bV]
  have hl1:(y1i (xs.take (k+1))).length=k:=by rw[hc1,bc];omega
  simp[hlt,hup,hw1,hk1',-z1c,y1,y2,ez,he',hs];refine zo (xs.length - k) (fun j env h=>∃(x5 x6 x7 x8 x9 x10:D) ,env=[.sl q 0 xs.length 2 true true,.imm .exact [],dI (y1i (xs.take (k+j))).length,.sl q (k*2) (xs.length - k) 2 true false,dI j,x5,x6,x7,x8,x9,x10] /\
   1<=j/\(y1i (xs.take (k+j))).length+1<=k+j/\At h q (.cells (yh (y85 xs (k+j))))/\y64 q hp h) 1 (by omega) ⟨_,_,_,_,_,_,by rw[hl1];rfl,aj _,by rw[hl1];omega,by rw[hz1];exact B.app,K.app⟩ ?_
  rintro j env h3 hj ⟨x5,x6,x7,x8,x9,x10,rfl,hj1,hkk,B3,K3⟩
  by_cases hlt2:j<xs.length - k
  rotate_left
  ·have:j=xs.length - k:=by omega
   subst this;have hkn:k+(xs.length - k)=xs.length:=by omega
   rw[hkn]at hkk B3 ⊢;rw[bh]at hkk ⊢;have hzl:=z9l (xs:=xs) (aj _);have hzt:(y85 xs xs.length).take (y1i xs).length=y1i xs:=by unfold y85;rw[bh];simp
   obtain⟨cs,h4,h5⟩:=yms (gr:=false) B3 (kk:=(y1i xs).length) (by omega)
   rw[hzl]at h4;rw[hzt]at h5;have hs2:=sl67 (q:=q) (gr:=true) (show(y1i xs).length<=xs.length from z60)
   have hs3:=ylm (n:=xs.length) (k:=(y1i xs).length) (At.self (o:=.cells cs) B3.lt) (by have:=congrArg cQ h5;rw[z4r,bc]at this;have:=z60 (l:=xs);omega)
   simp[hs2,hs3,h4];exact⟨cs,rfl,At.self B3.lt,h5,K3.set⟩
  have hm:k+j<xs.length:=by omega
  have hnx:k+(j+1)=k+j+1:=by omega
  have hzl:=z9l (xs:=xs) (m:=k+j) (by omega)
  have g1:=zka (xs:=xs) (m:=k+j) (j:=k+j) (by omega) hm (by omega)
  have g2:=zka (xs:=xs) (m:=k+j) (j:=k+j - 1) (by omega) (by omega) (by omega)
  have hup2:=ze hlt2 (by omega)
  have hwj:aJ.wrap ((j:Int) - 1)=((j - 1:Nat):Int):=by rw[za ⟨by omega,by omega⟩];omega
  have hj1':j - 1<xs.length - k:=by omega
  have z1:∀ r:List Obj,y1c E (h3++r) 65 (.loc q (k*2+j*2))=some (y3g xs[k+j].1 xs[k+j].2):=fun r=>by
   have:=yjr (k:=k+j) (B3.app (r:=r)) (by omega)
   rw[g1,Nat.add_mul]at this;exact this
  have z2:∀ r:List Obj,y1c E (h3++r) 65 (.loc q (k*2+(j - 1)*2))=some (y3g (xs[k+j - 1]'(by omega)).1 (xs[k+j - 1]'(by omega)).2):=fun r=>by
   have:=yjr (k:=k+j - 1) (B3.app (r:=r)) (by omega)
   rw[g2,show(k+j - 1)*2=k*2+(j - 1)*2 from by omega]at this
   exact this
  have zn:=yhx (a:=xs[k+j]) (b:=xs[k+j - 1]'(by omega))
  by_cases he2:xs[k+j - 1]'(by omega)=xs[k+j]
  ·have hz2:=yci (by omega) hm he2
   have hcm:=zcm (by omega) hm
   rw[if_pos he2]at hcm;simp[hlt2,-z1c,z1,z2,zn,he2.symm,hwj,hj1',hup2];rw[hnx,hcm,hz2];exact⟨rfl,by omega,B3.app,K3.app⟩
  ·have hz2:=ych (by omega) hm he2
   have hcm:=zcm (by omega) hm
   rw[if_neg he2]at hcm;have he3 : ¬ xs[k+j]=xs[k+j - 1]'(by omega):=fun h=>he2 h.symm
   obtain⟨kk,hkke⟩:∃ kk,kk=(y1i (xs.take (k+j))).length:=⟨_,rfl⟩;have hcl:(y1i (xs.take (k+(j+1)))).length=kk+1:=by rw[hnx,hcm,ao,hkke];rfl
   rw[<- hkke]at hz2 hkk;have hst:∀ r:List Obj,y4e E (h3++r) 65 (.loc q (kk*2)) (y3g xs[k+j].1 xs[k+j].2)=some ((h3++r).set q (.cells (yh ((y85 xs (k+j)).set kk xs[k+j])))):=fun r=>st65 B3.app (by omega)
   have hkn:kk<xs.length:=by omega
   have hup3:=ze hkn (by omega)
   simp[hlt2,-z1c,z1,z2,zn,he3,hwj,hj1',hup2,<- hkke,hst,hkn,hup3,hcl];exact⟨by omega,by rw[hnx,hz2];exact At.self (At.lt B3.app),K3.app.set⟩
 ·have he' : ¬ xs[k]=xs[k - 1]'(by omega):=fun h=>he h.symm
  simp[hlt,hup,hw1,hk1',-z1c,y1,y2,ez,he'];exact⟨B.app,K.app,by rw[zcm hk1 hlt,if_neg he,hc,<- aN hlt]⟩
def yc0(p:Int × Int):D:=y3g p.1 p.2
abbrev ya8(l:List (Int × Int)):D:=.imm .none (l.map yc0)
def zbx{sz:Nat}{rest:List D}:∀(els:List D),(∀ x,x ∈ els->x.cellsL.length=sz/\ym true x.cellsL=some x)->y31 sz true els.length (yr els++rest)=some els
 |[],_=>rfl
 |x::els,h=>by
  obtain⟨h1,h2⟩:=h x (by simp)
  have ih:=zbx (rest:=rest) els fun y hy=>h y (by simp[hy])
  have ht:=z7e x.cellsL (yr els++rest) 0 [] rfl;rw[bn,h1]at ht;rw[ar,y31,z1m,bi,ht];simp only[h2];rw[show(x.cellsL++(yr els++rest)).drop sz=yr els++rest from by rw[<- h1];simp,ih]
def zhc:∀(l:List (Int × Int)),yr (l.map yc0)=yh l
 |[]=>rfl
 |p::l=>by rw[al,z1m,zhc l];rfl
def zwx{X:List Obj}{q n:Nat}{L:List (Int × Int)}{gr:Bool}{cs:List D}(h:At X q (.cells cs))(hc:cs.take (L.length*2)=yh L):frz X (n+3) (.sl q 0 L.length 2 true gr)=some (ya8 L):=by
 have hr:y14 X q=some cs:=by unfold y14;rw[h.eq]
 have hcs:cs=yr (L.map yc0)++cs.drop (L.length*2):=by rw[zhc,<- hc,bV]
 have hch:=zbx (sz:=2) (rest:=cs.drop (L.length*2)) (L.map yc0) (fun x hx=>by obtain⟨p,_,rfl⟩:=aL.1 hx;exact⟨rfl,rfl⟩)
 rw[<- hcs,aF]at hch;show(match y14 X q with | some cs=>(match y31 2 true L.length (cs.drop 0)with | some els=>(y1k (frz X (n+2)) els).map (D.imm .none) | none=>none) | none=>none)=_
 rw[hr];simp only[dz];rw[hch];simp only[];rw[show y1k (frz X (n+2)) (L.map yc0)=some (L.map yc0)from z1e fun _ _=>rfl]
 rfl
def ylo(hp:List Obj):y1j E (dL E) 363 [.imm .exact []] hp=some (.imm .exact [],hp):=by
 have:∃ d hp',y1j E (dL E) 363 [.imm .exact []] hp=some (d,hp')/\(d=.imm .exact []/\hp'=hp):=by
  refine z1j c363 (args:=[.imm .exact []]) (hp:=hp) (R:=fun d hp'=>d=.imm .exact []/\hp'=hp) (by simp) ?_
  conv in t363=>reduce;dsimp[ai]
  simp[t363,n363]
 obtain⟨d,hp',e,rfl,rfl⟩:=this;exact e
def y5q(f:Nat)(H:List Obj)(acc:List (Int × Int))(d:D):Prop:=
 (acc=[]/\d=.imm .exact []) \/ ∃ k,d=.sl k 0 acc.length 2 true true/\2<=k/\k ≠ f/\At H k (.cells (yh acc))
def y5q.app{f:Nat}{H r:List Obj}{acc:List (Int × Int)}{d:D}(h:y5q f H acc d):y5q f (H++r) acc d:=by
 rcases h with h | ⟨k,h1,h2,h3,h4⟩
 ·exact .inl h
 ·exact .inr ⟨k,h1,h2,h3,h4.app⟩
def y5q.set{f j:Nat}{H:List Obj}{o:Obj}{acc:List (Int × Int)}{d:D}(h:y5q f H acc d)(hj:j<2):y5q f (H.set j o) acc d:=by
 rcases h with h | ⟨k,h1,h2,h3,h4⟩
 ·exact .inl h
 ·exact .inr ⟨k,h1,h2,h3,h4.ne (by omega)⟩
def y5q.own{f:Nat}{H r:List Obj}{acc:List (Int × Int)}{d:D}(h:y5q f H acc d):y5q H.length (H++r) acc d:=by
 rcases h with h | ⟨k,h1,h2,h3,h4⟩
 ·exact .inl h
 ·exact .inr ⟨k,h1,h2,by have:=h4.lt;omega,h4.app⟩
def zyt{f:Nat}{H:List Obj}{acc:List (Int × Int)}{d:D}{a b:Int}(h:y5q f H acc d)(hl:acc.length<=1000000)(hf:f<H.length)(h2:2<=H.length) :
  ∃ d' H',y3b E H 67 67 d (.imm .exact [y3g a b])=some (d',H')/\y5q f H' (acc++[(a,b)]) d'/\d'.storable=true/\d'.cellsL=[d'] /\ ∀ j o,j<2\/j=f->At H j o->At H' j o:=by
 have hlo:y1b H 2 true (.imm .exact [y3g a b])=some [y3g a b]:=rfl;have e67:(E.ty 67).k=.slice 65:=rfl;rcases h with⟨rfl,rfl⟩ | ⟨k,rfl,hk,hkf,hA⟩
 ·refine⟨.sl H.length 0 1 2 true true,H++[.cells (yh [(a,b)])],?_,.inr ⟨H.length,rfl,by omega,by omega,by simp[At]⟩,rfl,rfl,fun j o _ a=>a.app⟩
  have h5:(0+1)*((E.ty 65).bytes+1)<=yg/\(E.ty 65).bytes<=65536/\(y28 E 65).isSome=true/\y2k (E.ty 65).size ([]:List D)=true:=⟨by decide,by decide,rfl,rfl⟩
  unfold y3b;simp only[e67];rw[show y1b H (E.ty 65).size (E.ty 65).ag (.imm .exact [y3g a b])=some [y3g a b]from hlo]
  simp only[ar,aY];rw[if_neg (by simp),if_pos h5]
  rfl
 ·have hb:(E.ty 65).bytes=16:=rfl;refine⟨.sl H.length 0 (acc.length+1) 2 true true,H.set k .dead++[.cells (yh (acc++[(a,b)]))],?_,.inr ⟨H.length,by rw[ao];rfl,by omega,by omega,by simp[At]⟩,rfl,rfl,fun j o hj a=>(a.ne (by omega)).app⟩
  have h5:(acc.length+1)*((E.ty 65).bytes+1)<=yg/\(E.ty 65).bytes<=65536/\(y28 E 65).isSome=true/\2=(E.ty 65).size/\(yh acc).length=acc.length*2:=⟨by rw[hb];simp[yg];omega,by decide,rfl,rfl,z4r acc⟩
  unfold y3b;simp only[e67];rw[show y1b H (E.ty 65).size (E.ty 65).ag (.imm .exact [y3g a b])=some [y3g a b]from hlo,hA.eq]
  simp only[ar,aY];rw[if_neg (by simp),if_pos h5,zae]
  rfl
def ygc(x:Int × Ent):Int × Int:=(x.2.kind,x.2.idx)
def zdx:∀(l:List Pst),(y54 l).map ygc=yb6 l
 |[]=>rfl
 |p::l=>by
  have ih:=zdx l;rw[z5a,bp,ih,gL]
  rfl
def ycg(H:List Obj)(A:List (Int × Int))(d:D):Prop:=
 (A=[]/\d=.imm .exact []) \/ ∃ k cs,d=.sl k 0 A.length 2 true true/\At H k (.cells cs)/\cs.take (A.length*2)=yh A
def s325(l:List Pst)(ok:y9t l)(hN:y4o l<=1000000):∃ d hp',y1j E (dL E) 325 [y1t l] []=some (d,hp')/\ycg hp' (y91 l) d:=by
 have e359:=r359 l;refine z1j c325 (R:=fun d hp'=>ycg hp' (y91 l) d) (by simp) ?_
 conv in t325=>reduce;dsimp[ai]
 obtain⟨AS,hAS⟩:∃ AS,AS=yb6 l:=⟨_,rfl⟩;have hasl:AS.length=y4o l:=by rw[hAS];exact zfm l
 have hLs:y91 l=y1i (y1u AS):=by rw[hAS];rfl
 rw[hLs];simp[t325,n325,zl,e359];refine⟨380,_,rfl,?_⟩;intro L hL hcb;obtain⟨J,hJ⟩:∃ J:Nat->List (Int × Ent)->List Obj->Prop,J=fun f rem hp'=>2<=f /\ ∃ acc d,At hp' 0 (.cells [d])/\At hp' 1 (L false none)/\acc++rem.map ygc=AS/\y5q f hp' acc d:=⟨_,rfl⟩
 have key:=i380 l ok 1 J (fun _=>False) (by
   rw[hJ];rintro f rem hp' r ⟨hf,acc,d,a1,a2,a3,a4⟩;exact⟨hf,acc,d,a1.app,a2.app,a3,a4.app⟩) (by
   rw[hJ];rintro f rem hp' r ⟨hf,acc,d,a1,a2,a3,a4⟩;exact⟨by have:=a2.lt;omega,acc,d,a1.app,a2.app,a3,a4.own⟩) (by
   intro f x rem hp1 o hj ho;rw[hJ]at hj;obtain⟨hf,acc,d,a1,a2,a3,a4⟩:=hj;have l1:=a2.lt;obtain⟨mi,⟨kd,ix,am⟩⟩:=x;have hal:acc.length<=1000000:=by have:=congrArg cQ a3;rw[ao]at this;omega
   obtain⟨H1,hH1⟩:∃ H1,H1=hp1.set 1 (L true none):=⟨_,rfl⟩;have b0:At H1 0 (.cells [d]):=by rw[hH1];exact a1.ne (by omega)
   have b1:At H1 1 (L true none):=by rw[hH1];exact At.self l1
   have bf:At H1 f o:=by rw[hH1];exact ho.ne (by omega)
   have b4:y5q f H1 acc d:=by rw[hH1];exact a4.set (by omega)
   have l0:=b0.lt;have lf:=bf.lt;obtain⟨t,hp2,e1,e2⟩:=hcb [dI mi,y2v ⟨kd,ix,am⟩] hp1 (fun t hp'=>t=true/\J f rem hp'/\At hp' f o) rfl a2 (by
    rw[show[Obj.cells [D.imm yt.exact []]].length=1 from rfl]
    have y2:∀ r:List Obj,(hp1++r)[1]? = some (L false none):=fun r=>a2.app
    have y6:∀ r:List Obj,(hp1++r).set 1 (L true none)=H1++r:=fun r=>by rw[z1d l1,hH1]
    have y7:hp1.length=H1.length:=by rw[hH1,bq]
    have y0:∀ r:List Obj,(H1++r)[0]? = some (.cells [d]):=fun r=>b0.app
    have hda:d.atom=true:=by rcases a4 with⟨_,rfl⟩ | ⟨k,rfl,_⟩ <;> rfl
    obtain⟨d',H',g1,g2,g3,g4,g5⟩:=zyt (a:=kd) (b:=ix) (b4.app (r:=[.cells [dI kd,dI ix,dI am]])) hal (by rw[ao];omega) (by rw[ao];omega)
    have c0:At H' 0 (.cells [d]):=g5 0 _ (.inl (by omega)) b0.app
    have c1:At H' 1 (L true none):=g5 1 _ (.inl (by omega)) b1.app
    have cf:At H' f o:=g5 f _ (.inr rfl) bf.app;have c10:∀ o,(H'.set 0 o)[1]? = some (L true none):=fun o=>c1.ne (by omega)
    have fin:J f rem ((H'.set 0 (.cells [d'])).set 1 (L false none))/\At ((H'.set 0 (.cells [d'])).set 1 (L false none)) f o:=by have k0:=c0.lt;have k1:=c1.lt;rw[hJ];refine⟨⟨hf,acc++[(kd,ix)],d',(At.self k0).ne (by omega),At.self (by rw[bq];exact k1),by rw[<- a3];simp[ygc],(g2.set (by omega)).set (by omega)⟩,(cf.ne (by omega)).ne (by omega)⟩
    simp[y23,↓y2,↓y6,y7,↓y0,hda,g1,g3,g4,c0.eq,↓c10];exact fin)
   exact⟨t,hp2,e1,fun _=>e2.2,fun h=>by rw[e2.1]at h;cases h⟩) (hp:=[.cells [.imm .exact []],L false none]) (f0:=2) (by
   rw[hJ];exact⟨aj _,[],.imm .exact [],rfl,rfl,by rw[zdx,hAS];rfl,.inl ⟨rfl,rfl⟩⟩)
 obtain⟨d,hp',h1,h2⟩:=key;rcases h2 with⟨f,h2⟩ | h2
 ·rw[hJ]at h2;obtain⟨_,acc,dd,a1,a2,a3,a4⟩:=h2;rw[aO,bG]at a3;subst a3;refine⟨d,hp',h1,.inl ⟨a2,?_⟩⟩;have hal:acc.length<=1000000:=by omega
  obtain⟨H2,hH2⟩:∃ H2,H2=hp'.set 1 Obj.dead:=⟨_,rfl⟩;have b0:At H2 0 (.cells [dd]):=by rw[hH2];exact a1.ne (by omega)
  have b4:y5q f H2 acc dd:=by rw[hH2];exact a4.set (by omega)
  have l0:=b0.lt;rcases b4 with⟨rfl,rfl⟩ | ⟨k,rfl,hk2,hkf,b4⟩
  ·have e1:=ylp (hp:=H2) (k:=362) (.inl rfl);have e2:=ylo H2;have c0:∀ o,(H2.set 0 o)[0]? = some o:=fun o=>At.self l0
   simp[<- hH2,b0.eq,e1,e2,y18,↓c0];exact .inl ⟨by simp[y1u,y1i],rfl⟩
  ·have e1:=s361 (k:=362) (gr:=true) (ag:=true) (.inl rfl) b4 hal;obtain⟨H3,hH3⟩:∃ H3,H3=H2.set k (.cells (yh (y1u acc))):=⟨_,rfl⟩;have g0:At H3 0 (.cells [.sl k 0 acc.length 2 true true]):=by rw[hH3];exact b0.ne (by omega)
   have g4:At H3 k (.cells (yh (y1u acc))):=by rw[hH3];exact At.self b4.lt
   obtain⟨d',H4,e2,cs,rfl,f4,f5,K⟩:=s363 g4 (by rw[z30];exact hal)
   rw[z30]at e2;have f0:=K.2 0 _ (by omega) g0
   have c0:∀ o,(H4.set 0 o)[0]? = some o:=fun o=>At.self f0.lt
   simp[<- hH2,b0.eq,e1,<- hH3,g0.eq,e2,f0.eq,y18,↓c0];exact .inr ⟨k,cs,rfl,f4.ne (by omega),f5⟩
 ·exact h2.elim
def r325(l:List Pst)(ok:y9t l)(hN:y4o l<=1000000):yu E (dL E) 325 [y1t l]=some (ya8 (y91 l)):=by
 obtain⟨d,hp',e,h⟩:=s325 l ok hN;have hk:E.keep 325=false:=rfl;unfold yu;simp only[e,hk];show frz hp' 12 d=_
 rcases h with⟨h1,rfl⟩ | ⟨k,cs,rfl,h2,h3⟩
 ·rw[h1];rfl
 ·exact zwx (n:=9) h2 h3
def y48:yt->List Obj->List Obj
 |.tok q,h=>h.set q .dead
 |_,h=>h
def z7y{sp:yt}{h:List Obj}:(y48 sp h).length=h.length:=by unfold y48;split <;> simp
def y61(h:List Obj)(sp:yt)(n sz:Nat):Prop:=sp=.exact \/ ∃ k,sp=.tok k/\At h k (.tok (n*sz) sz)
def y61.app{h r:List Obj}{sp:yt}{n sz:Nat}(R:y61 h sp n sz):y61 (h++r) sp n sz:=by
 rcases R with R | ⟨k,R,a⟩
 ·exact .inl R
 ·exact .inr ⟨k,R,a.app⟩
def zh4{h r:List Obj}{sp:yt}{n sz:Nat}(R:y61 h sp n sz):y48 sp (h++r)=y48 sp h++r:=by
 rcases R with rfl | ⟨k,rfl,a⟩
 ·rfl
 ·exact z1d a.lt
def zwf{h:List Obj}{sp:yt}{j:Nat}{o:Obj}(a:At h j o)(hj:∀ k,sp=.tok k->k ≠ j):At (y48 sp h) j o:=by
 cases sp with
 |tok k=>exact a.ne (hj k rfl)
 |exact=>exact a
 |none=>exact a
def zus{hp:List Obj}{id t e sz:Nat}{sp sp':yt}{els new:List D}(hk:(E.ty t).k=.slice e)(hs:(E.ty e).size=sz)(hl:y1b hp (E.ty e).size (E.ty e).ag (.imm sp' new)=some new)(hap:y2o E e els new)(R:y61 hp sp els.length sz) :
  y9b E hp id t t (.imm sp els) (.imm sp' new)=some (.imm (.tok id) (els++new),y2e (y48 sp hp) id (.tok ((els.length+new.length)*sz) sz)):=by
 rw[hs]at hl;rcases R with rfl | ⟨k,rfl,a⟩
 ·rw[zz];simp only[hk,hl,zc,hs];rw[if_pos hap]
  rfl
 ·rw[z14];simp only[hk,hl,zc,hs];rw[if_pos hap,a.eq,z65,zc,if_pos ⟨rfl,rfl⟩]
  rfl
def znp{hp:List Obj}{sp:yt}{sz:Nat}{ag:Bool}{els:List D}(h:∀ x,x ∈ els->x.storable=true/\x.cellsL.length=sz):y1b hp sz ag (.imm sp els)=some els:=by
 simp only[y1b];rw[if_pos (by
  rw[ay];intro x hx;rw[(h x hx).1,(h x hx).2];simp)]
def zx8{sz:Nat}{els:List D}(h:∀ x,x ∈ els->x.storable=true/\x.cellsL.length=sz):y2k sz els=true:=by unfold y2k;rw[ay];intro x hx;rw[(h x hx).1,(h x hx).2];simp
def zlw{l:List Ent}:∀ x,x ∈ l.map y2v->x.storable=true/\x.cellsL.length=3:=fun x hx=>by obtain⟨s,_,rfl⟩:=aL.1 hx;exact⟨rfl,rfl⟩
def zut{hp:List Obj}{id:Nat}{sp sp':yt}{l m:List Ent}(hl:l.length+m.length<=10000000)(R:y61 hp sp l.length 3) :
  y9b E hp id 66 66 (.imm sp (l.map y2v)) (.imm sp' (m.map y2v))=some (.imm (.tok id) (l.map y2v++m.map y2v),y2e (y48 sp hp) id (.tok ((l.length+m.length)*3) 3)):=by
 have:=zus (hp:=hp) (id:=id) (t:=66) (e:=72) (sz:=3) (sp:=sp) (sp':=sp') (els:=l.map y2v) (new:=m.map y2v) rfl rfl (znp zlw) ⟨by
  rw[aF,aF,show(E.ty 72).bytes=24 from rfl];simp[yg];omega,by decide,rfl,zx8 zlw⟩ (by rw[aF];exact R)
 rw[aF,aF]at this;exact this
def yj3{h r:List Obj}{j:Nat}{sp:yt}{l:List Ent}{a b c:Int}(hl:l.length<=1000000)(R:y61 h sp l.length 3)(hj:j<r.length) :
  y9b E (h++r) (h.length+j) 66 66 (.imm sp (l.map y2v)) (.imm .exact [.agg [dI a,dI b,dI c]])=some (.imm (.tok (h.length+j)) (l.map y2v++[y2v ⟨a,b,c⟩]),y48 sp h++r.set j (.tok ((l.length+1)*3) 3)):=by
 have e:=zut (hp:=h++r) (id:=h.length+j) (sp:=sp) (sp':=.exact) (l:=l) (m:=[⟨a,b,c⟩]) (by simp;omega) R.app
 rw[zh4 R]at e;have e2:y2e (y48 sp h++r) (h.length+j) (.tok ((l.length+1)*3) 3)=y48 sp h++r.set j (.tok ((l.length+1)*3) 3):=by
  unfold y2e;rw[if_pos (by rw[ao,z7y];omega)]
  have:=z40 (hp:=y48 sp h) (r:=r) (k:=j) (x:=.tok ((l.length+1)*3) 3);rwa [z7y]at this
 rw[<- e2];exact e
def y61.ne{h:List Obj}{sp:yt}{n sz q:Nat}{o:Obj}(R:y61 h sp n sz)(B:At h q o)(ho:∀ u s,o ≠ .tok u s):∀ k,sp=.tok k->k ≠ q:=by
 intro k hk e;subst e;rcases R with rfl | ⟨k',rfl,a⟩
 ·cases hk
 ·cases hk;have:=a.eq.symm.trans B.eq;cases this;exact ho _ _ rfl
def yli{h r:List Obj}{sp:yt}{j u s:Nat}(hr:r[j]? = some (.tok u s)):At (y48 sp h++r) (h.length+j) (.tok u s):=by have:=z1o (hp:=y48 sp h) (r:=r) (k:=j);rw[z7y]at this;unfold At;rw[this];exact hr
def zgm{h r:List Obj}{sp:yt}{n sz j:Nat}(hr:r[j]? = some (.tok (n*sz) sz)):y61 (y48 sp h++r) (.tok (h.length+j)) n sz:=.inr ⟨_,rfl,yli hr⟩
def y6e(m:y3y):List (D × D):=m.map fun e=>(y3g e.1.1 e.1.2,dI e.2)
def ztb{a b:Key}:(y3g a.1 a.2).eqb (y3g b.1 b.2)=some (decide (a=b)):=by
 have h:(y3g a.1 a.2).eqb (y3g b.1 b.2)=some ((a.1 == b.1) && ((a.2 == b.2) && true)):=rfl;rw[h];obtain⟨a1,a2⟩:=a;obtain⟨b1,b2⟩:=b;simp only[aa,aw,ek]
 by_cases h1:a1=b1 <;> by_cases h2:a2=b2 <;> simp[h1,h2]
def zzn{a:Key}:∀{m:y3y},y17 (y3g a.1 a.2) (y6e m)=some ((y3t a m).map dI)
 |[]=>rfl
 |e::r=>by
  have ih:=zzn (a:=a) (m:=r);have hc:y6e (e::r)=(y3g e.1.1 e.1.2,dI e.2)::y6e r:=rfl;rw[hc,y17];simp only[ztb];unfold y3t
  by_cases h:a=e.1
  ·simp[h]
  ·simp only[h,decide_false,if_false];exact ih
def yhn{a:Key}{n:Int}:∀{m:y3y},y1n (y3g a.1 a.2) (dI n) (y6e m)=some (y6e (y83 a n m))
 |[]=>rfl
 |e::r=>by
  have ih:=yhn (a:=a) (n:=n) (m:=r);have hc:y6e (e::r)=(y3g e.1.1 e.1.2,dI e.2)::y6e r:=rfl;rw[hc,y1n];simp only[ztb];unfold y83
  by_cases h:a=e.1
  ·simp only[h,decide_true,if_true];rfl
  ·simp only[h,decide_false,if_false,ih];rfl
def yjq{H:List Obj}{q:Nat}{m:y3y}{a b:Int}(A:At H q (.map (y6e m))):y2f E H 75 (.map (some q)) (y3g a b) false=some (dI (y26 (a,b) m)):=by have hk:(E.ty 75).k=.map 65 2:=rfl;have hz:y28 E 2=some (dI 0):=rfl;have hf:y17 (y3g a b) (y6e m)=some ((y3t (a,b) m).map dI):=zzn (a:=(a,b));have ho:y4w E 65 (y3g a b)=true:=rfl;unfold y2f;simp only[hk,ho,if_true,A.eq,hf,hz];unfold y26;cases y3t (a,b) m <;> rfl
def ym3{H:List Obj}{q:Nat}{m:y3y}{a b n:Int}(A:At H q (.map (y6e m))):y39 E H 75 (.map (some q)) (y3g a b) (dI n)=some (H.set q (.map (y6e (y83 (a,b) n m)))):=by
 have hk:(E.ty 75).k=.map 65 2:=rfl;have hf:y1n (y3g a b) (dI n) (y6e m)=some (y6e (y83 (a,b) n m)):=yhn (a:=(a,b));have ho:y4w E 65 (y3g a b)=true:=rfl;unfold y39;simp only[hk,A.eq,hf];rw[if_pos ⟨ho,rfl,rfl⟩]
 rfl
def zla:∀{m:y3y},y6k (y6e m)=some (y1y m)
 |[]=>rfl
 |e::r=>by
  have ih:=zla (m:=r);have hc:y6e (e::r)=(.agg [.int .i64 e.1.1,.int .i64 e.1.2],dI e.2)::y6e r:=rfl;rw[hc,y6k,ih]
  rfl
def s387(d:D)(hp:List Obj)(hd:d.storable=true)(hc:d.cellsL=[d])(hm:yy d=false):y1j E (dL E) 387 [d] hp=some (.fn 409 [.iptr [d]],hp):=by
 obtain⟨x,y,e,rfl,rfl⟩:∃ x y,y1j E (dL E) 387 [d] hp=some (x,y)/\(x=.fn 409 [.iptr [d]]/\y=hp):=by
  refine z1j c387 (R:=fun x y=>x=.fn 409 [.iptr [d]]/\y=hp) (by simp) ?_
  conv in t387=>reduce;dsimp[ai]
  simp[t387,n387,hd,hc,hm]
 exact e
def s388{hp:List Obj}{q:Nat}{m:y3y}(A:At hp q (.map (y6e m)))(hl:m.length<=1000000) :
  y1j E (dL E) (388) [.fn 409 [.iptr [.map (some q)]],.fn 386 []] hp=some (ya8 (y1u (y1y m)),hp):=by
 have e:E.fn (388)=some f388:=rfl;have e2:E.mp (388)=false:=rfl;have e4:E.prim 1=ya5 [409] [386]:=rfl;have e5:ya5 [409] [386] [.fn 409 [.iptr [.map (some q)]],.fn 386 []] hp=some (ya8 (y1u (y1y m)),hp):=by
  unfold ya5;have hc:([409].contains 409 && [386].contains 386)=true:=rfl;simp only[hc,if_true,A.eq,zla];rw[if_pos (by simp[y1y];omega)]
  rfl
 unfold y1j;simp only[e,e2,f388,yp,z9h,z5z,zhm,z5d,z6s,y2s];simp[yi,yf,yn,y2i,DOp.fin,yo,yb,yq,gOf,z6s,y29,y6c,yk,y2e,z5d,z8v,yy,e4,e5,y2r]
def zte{m:y3y}{l:List Key}{i:Nat}(h:i<l.length):y6a m (l.take (i+1))=if y26 l[i] m=0 then y6a m (l.take i)else y6a m (l.take i)++[⟨l[i].1,l[i].2,y26 l[i] m⟩]:=by
 have key:∀(a:List Key) (x:Key),y6a m (a++[x])=if y26 x m=0 then y6a m a else y6a m a++[⟨x.1,x.2,y26 x m⟩]:=by
  intro a x
  induction a with
  |nil=>simp only[bn,y6a]
  |cons y a ih=>simp only[aG,y6a,ih];split <;> split <;> rfl
 rw[aN h,key]
def zxh{m:y3y}{l:List Key}:(y6a m l).length<=l.length:=by have:=(z85 (m:=m) (l:=l)).length_le;simpa using this
def s370{hp:List Obj}{q:Nat}{m:y3y}(A:At hp q (.map (y6e m)))(hl:m.length<=1000000) :
  ∃ d hp',y1j E (dL E) 370 [.map (some q)] hp=some (d,hp') /\ ∃ sp,d=.imm sp ((yaz m).map y2v):=by
 refine z1j c370 (args:=[.map (some q)]) (hp:=hp) (R:=fun d hp'=>∃ sp,d=.imm sp ((yaz m).map y2v)) (by simp) ?_
 conv in t370=>reduce;dsimp[ai]
 obtain⟨KS,hKS⟩:∃ KS,KS=y1u (y1y m):=⟨_,rfl⟩;have hkl:KS.length<=1000000:=by rw[hKS,z30];simp[y1y];omega
 have e1:=s387 (.map (some q)) hp rfl rfl rfl;have e2:=s388 A hl;rw[<- hKS]at e2;have hM:yaz m=y6a m KS:=by rw[hKS];rfl
 rw[hM];simp[t370,n370,e1,e2,y18];refine zo KS.length (fun i env h=>∃(x3 x8 x9 x10 x11:D) (sp:yt),env=[.map (some q),.imm sp ((y6a m (KS.take i)).map y2v),.fn 386 [],x3,.fn 409 [.iptr [.map (some q)]],ya8 KS,dI KS.length,dI i,x8,x9,x10,x11] /\
  y61 h sp (y6a m (KS.take i)).length 3/\At h q (.map (y6e m))) 0 (by omega) ⟨_,_,_,_,_,.exact,rfl,.inl rfl,A⟩ ?_
 rintro i env h hi ⟨x3,x8,x9,x10,x11,sp,rfl,R,B⟩
 by_cases hlt:i<KS.length
 rotate_left
 ·have:i=KS.length:=by omega
  subst this;rw[bh];simp
 have hup:=ze hlt (by omega)
 have y1:=fun r:List Obj=>yjq (a:=KS[i].1) (b:=KS[i].2) (B.app (r:=r))
 have pA:yc0 KS[i]=.agg [dI KS[i].1,dI KS[i].2]:=rfl;have htk:=zte (m:=m) hlt;have hln:=zxh (m:=m) (l:=KS.take i);rw[bc]at hln;obtain⟨L,hL⟩:∃ L,L=y6a m (KS.take i):=⟨_,rfl⟩;rw[<- hL]at htk hln R ⊢;have y2:∀(r:List Obj) (c:Int),8<r.length->y9b E (h++r) (h.length+1+7) 66 66 (.imm sp (L.map y2v)) (.imm .exact [.agg [dI KS[i].1,dI KS[i].2,dI c]])=some (.imm (.tok (h.length+8)) (L.map y2v++[y2v ⟨KS[i].1,KS[i].2,c⟩]),y48 sp h++r.set 8 (.tok ((L.length+1)*3) 3)):=fun r c hr=>yj3 (by omega) R hr
 by_cases h0:y26 KS[i] m=0
 ·have h0':y26 (KS[i].1,KS[i].2) m=0:=h0;rw[if_pos h0]at htk;simp[hlt,pA,-z1y,y1,h0',hup,htk];exact⟨_,_,_,_,_,_,⟨rfl,rfl,rfl,rfl,rfl,rfl⟩,R.app,B.app⟩
 ·have h0' : ¬ y26 (KS[i].1,KS[i].2) m=0:=h0;rw[if_neg h0]at htk;simp[hlt,pA,-z1y,y1,h0',hup,htk,y2];exact⟨_,_,_,_,_,_,⟨rfl,rfl,rfl,rfl,rfl,rfl⟩,zgm rfl,(zwf B (R.ne B (by simp))).app⟩
end Dv
namespace Dv
def okT(x:Ent):Prop:=(1<=x.kind/\x.kind<=4)/\(-1<=x.idx/\x.idx<=4095)/\(-1099511627776<=x.amt/\x.amt<=1099511627776)/\x.amt ≠ 0
instance(x:Ent):Decidable (okT x):=inferInstanceAs (Decidable (_/\_))
def tgt(t:List Ent):Prop:=(∀ x,x ∈ t->okT x)/\yjp t
def y41(l:List Pst):List Ent:=l.flatMap fun p=>p.ents
def low(l:List Ent):List Ent:=l.filter fun x=>decide (x.kind<=4)
def bkN(l:List Pst)(t:List Ent):List Ent:=y5l (t++y5w (low (y41 l)))
def bkS(l:List Pst)(m:Int)(t:List Ent):Stp:=⟨m,(l.length:Int) - 1,bkN l t⟩
open Classical in
noncomputable def boE(tg:Tag)(l:List Pst)(m:Int)(t:List Ent):Int:=
 if rdE tg l ≠ 0 then rdE tg l else if ¬ tgt t then 430 else if bkN l t=[]then 0 else y4s tg l (bkS l m t)
open Classical in
noncomputable def boL(tg:Tag)(l:List Pst)(m:Int)(t:List Ent):List Pst:=
 if boE tg l m t=0 then(if bkN l t=[]then l else l++[y8a tg l (bkS l m t)])else[]
def zc7(a b:List Pst):y41 (a++b)=y41 a++y41 b:=k8
def znk(a b:List Ent):low (a++b)=low a++low b:=gK ..
def z8a:∀(l:List Pst),(y41 l).length=y4o l
 |[]=>rfl
 |p::l=>by have:=z8a l;simp only[y41,bm,ao,y4o]at this ⊢;omega
def zuu{k i:Int}:∀{l:List Ent},yz k i (low l)=if k<=4 then yz k i l else 0
 |[]=>by simp[low,yz]
 |x::l=>by
  have ih:=zuu (k:=k) (i:=i) (l:=l);unfold low at ih ⊢;rw[ir]
  by_cases h:x.kind<=4
  ·rw[if_pos (by simpa using h)]
   simp only[yz,ih]
   by_cases hk:k<=4
   ·simp[hk]
   ·have : ¬ (x.kind=k/\x.idx=i):=fun e=>hk (by omega)
    simp[hk,this]
  ·rw[if_neg (by simpa using h)]
   simp only[yz,ih]
   by_cases hk:k<=4
   ·have : ¬ (x.kind=k/\x.idx=i):=fun e=>h (by omega)
    simp[this]
   ·simp[hk]
def zfj{k i m:Int}:∀{l:List Pst},(∀ p,p ∈ l->p.minute<=m)->y4q k i m l=yz k i (y41 l)
 |[],_=>rfl
 |p::l,h=>by
  have ih:=zfj (l:=l) (k:=k) (i:=i) fun q hq=>h q (by simp[hq])
  have e:y41 (p::l)=p.ents++y41 l:=rfl;rw[e,z49];simp only[y4q];rw[if_pos (h p (by simp)),ih]
def zvc{t:List Ent}(h:tgt t){k i:Int}(hk : ¬ k<=4):yz k i t=0:=by
 refine z89 fun hm=>?_
 obtain⟨x,hx,e⟩:=aL.1 hm;have:=(h.1 x hx).1.2;have e1:x.kind=k:=congrArg Prod.fst e;omega
def yfu{l:List Pst}{t:List Ent}{k i:Int}:yz k i (bkN l t)=yz k i t - if k<=4 then yz k i (y41 l)else 0:=by unfold bkN;rw[z8g,z49,zhx,zuu];omega
structure Bok(tg:Tag)(l:List Pst)(m:Int)(t:List Ent):Prop where
 v:vld tg l
 ok:tgt t
 post:bkN l t ≠ []->y4s tg l (bkS l m t)=0
open Classical in
def zfg{tg:Tag}{l:List Pst}{m:Int}{t:List Ent}:boE tg l m t=0 ↔ Bok tg l m t:=by
 unfold boE;constructor
 ·intro h;split at h
  ·rename_i h1;exact absurd h h1
  ·rename_i h1;split at h
   ·simp at h
   ·rename_i h2;refine⟨z27.1 (fX.1 h1),fX.1 h2,fun h3=>?_⟩
    rw[if_neg h3]at h;exact h
 ·intro ⟨h1,h2,h3⟩;rw[if_neg (by simp[z27.2 h1]),if_neg (by simp[h2])]
  split
  ·rfl
  ·rename_i h4;exact h3 h4
def zc0{tg:Tag}{l:List Pst}{m:Int}{t:List Ent}(b:Bok tg l m t):boL tg l m t=if bkN l t=[]then l else l++[y8a tg l (bkS l m t)]:=by unfold boL;rw[if_pos (zfg.2 b)]
def Bok.vld{tg:Tag}{l:List Pst}{m:Int}{t:List Ent}(b:Bok tg l m t):vld tg (boL tg l m t):=by
 rw[zc0 b];split
 ·exact b.v
 ·rename_i h;exact(zvt (b.post h)).2.2.1
def Bok.len{tg:Tag}{l:List Pst}{m:Int}{t:List Ent}(b:Bok tg l m t):l.length<=(boL tg l m t).length/\(boL tg l m t).length<=l.length+1/\(boL tg l m t).take l.length=l:=by rw[zc0 b];split <;> simp
def Bok.before{tg:Tag}{l:List Pst}{m w:Int}{t:List Ent}(b:Bok tg l m t)(h:w<m)(k i:Int):y4q k i w (boL tg l m t)=y4q k i w l:=by
 rw[zc0 b];split
 ·rfl
 ·rw[zk2];have : ¬ (y8a tg l (bkS l m t)).minute<=w:=by show ¬ m<=w;omega
  simp only[y4q,if_neg this];omega
def Bok.all{tg:Tag}{l:List Pst}{m:Int}{t:List Ent}(b:Bok tg l m t)(k i:Int):yz k i (y41 (boL tg l m t))=if k<=4 then yz k i t else yz k i (y41 l):=by
 have e:yz k i (y41 (boL tg l m t))=yz k i (y41 l)+yz k i (bkN l t):=by
  rw[zc0 b];split
  ·rename_i h;rw[h];simp[yz]
  ·rw[zc7,z49];have:y41 [y8a tg l (bkS l m t)]=bkN l t:=by simp[y41,y8a,bkS]
   rw[this]
 rw[e,yfu];split
 ·omega
 ·rename_i hk;rw[zvc b.ok hk];omega
def zua{l:List Pst}{t:List Ent}:(bkN l t).length<=t.length+y4o l:=by unfold bkN;have h1:=zra (l:=t++y5w (low (y41 l)));have h2:(low (y41 l)).length<=(y41 l).length:=gc ..;rw[z8a]at h2;rw[ao,zet]at h1;omega
def stE(l:List Pst)(k m:Int):List Ent:=((y91 l).filter fun a=>decide (a.1=k)).map fun a=>⟨a.1,a.2,y4q a.1 a.2 m l⟩
end Dv
namespace Dv
attribute [local simp] ah depth y1z y51 ya y15 y4p ye y2p y2e Ret
attribute [local congr] z1f z1g z16 z12 zx z17 zw
def wib(x a b:Int):Bool:=decide (a<=x) && decide (x<=b)
def z8b{x a b:Int}:wib x a b=true ↔ a<=x/\x<=b:=by unfold wib;simp
def yjk(x a b:Int):yu E (dL E) 368 [dI x,dI a,dI b]=some (.bool (wib x a b)):=by
 refine zg c368 (by simp) ?_
 conv in t368=>reduce;dsimp[ai]
 by_cases h:a<=x <;> simp[t368,n368,wib,h]
def okB(x:Ent):Bool:=wib x.kind 1 4 && (wib x.idx (-1) 4095 && (wib x.amt (-1099511627776) 1099511627776 && !decide (x.amt=0)))
def zr5{x:Ent}:okB x=true ↔ okT x:=by unfold okB okT;simp only[ak,z8b,Bool.not_eq_true',decide_eq_false_iff_not]
def ylj(t:List Ent)(j:Nat):Prop:=∃ x,t[j]? = some x/\okT x /\ ∀ i y,i+1=j->t[i]? = some y->ltA y x
def zq2{t:List Ent}:tgt t ↔ ∀ j,j<t.length->ylj t j:=by
 constructor
 ·intro h j hj;refine⟨t[j],ac hj,h.1 _ (av hj),fun i y e hy=>?_⟩
  subst e;have hi:=(ae.1 hy);obtain⟨h1,rfl⟩:=hi;exact h.2 i hj
 ·intro h;refine⟨fun x hx=>?_,fun i hi=>?_⟩
  ·obtain⟨j,hj⟩:=List.mem_iff_getElem?.1 hx;obtain⟨y,hy,ok,_⟩:=h j (ae.1 hj).1;rw[hj]at hy;cases hy;exact ok
  ·obtain⟨y,hy,_,o⟩:=h (i+1) hi;rw[ac hi]at hy;cases hy;exact o i _ rfl (ac (by omega))
open Classical in
def r375(t:List Ent)(hl:t.length<=1000000):yu E (dL E) 375 [.imm .none (t.map y2v)]=some (.bool (decide (tgt t))):=by
 have e368:=yjk;refine zg c375 (by simp) ?_
 conv in t375=>reduce;dsimp[ai]
 obtain⟨B,hB⟩:∃ B,B=decide (tgt t):=⟨_,rfl⟩;have hBf : ¬ tgt t->B=false:=fun h=>by rw[hB];simp[h]
 have hBt:tgt t->B=true:=fun h=>by rw[hB];simp[h]
 rw[<- hB];simp[t375,n375];refine zo t.length (fun i env h=>∃(x2 x3 x4 x5 x9 x10 x11 x12 x13 x14 x15:D) ,env=[.imm .none (t.map y2v),.bool false,x2,x3,x4,x5,.imm .none (t.map y2v),dI t.length,dI i,x9,x10,x11,x12,x13,x14,x15] /\ ∀ j,j<i->ylj t j) 0 (by omega) ⟨_,_,_,_,_,_,_,_,_,_,_,rfl,fun j hj=>by omega⟩ ?_
 rintro i env h hi ⟨x2,x3,x4,x5,x9,x10,x11,x12,x13,x14,x15,rfl,ht⟩
 by_cases hlt:i<t.length
 rotate_left
 ·have:i=t.length:=by omega
  subst this;have:=hBt (zq2.2 ht);simp[this]
 have hup:=ze hlt (by omega)
 obtain⟨x,hx⟩:∃ x,x=t[i]:=⟨_,rfl⟩;have hx2:t[i]? = some x:=by rw[hx];exact ac hlt
 have no:okB x=false->B=false:=fun h=>hBf fun h2=>by obtain⟨y,hy,ok,_⟩:=zq2.1 h2 i hlt;rw[hx2]at hy;cases hy;rw[zr5.2 ok]at h;cases h
 by_cases h1:wib x.kind 1 4=true
 rotate_left
 ·have h1:wib x.kind 1 4=false:=by simpa using h1
  have:=no (by unfold okB;rw[h1];rfl)
  simp[hlt,e368,<- hx,h1,this]
 by_cases h2:wib x.idx (-1) 4095=true
 rotate_left
 ·have h2:wib x.idx (-1) 4095=false:=by simpa using h2
  have:=no (by unfold okB;rw[h1,h2];rfl)
  simp[hlt,e368,<- hx,h1,h2,this]
 by_cases h3:wib x.amt (-1099511627776) 1099511627776=true
 rotate_left
 ·have h3:wib x.amt (-1099511627776) 1099511627776=false:=by simpa using h3
  have:=no (by unfold okB;rw[h1,h2,h3];rfl)
  simp[hlt,e368,<- hx,h1,h2,h3,this]
 by_cases h4:x.amt=0
 ·have:=no (by unfold okB;rw[h1,h2,h3,decide_eq_true h4];rfl)
  simp[hlt,e368,<- hx,h1,h2,h3,h4,this]
 have ok:okT x:=zr5.1 (by unfold okB;rw[h1,h2,h3,decide_eq_false h4];rfl)
 rcases eu i with h0 | h0
 ·subst h0;simp[hlt,e368,<- hx,h1,h2,h3,h4];exact⟨rfl,x,hx2,ok,fun i y e=>by omega⟩
 ·have hw:aJ.wrap ((i:Int) - 1)=((i - 1:Nat):Int):=by rw[za ⟨by omega,by omega⟩];omega
  have hlt':i - 1<t.length:=by omega
  obtain⟨y,hy⟩:∃ y,y=t[i - 1]:=⟨_,rfl⟩;have hy2:t[i - 1]? = some y:=by rw[hy];exact ac hlt'
  have no2 : ¬ ltA y x->B=false:=fun h=>hBf fun h2=>by obtain⟨x',hx',_,o⟩:=zq2.1 h2 i hlt;rw[hx2]at hx';cases hx';exact h (o (i - 1) y (by omega) hy2)
  have yes:ltA y x->∀ j,j<i+1->ylj t j:=fun h j hj=>by
   rcases Nat.lt_or_ge j i with h5 | h5
   ·exact ht j h5
   ·have:j=i:=by omega
    subst this;refine⟨x,hx2,ok,fun k z e hz=>?_⟩
    have:k=j - 1:=by omega
    subst this;rw[hy2]at hz;cases hz;exact h
  by_cases ha:x.kind<y.kind
  ·have:=no2 (by unfold ltA;omega)
   simp[hlt,e368,<- hx,h1,h2,h3,h4,h0,hw,hlt',<- hy,ha,this]
  by_cases hb:y.kind=x.kind
  ·by_cases hc:x.idx<=y.idx
   ·have:=no2 (by unfold ltA;omega)
    simp[hlt,e368,<- hx,h1,h2,h3,h4,h0,hw,hlt',<- hy,ha,hb,hc,this]
   ·have:=yes (by unfold ltA;omega)
    simp[hlt,e368,<- hx,h1,h2,h3,h4,h0,hw,hlt',<- hy,ha,hb,hc,hup];exact this
  ·have:=yes (by unfold ltA;omega)
   simp[hlt,e368,<- hx,h1,h2,h3,h4,h0,hw,hlt',<- hy,ha,hb,hup];exact this
def z4k{hp:List Obj}{n:Nat}{l:List Ent}:y1k (frz hp (n+2)) (l.map y2v)=some (l.map y2v):=z1e fun _ _=>rfl
noncomputable def boD(l:List Pst)(m:Int)(t:List Ent):D:=.tup [y1t (boL tgB l m t),dI (boE tgB l m t)]
def bdE(x:Ent):Prop:=-1099511627776<=x.amt/\x.amt<=1099511627776
def zaa{L r F:List Ent}{x:Ent}(hF:∀ x,x ∈ F->bdE x)(hl:F.length<=2000000)(e:L++x::r=F):aJ.wrap (y26 (x.kind,x.idx) (y1f L [])+x.amt)=y26 (x.kind,x.idx) (y1f L [])+x.amt:=by
 have h1:=z3k (k:=x.kind) (i:=x.idx) (l:=L) (m:=[]);have h2:=zfl (k:=x.kind) (i:=x.idx) (l:=L) (B:=1099511627776) (fun y hy=>hF y (by rw[<- e];simp[hy])) (by omega)
 have h3:=hF x (by rw[<- e];simp)
 have h4:L.length<=2000000:=by have:=congrArg cQ e;rw[ao]at this;omega
 rw[h1];unfold bdE at h3;have h5:y26 (x.kind,x.idx) []=0:=rfl;rw[h5];rw[za ⟨by omega,by omega⟩]
def zaf{L r F:List Ent}{x:Ent}(e:L++x::r=F):(L++[x])++r=F/\y83 (x.kind,x.idx) (y26 (x.kind,x.idx) (y1f L [])+x.amt) (y1f L [])=y1f (L++[x]) []:=by
 refine⟨by rw[<- e];simp,?_⟩
 rw[ze6];rfl
def zwb{x:Ent}{l:List Ent}:low (x::l)=if x.kind<=4 then x::low l else low l:=by unfold low;rw[ir];by_cases h:x.kind<=4 <;> simp[h]
def ziz(a b:List Ent):y5w (a++b)=y5w a++y5w b:=bp ..
def zrb(x:Ent)(a:List Ent):y5w (x::a)=yc2 x::y5w a:=rfl
def yfx{l:List Pst}{t:List Ent}(v:vld tgB l)(ht:tgt t):∀ x,x ∈ t++y5w (low (y41 l))->bdE x:=by
 intro x hx;rcases aB.1 hx with hx | hx
 ·exact(ht.1 x hx).2.2.1
 ·obtain⟨y,hy,rfl⟩:=aL.1 hx;have hy:=(List.mem_filter.1 hy).1;obtain⟨p,hp,hy⟩:=bB.1 hy;have:=((v.2.1 p hp).fm.ents.ok y hy).2.2;unfold bdE yc2;simp only;omega
def zwr{l:List Pst}{t:List Ent}:(t++y5w (low (y41 l))).length<=t.length+y4o l:=by have h2:(low (y41 l)).length<=(y41 l).length:=gc ..;rw[z8a]at h2;rw[ao,zet];omega
def yjl(l:List Pst)(m:Int)(t:List Ent)(ok:y9t l)(hN:t.length+y4o l<=1000000):yu E (dL E) 345 [y1t l,dI m,.imm .none (t.map y2v)]=some (boD l m t):=by
 have e324:=yjm l ok;have e375:=r375 t (by omega)
 refine zg c345 (by simp) ?_
 conv in t345=>reduce;dsimp[ai]
 unfold boD
 by_cases h0:rdE tgB l=0
 rotate_left
 ·have hE:boE tgB l m t=rdE tgB l:=by unfold boE;rw[if_pos h0]
  have hL:boL tgB l m t=[]:=by unfold boL;rw[if_neg (by rw[hE];exact h0)]
  rw[hE,hL];simp[t345,n345,zl,z4k,e324,h0]
 have v:=z27.1 h0;rw[h0]at e324
 by_cases ht:tgt t
 rotate_left
 ·have hE:boE tgB l m t=430:=by unfold boE;rw[if_neg (by simp[h0]),if_pos ht]
  have hL:boL tgB l m t=[]:=by unfold boL;rw[if_neg (by rw[hE];decide)]
  rw[hE,hL];simp[t345,n345,zl,z4k,e324,e375,ht]
 have hl:=ok.1;obtain⟨F,hF⟩:∃ F,F=t++y5w (low (y41 l)):=⟨_,rfl⟩;have hFb:∀ x,x ∈ F->bdE x:=by rw[hF];exact yfx v ht
 have hFl:F.length<=1000000:=by rw[hF];have:=zwr (l:=l) (t:=t);omega
 have hbk:bkN l t=y5l F:=by rw[hF];rfl
 obtain⟨X,hX⟩:∃ X,X=D.tup [y1t (boL tgB l m t),dI (boE tgB l m t)]:=⟨_,rfl⟩;rw[<- hX];simp[t345,n345,zl,z4k,e324,e375,ht];refine zo t.length (fun i env h=>∃(x3 x4 x6 x7 x8 x9 x10 x11 x12 x16 x17 x18 x19 x20 x21 x22 x23 x24 x25 x26 x27 x28 x29 x30 x31 x32 x33:D) (L:List Ent),env=[y1t l,dI m,.imm .none (t.map y2v),x3,x4,.map (some 0),x6,x7,x8,x9,x10,x11,x12,.imm .none (t.map y2v),dI t.length,dI i,x16,x17,x18,x19,x20,x21,x22,x23,x24,x25,x26,x27,x28,x29,x30,x31,x32,x33]/\At h 0 (.map (y6e (y1f L [])))/\L++(t.drop i++y5w (low (y41 l)))=F) 0 (by omega) ⟨_,_,_,_,_,_,_,_,_,_,_,_,_,_,_,_,_,_,_,_,_,_,_,_,_,_,_,[],rfl,rfl,by rw[hF];simp⟩ ?_
 rintro i env h hi ⟨x3,x4,x6,x7,x8,x9,x10,x11,x12,x16,x17,x18,x19,x20,x21,x22,x23,x24,x25,x26,x27,x28,x29,x30,x31,x32,x33,L,rfl,A,hLF⟩
 by_cases hlt:i<t.length
 ·have hup:=ze hlt (by omega)
  obtain⟨x,hx⟩:∃ x,x=t[i]:=⟨_,rfl⟩;rw[zh hlt,aG,<- hx]at hLF;have hw:=zaa hFb (by omega) hLF
  obtain⟨hs1,hs2⟩:=zaf hLF;have y1:=fun r:List Obj=>yjq (a:=x.kind) (b:=x.idx) (A.app (r:=r))
  have y2:=fun(r:List Obj) (n:Int)=>ym3 (a:=x.kind) (b:=x.idx) (n:=n) (A.app (r:=r))
  simp[hlt,<- hx,-z1y,-z31,y1,y2,hw,hs2,hup];exact⟨L++[x],At.self (A.app.lt),hs1⟩
 ·have:i=t.length:=by omega
  subst this;rw[bv,bn]at hLF;simp;refine zo l.length (fun j env h=>∃(x3 x4 x6 x7 x8 x9 x10 x11 x12 x13 x14 x15 x16 x17 x18 x22 x23 x24 x25 x26 x27 x28 x29 x30 x31 x32 x33:D) (L:List Ent),env=[y1t l,dI m,.imm .none (t.map y2v),x3,x4,.map (some 0),x6,x7,x8,x9,x10,x11,x12,x13,x14,x15,x16,x17,x18,y1t l,dI l.length,dI j,x22,x23,x24,x25,x26,x27,x28,x29,x30,x31,x32,x33]/\At h 0 (.map (y6e (y1f L [])))/\L++y5w (low (y41 (l.drop j)))=F) 0 (by omega) ⟨_,_,_,_,_,_,_,_,_,_,_,_,_,_,_,_,_,_,_,_,_,_,_,_,_,_,_,L,rfl,A,by rw[<- hLF];rfl⟩ ?_
  clear A hLF;clear L h x3 x4 x6 x7 x8 x9 x10 x11 x12 x16 x17 x18 x19 x20 x21 x22 x23 x24 x25 x26 x27 x28 x29 x30 x31 x32 x33;rintro j env h hj ⟨x3,x4,x6,x7,x8,x9,x10,x11,x12,x13,x14,x15,x16,x17,x18,x22,x23,x24,x25,x26,x27,x28,x29,x30,x31,x32,x33,L,rfl,A,hLF⟩
  by_cases hlt:j<l.length
  rotate_left
  ·have:j=l.length:=by omega
   subst this;rw[bv]at hLF;have hLF:L=F:=by rw[<- hLF];simp[y41,low,y5w]
   subst hLF;have hm:(y1f L []).length<=1000000:=by have:=z67 (l:=L) (m:=[]);simp at this;omega
   obtain⟨d,hp',e,sp,rfl⟩:=s370 A hm;have hbk2:bkN l t=yaz (y1f L []):=hbk;have hbl:=zua (l:=l) (t:=t);rw[<- hbk2]at e
   by_cases hb:bkN l t=[]
   ·rw[hb]at e;have b:Bok tgB l m t:=⟨v,ht,fun h=>absurd hb h⟩
    have hE:boE tgB l m t=0:=zfg.2 b;have hL:boL tgB l m t=l:=by rw[zc0 b,if_pos hb]
    rw[hE,hL]at hX;simp[e,y18,hX,zl]
   ·have e316:=r316 l (bkS l m t) ok (by unfold bkS;simp only;omega)
    have hw:aJ.wrap ((l.length:Int) - 1)=(l.length:Int) - 1:=za ⟨by omega,by omega⟩
    have hE:boE tgB l m t=y4s tgB l (bkS l m t):=by unfold boE;rw[if_neg (by simp[h0]),if_neg (by simp[ht]),if_neg hb]
    have hL:boL tgB l m t=if y4s tgB l (bkS l m t)=0 then l++[y8a tgB l (bkS l m t)]else[]:=by unfold boL;rw[hE,if_neg hb]
    have hX2:X=poD l (bkS l m t):=by rw[hX,hE,hL];rfl
    have e316':yu E (dL E) 316 [y1t l,dI m,dI ((l.length:Int) - 1),.imm .none ((bkN l t).map y2v)]=some X:=by rw[hX2];exact e316
    have hn : ¬ (((bkN l t).length:Int)=0):=by have:=List.length_pos_iff.2 hb;omega
    obtain⟨P,hP⟩:∃ P,P=boL tgB l m t:=⟨_,rfl⟩;obtain⟨Q,hQ⟩:∃ Q,Q=boE tgB l m t:=⟨_,rfl⟩;rw[<- hP,<- hQ]at hX;subst hX;simp[e,y18,zl,z4k,hb,hw,e316']
  have hup:=ze hlt (by omega)
  obtain⟨p,hpi⟩:∃ p,p=l[j]:=⟨_,rfl⟩;have hp2:=ok.2 p (by rw[hpi];exact av hlt)
  obtain⟨R,hR⟩:∃ R,R=y5w (low (y41 (l.drop (j+1)))):=⟨_,rfl⟩;rw[zh hlt,<- hpi,show y41 (p::l.drop (j+1))=p.ents++y41 (l.drop (j+1))from rfl,znk,ziz,<- hR]at hLF
  have q1:=fun h:List Obj=>zrq (h:=h) hp2.1
  have q3:=stP hp2.1;simp only[ah]at q3;have hA1:At (h++[.cells (pC p)]) h.length (.cells (pC p)):=by simp[At]
  have A2:=A.app (r:=[.cells (pC p)]);have y1:=ym9 hA1;simp[hlt,<- hpi,hp2.1,-z1c,q1,↓q3,y1];generalize h++[Obj.cells (pC p)]=H0 at A2 hA1;generalize h.length=C at hA1;have hel:=hp2.2;refine zo p.ents.length (fun i env h=>∃(x3 x4 x6 x7 x8 x9 x10 x11 x12 x13 x14 x15 x16 x17 x18 x22 x23 x27 x28 x29 x30 x31 x32 x33:D) (L:List Ent),env=[y1t l,dI m,.imm .none (t.map y2v),x3,x4,.map (some 0),x6,x7,x8,x9,x10,x11,x12,x13,x14,x15,x16,x17,x18,y1t l,dI l.length,dI j,x22,x23,.imm .none (p.ents.map y2v),dI p.ents.length,dI i,x27,x28,x29,x30,x31,x32,x33]/\At h 0 (.map (y6e (y1f L [])))/\L++(y5w (low (p.ents.drop i))++R)=F) 0 (by omega) ⟨_,_,_,_,_,_,_,_,_,_,_,_,_,_,_,_,_,_,_,_,_,_,_,_,L,rfl,A2,hLF⟩ ?_
  clear A A2 hLF y1 hA1 q1 q3;clear L h x3 x4 x6 x7 x8 x9 x10 x11 x12 x13 x14 x15 x16 x17 x18 x22 x23 x24 x25 x26 x27 x28 x29 x30 x31 x32 x33;rintro i env h hi ⟨x3,x4,x6,x7,x8,x9,x10,x11,x12,x13,x14,x15,x16,x17,x18,x22,x23,x27,x28,x29,x30,x31,x32,x33,L,rfl,A,hLF⟩
  by_cases hlt2:i<p.ents.length
  rotate_left
  ·have:i=p.ents.length:=by omega
   subst this;rw[bv]at hLF;have hLF:L++R=F:=by rw[<- hLF];simp[low,y5w]
   simp[hlt,hup];exact⟨L,A,by rw[<- hR];exact hLF⟩
  have hup2:=ze hlt2 (by omega)
  obtain⟨x,hx⟩:∃ x,x=p.ents[i]:=⟨_,rfl⟩;rw[zh hlt2,zwb,<- hx]at hLF;have y1:=fun r:List Obj=>yjq (a:=x.kind) (b:=x.idx) (A.app (r:=r))
  have y2:=fun(r:List Obj) (n:Int)=>ym3 (a:=x.kind) (b:=x.idx) (n:=n) (A.app (r:=r))
  by_cases hk:x.kind<=4
  ·rw[if_pos hk,zrb,aG]at hLF;have hw:=zaa hFb (by omega) hLF
   obtain⟨hs1,hs2⟩:=zaf hLF;have hw:aJ.wrap (y26 (x.kind,x.idx) (y1f L []) - x.amt)=y26 (x.kind,x.idx) (y1f L []) - x.amt:=hw;have hs2:y83 (x.kind,x.idx) (y26 (x.kind,x.idx) (y1f L []) - x.amt) (y1f L [])=y1f (L++[yc2 x]) []:=hs2;simp[hlt2,<- hx,-z1y,-z31,y1,y2,hw,hs2,hup2,hk];exact⟨L++[yc2 x],At.self (A.app.lt),hs1⟩
  ·rw[if_neg hk]at hLF;simp[hlt2,<- hx,-z1y,-z31,hup2,hk];exact⟨L,A.app,hLF⟩
def okn:y9t []:=⟨by simp,by simp⟩
def two{A:Type}{l:List A}(h:l.length=2):∃ a b,l=[a,b]:=by
 match l,h with
 |[a,b],_=>exact⟨a,b,rfl⟩
def zmj{l:List Pst}:(y91 l).length<=y4o l:=by unfold y91;exact aM z60 (by rw[z30,zfm];exact aj _)
def il2{h:List Obj}{a:Int}{r:List D}:y1c E h 2 (.iptr (dI a::r))=some (dI a):=rfl
def stF(l:List Pst)(k m:Int)(as:List Key):List Ent:=(as.filter fun a=>decide (a.1=k)).map fun a=>⟨a.1,a.2,y4q a.1 a.2 m l⟩
def zvl{l:List Pst}{k m:Int}{as:List Key}{i:Nat}(h:i<as.length):stF l k m (as.take (i+1))=if as[i].1=k then stF l k m (as.take i)++[⟨as[i].1,as[i].2,y4q as[i].1 as[i].2 m l⟩]else stF l k m (as.take i):=by
 unfold stF;rw[aN h,gK,bp]
 by_cases hk:as[i].1=k <;> simp[hk]
def ydp{l:List Pst}{k m:Int}{as:List Key}:(stF l k m as).length<=as.length:=by unfold stF;rw[aF];exact gc ..
def yg5{h:List Obj}{c:Obj}{sp:yt}{l:List Ent}{a b n:Int}(hl:l.length<=1000000)(R:y61 h sp l.length 3) :
  y9b E (h++[c]) (h.length+1) 66 66 (.imm sp (l.map y2v)) (.imm .exact [.agg [dI a,dI b,dI n]])=some (.imm (.tok (h.length+1)) (l.map y2v++[y2v ⟨a,b,n⟩]),y48 sp h++[c,.tok ((l.length+1)*3) 3]):=by
 have e:=zut (hp:=h++[c]) (id:=h.length+1) (sp:=sp) (sp':=.exact) (l:=l) (m:=[⟨a,b,n⟩]) (by simp;omega) R.app
 rw[zh4 R]at e;have e2:y2e (y48 sp h++[c]) (h.length+1) (.tok ((l.length+1)*3) 3)=y48 sp h++[c,.tok ((l.length+1)*3) 3]:=by unfold y2e;rw[if_neg (by rw[ao,z7y];simp),bi];rfl
 rw[<- e2];exact e
open Classical in
noncomputable def stX(l:List Pst)(k:Int):Int:=if rdE tgB l ≠ 0 then rdE tgB l else if wib k 1 5=true then 0 else 430
open Classical in
noncomputable def stD(l:List Pst)(k m:Int):D:=.tup [.imm .none ((if stX l k=0 then stE l k m else[]).map y2v),dI (stX l k)]
def r352(l:List Pst)(ok:y9t l)(hN:y4o l<=1000000)(k m:Int):yu E (dL E) 352 [y1t l,dI k,dI m]=some (stD l k m):=by
 have e324:=yjm l ok;have e325:=r325 l ok hN;have e368:=yjk;refine zg c352 (by simp) ?_
 conv in t352=>reduce;dsimp[ai]
 unfold stD
 by_cases h0:rdE tgB l=0
 rotate_left
 ·have hX:stX l k=rdE tgB l:=by unfold stX;rw[if_pos h0]
  rw[hX,if_neg h0];simp[t352,n352,zl,e324,h0]
 by_cases hk:wib k 1 5=true
 rotate_left
 ·have hk2:wib k 1 5=false:=by simpa using hk
  have hX:stX l k=430:=by unfold stX;rw[if_neg (by simp[h0]),if_neg hk]
  rw[hX,if_neg (by decide)]
  rw[h0]at e324;simp[t352,n352,zl,e324,e368,hk2]
 have hX:stX l k=0:=by unfold stX;rw[if_neg (by simp[h0]),if_pos hk]
 rw[hX,if_pos rfl];have e318:=fun a b=>yjn l ok hN a b m
 unfold blD at e318;rw[h0]at e324 e318;simp only[if_true]at e318;have hal:=zmj (l:=l);obtain⟨AS,hAS⟩:∃ AS,AS=y91 l:=⟨_,rfl⟩;have hst:stE l k m=stF l k m AS:=by rw[hAS];rfl
 rw[<- hAS]at e325 hal;rw[hst];simp[t352,n352,zl,e324,e368,hk,e325];refine zo AS.length (fun i env h=>∃(x5 x6 x7 x8 x9 x13 x14 x15 x16 x17 x18:D) (sp:yt),env=[y1t l,dI k,dI m,.imm sp ((stF l k m (AS.take i)).map y2v),dI 0,x5,x6,x7,x8,x9,ya8 AS,dI AS.length,dI i,x13,x14,x15,x16,x17,x18]/\y61 h sp (stF l k m (AS.take i)).length 3) 0 (by omega) ⟨_,_,_,_,_,_,_,_,_,_,_,.exact,rfl,.inl rfl⟩ ?_
 rintro i env h hi ⟨x5,x6,x7,x8,x9,x13,x14,x15,x16,x17,x18,sp,rfl,R⟩
 by_cases hlt:i<AS.length
 rotate_left
 ·have:i=AS.length:=by omega
  subst this;rw[bh];simp[z4k]
 have hup:=ze hlt (by omega)
 have pA:yc0 AS[i]=.agg [dI AS[i].1,dI AS[i].2]:=rfl;have e318:=e318 AS[i].1 AS[i].2;have htk:=zvl (l:=l) (k:=k) (m:=m) hlt;have hln:=ydp (l:=l) (k:=k) (m:=m) (as:=AS.take i);rw[bc]at hln;obtain⟨L,hL⟩:∃ L,L=stF l k m (AS.take i):=⟨_,rfl⟩;rw[<- hL]at htk hln R ⊢;have y2:∀(c:Obj) (n:Int),y9b E (h++[c]) (h.length+1) 66 66 (.imm sp (L.map y2v)) (.imm .exact [.agg [dI AS[i].1,dI AS[i].2,dI n]])=some (.imm (.tok (h.length+1)) (L.map y2v++[y2v ⟨AS[i].1,AS[i].2,n⟩]),y48 sp h++[c,.tok ((L.length+1)*3) 3]):=fun c n=>yg5 (by omega) R
 by_cases h0:AS[i].1=k
 ·rw[if_pos h0]at htk;subst h0;simp[hlt,pA,hup,htk,zl,e318,y2];exact⟨_,_,_,_,_,_,_,_,_,_,_,_,⟨rfl,rfl,rfl,rfl,rfl,rfl,rfl,rfl,rfl,rfl,rfl,rfl⟩,zgm (j:=1) rfl⟩
 ·rw[if_neg h0]at htk;simp[hlt,pA,h0,hup,htk];exact⟨_,_,_,_,_,_,_,_,_,_,_,_,⟨rfl,rfl,rfl,rfl,rfl,rfl,rfl,rfl,rfl,rfl,rfl,rfl⟩,R.app⟩
def r350(l:List Pst)(ok:y9t l):yu E (dL E) 350 [y1t l]=some (.tup [.bool (decide (rdE tgB l=0)),dI (rdE tgB l)]):=by
 have e324:=yjm l ok;refine zg c350 (by simp) ?_
 conv in t350=>reduce;dsimp[ai]
 by_cases h0:rdE tgB l=0
 rotate_left
 ·simp[t350,n350,zl,e324,h0]
 have v:=z27.1 h0;rw[h0]at e324 ⊢;have hl:=ok.1;simp[t350,n350,zl,e324];refine zo l.length (fun j env h=>∃(x3 x4 x5 x6 x7 x10 x11 x12 x13 x14 x15 x16 x17 x18 x19 x20 x21 x22:D) ,env=[y1t l,.bool false,dI 0,x3,x4,x5,x6,x7,dI l.length,dI j,x10,x11,x12,x13,x14,x15,x16,x17,x18,x19,x20,x21,x22]) 0 (by omega) ⟨_,_,_,_,_,_,_,_,_,_,_,_,_,_,_,_,_,_,rfl⟩ ?_
 rintro j env h hj ⟨x3,x4,x5,x6,x7,x10,x11,x12,x13,x14,x15,x16,x17,x18,x19,x20,x21,x22,rfl⟩
 by_cases hltj:j<l.length
 rotate_left
 ·have:j=l.length:=by omega
  subst this;simp
 have hupj:=ze hltj (by omega)
 obtain⟨z,hz⟩:∃ z,z=l[j]:=⟨_,rfl⟩;have hz2:=ok.2 z (by rw[hz];exact av hltj)
 simp[hltj];refine zo l.length (fun i env h=>∃(x5 x6 x7 x10 x14 x15 x16 x17 x18 x19 x20 x21 x22:D) ,env=[y1t l,.bool false,dI 0,dI j,dI 0,x5,x6,x7,dI l.length,dI j,x10,y1t l,dI l.length,dI i,x14,x15,x16,x17,x18,x19,x20,x21,x22]) 0 (by omega) ⟨_,_,_,_,_,_,_,_,_,_,_,_,_,rfl⟩ ?_
 clear h x3 x4 x5 x6 x7 x10 x11 x12 x13 x14 x15 x16 x17 x18 x19 x20 x21 x22;rintro i env h hi ⟨x5,x6,x7,x10,x14,x15,x16,x17,x18,x19,x20,x21,x22,rfl⟩
 by_cases hlt:i<l.length
 rotate_left
 ·have:i=l.length:=by omega
  subst this;simp[hltj,hupj]
 have hup:=ze hlt (by omega)
 obtain⟨p,hpi⟩:∃ p,p=l[i]:=⟨_,rfl⟩;have hpm:p ∈ l:=by rw[hpi];exact av hlt
 have hp2:=ok.2 p hpm;have g:=v.2.1 p hpm;have q1:=fun h:List Obj=>zrq (h:=h) hp2.1
 have q3:=stP hp2.1;simp only[ah]at q3;have hA1:∀ r,At (h ++ .cells (pC p)::r) h.length (.cells (pC p)):=fun r=>by simp[At]
 have y1:=fun r:List Obj=>ym9 (hA1 r)
 have y2:=fun r:List Obj=>ld2 (hA1 r)
 by_cases hm:p.minute<=z.minute
 rotate_left
 ·have hm':z.minute<p.minute:=by omega
  simp[hlt,hltj,<- hpi,<- hz,hp2.1,hz2.1,-z1c,-z8i,q1,↓q3,y1,y2,il2,hm,hm',hup]
 simp[hlt,hltj,<- hpi,<- hz,hp2.1,hz2.1,-z1c,-z8i,q1,↓q3,y1,y2,il2,hm,hup];generalize h ++ .cells (pC p)::_=H0;generalize h.length=C;clear q1 q3 hA1 y1 y2;have hel:=hp2.2;have hz0:y3i p.ents=0:=g.sum;have hmost:=g.fm.ents.most;refine zo p.ents.length (fun e env h=>∃(x5 x6 x7 x10 x14 x15 x16 x20 x21 x22:D) (c:Int),env=[y1t l,.bool false,dI 0,dI j,dI c,x5,x6,x7,dI l.length,dI j,x10,y1t l,dI l.length,dI i,x14,x15,x16,.imm .none (p.ents.map y2v),dI p.ents.length,dI e,x20,x21,x22]/\c+y3i (p.ents.drop e)=0 /\ -(1099511627776*(e:Int))<=c/\c<=1099511627776*(e:Int)) 0 (by omega) ⟨_,_,_,_,_,_,_,_,_,_,0,rfl,by simp[hz0],by simp,by simp⟩ ?_
 clear h x5 x6 x7 x10 x14 x15 x16 x17 x18 x19 x20 x21 x22;rintro e env h he ⟨x5,x6,x7,x10,x14,x15,x16,x20,x21,x22,c,rfl,b1,b2,b3⟩
 by_cases hlt2:e<p.ents.length
 rotate_left
 ·have:e=p.ents.length:=by omega
  subst this;rw[bv]at b1;have hc:c=0:=by simpa[y3i]using b1
  subst hc;simp[hup]
 have hup2:=ze hlt2 (by omega)
 obtain⟨x,hx⟩:∃ x,x=p.ents[e]:=⟨_,rfl⟩;have okx:=(g.fm.ents.ok x (by rw[hx];exact av hlt2)).2.2.2
 rw[zh hlt2,<- hx]at b1;simp only[y3i]at b1;have hw:aJ.wrap (c+x.amt)=c+x.amt:=za ⟨by omega,by omega⟩
 simp[hlt2,<- hx,hup2,hw];exact⟨_,_,_,_,_,_,_,_,_,_,_,⟨rfl,rfl,rfl,rfl,rfl,rfl,rfl,rfl,rfl,rfl,rfl⟩,by omega,by omega,by omega⟩
structure Bkg where
 prod:Int
 var:Int
 amt:Int
abbrev yis(b:Bkg):D:=.agg [dI b.prod,dI b.var,dI b.amt]
def nd(c:List Int)(i:Int):Int:=(c[i.toNat]?).getD 0
def nvA(p:yj)(i:Int):Int:=((p.vars[i.toNat]?).map fun v=>v.a).getD 0
def bk4(p:yj)(c:List Int)(k:Int)(b:Bkg):List Ent:=[⟨1,nd c b.var,b.amt⟩,⟨2,nvA p b.var,b.amt⟩,⟨3,b.prod,-b.amt⟩,⟨4,k,-b.amt⟩]
def ya4(p:yj)(b:Bkg):Bool:=wib b.var 0 ((p.vars.length:Int) - 1) && (wib (nvA p b.var) 0 4095 && (wib b.prod (-1) 7 && wib b.amt (-1048576) 1048576))
def y6i(p:yj)(c:List Int)(k:Int)(bs:List Bkg):List Ent:=bs.flatMap (bk4 p c k)
def y6d(p:yj)(c:List Int)(k:Int)(bs:List Bkg):Bool:=decide (c.length=p.vars.length) && (c.all (fun n=>wib n 0 7) && (wib k 0 3 && (decide (bs.length<=1024) && bs.all (ya4 p))))
noncomputable def enE(p:yj)(c:List Int)(k:Int)(bs:List Bkg):Int:=if ck p ≠ 0 then ck p else if y6d p c k bs=true then 0 else 430
noncomputable def enD(p:yj)(c:List Int)(k:Int)(bs:List Bkg):D:=.tup [.imm .none ((if enE p c k bs=0 then y5l (y6i p c k bs)else[]).map y2v),dI (enE p c k bs)]
def r367(n:Int):yu E (dL E) 367 [dI n]=some (.bool (!wib n 0 7)):=by
 have e:=yjk;refine zg c367 (by simp) ?_
 conv in t367=>reduce;dsimp[ai]
 simp[t367,n367,e]
def r369(b:Bkg)(n1 n2 k:Int):yu E (dL E) 369 [yis b,dI n1,dI n2,dI k]=some (.fn 385 [.iptr [dI n1],.iptr [dI b.prod,dI b.var,dI b.amt],.iptr [dI n2],.iptr [dI k]]):=by
 refine zg c369 (by simp) ?_
 conv in t369=>reduce;dsimp[ai]
 simp[t369,n369]
def i385(b:Bkg)(n1 n2 k:Int)(hb:i64 (-b.amt))(L:Nat)(J:List Ent->List Obj->Prop)
  (hy:∀ x rem hp,J (x::rem) hp->∃ hp',y3d (dL E) L [y3g x.kind x.idx,dI x.amt] hp=some (.bool true,hp')/\J rem hp')
  {hp:List Obj} {rem:List Ent} (h0:J ([⟨1,n1,b.amt⟩,⟨2,n2,b.amt⟩,⟨3,b.prod,-b.amt⟩,⟨4,k,-b.amt⟩]++rem) hp) :
  ∃ d hp',y1j E (dL E) 385 [.yld L,.iptr [dI n1],.iptr [dI b.prod,dI b.var,dI b.amt],.iptr [dI n2],.iptr [dI k]] hp=some (d,hp')/\J rem hp':=by
 refine z1j c385 (R:=fun _ hp'=>J rem hp') (by simp) ?_
 conv in t385=>reduce;dsimp[ai]
 obtain⟨H1,e1,h1⟩:=hy _ _ _ h0;obtain⟨H2,e2,h2⟩:=hy _ _ _ h1;obtain⟨H3,e3,h3⟩:=hy _ _ _ h2;obtain⟨H4,e4,h4⟩:=hy _ _ _ h3;have hw:aJ.wrap (-b.amt) = -b.amt:=za hb;simp only at e1 e2 e3 e4;simp[t385,n385,e1,e2,e3,e4,hw];exact h4
def zk1{p:yj}{c:List Int}{k:Int}:∀{bs:List Bkg},(y6i p c k bs).length=bs.length*4
 |[]=>rfl
 |b::r=>by have ih:=zk1 (p:=p) (c:=c) (k:=k) (bs:=r);have e:y6i p c k (b::r)=bk4 p c k b++y6i p c k r:=rfl;rw[e,ao,ih,show(bk4 p c k b).length=4 from rfl,ar];omega
def ylv(p:yj)(S:y19 p)(c:List Int)(hc:c.length<=1000000)(k:Int)(bs:List Bkg)(hbs:bs.length<=1000000):yu E (dL E) 340 [ye p,ya c,dI k,.imm .none (bs.map yis)]=some (enD p c k bs):=by
 have e15:=r15 p S;have e368:=yjk;have e71:=r71 c 367 (fun n=>!wib n 0 7) r367 hc
 rw[<- List.not_all_eq_any_not]at e71;refine zg c340 (by simp) ?_
 conv in t340=>reduce;dsimp[ai]
 unfold enD;have hnv:=S.vars
 by_cases h0:ck p=0
 rotate_left
 ·have hE:enE p c k bs=ck p:=by unfold enE;rw[if_pos h0]
  rw[hE,if_neg h0];simp[t340,n340,e15,h0]
 rw[h0]at e15;have hE:enE p c k bs=if y6d p c k bs=true then 0 else 430:=by unfold enE;rw[if_neg (by simp[h0])]
 have bad:y6d p c k bs=false->(D.tup [.imm .none ((if enE p c k bs=0 then y5l (y6i p c k bs)else[]).map y2v),dI (enE p c k bs)])=.tup [.imm .none [],dI 430]:=fun h=>by rw[hE,h];rfl
 by_cases h1:c.length=p.vars.length
 rotate_left
 ·have h1' : ¬ (c.length:Int)=p.vars.length:=by omega
  rw[bad (by unfold y6d;rw[decide_eq_false h1];rfl)]
  simp[t340,n340,e15,h1']
 by_cases h2:c.all (fun n=>wib n 0 7)=true
 rotate_left
 ·have h2:c.all (fun n=>wib n 0 7)=false:=by simpa using h2
  rw[bad (by unfold y6d;rw[decide_eq_true h1,h2];rfl)]
  rw[h2]at e71;simp[t340,n340,e15,h1,e71]
 rw[h2]at e71
 by_cases h3:wib k 0 3=true
 rotate_left
 ·have h3:wib k 0 3=false:=by simpa using h3
  rw[bad (by unfold y6d;rw[decide_eq_true h1,h2,h3];rfl)]
  simp[t340,n340,e15,h1,e71,e368,h3]
 by_cases h4:bs.length<=1024
 rotate_left
 ·have h4':(1024:Int)<bs.length:=by omega
  rw[bad (by unfold y6d;rw[decide_eq_true h1,h2,h3,decide_eq_false h4];rfl)]
  simp[t340,n340,e15,h1,e71,e368,h3,h4']
 have h4' : ¬ (1024:Int)<bs.length:=by omega
 have hok:y6d p c k bs=bs.all (ya4 p):=by unfold y6d;rw[decide_eq_true h1,h2,h3,decide_eq_true h4];rfl
 rw[hok]at bad;obtain⟨F,hF⟩:∃ F,F=y6i p c k bs:=⟨_,rfl⟩;have hFl:F.length=bs.length*4:=by rw[hF];exact zk1
 obtain⟨X,hX⟩:∃ X,X=(D.tup [.imm .none ((if enE p c k bs=0 then y5l (y6i p c k bs)else[]).map y2v),dI (enE p c k bs)]):=⟨_,rfl⟩
 have good:bs.all (ya4 p)=true->X=.tup [.imm .none ((y5l F).map y2v),dI 0]:=fun h=>by rw[hX,hE,hok,h,if_pos rfl,if_pos rfl,hF]
 rw[<- hX]at bad ⊢;simp[t340,n340,e15,h1,e71,e368,h3,h4'];refine zo bs.length (fun i env h=>∃(x3 x7 x9 x10 x11 x12 x13 x14 x18 x19 x20 x21 x22 x23 x24 x25:D) (L:List Ent),env=[ye p,ya c,dI k,x3,.iptr (ye p).cellsL,.imm .exact [],dI 0,x7,.loc 1 0,x9,x10,x11,x12,x13,x14,.imm .none (bs.map yis),dI bs.length,dI i,x18,x19,x20,x21,x22,x23,x24,x25]/\At h 0 (.map (y6e (y1f L [])))/\At h 1 (.cells [.map (some 0)])/\L++y6i p c k (bs.drop i)=F/\(∀ b,b ∈ bs.take i->ya4 p b=true) /\ ∀ x,x ∈ L->bdE x) 0 (by omega) ⟨_,_,_,_,_,_,_,_,_,_,_,_,_,_,_,_,[],rfl,rfl,rfl,by rw[hF];rfl,by simp,by simp⟩ ?_
 rintro i env h hi ⟨x3,x7,x9,x10,x11,x12,x13,x14,x18,x19,x20,x21,x22,x23,x24,x25,L,rfl,A,A1,hLF,hgd,hbd⟩
 by_cases hlt:i<bs.length
 rotate_left
 ·have:i=bs.length:=by omega
  subst this;rw[bh]at hgd;rw[bv]at hLF;have hLF:L=F:=by rw[<- hLF];simp[y6i]
  subst hLF;have hm:(y1f L []).length<=1000000:=by have:=z67 (l:=L) (m:=[]);simp at this;omega
  obtain⟨d,hp',e,sp,rfl⟩:=s370 A hm;have hX2:=good (ay.2 hgd);have hn:yaz (y1f L [])=y5l L:=rfl;rw[hn]at e;have y:y1c E h 75 (.loc 1 0)=some (.map (some 0)):=by
   unfold y1c;simp only[A1.eq]
   rfl
  simp[-z1c,y,e,y18,hX2,z4k]
 have hup:=ze hlt (by omega)
 obtain⟨b,hb⟩:∃ b,b=bs[i]:=⟨_,rfl⟩;have hbm:b ∈ bs:=by rw[hb];exact av hlt
 have no:ya4 p b=false->X=D.tup [.imm .none [],dI 430]:=fun h=>bad (by
  rw[<- Bool.not_eq_true,ay];intro h2;rw[h2 b hbm]at h;cases h)
 rw[zh hlt,<- hb]at hLF;obtain⟨R,hR⟩:∃ R,R=y6i p c k (bs.drop (i+1)):=⟨_,rfl⟩;have hLF:L++(bk4 p c k b++R)=F:=by rw[hR];exact hLF
 obtain⟨pr,vr,am⟩:=b;have hwn:aJ.wrap ((p.vars.length:Int) - 1)=(p.vars.length:Int) - 1:=za ⟨by omega,by omega⟩
 by_cases a1:wib vr 0 ((p.vars.length:Int) - 1)=true
 rotate_left
 ·have a1:wib vr 0 ((p.vars.length:Int) - 1)=false:=by simpa using a1
  have hX2:=no (by unfold ya4;rw[a1];rfl)
  simp[hlt,<- hb,e368,hwn,a1,hX2]
 have a1':=z8b.1 a1;obtain⟨v,rfl⟩:∃ v:Nat,vr=v:=⟨vr.toNat,by omega⟩
 have hv:v<p.vars.length:=by omega
 have hvc:v<c.length:=by omega
 have hnd:nd c (v:Int)=c[v]:=by unfold nd;simp[hvc]
 have hnv2:nvA p (v:Int)=p.vars[v].a:=by unfold nvA;simp[hv]
 obtain⟨n1,hn1⟩:∃ n1,n1=c[v]:=⟨_,rfl⟩;obtain⟨w,hw⟩:∃ w,w=p.vars[v]:=⟨_,rfl⟩;rw[<- hw]at hnv2;rw[<- hn1]at hnd
 by_cases a2:wib w.a 0 4095=true
 rotate_left
 ·have a2:wib w.a 0 4095=false:=by simpa using a2
  have hX2:=no (by unfold ya4;simp only[a1,hnv2,a2];rfl)
  simp[hlt,<- hb,e368,hwn,a1,hv,<- hw,a2,hX2]
 by_cases a3:wib pr (-1) 7=true
 rotate_left
 ·have a3:wib pr (-1) 7=false:=by simpa using a3
  have hX2:=no (by unfold ya4;simp only[a1,hnv2,a2,a3];rfl)
  simp[hlt,<- hb,e368,hwn,a1,hv,<- hw,a2,a3,hX2]
 by_cases a4:wib am (-1048576) 1048576=true
 rotate_left
 ·have a4:wib am (-1048576) 1048576=false:=by simpa using a4
  have hX2:=no (by unfold ya4;simp only[a1,hnv2,a2,a3,a4];rfl)
  simp[hlt,<- hb,e368,hwn,a1,hv,<- hw,a2,a3,a4,hX2]
 have hgd2:ya4 p ⟨pr,v,am⟩=true:=by unfold ya4;simp only[a1,hnv2,a2,a3,a4];rfl
 have e369:=r369 ⟨pr,v,am⟩ n1 w.a k;simp only at e369;have a4':=z8b.1 a4;simp[hlt,<- hb,e368,hwn,a1,hv,<- hw,a2,a3,a4,hvc,<- hn1,e369];have A:=A.app (r:=.cells [dI pr,dI (v:Int),dI am]::ah 15 Obj.dead);have A1:=A1.app (r:=.cells [dI pr,dI (v:Int),dI am]::ah 15 Obj.dead);simp only[ah]at A A1;generalize h ++ .cells [dI pr,dI (v:Int),dI am]::_=H0 at A A1;refine⟨385,_,rfl,?_⟩;intro Lf hLf hcb;obtain⟨C,hC⟩:∃ C,C=H0.length:=⟨_,rfl⟩;have hC2:2<=C:=by have:=A1.lt;omega
 obtain⟨F',hF'⟩:∃ F',F'=L++bk4 p c k ⟨pr,v,am⟩:=⟨_,rfl⟩;have hFb:∀ x,x ∈ F'->bdE x:=by
  intro x hx;rw[hF']at hx;rcases aB.1 hx with hx | hx
  ·exact hbd x hx
  ·unfold bdE;simp only[bk4,aA,List.not_mem_nil,or_false]at hx;rcases hx with rfl | rfl | rfl | rfl <;> simp only <;> omega
 have hFl2:F'.length<=2000000:=by have:=congrArg cQ hLF;rw[ao,ao]at this;rw[hF',ao];omega
 obtain⟨J,hJ⟩:∃ J:List Ent->List Obj->Prop,J=fun rem H=>∃ Ls,At H 0 (.map (y6e (y1f Ls [])))/\At H 1 (.cells [.map (some 0)])/\At H C (Lf false none)/\Ls++rem=F':=⟨_,rfl⟩
 have key:=i385 ⟨pr,v,am⟩ n1 w.a k (by unfold i64;simp only;omega) C J (by
  intro x rem H hj;rw[hJ]at hj;obtain⟨Ls,b0,b1,b2,b3⟩:=hj;obtain⟨t,hp2,e1,e2⟩:=hcb [y3g x.kind x.idx,dI x.amt] H (fun t hp'=>t=true/\J rem hp') rfl (by rw[<- hC];exact b2) (by
   rw[<- hC];obtain⟨H1,hH1⟩:∃ H1,H1=H.set C (Lf true none):=⟨_,rfl⟩;have lC:=b2.lt;have c0:At H1 0 (.map (y6e (y1f Ls []))):=by rw[hH1];exact b0.ne (by omega)
   have c1:At H1 1 (.cells [.map (some 0)]):=by rw[hH1];exact b1.ne (by omega)
   have c2:At H1 C (Lf true none):=by rw[hH1];exact At.self lC
   have y2:∀ r:List Obj,(H++r)[C]? = some (Lf false none):=fun r=>b2.app
   have y6:∀ r:List Obj,(H++r).set C (Lf true none)=H1++r:=fun r=>by rw[z1d lC,hH1]
   have y7:H.length=H1.length:=by rw[hH1,bq]
   have hw:=zaa hFb hFl2 b3;obtain⟨hs1,hs2⟩:=zaf b3;have y1:=fun r:List Obj=>yjq (a:=x.kind) (b:=x.idx) (c0.app (r:=r))
   have y3:=fun(r:List Obj) (n:Int)=>ym3 (a:=x.kind) (b:=x.idx) (n:=n) (c0.app (r:=r))
   have y4:∀ r:List Obj,y1c E (H1++r) 75 (.loc 1 0)=some (.map (some 0)):=fun r=>by
    unfold y1c;simp only[c1.appE]
    rfl
   have y5:∀ r:List Obj,y1c E (H1 ++ .cells [dI x.kind,dI x.idx]::r) 65 (.loc H1.length 0)=some (y3g x.kind x.idx):=fun r=>by
    unfold y1c;simp only[z1i]
    rfl
   simp[y23,↓y2,↓y6,y7,-z1c,y4,y5,-z1y,-z31,y1,y3,hw,hs2];have l0:=c0.lt;refine⟨(c2.app).ne (by omega),?_⟩
   rw[hJ];exact⟨Ls++[x],(At.self (by rw[ao];omega)).ne (by omega),((c1.app).ne (by omega)).ne (by omega),At.self (by rw[bq,ao,<- y7];omega),hs1⟩)
  rw[e2.1,<- hC]at e1;exact⟨hp2,e1,e2.2⟩) (hp:=H0++[Lf false none]) (rem:=[]) (by
  rw[hJ];refine⟨L,A.app,A1.app,by rw[hC];simp[At],?_⟩
  rw[hF',bG];simp only[bk4,hnd,hnv2])
 obtain⟨d,hp',e,hj⟩:=key;rw[hJ]at hj;obtain⟨Ls,b0,b1,b2,b3⟩:=hj;rw[bG]at b3;subst b3;rw[hC]at e b2;refine⟨d,hp',e,.inl ⟨b2,?_⟩⟩;rw[<- hC];simp[hup];refine⟨Ls,b0.ne (by omega),b1.ne (by omega),?_,?_,hFb⟩
 ·rw[hF',bi,<- hR];exact hLF
 ·intro b' hb';rw[aN hlt,<- hb]at hb';rcases aB.1 hb' with hb' | hb'
  ·exact hgd b' hb'
  ·simp at hb';rw[hb'];exact hgd2
end Dv
namespace Dv
def shB(s:y43):Bkg:=⟨s.cause,s.vr,s.minutes⟩
def zxt{l:List y43}:l.map y36=(l.map shB).map yis:=by rw[gL];rfl
def upS:Nat->(Nat->Int)->Int
 | 0,_=>0
 |n+1,f=>upS n f+f n
def ze3:∀{n:Nat},upS n (fun _=>0)=0
 | 0=>rfl
 |n+1=>by simp only[upS,ze3];omega
def zpv:∀{n:Nat} {f g:Nat->Int},upS n (fun i=>f i+g i)=upS n f+upS n g
 | 0,_,_=>rfl
 |n+1,f,g=>by simp only[upS,zpv];omega
def zfv:∀{n:Nat} {f g:Nat->Int},(∀ i,i<n->f i=g i)->upS n f=upS n g
 | 0,_,_,_=>rfl
 |n+1,f,g,h=>by simp only[upS];rw[zfv fun i hi=>h i (by omega),h n (by omega)]
def zpt:∀{n a:Nat} {v:Int},a<n->upS n (fun i=>if i=a then v else 0)=v
 | 0,_,_,h=>by omega
 |n+1,a,v,h=>by
  simp only[upS]
  by_cases e:a=n
  ·subst e;have:upS a (fun i=>if i=a then v else 0)=0:=(zfv fun i hi=>by rw[if_neg (by omega)]).trans ze3
   rw[this,if_pos rfl];omega
  ·rw[zpt (by omega),if_neg (fun h=>e h.symm)];omega
def zpu{M:Int}:∀{n:Nat} {f:Nat->Int},(∀ i,i<n -> -M<=f i/\f i<=M) -> -(n*M)<=upS n f/\upS n f<=n*M
 | 0,_,_=>by simp[upS]
 |n+1,f,h=>by
  have h1:=zpu (n:=n) (f:=f) fun i hi=>h i (by omega)
  have h2:=h n (by omega)
  have e:((n+1:Nat):Int)*M=n*M+M:=by rw[jM,Int.add_mul];simp
  rw[e];simp only[upS];omega
def mnS(c:Nat->Bool):List y43->Int
 |[]=>0
 |s::r=>(if c s.vr.toNat=true then s.minutes else 0)+mnS c r
def zj0{n:Nat}{c:Nat->Bool}:∀{l:List y43},(∀ s,s ∈ l->0<=s.vr/\s.vr<n)->mnS c l=upS n (fun i=>if c i=true then y72 i l else 0)
 |[],_=>by
  have:(fun i:Nat=>if c i=true then y72 i []else 0)=fun _=>0:=by funext i;simp[y72]
  rw[this,ze3];rfl
 |s::l,h=>by
  obtain⟨h1,h2⟩:=h s (by simp)
  simp only[mnS];rw[zj0 (l:=l) fun t ht=>h t (by simp[ht])]
  have e:upS n (fun i=>if c i=true then y72 i (s::l)else 0)=upS n (fun i=>(if i=s.vr.toNat then(if c s.vr.toNat=true then s.minutes else 0)else 0)+(if c i=true then y72 i l else 0)):=by
   refine zfv fun i _=>?_
   simp only[y72]
   by_cases hi:i=s.vr.toNat
   ·subst hi;have:s.vr=((s.vr.toNat:Nat):Int):=by omega
    rw[if_pos this,if_pos rfl];split <;> omega
   ·have : ¬ s.vr=(i:Int):=by omega
    rw[if_neg this,if_neg hi];split <;> omega
  rw[e,zpv,zpt (by omega)]
def zu8{p:yj}{c:List Int}{k F:Int}:∀{l:List y43},yz 2 F (y6i p c k (l.map shB))=mnS (fun i=>decide (nvA p i=F)) l
 |[]=>rfl
 |s::l=>by
  have ih:=zu8 (p:=p) (c:=c) (k:=k) (F:=F) (l:=l);unfold y6i at ih ⊢;rw[al,bm,z49,ih];simp only[mnS,bk4,shB,yz,decide_eq_true_eq];have e:nvA p ((s.vr.toNat:Nat):Int)=nvA p s.vr:=by unfold nvA;rw[bT]
  rw[e];simp
def zu7{p:yj}{c:List Int}{k:Int}:∀{l:List Bkg},y3i (y6i p c k l)=0
 |[]=>rfl
 |s::l=>by have ih:=zu7 (p:=p) (c:=c) (k:=k) (l:=l);unfold y6i at ih ⊢;rw[bm,z4t,ih];simp only[bk4,y3i];omega
def flS(p:yj)(d:List Int)(F:Int)(n:Nat):Int:=upS n fun i=>if nvA p i=F then d.getD i 0 else 0
def ymi{p:yj}{d:List Int}{F:Int}{n:Nat}:flS p d F (n+1)=flS p d F n+if nvA p n=F then d.getD n 0 else 0:=rfl
def dlS(d:List Int)(n:Nat):Int:=upS n fun i=>d.getD i 0
def ymo{d:List Int}{n:Nat}:dlS d (n+1)=dlS d n+d.getD n 0:=rfl
def zeg{p:yj}{c:List y2b}(ok:OkP p)(C:OkC p c)(S:y19 p){as:List Int}{k F:Int} :
  yz 2 F (y5l (y6i p as k ((y33 p c).map shB)))=flS p (y6r p) F p.vars.length:=by
 rw[z8g,zu8,zj0 fun s hs=>⟨(z9p ok C S s hs).2.2.1,(z9p ok C S s hs).2.2.2.1⟩]
 unfold flS;refine zfv fun i hi=>?_
 rw[zcv ok C S hi];simp only[decide_eq_true_eq]
end Dv
namespace Dv
attribute [local simp] ah depth y1z y51 ya y15 y4p ye y2p y2e Ret
attribute [local congr] z1f z1g z16 z12 zx z17 zw
def zxl{p:yj}{c:List Int}{k:Int}{bs:List Bkg}(h:enE p c k bs=0):bs.length<=1024 /\ ∀ x,x ∈ y6i p c k bs -> -1048576<=x.amt/\x.amt<=1048576:=by
 unfold enE at h;split at h
 ·rename_i h1;exact absurd h h1
 ·split at h
  ·rename_i h2;unfold y6d at h2;simp only[ak,decide_eq_true_eq,ay]at h2;obtain⟨_,_,_,h3,h4⟩:=h2;refine⟨h3,fun x hx=>?_⟩
   obtain⟨b,hb,hx⟩:=bB.1 hx;have h5:=h4 b hb;unfold ya4 at h5;simp only[ak]at h5;obtain⟨_,_,_,h6⟩:=h5;unfold wib at h6;simp at h6;unfold bk4 at hx;simp at hx;rcases hx with rfl | rfl | rfl | rfl <;> simp <;> omega
  ·cases h
def zq5{M:Int}:∀{l:List Ent},(∀ x,x ∈ l -> -M<=x.amt/\x.amt<=M) -> -(M*l.length)<=y3i l/\y3i l<=M*l.length
 |[],_=>by simp[y3i]
 |x::l,h=>by
  have h1:=zq5 (l:=l) fun y hy=>h y (by simp[hy])
  have h2:=h x (by simp)
  have e:M*((x::l).length:Int)=M*l.length+M:=by rw[ar,jM,Int.mul_add];simp
  rw[e];simp only[y3i];omega
def zy3{l:List Pst}{m:Int}{t:List Ent}(ok:y9t l)(hl:l.length<=1000)(hN:t.length+y4o l<=100000):y9t (boL tgB l m t)/\(boL tgB l m t).length<=l.length+1/\y4o (boL tgB l m t)<=t.length+2*y4o l:=by
 have hb:=zua (l:=l) (t:=t);unfold boL;split
 ·split
  ·exact⟨ok,by omega,by omega⟩
  ·refine⟨⟨by simp;omega,fun p hp=>?_⟩,by simp,?_⟩
   ·rcases aB.1 hp with hp | hp
    ·exact ok.2 p hp
    ·simp at hp;subst hp;exact⟨y7w,by show(bkN l t).length<=1000000;omega⟩
   ·rw[zjq];have:y4o [y8a tgB l (bkS l m t)]=(bkN l t).length:=by simp[y4o,y8a,bkS]
    omega
 ·exact⟨⟨by simp,by simp⟩,by simp,by simp[y4o]⟩
end Dv
