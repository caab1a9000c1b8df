/- Texts that a proof of this claim uses, joined: Lw.W199, Lw.W200, Lw.W203, Lw.W204, Lw.W205, Lw.W201, Lw.W202, Lw.W206, Lw.W207, Lw.W208, Lw.W209, Lw.W210, Lw.W211, Lw.W212, Lw.W213, Lw.W214, Lw.W215, Lw.W217, Lw.W218, Lw.W219, Lw.W220, Lw.W221, Lw.W222, Lw.W223, Lw.W216, Lw.W224. -/
import Derived.Test.YtfagnjchgplecaaDoorLwa
import Derived.Test.YtfagnjchgplecaaDoorTc
import Derived.Test.YtfagnjchgplecaaDoorWa
import Derived.Test.YtfagnjchgplecaaDoorDva
set_option linter.all false
open BitVec renaming ofInt->ch,ofNat->iv,toNat_add->gq,toNat_and->kz,toNat_ofNat->jU,toNat_or->iM,toNat_shiftLeft->f7,toNat_ushiftRight->fP,toNat_xor->iu
open Bool renaming and_true->jw
open Decidable renaming not_not->j8
open Go.IntKind renaming bits->fF,i64->aB,signed->fc,u32->dz,u64->bz,u8->jy,wrap->fE
open Int renaming fdiv_eq_ediv_of_nonneg->dq,natCast_ediv->ky,natCast_nonneg->gU,natCast_pow->iK,negSucc_eq->aD,pow_nonneg->jf,toNat_natCast->cF
open List renaming all_eq_true->ay,append_assoc->bY,append_nil->cy,cons_append->ba,drop_drop->cb,drop_eq_getElem_cons->b7,drop_length->iz,drop_of_length_le->iS,drop_zero->cU,eq_nil_of_length_eq_zero->cO,flatMap_cons->bS,flatten_append->jG,foldl_append->g8,getD_eq_getElem?_getD->ah,getElem?_append_left->ax,getElem?_append_right->aC,getElem?_drop->ca,getElem?_eq_getElem->ae,getElem?_eq_some_iff->ac,getElem?_map->bR,getElem?_set_ne->aY,getElem?_set_self->aQ,getElem_map->im,getElem_mem->bj,getLast?_cons_cons->iA,getLast?_eq_getElem?->fG,getLast?_singleton->iC,length->dD,length_append->aw,length_cons->aF,length_drop->dR,length_map->aA,length_nil->bp,length_replicate->ek,length_set->bq,length_take->aW,map_append->bN,map_cons->av,map_drop->lS,map_map->fM,map_nil->aO,map_replicate->eh,map_set->iw,mem_append->aS,mem_cons->az,mem_map->aT,nil_append->bQ,not_mem_nil->gp,replicate->af,set_append_right->ff,sizeOf_lt_of_mem->je,take_append_drop->bA,take_append_of_le_length->bK,take_length->be,take_of_length_le->bE,take_succ_cons->fx,take_succ_eq_append_getElem->aU
open Nat renaming add_mul->a8,div_lt_iff_lt_mul->jd,eq_zero_or_pos->ee,le_refl->aj,le_trans->aJ,min_eq_left->ce,mul_one->dY,pow_add->nB,sub_self->gC,zero_add->bB
open Option renaming map_some->ao
open Option.some renaming inj->cg,injEq->aa
open Prod.mk renaming injEq->aq
open UInt8 renaming ofNat->b8,toNat_ofNat'->jT
set_option maxRecDepth 100000
set_option maxHeartbeats 16000000
namespace Dv

theorem zly{A:Type}{hp r:List A}{i:Nat}{o:A}(h:hp[i]? = some o):(hp++r)[i]? = some o:=by
 rw[ax (ac.1 h).1,h]
theorem zv4{A:Type}{hp:List A}{i:Nat}{o:A}(h:hp[i]? = some o):i<hp.length:=(ac.1 h).1
theorem zvb{A:Type}{hp:List A}{i j:Nat}{x o:A}(h:hp[i]? = some o)(hn:j ≠ i):(hp.set j x)[i]? = some o:=by
 rw[aY hn,h]
theorem zt3{A:Type}{hp:List A}{i:Nat}{x:A}(h:i<hp.length):(hp.set i x)[i]? = some x:=by
 rw[aQ h]
theorem z6i{A:Type}{hp r:List A}{k:Nat}:(hp++r)[hp.length+k]? = r[k]?:=by
 rw[aC (by omega)];congr 1;omega
theorem zbk{A:Type}{hp r:List A}{k:Nat}{x:A}:(hp++r).set (hp.length+k) x=hp++r.set k x:=by
 rw[ff _ _ (by omega)];congr 2;omega
theorem z20{A:Type}{hp r:List A}{i:Nat}{x:A}(h:i<hp.length):(hp++r).set i x=hp.set i x++r:=List.set_append_left _ _ h

def At(hp:List Obj)(i:Nat)(o:Obj):Prop:=hp[i]? = some o
theorem At.eq{hp:List Obj}{i:Nat}{o:Obj}(h:At hp i o):hp[i]? = some o:=h
theorem At.app{hp r:List Obj}{i:Nat}{o:Obj}(h:At hp i o):At (hp++r) i o:=zly h
theorem At.appE{hp r:List Obj}{i:Nat}{o:Obj}(h:At hp i o):(hp++r)[i]? = some o:=zly h
theorem At.ne{hp:List Obj}{i j:Nat}{x o:Obj}(h:At hp i o)(hn:j ≠ i):At (hp.set j x) i o:=zvb h hn
theorem At.lt{hp:List Obj}{i:Nat}{o:Obj}(h:At hp i o):i<hp.length:=zv4 h
theorem At.self{hp:List Obj}{i:Nat}{o:Obj}(h:i<hp.length):At (hp.set i o) i o:=zt3 h

def y7l(C:Nat)(hp:List Obj)(sp:y1a)(n sz:Nat):Prop:=sp=.exact \/ ∃ k,sp=.tok k/\C<=k/\At hp k (.tok (n*sz) sz)
def y28(i C:Nat)(hp hp':List Obj):Prop:=∀ J:List Obj->Prop,(∀ hp r,J hp->J (hp++r))->(∀ hp j o,J hp->(j=i\/C<=j)->J (hp.set j o))->J hp->J hp'
theorem y28.at{i C:Nat}{hp hp':List Obj}(h:y28 i C hp hp'){j:Nat}{o:Obj}(hj:j ≠ i)(hC:j<C)(g:At hp j o):At hp' j o:=
 h (fun hp=>At hp j o) (fun _ _ h=>h.app) (fun _ k _ h hk=>h.ne (by rcases hk with rfl | hk;exact fun e=>hj e.symm;omega)) g
theorem y28.refl{i C:Nat}{hp:List Obj}:y28 i C hp hp:=fun _ _ _ h=>h
theorem y28.trans{i C:Nat}{hp hp' hp'':List Obj}(h:y28 i C hp hp')(h':y28 i C hp' hp''):y28 i C hp hp'':=fun J h1 h2 h3=>h' J h1 h2 (h J h1 h2 h3)
theorem y28.app{i C:Nat}{hp r:List Obj}:y28 i C hp (hp++r):=fun _ h1 _ h3=>h1 _ _ h3
theorem y28.set{i C j:Nat}{o:Obj}{hp:List Obj}(hj:j=i\/C<=j):y28 i C hp (hp.set j o):=fun _ _ h2 h3=>h2 _ _ _ h3 hj

end Dv

namespace Dv

inductive CV where
 |mk (k n:Int) (s:List UInt8) (l:List CV)

abbrev dBy(l:List UInt8):D:=.imm .none (l.map yc)

mutual
def dV:CV->D
 |.mk k n s l=>.agg [dI k,dI n,.str s,.imm .none (dVs l)]
def dVs:List CV->List D
 |[]=>[]
 |v::l=>dV v::dVs l
end
theorem zmo:∀(l:List CV),dVs l=l.map dV
 |[]=>rfl
 |v::l=>by simp[dVs,zmo l]
theorem z3b{k n:Int}{s:List UInt8}{l:List CV}:dV (.mk k n s l)=.agg [dI k,dI n,.str s,.imm .none (l.map dV)]:=by rw[dV,zmo]

def num(u:Nat):List UInt8:=if h:u<128 then[b8 u] else b8 (u % 128+128)::num (u / 128)
termination_by u
decreasing_by omega
theorem zal{u:Nat}(h:u<128):num u=[b8 u]:=by rw[num,dif_pos h]
theorem zgd{u:Nat}(h : ¬ u<128):num u=b8 (u % 128+128)::num (u / 128):=by rw[num,dif_neg h]

def uns(n:Int):Nat:=if 0<=n then 2*n.toNat else 2*(-(n+1)).toNat+1
def sgn(u:Nat):Int:=if u % 2=0 then(u / 2:Nat) else -((u / 2:Nat):Int) - 1
theorem zk6{n:Int}(h:i64 n):uns n<18446744073709551616:=by
 obtain⟨h1,h2⟩:=h
 unfold uns;split <;> omega
def rdN:Nat->List UInt8->Option (Nat × List UInt8)
 |_,[]=>none
 |i,c::r=>if(i=0\/c ≠ 0)/\(i<9\/c.toNat<=1) then
   (if c.toNat<128 then some (c.toNat,r) else(rdN (i+1) r).map fun p=>(c.toNat - 128+128*p.1,p.2))
  else none

theorem zeu{n:Nat}(h:n<256):(b8 n).toNat=n:=by
 rw[jT];exact Nat.mod_eq_of_lt h
theorem zuw{u:Nat}:num u ≠ []:=by
 by_cases h:u<128
 ·rw[zal h];simp
 ·rw[zgd h];simp
theorem zey{u:Nat}:1<=(num u).length:=by
 have:=zuw (u:=u)
 cases h:num u with
 |nil=>exact absurd h this
 |cons _ _=>simp

mutual
def enc:CV->List UInt8
 |.mk k n s l=>if k=1 then 1::num (uns n) else if k=2 then 2::(num s.length++s) else 3::(num l.length++y3u l)
def y3u:List CV->List UInt8
 |[]=>[]
 |v::l=>enc v++y3u l
end

mutual
def fmd:CV->Prop
 |.mk k n s l=>(k=1/\i64 n/\s=[]/\l=[])\/(k=2/\n=0/\l=[])\/(k=3/\n=0/\s=[]/\y9n l)
def y9n:List CV->Prop
 |[]=>True
 |v::l=>fmd v/\y9n l
end
mutual
def dep:CV->Nat
 |.mk k _ _ l=>if k=3 then y6b l+1 else 0
def y6b:List CV->Nat
 |[]=>0
 |v::l=>Nat.max (dep v) (y6b l)
end

theorem ztc{v:CV}:1<=(enc v).length:=by
 cases v with
 |mk k n s l=>rw[enc];split <;> (try split) <;> simp
theorem zc8:∀(l:List CV),l.length<=(y3u l).length
 |[]=>by simp
 |v::l=>by
  have:=zc8 l
  have:=ztc (v:=v)
  simp only[y3u,aF,aw];omega
theorem z5n:∀(a b:List CV),y3u (a++b)=y3u a++y3u b
 |[],b=>by simp[y3u]
 |v::a,b=>by simp[y3u,z5n a b]

def rdL(f:List UInt8->Option (CV × List UInt8)):Nat->List UInt8->Option (List CV × List UInt8)
 | 0,b=>some ([],b)
 |n+1,b=>match f b with
  |none=>none
  |some p=>match rdL f n p.2 with
   |none=>none
   |some q=>some (p.1::q.1,q.2)

def rdS(b:List UInt8):Option (Nat × List UInt8):=match rdN 0 b with
 |some p=>if p.1<=p.2.length then some p else none
 |none=>none

def rdV:Nat->List UInt8->Option (CV × List UInt8)
 |_,[]=>none
 | 0,c::r=>if c=1 then(rdN 0 r).map fun p=>(.mk 1 (sgn p.1) [] [],p.2)
  else if c=2 then(rdS r).map fun p=>(.mk 2 0 (p.2.take p.1) [],p.2.drop p.1)
  else none
 |d+1,c::r=>if c=1 then(rdN 0 r).map fun p=>(.mk 1 (sgn p.1) [] [],p.2)
  else if c=2 then(rdS r).map fun p=>(.mk 2 0 (p.2.take p.1) [],p.2.drop p.1)
  else if c=3 then(rdS r).bind fun p=>(rdL (rdV d) p.1 p.2).map fun q=>(.mk 3 0 [] q.1,q.2)
  else none


end Dv

namespace Dv
attribute [local simp] af depth y53 y89 y3c y2q y88 y6c y34 y23 Ret
attribute [local congr] z2o z2s z24 z1n z18 z26 z16


theorem zg0{n:Nat}(h:n<18446744073709551616):bz.wrap (n:Int)=n:=by
 simp[fE,fF,fc];omega
theorem zeb{n:Nat}:jy.wrap (n:Int)=((n % 256:Nat):Int):=by
 simp[fE,fF,fc]
theorem ydp{n:Nat}(h:n<256):y9l .u8 (n:Int) 128=((n % 128+128:Nat):Int):=by
 have key:∀ m:Fin 256,y9l .u8 ((m.val:Nat):Int) 128=((m.val % 128+128:Nat):Int):=by decide +kernel
 exact key ⟨n,h⟩
theorem z3j:bz.bits=64:=rfl
theorem shr7{n:Nat}:((n:Int).fdiv 128)=((n / 128:Nat):Int):=by
 rw[dq _ (by omega)];omega
theorem mk8{n:Nat}(h:n<256):(D.int .u8 (n:Int))=yc (b8 n):=by
 unfold yc
 rw[zeu h]

theorem zgc{u:Nat}(h:u<18446744073709551616):(num u).length<=11:=by
 have key:∀(k u:Nat),u<2 ^ (7*k)->(num u).length<=k+1:=by
  intro k
  induction k with
  |zero=>intro u h;rw[zal (by omega)];simp
  |succ k ih=>
   intro u h
   by_cases h1:u<128
   ·rw[zal h1];simp
   ·rw[zgd h1]
    have:=ih (u / 128) (by
     rw[jd (by decide),show(128:Nat)=2 ^ 7 from rfl,<- nB]
     rwa [show 7*k+7=7*(k+1) from by omega])
    simp;omega
 have:(18446744073709551616:Nat)<=2 ^ (7*10):=by decide
 exact key 10 u (by omega)
theorem z78{l:List UInt8}:y2p 1 (l.map yc)=true:=by
 unfold y2p
 rw[ay]
 intro x hx
 obtain⟨r,_,rfl⟩:=aT.1 hx
 rfl
theorem z1k{l:List UInt8}{new:List D}(h:l.length+new.length<=1000000000000):y33 E 13 (l.map yc) new:=by
 refine⟨?_,?_,?_,z78⟩ <;> simp[yi]
 omega

theorem s312{C:Nat}:∀(u:Nat) {hp:List Obj} {sp:y1a} (l:List UInt8),u<18446744073709551616->l.length<=900000000000->y7l C hp sp l.length 1->C<=hp.length ->
  ∃ d hp',y1h E (dL E) 312 [.imm sp (l.map yc),.int .u64 u] hp=some (d,hp') /\ ∃ k,d=.imm (.tok k) ((l++num u).map yc)/\C<=k/\At hp' k (.tok (l++num u).length 1)/\y28 C C hp hp'/\hp.length<=hp'.length:=by
 intro u hp sp l hu hl R hC
 refine z34 c312 (args:=[.imm sp (l.map yc),.int .u64 u]) (hp:=hp) (R:=fun d hp'=>∃ k,d=.imm (.tok k) ((l++num u).map yc)/\C<=k/\At hp' k (.tok (l++num u).length 1)/\y28 C C hp hp'/\hp.length<=hp'.length) (by simp) ?_
 conv in t312=>reduce;dsimp[aD]
 simp[t312,n312]
 have hlen:=zgc hu
 refine⟨fun k env h=>∃(x3 x4 x5:D) (sp':y1a) (l':List UInt8),env=[.imm sp' (l'.map yc),.int .u64 (k:Nat),.imm .exact [],x3,x4,x5]/\k<18446744073709551616/\l'++num k=l++num u/\y7l C h sp' l'.length 1/\y28 C C hp h/\hp.length<=h.length,u,⟨_,_,_,sp,l,rfl,hu,rfl,R,y28.refl,aj _⟩,?_⟩
 rintro k env h ⟨x3,x4,x5,sp',l',rfl,hk,he,R',K',hh⟩
 have htot:l'.length+(num k).length<=900000000000+11:=by
  have:=congrArg dD he
  simp only[aw] at this
  omega
 have hpos:=zey (u:=k)
 by_cases h128:128<=k
 ·have hn : ¬ k<128:=by omega
  have hI:(128:Int)<=(k:Int):=by omega
  have hap:∀ x:D,y33 E 13 (l'.map yc) [x]:=fun x=>z1k (by simp;omega)
  have e1:D.int .u8 (y9l .u8 ((k:Int) % 256) 128)=yc (b8 (k % 128+128)):=by
   have h1:=ydp (n:=k % 256) (by omega)
   rw[show k % 256 % 128+128=k % 128+128 from by omega,show((k % 256:Nat):Int)=(k:Int) % 256 from by omega] at h1
   rw[h1,mk8 (n:=k % 128+128) (by omega)]
  have e2:(k:Int).fdiv 128=((k / 128:Nat):Int):=shr7
  rw[zgd hn] at he
  obtain⟨c,hc⟩:∃ c,c=b8 (k % 128+128):=⟨_,rfl⟩
  rw[<- hc] at e1 he
  have he':(l'++[c])++num (k / 128)=l++num u:=by simpa using he
  rcases R' with rfl | ⟨q,rfl,hq,hq2⟩
  ·simp[hI,y3d,zj,z1d,hap,zeb,e1,z3j,e2]
   exact⟨k / 128,by omega,_,_,_,_,l'++[c],⟨⟨rfl,by simp⟩,by omega,rfl,rfl,rfl⟩,by omega,he',.inr ⟨h.length,rfl,by omega,by simp[At]⟩,K'.trans y28.app,by omega⟩
  ·simp[hI,y3d,zj,z1r,hap,zeb,e1,hq2.eq,z3j,e2]
   exact⟨k / 128,by omega,_,_,_,_,l'++[c],⟨⟨rfl,by simp⟩,by omega,rfl,rfl,rfl⟩,by omega,he',.inr ⟨h.length,rfl,by omega,by simp[At]⟩,(K'.trans (y28.set (.inr hq))).trans y28.app,by omega⟩
 ·have hI : ¬ (128:Int)<=(k:Int):=by omega
  have e0:=zeb (n:=k)
  rw[show k % 256=k from by omega] at e0
  have e3:=mk8 (n:=k) (by omega)
  have hap:∀ x:D,y33 E 13 (l'.map yc) [x]:=fun x=>z1k (by simp;omega)
  rw[zal (by omega)] at he
  obtain⟨c,hc⟩:∃ c,c=b8 k:=⟨_,rfl⟩
  rw[<- hc] at e3 he
  have hm:l'.map yc++[yc c]=l.map yc++(num u).map yc:=by
   have:=congrArg (List.map yc) he
   simpa using this
  have hl2:l'.length+1=l.length+(num u).length:=by
   have:=congrArg dD he
   simpa using this
  rcases R' with rfl | ⟨q,rfl,hq,hq2⟩
  ·simp[hI,y3d,zj,z1d,hap,e0,e3]
   exact⟨h.length,⟨rfl,hm⟩,by omega,by simp[At,hl2],K'.trans y28.app,by omega⟩
  ·simp[hI,y3d,zj,z1r,hap,e0,e3,hq2.eq]
   exact⟨h.length,⟨rfl,hm⟩,by omega,by simp[At,hl2],(K'.trans (y28.set (.inr hq))).trans y28.app,by omega⟩

theorem zpu:aB.bits=64:=rfl
theorem z27(m:Int):bz.wrap m=m % 18446744073709551616:=by
 simp[fE,fF,fc]
theorem znm{x:Nat}(h:x<18446744073709551616):y7o .u64 (x:Int) 0=x:=by
 unfold y7o
 rw[z27]
 have e:(ch bz.bits (x:Int) ^^^ ch bz.bits 0).toNat=x:=by
  rw[show bz.bits=64 from rfl]
  simp
  omega
 rw[e];omega
theorem znn{x:Nat}(h:x<18446744073709551616):y7o .u64 (x:Int) 18446744073709551615=((18446744073709551615 - x:Nat):Int):=by
 unfold y7o
 rw[z27]
 have e:(ch bz.bits (x:Int) ^^^ ch bz.bits 18446744073709551615).toNat=18446744073709551615 - x:=by
  rw[show bz.bits=64 from rfl]
  have:(ch 64 18446744073709551615)=BitVec.allOnes 64:=by decide
  rw[this,BitVec.xor_allOnes]
  simp
  omega
 rw[e];omega
theorem zig{n:Int}(h:i64 n):y7o .u64 (bz.wrap (bz.wrap n*2)) (bz.wrap (n.fdiv 9223372036854775808))=(uns n:Nat):=by
 obtain⟨h1,h2⟩:=h
 have hf:n.fdiv 9223372036854775808=n / 9223372036854775808:=dq _ (by omega)
 rw[hf,z27,z27,z27]
 unfold uns
 by_cases h0:0<=n
 ·rw[if_pos h0,show n / 9223372036854775808 % 18446744073709551616=0 from by omega,show n % 18446744073709551616*2 % 18446744073709551616=((2*n.toNat:Nat):Int) from by omega]
  exact znm (by omega)
 ·rw[if_neg h0,show n / 9223372036854775808 % 18446744073709551616=18446744073709551615 from by omega,show n % 18446744073709551616*2 % 18446744073709551616=((18446744073709551616 - 2*(-n).toNat:Nat):Int) from by omega,znn (by omega)]
  omega

theorem r311{n:Int}(h:i64 n):y1l E (dL E) 311 [dI n]=some (.int .u64 (uns n:Nat)):=by
 refine zu c311 (by simp) ?_
 conv in t311=>reduce;dsimp[aD]
 have e:=zig h
 simp[t311,n311,y3d,z3j,zpu,e]

def y71(C:Nat)(hp:List Obj)(l e:List UInt8)(d:D)(hp':List Obj):Prop:=
 ∃ k,d=.imm (.tok k) ((l++e).map yc)/\C<=k/\At hp' k (.tok (l++e).length 1)/\y28 C C hp hp'/\hp.length<=hp'.length

theorem za9{C:Nat}{hp h2:List Obj}{l a e:List UInt8}{d:D}{hp':List Obj}(hk:y28 C C hp h2)(hl:hp.length<=h2.length)(w:y71 C h2 (l++a) e d hp'):y71 C hp l (a++e) d hp':=by
 obtain⟨k,w1,w2,w3,w4,w5⟩:=w
 rw[bY] at w1 w3
 exact⟨k,w1,w2,w3,hk.trans w4,aJ hl w5⟩
theorem y71.imm{C:Nat}{hp:List Obj}{l e:List UInt8}{d:D}{hp':List Obj}(w:y71 C hp l e d hp'):yw d=false:=by
 obtain⟨k,rfl,_⟩:=w;rfl
theorem yb2{C:Nat}(u:Nat){hp:List Obj}{sp:y1a}(l:List UInt8)(hu:u<18446744073709551616)(hl:l.length<=900000000000)(R:y7l C hp sp l.length 1)(hC:C<=hp.length) :
  ∃ d hp',y1h E (dL E) 312 [.imm sp (l.map yc),.int .u64 u] hp=some (d,hp')/\yw d=false/\y71 C hp l (num u) d hp':=by
 obtain⟨d,hp',e,w⟩:=s312 u l hu hl R hC
 have w:y71 C hp l (num u) d hp':=w
 exact⟨d,hp',e,w.imm,w⟩
theorem z82{C:Nat}{hp r:List Obj}{n k:Nat}(hC:C<=hp.length)(h:r[k]? = some (.tok n 1)):y7l C (hp++r) (.tok (hp.length+k)) n 1:=
 .inr ⟨hp.length+k,rfl,by omega,by rw[dY];exact z6i.trans h⟩
theorem zbn{C:Nat}{hp r:List Obj}{o:Obj}{n k q:Nat}(hC:C<=hp.length)(h:r[k]? = some (.tok n 1)):y7l C (hp.set q o++r) (.tok (hp.length+k)) n 1:=by
 have:=z82 (C:=C) (hp:=hp.set q o) (r:=r) (k:=k) (n:=n) (by simpa using hC) h
 simpa using this
theorem zty{C:Nat}{hp:List Obj}{sp:y1a}{l:List UInt8}{m k:Nat}(c:UInt8)(x:D)(hx:x=yc c)(hk:k<m)(R:y7l C hp sp l.length 1)(hC:C<=hp.length)(hl:l.length<=900000000000) :
  ∃ h2,y7i E (hp++af m .dead) (hp.length+k) 30 30 (.imm sp (l.map yc)) (.imm .exact [x])=some (.imm (.tok (hp.length+k)) ((l++[c]).map yc),h2)/\y28 C C hp h2/\h2.length=hp.length+m/\y7l C h2 (.tok (hp.length+k)) (l++[c]).length 1:=by
 subst hx
 have hap:∀ x:D,y33 E 13 (l.map yc) [x]:=fun x=>z1k (by simp;omega)
 have hr:(af m Obj.dead).length=m:=by simp
 have hg:((af m Obj.dead).set k (.tok (l.length+1) 1))[k]? = some (.tok (l.length+1) 1):=by simp[hk]
 rcases R with rfl | ⟨q,rfl,hq,hq2⟩
 ·refine⟨hp++(af m Obj.dead).set k (.tok (l.length+1) 1),?_,y28.app,by simp,?_⟩
  ·simp[z1d,hap,hk,↓zbk]
  ·have:=z82 (C:=C) hC hg
   simpa using this
 ·have hlt:=hq2.lt
  have hq3:(hp++af m Obj.dead)[q]? = some (.tok (l.length*1) 1):=hq2.appE
  rw[dY] at hq3
  refine⟨hp.set q .dead++(af m Obj.dead).set k (.tok (l.length+1) 1),?_,(y28.set (.inr hq)).trans y28.app,by simp,?_⟩
  ·have e:((hp++af m Obj.dead).set q .dead).set (hp.length+k) (.tok (l.length+1) 1)=hp.set q .dead++(af m Obj.dead).set k (.tok (l.length+1) 1):=by
    rw[z20 hlt]
    have:=zbk (hp:=hp.set q Obj.dead) (r:=af m Obj.dead) (k:=k) (x:=.tok (l.length+1) 1)
    rwa [bq] at this
   simp[z1r,hap,hk,hq3]
   exact e
  ·have:=zbn (C:=C) (o:=.dead) (q:=q) hC hg
   simpa using this
theorem z85{l:List UInt8}{c:UInt8}:(l++[c]).map yc=l.map yc++[.int .u8 c.toNat]:=by simp

theorem s298{C:Nat}{hp:List Obj}{sp:y1a}(l:List UInt8)(n:Int)(hn:i64 n)(hl:l.length<=800000000000)(R:y7l C hp sp l.length 1)(hC:C<=hp.length) :
  ∃ d hp',y1h E (dL E) 298 [.imm sp (l.map yc),dV (.mk 1 n [] [])] hp=some (d,hp')/\y71 C hp l (enc (.mk 1 n [] [])) d hp':=by
 refine z34 c298 (args:=[.imm sp (l.map yc),dV (.mk 1 n [] [])]) (hp:=hp) (R:=y71 C hp l (enc (.mk 1 n [] []))) (by simp) ?_
 conv in t298=>reduce;dsimp[aD]
 have h311:=r311 hn
 have hap:∀ x:D,y33 E 13 (l.map yc) [x]:=fun x=>z1k (by simp;omega)
 have he:enc (.mk 1 n [] [])=[1]++num (uns n):=by rw[enc,if_pos rfl];rfl
 rw[z3b,he]
 rcases R with rfl | ⟨q,rfl,hq,hq2⟩
 ·obtain⟨d,hp',e,hm,w⟩:=yb2 (C:=C) (hp:=hp++[.dead,.dead,.tok (l.length+1) 1,.dead,.dead,.dead,.dead,.dead]) (sp:=.tok (hp.length+2)) (uns n) (l++[1]) (zk6 hn) (by simp;omega) (by rw[aw];exact z82 hC rfl) (by simp;omega)
  have w':=za9 (hp:=hp) y28.app (by simp) w
  rw[z85] at e
  simp at e
  simp[t298,n298,zj,z1d,hap,h311,e,hm]
  exact w'
 ·obtain⟨d,hp',e,hm,w⟩:=yb2 (C:=C) (hp:=hp.set q .dead++[.dead,.dead,.tok (l.length+1) 1,.dead,.dead,.dead,.dead,.dead]) (sp:=.tok (hp.length+2)) (uns n) (l++[1]) (zk6 hn) (by simp;omega) (by rw[aw];exact zbn hC rfl) (by simp;omega)
  have w':=za9 (hp:=hp) ((y28.set (.inr hq)).trans y28.app) (by simp) w
  rw[z85] at e
  simp at e
  have hq3:(hp++af 8 Obj.dead)[q]? = some (.tok (l.length*1) 1):=hq2.appE
  simp at hq3
  have hlt:=hq2.lt
  simp[t298,n298,zj,z1r,hap,h311,e,hm,hq3,↓z20 hlt]
  exact w'

theorem s299{C:Nat}{hp:List Obj}{sp:y1a}(l s:List UInt8)(hl:l.length+s.length<=800000000000)(R:y7l C hp sp l.length 1)(hC:C<=hp.length) :
  ∃ d hp',y1h E (dL E) 299 [.imm sp (l.map yc),dV (.mk 2 0 s [])] hp=some (d,hp')/\y71 C hp l (enc (.mk 2 0 s [])) d hp':=by
 refine z34 c299 (args:=[.imm sp (l.map yc),dV (.mk 2 0 s [])]) (hp:=hp) (R:=y71 C hp l (enc (.mk 2 0 s []))) (by simp) ?_
 conv in t299=>reduce;dsimp[aD]
 have hap:∀ x:D,y33 E 13 (l.map yc) [x]:=fun x=>z1k (by simp;omega)
 have he:enc (.mk 2 0 s [])=([2]++num s.length)++s:=by rw[enc,if_neg (by decide),if_pos rfl];rfl
 have hw:=zg0 (n:=s.length) (by omega)
 have hn:=zgc (u:=s.length) (by omega)
 rw[z3b,he]
 have fin:∀{d:D} {h2:List Obj},hp.length+12<=h2.length->y71 C hp l ([2]++num s.length) d h2->∃ k,d=.imm (.tok k) ((l++([2]++num s.length)).map yc)/\h2[k]? = some (.tok (l++([2]++num s.length)).length 1)/\y33 E 13 ((l++([2]++num s.length)).map yc) (s.map yc) /\
   y71 C hp l (([2]++num s.length)++s) (.imm (.tok (hp.length+10)) ((l++([2]++num s.length)).map yc++s.map yc)) ((h2.set k .dead).set (hp.length+10) (.tok ((l++([2]++num s.length)).length+s.length) 1)):=by
  rintro d h2 hh ⟨k,rfl,w2,w3,w4,w5⟩
  refine⟨k,rfl,w3,z1k (by simp at hn ⊢;omega),hp.length+10,by simp,by omega,?_,(w4.trans (y28.set (.inr w2))).trans (y28.set (.inr (by omega))),by simp;omega⟩
  have:(l++(([2]++num s.length)++s)).length=(l++([2]++num s.length)).length+s.length:=by simp;omega
  rw[this]
  exact At.self (by simp;omega)
 rcases R with rfl | ⟨q,rfl,hq,hq2⟩
 ·obtain⟨d,hp',e,hm,w⟩:=yb2 (C:=C) (hp:=hp++[.dead,.dead,.tok (l.length+1) 1,.dead,.dead,.dead,.dead,.dead,.dead,.dead,.dead,.dead]) (sp:=.tok (hp.length+2)) s.length (l++[2]) (by omega) (by simp;omega) (by rw[aw];exact z82 hC rfl) (by simp;omega)
  have hlen:hp.length+12<=hp'.length:=by have:=w.choose_spec.2.2.2.2;simpa using this
  have w':=za9 (hp:=hp) y28.app (by simp) w
  obtain⟨k,rfl,f1,f2,f3⟩:=fin hlen w'
  rw[z85] at e
  simp at e f1 f2 f3
  have h10:hp.length+10<hp'.length:=by omega
  simp[t299,n299,zj,z1d,z1r,hap,hw,y3d,e,f1,f2,h10]
  simpa using f3
 ·obtain⟨d,hp',e,hm,w⟩:=yb2 (C:=C) (hp:=hp.set q .dead++[.dead,.dead,.tok (l.length+1) 1,.dead,.dead,.dead,.dead,.dead,.dead,.dead,.dead,.dead]) (sp:=.tok (hp.length+2)) s.length (l++[2]) (by omega) (by simp;omega) (by rw[aw];exact zbn hC rfl) (by simp;omega)
  have hlen:hp.length+12<=hp'.length:=by have:=w.choose_spec.2.2.2.2;simpa using this
  have w':=za9 (hp:=hp) ((y28.set (.inr hq)).trans y28.app) (by simp) w
  obtain⟨k,rfl,f1,f2,f3⟩:=fin hlen w'
  rw[z85] at e
  have hq3:(hp++af 12 Obj.dead)[q]? = some (.tok (l.length*1) 1):=hq2.appE
  simp at e f1 f2 f3 hq3
  have hlt:=hq2.lt
  have h10:hp.length+10<hp'.length:=by omega
  simp[t299,n299,zj,z1r,hap,hw,y3d,e,f1,f2,h10,hq3,↓z20 hlt]
  simpa using f3

structure Wrs(hp:List Obj)(A B:Nat):Prop where
 a:At hp A (.cells [.nilfn,.fn 298 [],.fn 299 [],.fn 300 [.loc B 0]])
 b:At hp B (.cells [.loc A 0])
theorem Wrs.keep{C:Nat}{hp hp':List Obj}{A B:Nat}(w:Wrs hp A B)(hA:A<C)(hB:B<C)(k:y28 C C hp hp'):Wrs hp' A B:=⟨k.at (by omega) hA w.a,k.at (by omega) hB w.b⟩

def wrF(k:Int):Nat:=if k=1 then 298 else if k=2 then 299 else 300
def wrC(k:Int)(B:Nat):List D:=if k=1 then[] else if k=2 then[] else[.loc B 0]
def y7j(v:CV)(k:Int):Prop:=∀{C A B:Nat} {hp:List Obj} {sp:y1a} (l:List UInt8),Wrs hp A B->A<C->B<C->l.length+(enc v).length<=800000000000->y7l C hp sp l.length 1->C<=hp.length ->
 ∃ d hp',y1h E (dL E) (wrF k) (.imm sp (l.map yc)::dV v::wrC k B) hp=some (d,hp')/\y71 C hp l (enc v) d hp'

theorem s300(vs:List CV)(ih:∀ k n s l,CV.mk k n s l ∈ vs->(k=1\/k=2\/k=3)/\y7j (.mk k n s l) k):y7j (.mk 3 0 [] vs) 3:=by
 intro C A B hp sp l W hA hB hl R hC
 have he:enc (.mk 3 0 [] vs)=([3]++num vs.length)++y3u vs:=by rw[enc,if_neg (by decide),if_neg (by decide)];rfl
 rw[he] at hl ⊢
 have hvl:vs.length<=800000000000:=by have:=zc8 vs;simp at hl;omega
 show ∃ d hp',y1h E (dL E) 300 [.imm sp (l.map yc),dV (.mk 3 0 [] vs),.loc B 0] hp=some (d,hp')/\y71 C hp l (([3]++num vs.length)++y3u vs) d hp'
 refine z34 c300 (args:=[.imm sp (l.map yc),dV (.mk 3 0 [] vs),.loc B 0]) (hp:=hp) (R:=y71 C hp l (([3]++num vs.length)++y3u vs)) (by simp) ?_
 conv in t300=>reduce;dsimp[aD]
 have hap:∀ x:D,y33 E 13 (l.map yc) [x]:=fun x=>z1k (by simp at hl ⊢;omega)
 have hw:=zg0 (n:=vs.length) (by omega)
 rw[z3b]
 obtain⟨h2,e1,k1,l1,R1⟩:=zty (l:=l) (m:=9) (k:=2) 3 (.int .u8 3) rfl (by omega) R hC (by simp at hl;omega)
 obtain⟨d,h3,e2,hm,w⟩:=yb2 (C:=C) (hp:=h2) vs.length (l++[3]) (by omega) (by simp at hl ⊢;omega) R1 (by omega)
 have w':=za9 (hp:=hp) k1 (by omega) w
 simp at e1 e2
 simp[t300,n300,zj,hw,y3d,e1,e2,hm]
 refine z1o vs.length (fun i env h=>∃(x5 x6 x7 x11 x12 x13:D) (dd:D),env=[dd,.agg [dI 3,dI 0,.str [],.imm .none (vs.map dV)],.loc B 0,.iptr [dI 3,dI 0,.str [],.imm .none (vs.map dV)],.imm .exact [],x5,x6,x7,.imm .none (vs.map dV),dI vs.length,dI i,x11,x12,x13]/\y71 C hp l (([3]++num vs.length)++y3u (vs.take i)) dd h) 0 (by omega) ?_ ?_
 ·exact⟨_,_,_,_,_,_,d,rfl,by simpa[y3u] using w'⟩
 rintro i env h hi ⟨x5,x6,x7,x11,x12,x13,dd,rfl,wi⟩
 by_cases hlt:i<vs.length
 ·obtain⟨tk,rfl,w2,w3,w4,w5⟩:=wi
  obtain⟨k,n,s,l',hv⟩:∃ k n s l',vs[i]=CV.mk k n s l':=by
   cases h:vs[i] with
   |mk k n s l'=>exact⟨k,n,s,l',rfl⟩
  have WA:=W.keep hA hB w4
  obtain⟨hk,hwr⟩:=ih k n s l' (by rw[<- hv];exact bj hlt)
  have a1:=WA.a
  have b1:=WA.b
  have hsp:y3u (vs.take (i+1))=y3u (vs.take i)++enc (.mk k n s l'):=by
   rw[List.take_add_one,ae hlt,hv,z5n];simp[y3u]
  have htk:y3u vs=y3u (vs.take (i+1))++y3u (vs.drop (i+1)):=by rw[<- z5n,bA]
  have hL:(l++([3]++num vs.length++y3u (vs.take i))).length+(enc (.mk k n s l')).length<=800000000000:=by
   rw[htk,hsp] at hl
   simp only[aw] at hl ⊢
   omega
  obtain⟨d',h5,e,w⟩:=hwr (C:=C) (A:=A) (B:=B) (sp:=.tok tk) (hp:=h++[.cells [dI k,dI n,.str s,.imm .none (l'.map dV)],.dead,.dead,.dead,.dead,.dead,.dead,.dead,.dead,.dead,.dead,.dead]) (l++([3]++num vs.length++y3u (vs.take i))) (WA.keep hA hB y28.app) hA hB hL (.inr ⟨tk,rfl,w2,by rw[dY];exact w3.app⟩) (by simp;omega)
  have hm':=w.imm
  have w':=za9 (hp:=hp) (l:=l) (a:=[3]++num vs.length++y3u (vs.take i)) (w4.trans y28.app) (by simp;omega) w
  have hf:([3]++num vs.length++y3u (vs.take i))++enc (.mk k n s l')=3::(num vs.length++y3u (vs.take (i+1))):=by rw[hsp];simp
  rw[hf] at w'
  have hup:=zm hlt (by omega)
  rw[z3b] at e
  rcases hk with rfl | rfl | rfl
  ·simp[wrF,wrC] at e
   simp[hlt,hv,z3b,a1.appE,b1.appE,e,hm',hup]
   exact⟨_,_,_,_,_,_,_,⟨rfl,rfl,rfl,rfl,rfl,rfl,rfl⟩,w'⟩
  ·simp[wrF,wrC] at e
   simp[hlt,hv,z3b,a1.appE,b1.appE,e,hm',hup]
   exact⟨_,_,_,_,_,_,_,⟨rfl,rfl,rfl,rfl,rfl,rfl,rfl⟩,w'⟩
  ·simp[wrF,wrC] at e
   simp[hlt,hv,z3b,a1.appE,b1.appE,e,hm',hup]
   exact⟨_,_,_,_,_,_,_,⟨rfl,rfl,rfl,rfl,rfl,rfl,rfl⟩,w'⟩
 ·have:i=vs.length:=by omega
  subst this
  rw[be] at wi
  simp
  simpa using wi

theorem z9j:∀{l:List CV},y9n l->∀ v ∈ l,fmd v
 |[],_,v,h=>by simp at h
 |w::l,hf,v,h=>by
  rw[y9n] at hf
  rcases az.1 h with rfl | h
  ·exact hf.1
  ·exact z9j hf.2 v h
theorem zvg{k n:Int}{s:List UInt8}{l:List CV}(h:fmd (.mk k n s l)):k=1\/k=2\/k=3:=by
 rw[fmd] at h
 rcases h with⟨h,_⟩ | ⟨h,_⟩ | ⟨h,_⟩ <;> simp[h]

theorem y9g:∀(m:Nat) (v:CV),sizeOf v<=m->fmd v->∀ k n s l,v=.mk k n s l->y7j v k:=by
 intro m
 induction m with
 |zero=>
  intro v hm
  cases v
  simp at hm
 |succ m ih=>
  intro v hm hf k n s l hv
  subst hv
  have hf':=hf
  rw[fmd] at hf'
  rcases hf' with⟨rfl,hn,rfl,rfl⟩ | ⟨rfl,rfl,rfl⟩ | ⟨rfl,rfl,rfl,hl⟩
  ·intro C A B hp sp l W hA hB hl R hC
   exact s298 l n hn (by omega) R hC
  ·intro C A B hp sp l' W hA hB hl R hC
   have he:enc (.mk 2 0 s [])=2::(num s.length++s):=by rw[enc,if_neg (by decide),if_pos rfl]
   rw[he] at hl
   exact s299 l' s (by simp at hl;omega) R hC
  ·have q:∀ k' n' s' l',CV.mk k' n' s' l' ∈ l->(k'=1\/k'=2\/k'=3)/\y7j (.mk k' n' s' l') k':=fun k' n' s' l' hmem=>⟨zvg (z9j hl _ hmem),by
    have h1:=je hmem
    have h2:sizeOf (CV.mk k' n' s' l')<=m:=by
     rw[CV.mk.sizeOf_spec] at hm
     omega
    intro C A B hp sp
    exact ih _ h2 (z9j hl _ hmem) k' n' s' l' rfl⟩
   intro C A B hp sp
   exact s300 l q

theorem zfm:∀{l:List CV} {v:CV},v ∈ l->dep v<=y6b l
 |[],v,h=>by simp at h
 |w::l,v,h=>by
  rw[y6b]
  rcases az.1 h with rfl | h
  ·exact Nat.le_max_left _ _
  ·exact aJ (zfm h) (Nat.le_max_right _ _)
theorem zr2{hp:List Obj}:∀(m:Nat) (v:CV),fmd v->dep v<=m->∀ n,2*m+2<=n->frz hp n (dV v)=some (dV v):=by
 intro m
 induction m with
 |zero=>
  intro v hf hd n hn
  obtain⟨n,rfl⟩:∃ j,n=j+2:=⟨n - 2,by omega⟩
  obtain⟨k,x,s,l⟩:=v
  rw[fmd] at hf
  rw[dep] at hd
  rcases hf with⟨rfl,_,rfl,rfl⟩ | ⟨rfl,rfl,rfl⟩ | ⟨rfl,_⟩
  ·rw[z3b];rfl
  ·rw[z3b];rfl
  ·simp at hd
 |succ m ih=>
  intro v hf hd n hn
  obtain⟨n,rfl⟩:∃ j,n=j+3:=⟨n - 3,by omega⟩
  obtain⟨k,x,s,l⟩:=v
  rw[fmd] at hf
  rw[dep] at hd
  rcases hf with⟨rfl,_,rfl,rfl⟩ | ⟨rfl,rfl,rfl⟩ | ⟨rfl,rfl,rfl,hl⟩
  ·rw[z3b];rfl
  ·rw[z3b];rfl
  ·rw[if_pos rfl] at hd
   have e:y1o (frz hp (n+1)) (l.map dV)=some (l.map dV):=z17 fun v hv=>ih v (z9j hl v hv) (by have:=zfm hv;omega) (n+1) (by omega)
   rw[z3b]
   have hs:frz hp (n+2) (.str [])=some (.str []):=rfl
   simp only[z73,z3h,z5l,hs,z4q,e,ao,z7,z6j]

theorem zmn{l:List CV}{i:Nat}(h:i<l.length):y6b (l.take (i+1))=Nat.max (y6b (l.take i)) (dep l[i]):=by
 induction l generalizing i with
 |nil=>simp at h
 |cons v l ih=>
  cases i with
  |zero=>simp[y6b]
  |succ i=>
   simp only[aF] at h
   simp only[fx,y6b,List.getElem_cons_succ]
   rw[ih (by omega)]
   exact(Nat.max_assoc _ _ _).symm

theorem zh1:∀{l:List CV} {v:CV},v ∈ l->(enc v).length<=(y3u l).length
 |[],v,h=>by simp at h
 |w::l,v,h=>by
  rw[y3u,aw]
  rcases az.1 h with rfl | h
  ·omega
  ·have:=zh1 h
   omega
structure y5t(v:CV):Prop where
 f:fmd v
 d:dep v<=4
 n:(enc v).length<=800000000000
theorem y5t.len{k n:Int}{s:List UInt8}{l:List CV}(h:y5t (.mk k n s l)):s.length<=800000000000/\l.length<=800000000000:=by
 have hf:=h.f
 have hn:=h.n
 rw[fmd] at hf
 rcases hf with⟨rfl,_,rfl,rfl⟩ | ⟨rfl,rfl,rfl⟩ | ⟨rfl,rfl,rfl,hl⟩
 ·simp
 ·rw[enc,if_neg (by decide),if_pos rfl] at hn
  simp at hn ⊢;omega
 ·rw[enc,if_neg (by decide),if_neg (by decide)] at hn
  have:=zc8 l
  simp at hn ⊢;omega
theorem y5t.sub{n:Int}{s:List UInt8}{l:List CV}(h:y5t (.mk 3 n s l)){v:CV}(hv:v ∈ l):y5t v:=by
 have hf:=h.f
 have hn:=h.n
 have hd:=h.d
 rw[fmd] at hf
 rw[dep,if_pos rfl] at hd
 rcases hf with⟨h3,_⟩ | ⟨h3,_⟩ | ⟨_,rfl,rfl,hl⟩
 ·omega
 ·omega
 ·rw[enc,if_neg (by decide),if_neg (by decide)] at hn
  have:=zh1 hv
  have:=zfm hv
  exact⟨z9j hl v hv,by omega,by simp at hn;omega⟩
theorem zc2{hp:List Obj}{v:CV}(h:y5t v):frz hp 12 (dV v)=some (dV v):=zr2 4 v h.f h.d 12 (by decide)

theorem r297:∀(m:Nat) (v:CV),sizeOf v<=m->y5t v->y1l E (dL E) 297 [dV v]=some (.tup [dI (dep v),.bool true]):=by
 intro m
 induction m with
 |zero=>intro v hm;cases v;simp at hm
 |succ m ih=>
  intro v hm hf
  obtain⟨k,n,s,l⟩:=v
  have hf':=hf.f
  have hz:=zc2 (hp:=[]) hf
  refine zu c297 (by simp) ?_
  conv in t297=>reduce;dsimp[aD]
  rw[fmd] at hf'
  rw[z3b]
  rcases hf' with⟨rfl,hn,rfl,rfl⟩ | ⟨rfl,rfl,rfl⟩ | ⟨rfl,rfl,rfl,hl⟩
  ·by_cases h0:n=0 <;> simp[t297,n297,h0,dep]
  ·by_cases h0:s=[] <;> simp[t297,n297,h0,dep]
  ·have hd:y6b l<=3:=by have:=hf.d;rw[dep,if_pos rfl] at this;omega
   have hln:=hf.len.2
   have hdw:aB.wrap ((y6b l:Int)+1)=(y6b l:Int)+1:=zc ⟨by omega,by omega⟩
   by_cases hb:((l.length:Int) == 0)=true
   all_goals
    simp[t297,n297,dep,hb]
    refine z1o l.length (fun i env h=>∃(x0 x1 x3 x4 x5 x6 x7 x8 x9 x10 x14 x15 x16 x17:D) ,env=[x0,x1,dI (y6b (l.take i)),x3,x4,x5,x6,x7,x8,x9,x10,.imm .none (l.map dV),dI l.length,dI i,x14,x15,x16,x17]) 0 (by omega) ?_ ?_
    ·exact⟨_,_,_,_,_,_,_,_,_,_,_,_,_,_,rfl⟩
    rintro i env h hi ⟨x0,x1,x3,x4,x5,x6,x7,x8,x9,x10,x14,x15,x16,x17,rfl⟩
    by_cases hlt:i<l.length
    ·have hv:=hf.sub (bj hlt)
     have e:=ih l[i] (by have:=je (bj hlt);rw[CV.mk.sizeOf_spec] at hm;omega) hv
     have hz':=zc2 (hp:=[]) hv
     have hup:=zm hlt (by omega)
     obtain⟨k,n,s,l',hq⟩:∃ k n s l',l[i]=CV.mk k n s l':=by
      cases h:l[i] with
      |mk k n s l'=>exact⟨k,n,s,l',rfl⟩
     have hdt:=zmn hlt
     rw[hq] at e hz' hdt
     rw[z3b] at e hz'
     simp[hlt,hq,z3b,e,hz',hup]
     rw[hdt]
     simp only[Nat.max_def]
     split <;> split <;> omega
    ·have:i=l.length:=by omega
     subst this
     simp[hdw]

theorem z3x{E:Env}{cP:Nat->List D->Option D}{cS cY:Nat->List D->List Obj->Option (D × List Obj)}{hp:List Obj}{id:Nat}{g:Opd->D}{f:Opd}:yd E cP cS cY id g hp (.call 4 f [])=(match g f with | .fn k caps=>ob (y1o (frz [] depth) caps) (fun vs=>y5q cS k vs hp) | _=>none):=by
 simp only[yd,DOp.fin,yl]
 cases g f <;> try rfl
 rename_i k caps
 simp only[]
 cases y1o (frz [] depth) caps <;> rfl

theorem s282(hp:List Obj):y1h E (dL E) 282 [] hp=some (.loc hp.length 0,hp++[.cells [.nilfn,.fn 298 [],.fn 299 [],.fn 300 [.loc (hp.length+1) 0]],.cells [.loc hp.length 0]]):=by
 have:∃ d hp',y1h E (dL E) 282 [] hp=some (d,hp')/\(d=.loc hp.length 0/\hp'=hp++[.cells [.nilfn,.fn 298 [],.fn 299 [],.fn 300 [.loc (hp.length+1) 0]],.cells [.loc hp.length 0]]):=by
  refine z34 c282 (args:=[]) (hp:=hp) (R:=fun d hp'=>d=.loc hp.length 0/\hp'=hp++[.cells [.nilfn,.fn 298 [],.fn 299 [],.fn 300 [.loc (hp.length+1) 0]],.cells [.loc hp.length 0]]) (by simp) ?_
  conv in t282=>reduce;dsimp[aD]
  simp[t282,n282]
 obtain⟨d,hp',e,rfl,rfl⟩:=this
 exact e
theorem r281{v:CV}(h:y5t v):y1l E (dL E) 281 [dV v]=some (dI 0):=by
 have e:=r297 (sizeOf v) v (aj _) h
 have hz:=zc2 (hp:=[]) h
 obtain⟨k,n,s,l⟩:=v
 refine zu c281 (by simp) ?_
 conv in t281=>reduce;dsimp[aD]
 have hd:=h.d
 rw[z3b] at e hz ⊢
 simp[t281,n281,e,hz]
 omega
theorem r264{v:CV}(h:y5t v):y1l E (dL E) 264 [dV v]=some (.tup [dBy (enc v),dI 0]):=by
 have e:=r281 h
 have hz:=zc2 (hp:=[]) h
 have e2:=s282 (af 11 .dead)
 have hf:=h.f
 have hn:=h.n
 obtain⟨k,n,s,l⟩:=v
 have hk:=zvg hf
 obtain⟨d,h5,e5,w⟩:=y9g (sizeOf (CV.mk k n s l)) (.mk k n s l) (aj _) hf k n s l rfl (C:=13) (A:=11) (B:=12) (sp:=.exact) (hp:=af 11 .dead++[.cells [.nilfn,.fn 298 [],.fn 299 [],.fn 300 [.loc 12 0]],.cells [.loc 11 0]]) []
  ⟨by simp[At],by simp[At]⟩ (by omega) (by omega) (by simpa using hn) (.inl rfl) (by simp)
 have hm:=w.imm
 obtain⟨tk,rfl,w2,w3,w4,w5⟩:=w
 rw[bQ] at w3 hm e5
 have hfz:∀ l:List UInt8,y1o (frz h5 10) (l.map yc)=some (l.map yc):=fun l=>z17 fun x _=>rfl
 refine zu c264 (by simp) ?_
 conv in t264=>reduce;dsimp[aD]
 rw[z3b] at e hz e5 ⊢
 simp at e2
 rcases hk with rfl | rfl | rfl
 ·simp[wrF,wrC] at e5
  simp[t264,n264,e,hz,z3x,y5q,e2,e5,hfz,y14]
 ·simp[wrF,wrC] at e5
  simp[t264,n264,e,hz,z3x,y5q,e2,e5,hfz,y14]
 ·simp[wrF,wrC] at e5
  simp[t264,n264,e,hz,z3x,y5q,e2,e5,hfz,y14]

end Dv

namespace Dv

structure Ent where
 kind:Int
 idx:Int
 amt:Int
deriving DecidableEq

structure Pst where
 no:Int
 minute:Int
 corrects:Int
 ents:List Ent
 prev:List UInt8
deriving DecidableEq


abbrev y2z(e:Ent):D:=.agg [dI e.kind,dI e.idx,dI e.amt]
abbrev y36(p:Pst):D:=.agg (dI p.no::dI p.minute::dI p.corrects :: .imm .none (p.ents.map y2z)::p.prev.map yc)
abbrev y1p(l:List Pst):D:=.imm .none (l.map y36)
abbrev y7g(d:List UInt8):D:=.agg (d.map yc)

def ltA(a b:Ent):Prop:=a.kind<b.kind\/a.kind=b.kind/\a.idx<b.idx
instance(a b:Ent):Decidable (ltA a b):=inferInstanceAs (Decidable (_\/_))
def y4n(x:Ent):Prop:=(1<=x.kind/\x.kind<=5)/\(-1<=x.idx/\x.idx<=4095)/\x.amt ≠ 0 /\ -1099511627776<=x.amt/\x.amt<=1099511627776
instance(x:Ent):Decidable (y4n x):=inferInstanceAs (Decidable (_/\_))
def ordE(l:List Ent):Prop:=∀ i,∀ h:i+1<l.length,ltA l[i] l[i+1]
def y51:List Ent->Int
 |[]=>0
 |x::l=>x.amt+y51 l
theorem zef(a b:List Ent):y51 (a++b)=y51 a+y51 b:=by
 induction a with
 |nil=>simp[y51]
 |cons x a ih=>simp only[ba,y51,ih];omega
structure fmE(l:List Ent):Prop where
 two:2<=l.length
 most:l.length<=4096
 ok:∀ x,x ∈ l->y4n x
 ord:ordE l
structure fmP(p:Pst):Prop where
 no:0<=p.no/\p.no<65536
 minute:0<=p.minute/\p.minute<1440
 corrects : -1<=p.corrects/\p.corrects<p.no
 ents:fmE p.ents
open Classical in
noncomputable def y4x(p:Pst):Int:=if fmP p then(if y51 p.ents=0 then 0 else 411) else 410
structure gdP(p:Pst):Prop where
 fm:fmP p
 sum:y51 p.ents=0
theorem z2m{p:Pst}:y4x p=0 ↔ gdP p:=by
 unfold y4x
 constructor
 ·intro h
  split at h
  ·rename_i h1
   split at h
   ·rename_i h2;exact⟨h1,h2⟩
   ·simp at h
  ·simp at h
 ·rintro⟨h1,h2⟩
  rw[if_pos h1,if_pos h2]

def cI(n:Int):CV:=.mk 1 n [] []
def cL(l:List CV):CV:=.mk 3 0 [] l
def cT(s:List UInt8):CV:=.mk 2 0 s []
def y5l(x:Ent):CV:=cL [cI x.kind,cI x.idx,cI x.amt]
def y95(p:Pst):CV:=cL [cI p.no,cI p.minute,cI p.corrects,cL (p.ents.map y5l),cT p.prev]
def y7x(p:Pst):List UInt8:=enc (y95 p)

theorem z74{n:Int}(h:i64 n):fmd (cI n):=by unfold cI;rw[fmd];exact .inl ⟨rfl,h,rfl,rfl⟩
theorem zp6{s:List UInt8}:fmd (cT s):=by unfold cT;rw[fmd];exact .inr (.inl ⟨rfl,rfl,rfl⟩)
theorem zc3{l:List CV}(h:y9n l):fmd (cL l):=by unfold cL;rw[fmd];exact .inr (.inr ⟨rfl,rfl,rfl,h⟩)
theorem z86:∀{l:List CV},(∀ v,v ∈ l->fmd v)->y9n l
 |[],_=>by rw[y9n];trivial
 |v::l,h=>by rw[y9n];exact⟨h v (by simp),z86 fun w hw=>h w (by simp[hw])⟩
theorem zca{n:Int}:dep (cI n)=0:=by unfold cI;rw[dep,if_neg (by decide)]
theorem zpl{s:List UInt8}:dep (cT s)=0:=by unfold cT;rw[dep,if_neg (by decide)]
theorem zc9{l:List CV}:dep (cL l)=y6b l+1:=by unfold cL;rw[dep,if_pos rfl]
theorem zcb{n:Nat}:∀{l:List CV},(∀ v,v ∈ l->dep v<=n)->y6b l<=n
 |[],_=>by rw[y6b];omega
 |v::l,h=>by rw[y6b];exact Nat.max_le.2 ⟨h v (by simp),zcb fun w hw=>h w (by simp[hw])⟩

structure ybs(p:Pst):Prop where
 no:i64 p.no
 minute:i64 p.minute
 corrects:i64 p.corrects
 ents:∀ x,x ∈ p.ents->i64 x.kind/\i64 x.idx/\i64 x.amt

theorem zls{p:Pst}(h:fmP p):ybs p:=by
 obtain⟨h1,h2,h3,h4⟩:=h
 refine⟨⟨by omega,by omega⟩,⟨by omega,by omega⟩,⟨by omega,by omega⟩,fun x hx=>?_⟩
 obtain⟨a,b,c,d⟩:=h4.ok x hx
 exact⟨⟨by omega,by omega⟩,⟨by omega,by omega⟩,⟨by omega,by omega⟩⟩

theorem zm7{x:Ent}(h:i64 x.kind/\i64 x.idx/\i64 x.amt):fmd (y5l x):=by
 unfold y5l
 refine zc3 (z86 fun v hv=>?_)
 simp only[az,gp,or_false] at hv
 rcases hv with rfl | rfl | rfl
 ·exact z74 h.1
 ·exact z74 h.2.1
 ·exact z74 h.2.2
theorem zt8{p:Pst}(h:ybs p):fmd (y95 p):=by
 unfold y95
 refine zc3 (z86 fun v hv=>?_)
 simp only[az,gp,or_false] at hv
 rcases hv with rfl | rfl | rfl | rfl | rfl
 ·exact z74 h.no
 ·exact z74 h.minute
 ·exact z74 h.corrects
 ·refine zc3 (z86 fun v hv=>?_)
  obtain⟨x,hx,rfl⟩:=aT.1 hv
  exact zm7 (h.ents x hx)
 ·exact zp6
theorem zmm{x:Ent}:dep (y5l x)=1:=by
 unfold y5l;rw[zc9];simp[y6b,zca]
theorem ztf{p:Pst}:dep (y95 p)<=3:=by
 unfold y95
 rw[zc9]
 have:y6b [cI p.no,cI p.minute,cI p.corrects,cL (p.ents.map y5l),cT p.prev]<=2:=by
  refine zcb fun v hv=>?_
  simp only[az,gp,or_false] at hv
  rcases hv with rfl | rfl | rfl | rfl | rfl
  ·rw[zca];omega
  ·rw[zca];omega
  ·rw[zca];omega
  ·rw[zc9]
   have:y6b (p.ents.map y5l)<=1:=zcb fun v hv=>by
    obtain⟨x,_,rfl⟩:=aT.1 hv
    rw[zmm];omega
   omega
  ·rw[zpl];omega
 omega

theorem z8y{u:Nat}(h:u<18446744073709551616):(num u).length<=11:=by
 have key:∀(k u:Nat),u<2 ^ (7*k)->(num u).length<=k+1:=by
  intro k
  induction k with
  |zero=>intro u h;rw[zal (by omega)];simp
  |succ k ih=>
   intro u h
   by_cases h1:u<128
   ·rw[zal h1];simp
   ·rw[zgd h1]
    have:=ih (u / 128) (by
     rw[jd (by decide),show(128:Nat)=2 ^ 7 from rfl,<- nB]
     rwa [show 7*k+7=7*(k+1) from by omega])
    simp;omega
 have:(18446744073709551616:Nat)<=2 ^ (7*10):=by decide
 exact key 10 u (by omega)
theorem ztd{n:Int}:enc (cI n)=1::num (uns n):=by unfold cI;rw[enc,if_pos rfl]
theorem zpf{s:List UInt8}:enc (cT s)=2::(num s.length++s):=by unfold cT;rw[enc,if_neg (by decide),if_pos rfl]
theorem zc7{l:List CV}:enc (cL l)=3::(num l.length++y3u l):=by unfold cL;rw[enc,if_neg (by decide),if_neg (by decide)]
theorem z57{n:Int}(h:i64 n):(enc (cI n)).length<=12:=by
 rw[ztd]
 have:=z8y (zk6 h)
 simp;omega
theorem zmi{n:Nat}:∀{l:List CV},(∀ v,v ∈ l->(enc v).length<=n)->(y3u l).length<=l.length*n
 |[],_=>by simp[y3u]
 |v::l,h=>by
  have h1:=h v (by simp)
  have h2:=zmi (l:=l) fun w hw=>h w (by simp[hw])
  simp only[y3u,aw,aF,a8];omega
theorem zph{x:Ent}(h:i64 x.kind/\i64 x.idx/\i64 x.amt):(enc (y5l x)).length<=48:=by
 unfold y5l
 rw[zc7]
 have h1:=z57 h.1
 have h2:=z57 h.2.1
 have h3:=z57 h.2.2
 have h4:=z8y (u:=3) (by omega)
 simp[y3u] at h1 h2 h3 h4 ⊢
 omega
theorem zh0{p:Pst}(h:ybs p)(hn:p.ents.length<=1000000)(hp:p.prev.length<=1000000):(y7x p).length<=48*p.ents.length+p.prev.length+100:=by
 unfold y7x y95
 rw[zc7]
 have h1:=z57 h.no
 have h2:=z57 h.minute
 have h3:=z57 h.corrects
 have h4:=z8y (u:=5) (by omega)
 have h5:(enc (cL (p.ents.map y5l))).length<=48*p.ents.length+12:=by
  rw[zc7]
  have:=z8y (u:=(p.ents.map y5l).length) (by simp;omega)
  have h6:=zmi (n:=48) (l:=p.ents.map y5l) fun v hv=>by
   obtain⟨x,hx,rfl⟩:=aT.1 hv
   exact zph (h.ents x hx)
  simp at this h6 ⊢
  omega
 have h7:(enc (cT p.prev)).length<=p.prev.length+12:=by
  rw[zpf]
  have:=z8y (u:=p.prev.length) (by omega)
  simp;omega
 simp only[aF,aw,y3u,bp,Nat.reduceAdd] at h4 ⊢
 omega


abbrev Tag:=List UInt8->List UInt8->List UInt8
def y39:List UInt8:=[112,111,115,116,105,110,103,115]
def y3g:List UInt8:=[112,111,115,116,105,110,103]
def ybi:List UInt8:=[99,104,97,105,110]
def y5y(tg:Tag):List UInt8:=tg y39 []
def ybh(tg:Tag)(a b:List UInt8):List UInt8:=tg ybi (a++b)
def y9v(tg:Tag)(d:List UInt8)(p:Pst):List UInt8:=ybh tg d (tg y3g (y7x p))
def y4q(tg:Tag)(l:List Pst):List UInt8:=l.foldl (y9v tg) (y5y tg)
theorem zml{tg:Tag}{l:List Pst}{p:Pst}:y4q tg (l++[p])=y9v tg (y4q tg l) p:=by simp[y4q]
theorem zmk{tg:Tag}{l:List Pst}{i:Nat}(h:i<l.length):y4q tg (l.take (i+1))=y9v tg (y4q tg (l.take i)) l[i]:=by
 rw[aU h,zml]

structure atP(tg:Tag)(l:List Pst)(i:Nat)(p:Pst):Prop where
 no:p.no=i
 prev:p.prev=y4q tg (l.take i)
 minute:∀ j q,j+1=i->l[j]? = some q->q.minute<=p.minute
def vld(tg:Tag)(l:List Pst):Prop:=l.length<=65536/\(∀ p,p ∈ l->gdP p) /\ ∀ i p,l[i]? = some p->atP tg l i p

open Classical in
noncomputable def y2e:List Pst->Int
 |[]=>0
 |p::l=>if y4x p=0 then y2e l else y4x p
open Classical in
noncomputable def rdE(tg:Tag)(l:List Pst):Int:=if 65536<l.length then 2 else if y2e l ≠ 0 then y2e l else if vld tg l then 0 else 410

theorem z3a:∀{l:List Pst},y2e l=0 ↔ ∀ p,p ∈ l->gdP p
 |[]=>by simp[y2e]
 |p::l=>by
  simp only[y2e,az,forall_eq_or_imp]
  split
  ·rename_i h
   rw[z3a]
   exact⟨fun h2=>⟨z2m.1 h,h2⟩,fun h2=>h2.2⟩
  ·rename_i h
   exact⟨fun h2=>absurd h2 h,fun h2=>absurd (z2m.2 h2.1) h⟩
theorem z1m{tg:Tag}{l:List Pst}:rdE tg l=0 ↔ vld tg l:=by
 unfold rdE
 constructor
 ·intro h
  split at h
  ·simp at h
  ·split at h
   ·rename_i h2;exact absurd h h2
   ·split at h
    ·assumption
    ·simp at h
 ·intro h
  rw[if_neg (by have:=h.1;omega),if_neg (by simp only[ne_eq,j8];exact z3a.2 h.2.1),if_pos h]

theorem z8f{tg:Tag}:vld tg []:=⟨by simp,by simp,by simp⟩
theorem znr{tg:Tag}{l:List Pst}{p:Pst}(h:vld tg l)(hl:l.length<65536)(g:gdP p)(hno:p.no=l.length)(hprev:p.prev=y4q tg l)(hm:∀ q,l.getLast? = some q->q.minute<=p.minute):vld tg (l++[p]):=by
 refine⟨by simp;omega,fun q hq=>?_,fun i q hi=>?_⟩
 ·rcases aS.1 hq with hq | hq
  ·exact h.2.1 q hq
  ·simp at hq;subst hq;exact g
 ·rw[List.getElem?_append] at hi
  split at hi
  ·rename_i hlt
   obtain⟨a,b,c⟩:=h.2.2 i q hi
   refine⟨a,?_,fun j r hj hr=>c j r hj ?_⟩
   ·rw[bK (by omega)];exact b
   ·rw[ax (by omega)] at hr;exact hr
  ·rename_i hge
   have hi0:i=l.length:=by
    have:=(ac.1 hi).1
    simp at this;omega
   subst hi0
   simp at hi;subst hi
   refine⟨hno,?_,fun j r hj hr=>hm r ?_⟩
   ·rw[bK (aj _),be];exact hprev
   ·rw[ax (by omega)] at hr
    rw[fG,<- hr]
    congr 1;omega

structure Stp where
 minute:Int
 corrects:Int
 ents:List Ent
def y3r(tg:Tag)(l:List Pst)(s:Stp):Pst:=⟨l.length,s.minute,s.corrects,s.ents,y4q tg l⟩
open Classical in
noncomputable def y2y(tg:Tag)(l:List Pst)(s:Stp):Int:=
 if rdE tg l ≠ 0 then rdE tg l else if l.length=65536 then 2 else if ∃ q,l.getLast? = some q/\s.minute<q.minute then 410 else y4x (y3r tg l s)
theorem z4w{tg:Tag}{l:List Pst}{s:Stp}(h:y2y tg l s=0):vld tg l/\l.length<65536/\vld tg (l++[y3r tg l s])/\(∀ q,l.getLast? = some q->q.minute<=s.minute)/\gdP (y3r tg l s):=by
 unfold y2y at h
 split at h
 ·rename_i h1;exact absurd h h1
 ·rename_i h1
  have v:=z1m.1 (j8.1 h1)
  split at h
  ·simp at h
  ·rename_i h2
   have hl:l.length<65536:=by have:=v.1;omega
   split at h
   ·simp at h
   ·rename_i h3
    have hm:∀ q,l.getLast? = some q->q.minute<=s.minute:=fun q hq=>by
     rcases Int.lt_or_le s.minute q.minute with h4 | h4
     ·exact absurd ⟨q,hq,h4⟩ h3
     ·exact h4
    have g:=z2m.1 h
    exact⟨v,hl,znr v hl g rfl rfl hm,hm,g⟩
theorem z3r{tg:Tag}{l:List Pst}{s:Stp}(v:vld tg l)(hl:l.length<65536)(hm:∀ q,l.getLast? = some q->q.minute<=s.minute):y2y tg l s=y4x (y3r tg l s):=by
 unfold y2y
 rw[if_neg (by simp[z1m.2 v]),if_neg (by omega),if_neg]
 rintro⟨q,h1,h2⟩
 have:=hm q h1
 omega

open Classical in
noncomputable def y4l(tg:Tag)(l:List Pst)(s:Stp):List Pst:=if y2y tg l s=0 then l++[y3r tg l s] else l
noncomputable def y49(tg:Tag)(ss:List Stp):List Pst:=ss.foldl (y4l tg) []
theorem zku{tg:Tag}{l:List Pst}{s:Stp}(v:vld tg l):vld tg (y4l tg l s):=by
 unfold y4l
 split
 ·rename_i h;exact(z4w h).2.2.1
 ·exact v
theorem zkv{tg:Tag}{l:List Pst}{s:Stp}:(y4l tg l s).length<=l.length+1:=by
 unfold y4l;split <;> simp
def y38(k i:Int):List Ent->Int
 |[]=>0
 |x::l=>(if x.kind=k/\x.idx=i then x.amt else 0)+y38 k i l
def y4j(k i m:Int):List Pst->Int
 |[]=>0
 |p::l=>(if p.minute<=m then y38 k i p.ents else 0)+y4j k i m l
theorem zfs{k i m:Int}(a b:List Pst):y4j k i m (a++b)=y4j k i m a+y4j k i m b:=by
 induction a with
 |nil=>simp[y4j]
 |cons x a ih=>simp only[ba,y4j,ih];omega

end Dv

namespace Dv

def yav(l:List Pst):List (Int × Int):=l.flatMap fun p=>p.ents.map fun x=>(x.kind,x.idx)

end Dv

namespace Dv
attribute [local simp] af depth y53 y89 y3c y2q y88 y6c y34 y23 Ret
attribute [local congr] z2o z2s z24 z1n z18 z26 z16


abbrev xI(n:Int):D:=.agg [dI 1,dI n,.str [],.imm .exact []]
theorem zpn{n:Int}:dV (cI n)=.agg [dI 1,dI n,.str [],.imm .none []]:=by unfold cI;rw[z3b];rfl
theorem zvd{hp:List Obj}{k:Nat}{n:Int}:frz hp (k+2) (xI n)=some (dV (cI n)):=by rw[zpn];rfl
def is4(x:D):Prop:=x.storable=true/\x.cellsL.length=4
theorem za1{l new:List D}(h:l.length+new.length<=1000000)(hl:∀ x,x ∈ l->is4 x):y33 E 55 l new:=by
 refine⟨?_,?_,?_,?_⟩
 all_goals simp[yi]
 ·omega
 ·unfold y2p
  rw[ay]
  intro x hx
  obtain⟨h1,h2⟩:=hl x hx
  simp[h1,h2]
def Lx(vs:List Int)(i:Nat):List D:=(vs.take i).map xI
theorem zu3{vs:List Int}:Lx vs 0=[]:=rfl
theorem zvt{vs:List Int}:Lx vs vs.length=vs.map xI:=by unfold Lx;rw[be]
theorem zvs{vs:List Int}{i:Nat}(h:i<=vs.length):(Lx vs i).length=i:=by unfold Lx;rw[aA,aW];omega
theorem Lx_s{vs:List Int}{i:Nat}(h:i<vs.length):Lx vs (i+1)=Lx vs i++[xI vs[i]]:=by unfold Lx;rw[aU h,bN];rfl
theorem zqz{l:List Int}:∀ x,x ∈ l.map xI->is4 x:=by
 intro x hx
 obtain⟨n,_,rfl⟩:=aT.1 hx
 exact⟨rfl,rfl⟩

def LstI(hp:List Obj)(vs:List Int)(d:D)(hp':List Obj):Prop:=
 ∃ sp,d=.agg [dI 3,dI 0,.str [],.imm sp (vs.map xI)]/\y7l hp.length hp' sp vs.length 4/\y28 hp.length hp.length hp hp'/\hp.length<=hp'.length

theorem s366(vs:List Int)(sp0:y1a)(hp:List Obj)(hv:vs.length<=100000):∃ d hp',y1h E (dL E) 366 [.imm sp0 (vs.map dI)] hp=some (d,hp')/\LstI hp vs d hp':=by
 refine z34 c366 (args:=[.imm sp0 (vs.map dI)]) (hp:=hp) (R:=LstI hp vs) (by simp) ?_
 conv in t366=>reduce;dsimp[aD]
 simp[t366,n366]
 refine z1o vs.length (fun i env h=>∃(x3 x7 x8:D) (sp:y1a),env=[.imm sp0 (vs.map dI),.loc hp.length 0,.loc (hp.length+1) 0,x3,.imm sp0 (vs.map dI),dI vs.length,dI i,x7,x8] /\
  At h hp.length (.cells [dI 0,dI 0,.str [],.imm .exact []])/\At h (hp.length+1) (.cells [dI 3,dI 0,.str [],.imm sp (Lx vs i)])/\y7l (hp.length+2) h sp i 4/\y28 hp.length hp.length hp h/\hp.length+2<=h.length) 0 (by omega) ?_ ?_
 ·rw[zu3]
  exact⟨_,_,_,.exact,rfl,by simp[At],by simp[At],.inl rfl,y28.app,by simp⟩
 rintro i env h hi ⟨x3,x7,x8,sp,rfl,a1,a2,R,k,hlen⟩
 have hL:(Lx vs i).length=i:=zvs hi
 by_cases hlt:i<vs.length
 ·have hup:=zm hlt (by omega)
  have hap:∀ x:D,y33 E 55 (Lx vs i) [x]:=fun x=>za1 (by rw[hL];simp;omega) zqz
  have hsp:=Lx_s hlt
  have h1:hp.length+1<h.length:=by omega
  rcases R with rfl | ⟨q,rfl,hq,hq2⟩
  ·simp[hlt,hup,a2.eq,a2.appE,zj,z1d,hap,hL]
   refine⟨a1.app.ne (by omega),.tok h.length,by rw[hsp];exact At.self (by simp;omega),.inr ⟨h.length,rfl,by omega,?_⟩,(k.trans y28.app).trans (y28.set (.inr (by omega))),by omega⟩
   exact At.ne (by simp[At]) (by omega)
  ·have hq3:=hq2.eq
   have a2':=a2.ne (j:=q) (x:=Obj.dead) (by omega)
   have a1':=a1.ne (j:=q) (x:=Obj.dead) (by omega)
   simp[hlt,hup,a2.eq,a2'.appE,zj,z1r,hap,hL,hq3]
   refine⟨a1'.app.ne (by omega),.tok h.length,by rw[hsp];exact At.self (by simp;omega),.inr ⟨h.length,rfl,by omega,?_⟩,((k.trans (y28.set (.inr (by omega)))).trans y28.app).trans (y28.set (.inr (by omega))),by omega⟩
   exact At.ne (by simp[At]) (by omega)
 ·have:i=vs.length:=by omega
  subst this
  rw[zvt] at a2
  have h0:hp.length<h.length:=by omega
  have a3:∀ o,(h.set hp.length o)[hp.length]? = some o:=fun o=>At.self h0
  simp[a1.eq,a2.eq,a3]
  refine⟨sp,rfl,?_,k.trans (y28.set (.inr (by omega))),by simp;omega⟩
  rcases R with rfl | ⟨q,rfl,hq,hq2⟩
  ·exact .inl rfl
  ·exact .inr ⟨q,rfl,by omega,hq2.ne (by omega)⟩

theorem zgr{A:Type}{f:D->Option D}{g g':A->D}:∀{l:List A},(∀ x,x ∈ l->f (g x)=some (g' x))->y1o f (l.map g)=some (l.map g')
 |[],_=>rfl
 |x::l,h=>by
  rw[av,av,z3h,h x (by simp),zgr fun y hy=>h y (by simp[hy])];rfl
theorem zth{vs:List Int}:dV (cL (vs.map cI))=.agg [dI 3,dI 0,.str [],.imm .none (vs.map fun n=>dV (cI n))]:=by
 unfold cL;rw[z3b,fM];rfl
theorem r366(vs:List Int)(hv:vs.length<=100000):y1l E (dL E) 366 [.imm .none (vs.map dI)]=some (dV (cL (vs.map cI))):=by
 obtain⟨d,hp',e,sp,rfl,_⟩:=s366 vs .none [] hv
 unfold y1l
 have hk:E.keep 366=false:=rfl
 have hz:frz hp' depth (.agg [dI 3,dI 0,.str [],.imm sp (vs.map xI)])=some (dV (cL (vs.map cI))):=by
  have:y1o (frz hp' 10) (vs.map xI)=some (vs.map fun n=>dV (cI n)):=zgr fun n _=>zvd
  rw[zth]
  show frz hp' 12 _=_
  have hs:frz hp' 11 (.str [])=some (.str []):=rfl
  simp[this,hs]
 simp[e,hk]
 exact hz

def yat(a b:Ent):Int:=orI [y6g a.kind b.kind,y6g a.idx b.idx]
theorem r362(a b:Ent):y1l E (dL E) 362 [y3j a.kind a.idx,y3j b.kind b.idx]=some (dI (yat a b)):=by
 have h1:=r74 a.kind b.kind
 have h2:=r74 a.idx b.idx
 have h3:=ydn [y6g a.kind b.kind,y6g a.idx b.idx] (by simp)
 simp only[y3c,av,aO] at h3
 refine zu c362 (by simp) ?_
 conv in t362=>reduce;dsimp[aD]
 simp[t362,n362,h1,h2,h3]
 try rfl
theorem zmt{a b:Ent}:yat a b<0 ↔ ltA a b:=by
 unfold yat ltA y6g
 simp only[orI]
 repeat' split
 all_goals omega

theorem zv8{P:Prop}[Decidable P]{b:Bool}:(if P then some (D.bool true) else some (D.bool b))=some (D.bool (decide P || b)):=by
 by_cases h:P <;> simp[h]
theorem zlk{a b:Bool}:yba (.bool a) (some (.bool true)) (some (.bool b))=some (.bool (a || b)):=by
 cases a <;> rfl

def yas(l:List Ent)(i:Nat):Prop:=(∀ j,∀ h:j<l.length,j<i->y4n l[j]) /\ ∀ j,∀ h:j+1<l.length,j+1<i->ltA l[j] l[j+1]
theorem zky{l:List Ent}:yas l 0:=⟨fun _ _ h=>absurd h (by omega),fun _ _ h=>absurd h (by omega)⟩
theorem zod{l:List Ent}(h:yas l l.length):(∀ x,x ∈ l->y4n x)/\ordE l:=by
 refine⟨fun x hx=>?_,fun j hj=>h.2 j hj hj⟩
 obtain⟨j,hj,rfl⟩:=List.mem_iff_getElem.1 hx
 exact h.1 j hj hj
theorem zqy{l:List Ent}{i:Nat}(hi:i<l.length)(h:yas l i)(hx:y4n l[i])(ho:∀ h:0<i,ltA (l[i - 1]'(by omega)) l[i]):yas l (i+1):=by
 constructor
 ·intro j hj hji
  by_cases e:j=i
  ·subst e;exact hx
  ·exact h.1 j hj (by omega)
 ·intro j hj hji
  by_cases e:j+1=i
  ·subst e
   exact ho (by omega)
  ·exact h.2 j hj (by omega)
theorem zqp{l:List Ent}{i:Nat}(h:i<l.length):y51 (l.take (i+1))=y51 (l.take i)+l[i].amt:=by
 rw[aU h,zef];simp[y51]
theorem zsb{l:List Ent}{i:Nat}(h:yas l i):i<=l.length -> -(i*1099511627776:Int)<=y51 (l.take i)/\y51 (l.take i)<=(i*1099511627776:Int):=by
 induction i with
 |zero=>intro _;simp[y51]
 |succ i ih=>
  intro hi
  have h1:=ih ⟨fun j hj hji=>h.1 j hj (by omega),fun j hj hji=>h.2 j hj (by omega)⟩ (by omega)
  have h2:=h.1 i hi (by omega)
  rw[zqp hi]
  obtain⟨_,_,_,h3,h4⟩:=h2
  push_cast
  omega
theorem zbr{p:Pst}(h : ¬ fmP p):y4x p=410:=by unfold y4x;rw[if_neg h]

theorem ydk(p:Pst)(h32:p.prev.length=32)(hl:p.ents.length<=1000000):y1l E (dL E) 355 [y36 p]=some (dI (y4x p)):=by
 refine zu c355 (by simp) ?_
 conv in t355=>reduce;dsimp[aD]
 obtain⟨no,minute,corrects,ents,prev⟩:=p
 simp only at h32 hl
 simp[t355,n355,h32,zv8,zlk]
 split
 ·rename_i hb
  rw[zbr]
  rintro⟨h1,h2,h3,⟨h4,h5,h6,h7⟩⟩
  simp only at h1 h2 h3 h4 h5
  omega
 rename_i hg
 refine z1o ents.length (fun i env h=>∃(x0 x2 x4 x5 x6 x10 x11 x12 x13 x14:D) ,env=[x0,.iptr (dI no::dI minute::dI corrects :: .imm .none (ents.map y2z)::prev.map yc),x2,dI (y51 (ents.take i)),x4,x5,x6,.imm .none (ents.map y2z),dI ents.length,dI i,x10,x11,x12,x13,x14]/\yas ents i) 0 (by omega) ?_ ?_
 ·exact⟨_,_,_,_,_,_,_,_,_,_,rfl,zky⟩
 rintro i env h hi ⟨x0,x2,x4,x5,x6,x10,x11,x12,x13,x14,rfl,ok⟩
 by_cases hlt:i<ents.length
 ·have hup:=zm hlt (by omega)
  have hbad : ¬ y4n ents[i]->y4x { no:=no,minute:=minute,corrects:=corrects,ents:=ents,prev:=prev }=410:=fun hx=>zbr fun f=>hx (f.ents.ok _ (bj hlt))
  have hs:=zqp hlt
  have hsb:=zsb ok hi
  simp[hlt,hup,zv8,zlk]
  split
  ·rename_i hb
   refine(hbad fun hx=>?_).symm
   obtain⟨h1,h2,h3,h4,h5⟩:=hx
   omega
  rename_i hb
  have hx:y4n ents[i]:=⟨by omega,by omega,by omega,by omega,by omega⟩
  have hsw:aB.wrap (y51 (ents.take i)+ents[i].amt)=y51 (ents.take (i+1)):=by
   rw[hs]
   refine zc ⟨?_,?_⟩ <;> omega
  by_cases h0:i=0
  ·have ok':=zqy hlt ok hx (fun h=>absurd h (by omega))
   subst h0
   simp at hsw
   have h1:aB.wrap 1=1:=by decide
   simp[hsw,h1,hlt]
   exact ok'
  ·have hw:aB.wrap ((i:Int) - 1)=((i - 1:Nat):Int):=by rw[zc ⟨by omega,by omega⟩];omega
   have hlt':i - 1<ents.length:=by omega
   have h0':0<i:=by omega
   have hc:=r362 ents[i - 1] ents[i]
   by_cases hq:ltA ents[i - 1] ents[i]
   ·have ok':=zqy hlt ok hx (fun _=>hq)
    have hn : ¬ 0<=yat ents[i - 1] ents[i]:=by have:=zmt.2 hq;omega
    simp[h0',hw,hlt',hc,hn,hsw,hup]
    exact ok'
   ·have hn:0<=yat ents[i - 1] ents[i]:=by
     by_cases h:yat ents[i - 1] ents[i]<0
     ·exact absurd (zmt.1 h) hq
     ·omega
    simp[h0',hw,hlt',hc,hn]
    refine(zbr fun f=>hq ?_).symm
    have:=f.ents.ord (i - 1) (by simp only;omega)
    simp only[show i - 1+1=i from by omega] at this
    exact this
 ·have:i=ents.length:=by omega
  subst this
  rw[be]
  obtain⟨o1,o2⟩:=zod ok
  have hf:fmP { no:=no,minute:=minute,corrects:=corrects,ents:=ents,prev:=prev }:=⟨by simp only;omega,by simp only;omega,by simp only;omega,by simp only;omega,by simp only;omega,o1,o2⟩
  unfold y4x
  rw[if_pos hf]
  by_cases h0:y51 ents=0 <;> simp[h0]

def Le(l:List Ent)(i:Nat):List D:=(l.take i).map fun x=>dV (y5l x)
theorem zu4{l:List Ent}:Le l 0=[]:=rfl
theorem zvv{l:List Ent}:Le l l.length=l.map fun x=>dV (y5l x):=by unfold Le;rw[be]
theorem zvu{l:List Ent}{i:Nat}(h:i<=l.length):(Le l i).length=i:=by unfold Le;rw[aA,aW];omega
theorem Le_s{l:List Ent}{i:Nat}(h:i<l.length):Le l (i+1)=Le l i++[dV (y5l l[i])]:=by unfold Le;rw[aU h,bN];rfl
theorem Le_4{l:List Ent}{i:Nat}:∀ x,x ∈ Le l i->is4 x:=by
 intro x hx
 obtain⟨e,_,rfl⟩:=aT.1 hx
 constructor
 ·rw[y5l,cL,z3b];rfl
 ·rw[y5l,cL,z3b];rfl

theorem At.dif{hp:List Obj}{i j:Nat}{a b:Obj}(h:At hp i a)(h':At hp j b)(hn:a ≠ b):i ≠ j:=by
 rintro rfl
 unfold At at h h'
 rw[h] at h'
 exact hn (cg h')
theorem zvf{hp:List Obj}{n:Nat}{l:List Ent}(h:∀ x,x ∈ l->i64 x.kind/\i64 x.idx/\i64 x.amt):y1o (frz hp (n+4)) (Le l l.length)=some (l.map fun x=>dV (y5l x)):=by
 rw[zvv]
 exact z17 fun x hx=>zr2 1 (y5l x) (zm7 (h x hx)) (by rw[zmm];omega) (n+4) (by omega)
theorem zvj{p:Pst}:dV (y95 p)=.agg [dI 3,dI 0,.str [],.imm .none [dV (cI p.no),dV (cI p.minute),dV (cI p.corrects),.agg [dI 3,dI 0,.str [],.imm .none (p.ents.map fun x=>dV (y5l x))],.agg [dI 2,dI 0,.str p.prev,.imm .none []]]]:=by
 unfold y95 cL cT
 rw[z3b]
 simp only[av,aO,z3b,fM]
 rfl
theorem zm8{p:Pst}(h:ybs p)(hl:p.ents.length<=1000000)(h32:p.prev.length=32):y5t (y95 p):=by
 have:=zh0 h hl (by omega)
 unfold y7x at this
 exact⟨zt8 h,by have:=ztf (p:=p);omega,by omega⟩
theorem z8o{l:List UInt8}(h:l.length=32):y15 E 73 (.iptr (l.map yc)) none none none=some (.imm .none (l.map yc)):=by
 unfold y15
 simp[h,bnd]
 rw[bE (by simp[h])]

noncomputable def ybx(p:Pst):D:=if y4x p=0 then .tup [dBy (y7x p),dI 0] else .tup [.imm .none [],dI (y4x p)]

theorem z1u:∀(n k:Nat) (cs:List D),cs.length=k+n->y1x cs k n=some (cs.drop k)
 | 0,k,cs,h=>by rw[y1x,iS (by omega)]
 |n+1,k,cs,h=>by
  have hk:k<cs.length:=by omega
  rw[y1x,z1u n (k+1) cs (by omega),ae hk,b7 hk]
theorem zlp{p:Pst}(h32:p.prev.length=32):y4b E 71 (.iptr (dI p.no::dI p.minute::dI p.corrects :: .imm .none (p.ents.map y2z)::p.prev.map yc))=some (y36 p):=by
 rw[z1t]
 have e:=z1u 36 0 (dI p.no::dI p.minute::dI p.corrects :: .imm .none (p.ents.map y2z)::p.prev.map yc) (by simp[h32])
 rw[show(E.ty 71).size=36 from rfl,e]
 rfl
theorem ze{hp:List Obj}{n:Nat}{l:List UInt8}:y1o (frz hp (n+1)) (l.map yc)=some (l.map yc):=z17 fun x _=>rfl
theorem zo{hp:List Obj}{n:Nat}{l:List Ent}:y1o (frz hp (n+2)) (l.map y2z)=some (l.map y2z):=z17 fun x _=>rfl
theorem zt6{hp:List Obj}{n:Nat}{p:Pst}:frz hp (n+5) (y36 p)=some (y36 p):=by
 show frz hp (n+5) (.agg _)=_
 rw[z73]
 simp only[z3h,z5l,z4q,zo,ao,z7,ze]

theorem zte{hp r:List Obj}{k:Nat}{o:Obj}(h:At r k o)(hk:hp.length<=k):At (hp++r.drop hp.length) k o:=by
 unfold At at h ⊢
 rw[aC hk,ca]
 rw[show hp.length+(k - hp.length)=k from by omega]
 exact h
theorem yb5(vs:List Int)(sp0:y1a)(hp:List Obj)(hv:vs.length<=100000):∃ d sp r,y5q (y1h E (dL E)) 366 [.imm sp0 (vs.map dI)] hp=some (d,hp++r)/\d=.agg [dI 3,dI 0,.str [],.imm sp (vs.map xI)]/\y7l hp.length (hp++r) sp vs.length 4:=by
 obtain⟨d,h',e,sp,rfl,R,k,hl⟩:=s366 vs sp0 (af hp.length .dead) hv
 rw[ek] at R k hl
 refine⟨_,sp,h'.drop hp.length,?_,rfl,?_⟩
 ·unfold y5q
  rw[e]
  rfl
 ·rcases R with rfl | ⟨q,rfl,hq,hq2⟩
  ·exact .inl rfl
  ·exact .inr ⟨q,rfl,hq,zte hq2 hq⟩

theorem r334(p:Pst)(h32:p.prev.length=32)(hl:p.ents.length<=1000000):y1l E (dL E) 334 [y36 p]=some (ybx p):=by
 refine zu c334 (by simp) ?_
 conv in t334=>reduce;dsimp[aD]
 have h355:=ydk p h32 hl
 unfold ybx
 obtain⟨no,minute,corrects,ents,prev⟩:=p
 simp only at h32 hl
 have hil:=zlp (p:={ no:=no,minute:=minute,corrects:=corrects,ents:=ents,prev:=prev }) h32
 simp only at hil
 by_cases hg:y4x { no:=no,minute:=minute,corrects:=corrects,ents:=ents,prev:=prev }=0
 ·rw[if_pos hg]
  rw[hg] at h355
  obtain⟨d1,sp1,r1,e1,rfl,R1⟩:=yb5 [no,minute,corrects] .none [] (by simp)
  obtain⟨d2,sp2,r2,e2,rfl,R2⟩:=yb5 [] .none r1 (by simp)
  have g1:=(z2m.1 hg).fm
  have hln:ents.length<=4096:=g1.ents.most
  rw[bQ] at e1 R1
  have S1:∃ G:List Obj,G=r1++r2 /\ ∀ k,sp1=.tok k->At G k (.tok 12 4)/\k<r1.length:=⟨_,rfl,fun k hk=>by
   rcases R1 with rfl | ⟨q,rfl,_,hq⟩
   ·cases hk
   ·cases hk
    exact⟨At.app hq,At.lt hq⟩⟩
  have R1':sp1=.exact \/ ∃ k,sp1=.tok k:=by
   rcases R1 with h | ⟨q,h,_⟩
   ·exact .inl h
   ·exact .inr ⟨q,h⟩
  obtain⟨G,hG,T⟩:=S1
  rw[<- hG] at e2 R2
  have hG1:r1.length<=G.length:=by rw[hG];simp
  clear hG R1
  simp at e1 e2 R2
  have w1:∀ x y:Obj,(G++[x,y])[G.length+1]? = some y:=fun x y=>by simp
  have w2:∀ x y z:Obj,(G++[x,y]).set (G.length+1) z=G++[x,z]:=fun x y z=>by simp
  simp[t334,n334,h32,h355,z5y,↓hil,zo,ze,e1,e2,↓w1,↓w2]
  refine z1o ents.length (fun i env h=>∃(x0 x2 x3 x4 x7 x8 x9 x10 x14 x15 x16 x17 x18:D) (sp:y1a),env=[x0,.iptr (dI no::dI minute::dI corrects :: .imm .none (ents.map y2z)::prev.map yc),x2,x3,x4,.loc G.length 0,.loc (G.length+1) 0,x7,x8,x9,x10,.imm .none (ents.map y2z),dI ents.length,dI i,x14,x15,x16,x17,x18] /\
   At h G.length (.cells [dI 3,dI 0,.str [],.imm sp1 [xI no,xI minute,xI corrects]])/\At h (G.length+1) (.cells [dI 3,dI 0,.str [],.imm sp (Le ents i)])/\(∀ k,sp1=.tok k->At h k (.tok 12 4))/\y7l r1.length h sp i 4/\G.length+2<=h.length) 0 (by omega) ?_ ?_
  ·refine⟨_,_,_,_,_,_,_,_,_,_,_,_,_,sp2,rfl,by simp[At],by simp[At,zu4],fun k hk=>(T k hk).1.app,?_,by simp⟩
   rcases R2 with h | ⟨q,h,hq,hq2⟩
   ·exact .inl h
   ·exact .inr ⟨q,h,hq,hq2.app⟩
  rintro i env h hi ⟨x0,x2,x3,x4,x7,x8,x9,x10,x14,x15,x16,x17,x18,sp,rfl,a1,a2,T1,T3,hlen⟩
  have hL:(Le ents i).length=i:=zvu hi
  by_cases hlt:i<ents.length
  ·have hup:=zm hlt (by omega)
   have e4:=r366 [ents[i].kind,ents[i].idx,ents[i].amt] (by simp)
   simp only[av,aO] at e4
   have hap:∀ x:D,y33 E 55 (Le ents i) [x]:=fun x=>za1 (by rw[hL];simp;omega) Le_4
   have hv:dV (cL [cI ents[i].kind,cI ents[i].idx,cI ents[i].amt])=dV (y5l ents[i]):=rfl
   have h4:is4 (dV (y5l ents[i])):=Le_4 (l:=ents) (i:=i+1) _ (by rw[Le_s hlt];simp)
   have hsp:=Le_s hlt
   have nt:∀(i:Nat) (l:List D) (a b:Nat),Obj.tok a b ≠ .cells l:=fun _ _ _ _ e=>by cases e
   have T2:∀ k,sp1=.tok k->k<r1.length:=fun k hk=>(T k hk).2
   have T4:∀ k,sp1=.tok k->k<h.length/\k ≠ G.length/\k ≠ G.length+1:=fun k hk=>⟨(T1 k hk).lt,(T1 k hk).dif a1 (nt 0 _ _ _),(T1 k hk).dif a2 (nt 0 _ _ _)⟩
   rcases T3 with rfl | ⟨q,rfl,hq,hq2⟩
   ·have a3:∀ X o,((h++X).set (h.length+1+13) o)[G.length+1]? = some (.cells [dI 3,dI 0,.str [],.imm .exact (Le ents i)]):=fun X o=>(a2.app (r:=X)).ne (by omega)
    simp[hlt,hup,a2.appE,zj,z1d,hap,hL,e4,hv,h4.1,h4.2,↓a3]
    refine⟨((a1.app).ne (by omega)).ne (by omega),.tok (h.length+1+13),by rw[hsp];exact At.self (by simp;omega),fun k hk=>?_,.inr ⟨_,rfl,by omega,?_⟩,by omega⟩
    ·obtain⟨k1,k2,k3⟩:=T4 k hk
     exact(((T1 k hk).app).ne (by omega)).ne (by omega)
    ·exact(At.self (by simp)).ne (by omega)
   ·have q1:q ≠ G.length:=hq2.dif a1 (nt 0 _ _ _)
    have q2:q ≠ G.length+1:=hq2.dif a2 (nt 0 _ _ _)
    have hq3:∀ X,(h++X)[q]? = some (.tok (i*4) 4):=fun X=>hq2.app (r:=X)
    have hql:=hq2.lt
    have a2':At (h.set q .dead) (G.length+1) (.cells [dI 3,dI 0,.str [],.imm (.tok q) (Le ents i)]):=a2.ne (by omega)
    have a1':=a1.ne (j:=q) (x:=.dead) (by omega)
    have a3:∀ X o,((h.set q .dead++X).set (h.length+1+13) o)[G.length+1]? = some (.cells [dI 3,dI 0,.str [],.imm (.tok q) (Le ents i)]):=fun X o=>(a2'.app (r:=X)).ne (by omega)
    have hs:∀ X o,(h++X).set q o=h.set q o++X:=fun X o=>z20 hql
    simp[hlt,hup,a2.appE,zj,z1r,hap,hL,e4,hv,h4.1,h4.2,↓a3,hq3,↓hs]
    refine⟨((a1'.app).ne (by omega)).ne (by omega),.tok (h.length+1+13),by rw[hsp];exact At.self (by simp;omega),fun k hk=>?_,.inr ⟨_,rfl,by omega,?_⟩,by omega⟩
    ·obtain⟨k1,k2,k3⟩:=T4 k hk
     have:=T2 k hk
     exact((((T1 k hk).ne (by omega)).app).ne (by omega)).ne (by omega)
    ·exact(At.self (by simp)).ne (by omega)
  ·have:i=ents.length:=by omega
   subst this
   have hap:∀ x y:D,y33 E 55 [xI no,xI minute,xI corrects] [x,y]:=fun x y=>za1 (by simp) fun z hz=>zqz (l:=[no,minute,corrects]) z hz
   have hsl:=z8o h32
   have hi64:=zls g1
   have hz:=zvf (hp:=[]) (n:=4) hi64.ents
   have hst:∀ n s,frz [] (n+1) (.str s)=some (.str s):=fun _ _=>rfl
   have e64:=r264 (zm8 hi64 hl h32)
   rw[zvj,zpn,zpn,zpn] at e64
   simp only at hz e64
   have hGl:G.length<h.length:=by omega
   have hr:∀(X:List Obj) (o:Obj),((h++X).set G.length o)[G.length]? = some o:=fun X o=>At.self (by simp;omega)
   rcases R1' with rfl | ⟨k1,rfl⟩
   ·simp[a1.appE,a2.appE,hsl,zcf,zj,z1d,hap,↓hr,hz,hst,e64,ze]
    rfl
   ·have hk:=(T1 k1 rfl)
    have hk1:k1 ≠ G.length:=hk.dif a1 (fun e=>by cases e)
    have hkl:=hk.lt
    have hk2:∀ X:List Obj,(h++X)[k1]? = some (.tok 12 4):=fun X=>hk.app (r:=X)
    have hs:∀(X:List Obj) (o:Obj),(h++X).set k1 o=h.set k1 o++X:=fun X o=>z20 hkl
    have a1':=a1.ne (j:=k1) (x:=.dead) (by omega)
    have hw:∀ X:List Obj,(h.set k1 .dead++X)[G.length]? = some (.cells [dI 3,dI 0,.str [],.imm (.tok k1) [xI no,xI minute,xI corrects]]):=fun X=>a1'.app (r:=X)
    have hr':∀(X:List Obj) (o:Obj),((h.set k1 .dead++X).set G.length o)[G.length]? = some o:=fun X o=>At.self (by simp;omega)
    simp[a1.appE,a2.appE,hsl,zcf,zj,z1r,hap,↓hk2,↓hs,hw,↓hr',hz,hst,e64,ze]
    rfl
 ·rw[if_neg hg]
  simp[t334,n334,h32,h355,hg,↓hil,zo,ze]

abbrev Wd:=BitVec 32
abbrev dW(w:Wd):D:=.int .u32 (w.toNat:Int)
theorem z4u(m:Int):dz.wrap m=m % 4294967296:=by simp[fE,fF,fc]
theorem zcd:dz.bits=32:=rfl
theorem zhz{w:Wd}:ch 32 (w.toNat:Int)=w:=by simp
theorem zrq{a b:Wd}:dz.wrap ((a.toNat:Int)+b.toNat)=((a+b).toNat:Nat):=by
 rw[z4u,gq];omega
theorem yax{w:Wd}:w.toNat<4294967296:=w.isLt
theorem zrp{w:Wd}:((w.toNat:Nat):Int) % 4294967296=w.toNat:=by have:=yax (w:=w);omega
theorem zrn{a b:Wd}:y7o .u32 (a.toNat:Int) b.toNat=((a ^^^ b).toNat:Nat):=by
 unfold y7o
 rw[z4u,show dz.bits=32 from rfl,zhz,zhz,zrp]
theorem yc2{a b:Wd}:yag .u32 (a.toNat:Int) b.toNat=((a &&& b).toNat:Nat):=by
 unfold yag
 rw[z4u,show dz.bits=32 from rfl,zhz,zhz,zrp]
theorem yc1{a b:Wd}:y9l .u32 (a.toNat:Int) b.toNat=((a ||| b).toNat:Nat):=by
 unfold y9l
 rw[z4u,show dz.bits=32 from rfl,zhz,zhz,zrp]
theorem zug{a:Wd}{n:Nat}(h:n<=32):dz.wrap ((a.toNat:Int)*2 ^ (min n 32))=((a <<< n).toNat:Nat):=by
 rw[z4u,f7,Nat.shiftLeft_eq,ce h]
 have e:(a.toNat:Int)*2 ^ n=((a.toNat*2 ^ n:Nat):Int):=by rw[Int.natCast_mul,iK];rfl
 rw[e,show(2:Nat) ^ 32=4294967296 from rfl]
 omega
theorem zro{a:Wd}{n:Nat}(h:n<=32):(a.toNat:Int).fdiv (2 ^ (min n 32))=((a >>> n).toNat:Nat):=by
 rw[fP,Nat.shiftRight_eq_div_pow,ce h,dq _ (jf (by decide)),ky,iK]
 rfl

def y7a(x:Wd)(s:Nat):Wd:=(x <<< s) ||| (x >>> (32 - s))
theorem zum(k:Int):yag .u64 (bz.wrap k) 31=k % 32:=by
 unfold yag
 rw[z27,z27,show bz.bits=64 from rfl]
 have:(ch 64 (k % 18446744073709551616) &&& ch 64 31).toNat=(k % 18446744073709551616).toNat % 32:=by
  rw[kz]
  have h1:(ch 64 31).toNat=31:=by decide
  rw[h1]
  have h2:(ch 64 (k % 18446744073709551616)).toNat=(k % 18446744073709551616).toNat:=by
   rw[BitVec.toNat_ofInt]
   show((k % 18446744073709551616) % 18446744073709551616).toNat=_
   omega
  rw[h2]
  exact Nat.and_two_pow_sub_one_eq_mod _ 5
 rw[this]
 omega

theorem ya0(x:Wd)(k:Int)(h:i64 k):y1l E (dL E) 406 [dW x,dI k]=some (dW (y7a x (k % 32).toNat)):=by
 refine zu c406 (by simp) ?_
 conv in t406=>reduce;dsimp[aD]
 have e:=zum k
 obtain⟨s,hs⟩:∃ s:Nat,k % 32=s:=⟨(k % 32).toNat,by omega⟩
 have hs32:s<32:=by omega
 rw[hs] at e ⊢
 have hw:bz.wrap (32 - (s:Int))=((32 - s:Nat):Int):=by rw[z27];omega
 have e1:=zug (a:=x) (n:=s) (by omega)
 have e2:=zro (a:=x) (n:=32 - s) (by omega)
 have e3:=yc1 (a:=x <<< s) (b:=x >>> (32 - s))
 rw[ce (by omega)] at e1 e2
 have m1:min s 32=s:=ce (by omega)
 have m2:min (32 - s) 32=32 - s:=ce (by omega)
 simp[t406,n406,y3d,zcd,e,hw,m1,m2,e1,e2,e3,-f7,-fP,-iM]
 rfl

theorem r407(x:Wd)(a b c:Int)(ha:0<=a/\a<=100)(hb:0<=b/\b<=100)(hc:0<=c/\c<=100) :
  y1l E (dL E) 407 [dW x,dI a,dI b,dI c]=some (dW (y7a x (-a % 32).toNat ^^^ y7a x (-b % 32).toNat ^^^ y7a x (-c % 32).toNat)):=by
 refine zu c407 (by simp) ?_
 conv in t407=>reduce;dsimp[aD]
 have e1:=ya0 x (-a) ⟨by omega,by omega⟩
 have e2:=ya0 x (-b) ⟨by omega,by omega⟩
 have e3:=ya0 x (-c) ⟨by omega,by omega⟩
 have h1:aB.wrap (-a) = -a:=zc ⟨by omega,by omega⟩
 have h2:aB.wrap (-b) = -b:=zc ⟨by omega,by omega⟩
 have h3:aB.wrap (-c) = -c:=zc ⟨by omega,by omega⟩
 simp[t407,n407,e1,e2,e3,h1,h2,h3,zrn,-iu]

def y8c(b:List UInt8)(n:Nat):Wd:=(b.take n).foldl (fun w c=>(w <<< 8) ||| iv 32 c.toNat) 0
theorem zuc{b:List UInt8}{n:Nat}(h:n<b.length):y8c b (n+1)=(y8c b n <<< 8) ||| iv 32 b[n].toNat:=by
 unfold y8c
 rw[aU h,g8];rfl

theorem zgm{l:List UInt8}:y4c 1 (l.map yc)=true:=by cases l <;> rfl
theorem zg4{b:List UInt8}{i:Nat}(h:i<=b.length):y15 E 30 (.imm .none (b.map yc)) none (some (dI i)) none=some (.imm .none ((b.take i).map yc)):=by
 unfold y15
 simp[bnd]
 exact⟨⟨h,zgm⟩,by unfold y2d;simp⟩
theorem z1y{E:Env}{cP:Nat->List D->Option D}{env:List D}{hp:List Obj}{a t:Nat}{d:D}{x:Xp}:xv E cP env hp (.n (.slice t (.t a) none (some (.c d)) none) (.cons a x .nil))=ob (xv E cP env hp x) fun u=>y15 E t u none (some d) none:=by
 simp only[xv,xvs]
 cases xv E cP env hp x <;> try rfl
 simp only[ya,gOf,kv,if_true,z7]
 exact zw

theorem r405(b:List UInt8)(h:4<=b.length):y1l E (dL E) 405 [.imm .none (b.map yc)]=some (dW (y8c b 4)):=by
 refine zu c405 (by simp) ?_
 conv in t405=>reduce;dsimp[aD]
 have e:=zg4 h
 have hl:((b.take 4).map yc).length=4:=by simp;omega
 have e:y15 E 30 (.imm .none (b.map yc)) none (some (.int .i64 4)) none=some (.imm .none ((b.take 4).map yc)):=e
 simp[t405,n405,e,z1y]
 rw[ce h]
 refine z1o 4 (fun i env h=>∃(x0 x2 x6:D) ,env=[x0,dW (y8c b i),x2,.imm .none ((b.map yc).take 4),dI 4,dI i,x6]) 0 (by omega) ?_ ?_
 ·exact⟨_,_,_,rfl⟩
 rintro i env hp hi ⟨x0,x2,x6,rfl⟩
 by_cases hlt:i<4
 ·have hup:=zm hlt (by omega)
  have hib:i<b.length:=by omega
  have hs:=zuc hib
  have e1:=zug (a:=y8c b i) (n:=8) (by omega)
  have hc:b[i].toNat<256:=b[i].toNat_lt
  have e2:dz.wrap (b[i].toNat:Int)=((iv 32 b[i].toNat).toNat:Nat):=by
   rw[z4u,jU];omega
  have e3:=yc1 (a:=y8c b i <<< 8) (b:=iv 32 b[i].toNat)
  have hi4:(i:Int)<4:=by omega
  rw[ce (by omega)] at e1
  have e1:dz.wrap (((y8c b i).toNat:Int)*256)=((y8c b i <<< 8).toNat:Nat):=e1
  simp[hi4,hlt,hup,y3d,zcd,e1,e2,e3,hs,hib,-f7,-iM,-jU]
 ·have:i=4:=by omega
  subst this
  simp

def y60(m:List UInt8)(off n v:Nat):Nat->List UInt8
 | 0=>m
 |i+1=>(y60 m off n v i).set (off+(n - 1 - i)) (b8 (v / 2 ^ (8*i)))
theorem z4v{m:List UInt8}{off n v:Nat}:∀{i:Nat},(y60 m off n v i).length=m.length
 | 0=>rfl
 |i+1=>by rw[y60,bq,z4v]
theorem zk7(m:Int):jy.wrap m=m % 256:=by simp[fE,fF,fc]
theorem zo7{v i:Nat}(h:i<8):jy.wrap ((v:Int).fdiv (2 ^ (min (8*i) 64)))=((b8 (v / 2 ^ (8*i))).toNat:Nat):=by
 rw[zk7,ce (by omega),dq _ (jf (by decide)),jT]
 have e:(v:Int) / 2 ^ (8*i)=((v / 2 ^ (8*i):Nat):Int):=by rw[ky,iK];rfl
 rw[e]
 omega

theorem z5z{hp:List Obj}{id:Nat}{o:Obj}(h:At hp id o):hp.set id o=hp:=by
 apply List.ext_getElem?
 intro j
 by_cases hj:j=id
 ·subst hj
  rw[aQ h.lt]
  exact h.symm
 ·rw[aY (by omega)]

def Bys(hp:List Obj)(id:Nat)(m:List UInt8):Prop:=At hp id (.cells (m.map yc))

theorem ybo{hp:List Obj}{id off n:Nat}{gr:Bool}{m:List UInt8}(v:Nat)(hv:v<18446744073709551616)(hn:n<=8)(ho:off+n<=m.length)(B:Bys hp id m) :
  ∃ d hp',y1h E (dL E) 383 [.sl id off n 1 false gr,.int .u64 v] hp=some (d,hp')/\(d=.tup []/\hp'=hp.set id (.cells ((y60 m off n v n).map yc))):=by
 refine z34 c383 (args:=[.sl id off n 1 false gr,.int .u64 v]) (hp:=hp) (R:=fun d hp'=>d=.tup []/\hp'=hp.set id (.cells ((y60 m off n v n).map yc))) (by simp) ?_
 conv in t383=>reduce;dsimp[aD]
 have hid:=At.lt B
 simp[t383,n383]
 refine z1o n (fun i env h=>∃(x2 x5:D) ,env=[.sl id off n 1 false gr,.int .u64 v,x2,dI n,dI i,x5]/\h=hp.set id (.cells ((y60 m off n v i).map yc))) 0 (by omega) ?_ ?_
 ·refine⟨_,_,rfl,?_⟩
  rw[y60]
  exact(z5z B).symm
 rintro i env h hi ⟨x2,x5,rfl,rfl⟩
 have hset:∀ o:Obj,(hp.set id o)[id]? = some o:=fun o=>At.self hid
 by_cases hlt:i<n
 ·have hup:=zm hlt (by omega)
  have hb:=zo7 (v:=v) (i:=i) (by omega)
  have h1:aB.wrap ((n:Int) - 1)=(n:Int) - 1:=zc ⟨by omega,by omega⟩
  have h2:aB.wrap ((n:Int) - 1 - i)=((n - 1 - i:Nat):Int):=by rw[zc ⟨by omega,by omega⟩];omega
  have h3:aB.wrap (8*(i:Int))=((8*i:Nat):Int):=by rw[zc ⟨by omega,by omega⟩];omega
  have h4:(n - 1 - i:Nat)<n:=by omega
  have h5:off+(n - 1 - i)+1<=m.length:=by omega
  have h0:(8*(i:Int)).toNat=8*i:=by omega
  have h6:off+(n - 1 - i)<(y60 m off n v i).length:=by rw[z4v];omega
  have h8:(0:Int)<=8*(i:Int):=by omega
  simp[hlt,hup,hset,z3j,y3d,h1,h2,h3,h4,h5,hb,h0,h8,z4v,y60]
  have hbe:yc (b8 (v / 2 ^ (8*i)))=.int .u8 ((v:Int) / 2 ^ (8*i) % 256):=by
   show D.int .u8 ((b8 (v / 2 ^ (8*i))).toNat:Int)=_
   rw[<- hb,zk7,ce (by omega),dq _ (jf (by decide))]
  rw[hbe]
 ·have:i=n:=by omega
  subst this
  simp

def y8d(b:List UInt8):Nat->List Wd
 | 0=>af 64 0
 |i+1=>(y8d b i).set i (y8c (b.drop (4*i)) 4)
theorem z7z{b:List UInt8}:∀{i:Nat},(y8d b i).length=64
 | 0=>by simp[y8d]
 |i+1=>by rw[y8d,bq,z7z]
def sg0(x:Wd):Wd:=y7a x 25 ^^^ y7a x 14 ^^^ (x >>> 3)
def sg1(x:Wd):Wd:=y7a x 15 ^^^ y7a x 13 ^^^ (x >>> 10)
def y3l(b:List UInt8):Nat->List Wd
 | 0=>y8d b 16
 |k+1=>(y3l b k).set (k+16) ((y3l b k).getD k 0+sg0 ((y3l b k).getD (k+1) 0)+(y3l b k).getD (k+9) 0+sg1 ((y3l b k).getD (k+14) 0))
theorem z5u{b:List UInt8}:∀{i:Nat},(y3l b i).length=64
 | 0=>z7z
 |i+1=>by rw[y3l,bq,z5u]

def Wds(hp:List Obj)(id:Nat)(m:List Wd):Prop:=At hp id (.cells (m.map dW))

def ya8:List Wd:=[1116352408,1899447441,3049323471,3921009573,961987163,1508970993,2453635748,2870763221,3624381080,310598401,607225278,1426881987,1925078388,2162078206,2614888103,3248222580,3835390401,4022224774,264347078,604807628,770255983,1249150122,1555081692,1996064986,2554220882,2821834349,2952996808,3210313671,3336571891,3584528711,113926993,338241895,666307205,773529912,1294757372,1396182291,1695183700,1986661051,2177026350,2456956037,2730485921,2820302411,3259730800,3345764771,3516065817,3600352804,4094571909,275423344,430227734,506948616,659060556,883997877,958139571,1322822218,1537002063,1747873779,1955562222,2024104815,2227730452,2361852424,2428436474,2756734187,3204031479,3329325298]
theorem zgj:ya8.length=64:=rfl
theorem zea{E:Env}{cP:Nat->List D->Option D}{env:List D}{hp:List Obj}{b t:Nat}{d:D}{x:Xp}:xv E cP env hp (.n (.iaddr t (.c d) (.t b)) (.cons b x .nil))=ob (xv E cP env hp x) fun u=>y31 E t d u:=by
 simp only[xv,xvs]
 cases xv E cP env hp x <;> try rfl
 simp only[ya,gOf,kv,if_true,z7]
 exact zw
def ya9(i:Nat):List D:=(ya8.map dW).drop i
theorem ydx{i:Nat}(h:i<64):y31 E 80 (.iptr [.int .u32 1116352408,.int .u32 1899447441,.int .u32 3049323471,.int .u32 3921009573,.int .u32 961987163,.int .u32 1508970993,.int .u32 2453635748,.int .u32 2870763221,.int .u32 3624381080,.int .u32 310598401,.int .u32 607225278,.int .u32 1426881987,.int .u32 1925078388,.int .u32 2162078206,.int .u32 2614888103,.int .u32 3248222580,.int .u32 3835390401,.int .u32 4022224774,.int .u32 264347078,.int .u32 604807628,.int .u32 770255983,.int .u32 1249150122,.int .u32 1555081692,.int .u32 1996064986,.int .u32 2554220882,.int .u32 2821834349,.int .u32 2952996808,.int .u32 3210313671,.int .u32 3336571891,.int .u32 3584528711,.int .u32 113926993,.int .u32 338241895,.int .u32 666307205,.int .u32 773529912,.int .u32 1294757372,.int .u32 1396182291,.int .u32 1695183700,.int .u32 1986661051,.int .u32 2177026350,.int .u32 2456956037,.int .u32 2730485921,.int .u32 2820302411,.int .u32 3259730800,.int .u32 3345764771,.int .u32 3516065817,.int .u32 3600352804,.int .u32 4094571909,.int .u32 275423344,.int .u32 430227734,.int .u32 506948616,.int .u32 659060556,.int .u32 883997877,.int .u32 958139571,.int .u32 1322822218,.int .u32 1537002063,.int .u32 1747873779,.int .u32 1955562222,.int .u32 2024104815,.int .u32 2227730452,.int .u32 2361852424,.int .u32 2428436474,.int .u32 2756734187,.int .u32 3204031479,.int .u32 3329325298]) (.int .i64 (i:Int))=some (.iptr (ya9 i)):=by
 have e:(ya8.map dW)=[.int .u32 1116352408,.int .u32 1899447441,.int .u32 3049323471,.int .u32 3921009573,.int .u32 961987163,.int .u32 1508970993,.int .u32 2453635748,.int .u32 2870763221,.int .u32 3624381080,.int .u32 310598401,.int .u32 607225278,.int .u32 1426881987,.int .u32 1925078388,.int .u32 2162078206,.int .u32 2614888103,.int .u32 3248222580,.int .u32 3835390401,.int .u32 4022224774,.int .u32 264347078,.int .u32 604807628,.int .u32 770255983,.int .u32 1249150122,.int .u32 1555081692,.int .u32 1996064986,.int .u32 2554220882,.int .u32 2821834349,.int .u32 2952996808,.int .u32 3210313671,.int .u32 3336571891,.int .u32 3584528711,.int .u32 113926993,.int .u32 338241895,.int .u32 666307205,.int .u32 773529912,.int .u32 1294757372,.int .u32 1396182291,.int .u32 1695183700,.int .u32 1986661051,.int .u32 2177026350,.int .u32 2456956037,.int .u32 2730485921,.int .u32 2820302411,.int .u32 3259730800,.int .u32 3345764771,.int .u32 3516065817,.int .u32 3600352804,.int .u32 4094571909,.int .u32 275423344,.int .u32 430227734,.int .u32 506948616,.int .u32 659060556,.int .u32 883997877,.int .u32 958139571,.int .u32 1322822218,.int .u32 1537002063,.int .u32 1747873779,.int .u32 1955562222,.int .u32 2024104815,.int .u32 2227730452,.int .u32 2361852424,.int .u32 2428436474,.int .u32 2756734187,.int .u32 3204031479,.int .u32 3329325298]:=rfl
 rw[<- e,zit (m:=64) (e:=78) rfl,if_pos ⟨by omega,by omega⟩]
 rw[show(E.ty 78).size=1 from rfl,dY,cF]
 rfl
theorem ydw{i:Nat}{h:List Obj}(hi:i<64):yv E h 78 (.iptr (ya9 i))=some (dW (ya8.getD i 0)):=by
 have hl:i<(ya8.map dW).length:=by rw[aA,zgj];exact hi
 unfold ya9
 rw[b7 hl,im,ah,ae (by rw[zgj];exact hi)]
 rfl
theorem sl_1{q:Nat}:y15 E 77 (.loc q 0) (some (.int .i64 1)) none none=some (.sl q 1 7 1 false false):=rfl
theorem sl_7{q:Nat}:y15 E 77 (.loc q 0) none (some (.int .i64 7)) none=some (.sl q 0 7 1 false false):=rfl
theorem cp8{H:List Obj}{q:Nat}{d0 d1 d2 d3 d4 d5 d6 d7:Wd}(h:H[q]? = some (.cells [dW d0,dW d1,dW d2,dW d3,dW d4,dW d5,dW d6,dW d7])):y5u E H 81 81 (.sl q 1 7 1 false false) (.sl q 0 7 1 false false)=some (.int .i64 7,H.set q (.cells [dW d0,dW d0,dW d1,dW d2,dW d3,dW d4,dW d5,dW d6])):=by
 unfold y5u
 simp[h,y13,yx,y2l,y1x,yj]
 rfl
def rnd(w:List Wd)(i:Nat)(v:List Wd):List Wd:=match v with
 |[a,b,c,d,e,f,g,h]=>
  let t:=h+(y7a e 26 ^^^ y7a e 21 ^^^ y7a e 7)+(g ^^^ (e &&& (f ^^^ g)))+ya8.getD i 0+w.getD i 0
  [t+((y7a a 30 ^^^ y7a a 19 ^^^ y7a a 10)+((a &&& b) ||| (c &&& (a ||| b)))),a,b,c,d+t,e,f,g]
 |v=>v
def y94(w:List Wd)(v:List Wd):Nat->List Wd
 | 0=>v
 |i+1=>rnd w i (y94 w v i)
theorem yb8{l:List Wd}(h:l.length=8):∃ a b c d e f g k,l=[a,b,c,d,e,f,g,k]:=by
 match l,h with
 |[a,b,c,d,e,f,g,k],_=>exact⟨a,b,c,d,e,f,g,k,rfl⟩
theorem zsi{w:List Wd}{i:Nat}{v:List Wd}(h:v.length=8):(rnd w i v).length=8:=by
 obtain⟨a,b,c,d,e,f,g,k,rfl⟩:=yb8 h
 rfl
theorem zbo{w v:List Wd}(h:v.length=8):∀{i:Nat},(y94 w v i).length=8
 | 0=>h
 |i+1=>zsi (zbo h)

theorem y28.wk{i C:Nat}{hp hp':List Obj}(h:y28 C C hp hp'):y28 i C hp hp':=fun J h1 h2 h3=>h J h1 (fun hp j o hj hk=>h2 hp j o hj (by rcases hk with rfl | hk;exact .inr (aj _);exact .inr hk)) h3
def Blk(st:Nat)(hp:List Obj)(x:D)(b:List UInt8):Prop:=∀ i:Nat,i<16->∃ y,y15 E 30 x (some (dI (4*(i:Int)))) none none=some y /\ ∀ h,y28 st hp.length hp h->frz h 12 y=some (dBy (b.drop (4*i)))
theorem zt7{l:List UInt8}{h:List Obj}:frz h 12 (dBy l)=some (dBy l):=by rw[z4q,ze];rfl

def y76(s v:List Wd):Nat->List Wd
 | 0=>s
 |i+1=>(y76 s v i).set i ((y76 s v i).getD i 0+v.getD i 0)
theorem z8b{s v:List Wd}:∀{i:Nat},(y76 s v i).length=s.length
 | 0=>rfl
 |i+1=>by rw[y76,bq,z8b]
def y3h(s:List Wd)(b:List UInt8):List Wd:=y76 s (y94 (y3l b 48) s 64) 8

theorem yde{hp:List Obj}{st:Nat}{x:D}{b:List UInt8}{s:List Wd}(hs:s.length=8)(hb:64<=b.length)(S:Wds hp st s)(hx:Blk st hp x b) :
  ∃ d hp',y1h E (dL E) 404 [.loc st 0,x] hp=some (d,hp')/\(d=.tup []/\Wds hp' st (y3h s b)/\y28 st hp.length hp hp'/\hp.length<=hp'.length):=by
 refine z34 c404 (args:=[.loc st 0,x]) (hp:=hp) (R:=fun d hp'=>d=.tup []/\Wds hp' st (y3h s b)/\y28 st hp.length hp hp'/\hp.length<=hp'.length) (by simp) ?_
 conv in t404=>reduce;dsimp[aD]
 have hid:=At.lt S
 simp[t404,n404]
 refine z1o 16 (fun i env h=>∃(x3 x4 x5 x6 x7 x8 x9 x10 x11 x13 x14 x15 x16 x17 x18 x19 x20 x21:D) ,env=[.loc st 0,x,.loc hp.length 0,x3,x4,x5,x6,x7,x8,x9,x10,x11,dI i,x13,x14,x15,x16,x17,x18,x19,x20,x21]/\Wds h hp.length (y8d b i)/\y28 hp.length hp.length hp h) 0 (by omega) ?_ ?_
 ·refine⟨_,_,_,_,_,_,_,_,_,_,_,_,_,_,_,_,_,_,rfl,?_,y28.app⟩
  unfold Wds y8d
  simp[At]
 rintro i env h hi ⟨x3,x4,x5,x6,x7,x8,x9,x10,x11,x13,x14,x15,x16,x17,x18,x19,x20,x21,rfl,w1,w2⟩
 by_cases hlt:i<16
 ·have hi16:(i:Int)<16:=by omega
  have hup:=zm hlt (by omega)
  obtain⟨y,hy,hf⟩:=hx i hlt
  have hf:=hf h w2.wk
  have hw4:aB.wrap (4*(i:Int))=4*(i:Int):=zc ⟨by omega,by omega⟩
  have hy:y15 E 30 x (some (.int .i64 (4*(i:Int)))) none none=some y:=hy
  have e:=r405 (b.drop (4*i)) (by simp;omega)
  have hi64:(i:Int)<64:=by omega
  have w1':h[hp.length]? = some (.cells ((y8d b i).map dW)):=w1
  have hl64:i+1<=(y8d b i).length:=by rw[z7z];omega
  have hhl:hp.length<h.length:=w1.lt
  have hst:y8d b (i+1)=(y8d b i).set i (y8c (b.drop (4*i)) 4):=rfl
  generalize hbb:b.drop (4*i)=bb at hf e hst
  have hl63:i<64:=by omega
  have hl65:i+1<=64:=by omega
  simp[hi16,hup,hw4,hy,hf,e,hi64,w1',z7z,hl63,hl65]
  refine⟨hlt,?_,w2.trans (y28.set (.inr (aj _)))⟩
  unfold Wds
  rw[hst,iw]
  exact At.self hhl
 have:i=16:=by omega
 subst this
 simp
 refine z1o 48 (fun k env h=>∃(x3 x5 x6 x7 x8 x9 x10 x11 x12 x13 x14 x15 x16 x17 x18 x19 x20 x21:D) ,env=[.loc st 0,x,.loc hp.length 0,x3,dI ((k:Int)+16),x5,x6,x7,x8,x9,x10,x11,x12,x13,x14,x15,x16,x17,x18,x19,x20,x21]/\Wds h hp.length (y3l b k)/\y28 hp.length hp.length hp h) 0 (by omega) ?_ ?_
 ·exact⟨_,_,_,_,_,_,_,_,_,_,_,_,_,_,_,_,_,_,rfl,w1,w2⟩
 clear hi hlt w1 w2 h
 rintro k env h hi ⟨x3,x5,x6,x7,x8,x9,x10,x11,x12,x13,x14,x15,x16,x17,x18,x19,x20,x21,rfl,w1,w2⟩
 have hhl:hp.length<h.length:=w1.lt
 have w1':h[hp.length]? = some (.cells ((y3l b k).map dW)):=w1
 by_cases hlt:k<48
 ·have hk64:(k:Int)+16<64:=by omega
  have i15:aB.wrap ((k:Int)+16 - 15)=(k:Int)+1:=by rw[zc ⟨by omega,by omega⟩];omega
  have i2:aB.wrap ((k:Int)+16 - 2)=(k:Int)+14:=by rw[zc ⟨by omega,by omega⟩];omega
  have i16:aB.wrap ((k:Int)+16 - 16)=(k:Int):=by rw[zc ⟨by omega,by omega⟩];omega
  have i7:aB.wrap ((k:Int)+16 - 7)=(k:Int)+9:=by rw[zc ⟨by omega,by omega⟩];omega
  have i1:aB.wrap ((k:Int)+16+1)=(k:Int)+1+16:=by rw[zc ⟨by omega,by omega⟩];omega
  have hst:y3l b (k+1)=(y3l b k).set (k+16) ((y3l b k).getD k 0+sg0 ((y3l b k).getD (k+1) 0)+(y3l b k).getD (k+9) 0+sg1 ((y3l b k).getD (k+14) 0)):=rfl
  have hgd:∀ j,j<64->(y3l b k)[j]? = some ((y3l b k).getD j 0):=fun j hj=>by rw[ah,ae (by rw[z5u];exact hj)];rfl
  have g0:=hgd k (by omega)
  have g1:=hgd (k+1) (by omega)
  have g9:=hgd (k+9) (by omega)
  have g14:=hgd (k+14) (by omega)
  have hlen:(y3l b k).length=64:=z5u
  clear hgd
  generalize (y3l b k).getD k 0=v0 at g0 hst
  generalize (y3l b k).getD (k+1) 0=v1 at g1 hst
  generalize (y3l b k).getD (k+9) 0=v9 at g9 hst
  generalize (y3l b k).getD (k+14) 0=v14 at g14 hst
  generalize y3l b k=W at g0 g1 g9 g14 hst hlen w1 w1'
  have b1:(0:Int)<=(k:Int)+1:=by omega
  have d1:(k:Int)+1<64:=by omega
  have t1:((k:Int)+1).toNat=k+1:=by omega
  have b14:(0:Int)<=(k:Int)+14:=by omega
  have d14:(k:Int)+14<64:=by omega
  have t14:((k:Int)+14).toNat=k+14:=by omega
  have b9:(0:Int)<=(k:Int)+9:=by omega
  have d9:(k:Int)+9<64:=by omega
  have t9:((k:Int)+9).toNat=k+9:=by omega
  have b16:(0:Int)<=(k:Int)+16:=by omega
  have d16:(k:Int)+16<64:=by omega
  have t16:((k:Int)+16).toNat=k+16:=by omega
  have d0:(k:Int)<64:=by omega
  have n16:k+16<64:=by omega
  have n17:k+16+1<=64:=by omega
  have wA:∀ r:List Obj,(h++r)[hp.length]? = some (.cells (W.map dW)):=fun r=>w1.app (r:=r)
  have r1:=ya0 v1 (-7) ⟨by decide,by decide⟩
  have r2:=ya0 v1 (-18) ⟨by decide,by decide⟩
  have r3:=ya0 v14 (-17) ⟨by decide,by decide⟩
  have r4:=ya0 v14 (-19) ⟨by decide,by decide⟩
  have sh3:∀ x:Wd,(x.toNat:Int).fdiv 8=((x >>> 3).toNat:Nat):=fun x=>zro (a:=x) (n:=3) (by omega)
  have sh10:∀ x:Wd,(x.toNat:Int).fdiv 1024=((x >>> 10).toNat:Nat):=fun x=>zro (a:=x) (n:=10) (by omega)
  have i0:aB.wrap (k:Int)=(k:Int):=zc ⟨by omega,by omega⟩
  simp[hk64,i0,i15,i2,i16,i7,i1,w1',wA,g0,g1,g9,g14,hlen,r1,r2,r3,r4,b1,d1,t1,b14,d14,t14,b9,d9,t9,b16,t16,d0,n16,n17,zcd,sh3,sh10,zrn,zrq,-iu,-gq,-fP]
  refine⟨hlt,?_,w2.trans (y28.app.trans (y28.set (.inr (aj _))))⟩
  unfold Wds
  rw[hst,iw]
  exact At.self (by simp;omega)
 have:k=48:=by omega
 subst this
 have S':Wds h st s:=w2.at (by omega) hid S
 have S2:h[st]? = some (.cells (s.map dW)):=S'
 obtain⟨a0,a1,a2,a3,a4,a5,a6,a7,he⟩:=yb8 hs
 rw[he] at S2
 simp at S2
 simp[S2]
 refine z1o 64 (fun i env h'=>∃(x3 x4 x5 x6 x8 x9 x10 x11 x12 x13 x14 x15 x16 x18 x19 x20 x21:D) ,env=[.loc st 0,x,.loc hp.length 0,x3,x4,x5,x6,.loc h.length 0,x8,x9,x10,x11,x12,x13,x14,x15,x16,dI i,x18,x19,x20,x21]/\Wds h' hp.length (y3l b 48)/\Wds h' h.length (y94 (y3l b 48) s i)/\y28 hp.length hp.length hp h'/\h.length<h'.length) 0 (by omega) ?_ ?_
 ·refine⟨_,_,_,_,_,_,_,_,_,_,_,_,_,_,_,_,_,rfl,w1.app,?_,w2.trans y28.app,by simp⟩
  simp[Wds,At,y94,he]
 rintro i env h' hi ⟨x3,x4,x5,x6,x8,x9,x10,x11,x12,x13,x14,x15,x16,x18,x19,x20,x21,rfl,v1,v2,v3,v4⟩
 by_cases hlt':i<64
 ·have hi64:(i:Int)<64:=by omega
  have hup:=zm hlt' (by omega)
  obtain⟨a,b',c,d,e,f,g,g',hr⟩:=yb8 (zbo (w:=y3l b 48) (v:=s) (i:=i) hs)
  have hst:y94 (y3l b 48) s (i+1)=rnd (y3l b 48) i (y94 (y3l b 48) s i):=rfl
  rw[hr] at v2 hst
  have v1':∀ r:List Obj,(h'++r)[hp.length]? = some (.cells ((y3l b 48).map dW)):=fun r=>v1.app (r:=r)
  have v2':∀ r:List Obj,(h'++r)[h.length]? = some (.cells (([a,b',c,d,e,f,g,g']:List Wd).map dW)):=fun r=>v2.app (r:=r)
  have hw:(y3l b 48)[i]? = some ((y3l b 48).getD i 0):=by rw[ah,ae (by rw[z5u];exact hlt')];rfl
  have k1:=ydx hlt'
  have k2:=fun h:List Obj=>ydw (h:=h) hlt'
  have hlen:(y3l b 48).length=64:=z5u
  generalize hW:(y3l b 48).getD i 0=wi at hw
  generalize hK:ya8.getD i 0=ki at k2
  have q1:=r407 e 6 11 25 (by decide) (by decide) (by decide)
  have q2:=r407 a 2 13 22 (by decide) (by decide) (by decide)
  simp at v2'
  have hcp:=fun r:List Obj=>cp8 (v2' r)
  have hset:∀(r:List Obj) (o:Obj),((h'++r).set h.length o)[h.length]? = some o:=fun r o=>At.self (by simp;omega)
  simp[hi64,hup,v1',v2',hw,q1,q2,zea,k1,k2,z1y,sl_1,sl_7,↓hcp,↓hset,hlen,zrn,zrq,yc2,yc1,-iu,-gq,-kz,-iM]
  refine⟨hlt',v1.app.ne (by omega),?_,v3.trans (y28.app.trans (y28.set (.inr (by omega)))),by omega⟩
  unfold Wds
  rw[hst]
  simp only[rnd,hK,hW]
  exact At.self (by simp;omega)
 have:i=64:=by omega
 subst this
 simp
 have hvl:(y94 (y3l b 48) s 64).length=8:=zbo hs
 unfold y3h at *
 generalize y94 (y3l b 48) s 64=V at v2 hvl ⊢
 have v5:Wds h' st s:=v3.at (by omega) hid S
 refine z1o 8 (fun i env h2=>∃(x1 x2 x3 x4 x5 x6 x8 x9 x10 x11 x12 x13 x14 x15 x16 x17 x18 x19 x21:D) ,env=[.loc st 0,x1,x2,x3,x4,x5,x6,.loc h.length 0,x8,x9,x10,x11,x12,x13,x14,x15,x16,x17,x18,x19,dI i,x21]/\Wds h2 h.length V/\Wds h2 st (y76 s V i)/\y28 st hp.length hp h2/\hp.length<=h2.length) 0 (by omega) ?_ ?_
 ·exact⟨_,_,_,_,_,_,_,_,_,_,_,_,_,_,_,_,_,_,_,rfl,v2,v5,v3.wk,by omega⟩
 clear hi hlt' v1 v2 v3 v5
 rintro i env h2 hi ⟨x1,x2,x3,x4,x5,x6,x8,x9,x10,x11,x12,x13,x14,x15,x16,x17,x18,x19,x21,rfl,v2,v5,v3,v6⟩
 by_cases hlt':i<8
 ·have hi8:(i:Int)<8:=by omega
  have hup:=zm hlt' (by omega)
  have g1:(y76 s V i)[i]? = some ((y76 s V i).getD i 0):=by rw[ah,ae (by rw[z8b];omega)];rfl
  have g2:V[i]? = some (V.getD i 0):=by rw[ah,ae (by omega)];rfl
  have hst:y76 s V (i+1)=(y76 s V i).set i ((y76 s V i).getD i 0+V.getD i 0):=rfl
  have v2':∀ r:List Obj,(h2++r)[h.length]? = some (.cells (V.map dW)):=fun r=>v2.app (r:=r)
  have v5':∀ r:List Obj,(h2++r)[st]? = some (.cells ((y76 s V i).map dW)):=fun r=>v5.app (r:=r)
  have hal:(y76 s V i).length=8:=by rw[z8b];exact hs
  have hi9:i+1<=8:=by omega
  have hi88:i<8:=hlt'
  have e1:(y76 s V i).getD i 0=(y76 s V i)[i]'(by omega):=by rw[ah,ae (by omega)];rfl
  have e2:V.getD i 0=V[i]'(by omega):=by rw[ah,ae (by omega)];rfl
  rw[e1,e2] at hst
  have v2l:=v2.lt
  have v5l:=v5.lt
  simp[hi8,hup,g1,g2,v2',v5',hal,hvl,hi9,hi88,zrq,-gq]
  refine⟨v2.app.ne (by omega),?_,(v3.trans y28.app).trans (y28.set (.inl rfl)),by omega⟩
  unfold Wds
  rw[hst,iw]
  exact At.self (by simp;omega)
 ·have:i=8:=by omega
  subst this
  simp
  exact⟨v5,v3,v6⟩

theorem zqt{b:List UInt8}{i:Nat}(h:i<=b.length):y15 E 30 (.imm .none (b.map yc)) (some (dI i)) none none=some (.imm .none ((b.drop i).map yc)):=by
 unfold y15
 simp[bnd]
 exact⟨⟨h,zgm⟩,by unfold y2d;simp,bE (by simp)⟩
theorem ztq{st:Nat}{hp:List Obj}{b:List UInt8}(h:64<=b.length):Blk st hp (.imm .none (b.map yc)) b:=fun i hi=>⟨.imm .none ((b.drop (4*i)).map yc),by
 have:=zqt (b:=b) (i:=4*i) (by omega)
 exact this,fun h _=>zt7⟩
theorem z5q:∀(n:Nat) (l:List UInt8),n<=l.length->y2l 1 false n (l.map yc)=some ((l.take n).map yc)
 | 0,l,_=>by simp[y2l]
 |n+1,[],h=>by simp at h
 |n+1,c::l,h=>by
  have e:=z5q n l (by simp at h;omega)
  simp[y2l,y1x,yj,e]
theorem zr9{st id off n:Nat}{gr:Bool}{hp:List Obj}{m:List UInt8}(B:Bys hp id m)(hid:id ≠ st)(hn:64<=n)(ho:off+n<=m.length):Blk st hp (.sl id off n 1 false gr) ((m.drop off).take n):=fun i hi=>⟨.sl id (off+4*i) (n - 4*i) 1 false false,by
  unfold y15
  have h0:(0:Int)<=4*(i:Int):=by omega
  have h1:(4*(i:Int)).toNat=4*i:=by omega
  simp[bnd,h0,h1]
  omega,fun h k=>by
  have B':Bys h id m:=k.at hid B.lt B
  have B2:h[id]? = some (.cells (m.map yc)):=B'
  rw[zr1]
  simp only[B2,y8g]
  rw[z7,<- lS,z5q _ _ (by simp;omega),z7,ze,ao,List.drop_take,cb]⟩

def y7r:List Wd:=[1779033703,3144134277,1013904242,2773480762,1359893119,2600822924,528734635,1541459225]
def y4i(b:List UInt8):Nat->List Wd->List Wd
 | 0,s=>s
 |k+1,s=>y3h (y4i b k s) ((b.drop (64*k)).take 64)
theorem zfx{s:List Wd}{b:List UInt8}(h:s.length=8):(y3h s b).length=8:=by unfold y3h;rw[z8b];exact h
theorem z4b{b:List UInt8}{s:List Wd}(h:s.length=8):∀{k:Nat},(y4i b k s).length=8
 | 0=>h
 |k+1=>zfx (z4b h)

theorem zjx{E:Env}{cP:Nat->List D->Option D}{env:List D}{hp:List Obj}{t:Nat}{d:D}:xv E cP env hp (.n (.load t (.c d)) .nil)=yv E hp t d:=by
 simp only[xv,xvs]
 simp only[ya,gOf]
 exact zw
theorem zst{hp:List Obj}:yv E hp 76 (.iptr [.int .u32 1779033703,.int .u32 3144134277,.int .u32 1013904242,.int .u32 2773480762,.int .u32 1359893119,.int .u32 2600822924,.int .u32 528734635,.int .u32 1541459225])=some (.agg (y7r.map dW)):=rfl
theorem zse{b:List UInt8}(h:64<=b.length):y15 E 30 (.imm .none (b.map yc)) (some (.int .i64 64)) none none=some (.imm .none ((b.drop 64).map yc)):=zqt (i:=64) h
theorem zsf{b:List UInt8}(h:64<=b.length):y15 E 30 (.imm .none (b.map yc)) none (some (.int .i64 64)) none=some (.imm .none ((b.take 64).map yc)):=zg4 (i:=64) h
def z32:List UInt8:=af 32 0
def y7n:List UInt8:=af 128 0
def tl0(r:List UInt8):List UInt8:=r++af (128 - r.length) 0
theorem zk8{r:List UInt8}(h:r.length<=128):(tl0 r).length=128:=by unfold tl0;rw[aw,ek];omega
theorem zc5:∀(l:List UInt8),yo (l.map yc)=l.map yc
 |[]=>rfl
 |c::l=>by
  have:=zc5 l
  simp only[av,yo,bS] at this ⊢
  rw[this];rfl
theorem yds{h:List Obj}:y4y E h 30 (.int .i64 64) (.int .i64 128)=some (.sl h.length 0 64 1 false true,h++[.cells (y7n.map yc)]):=by
 have e:=zc5 y7n
 have e2:y7n.map yc=af 128 (D.int .u8 0):=by unfold y7n;rw[eh];rfl
 rw[e2] at e ⊢
 unfold y4y
 simp only[show(E.ty 30).k=.slice 13 from rfl,show y1u E 13=some (D.int .u8 0) from rfl,show(E.ty 13).size=1 from rfl,show(E.ty 13).ag=false from rfl]
 rw[if_pos (by refine⟨by decide,by decide,by decide⟩)]
 rw[show((128:Int)).toNat=128 from rfl,e]
 rfl
theorem zqj{l:List UInt8}:(l.map yc).all (fun d=>d.storable && d.cellsL.length == 1)=true:=z78
theorem ye3{H:List Obj}{id:Nat}{r:List UInt8}(B:Bys H id y7n)(h:r.length<64):y5u E H 30 30 (.sl id 0 64 1 false true) (.imm .none (r.map yc))=some (.int .i64 r.length,H.set id (.cells ((tl0 r).map yc))):=by
 have B2:H[id]? = some (.cells (y7n.map yc)):=B
 have hl:(y7n.map yc).length=128:=rfl
 have hm:Nat.min r.length 64=r.length:=ce (by omega)
 have hs:setCells (y7n.map yc) 0 (yo (r.map yc))=(tl0 r).map yc:=by
  rw[zc5]
  have e:y7n.map yc=(af r.length (0:UInt8)).map yc++(af (128 - r.length) (0:UInt8)).map yc:=by
   rw[<- bN,List.replicate_append_replicate]
   unfold y7n
   congr 2;omega
  rw[e,z1p (by simp),zf (by simp)]
  unfold tl0
  rw[bN]
 have hL:y13 H 1 false (.imm .none (r.map yc))=some (r.map yc):=by
  unfold y13
  simp only[zqj,if_true]
 unfold y5u
 simp only[show(E.ty 30).k=.slice 13 from rfl,B2,show(E.ty 13).size=1 from rfl,show(E.ty 13).ag=false from rfl,hL,aA,hm]
 rw[if_pos ⟨trivial,by simp[y7n]⟩,bE (by simp),hs]

def tl1(r:List UInt8):List UInt8:=(tl0 r).set r.length 128
theorem zee{r:List UInt8}(h:r.length<=128):(tl1 r).length=128:=by unfold tl1;rw[bq,zk8 h]
theorem rsl{h:List Obj}{r:List UInt8}(hr:r.length<=128):y2j E (h++[.cells ((tl1 r).map yc)]) 30 (.sl h.length 0 64 1 false true) (.int .i64 128)=some (.sl h.length 0 128 1 false true,h++[.cells ((tl1 r).map yc)]):=by
 have e:(h++[Obj.cells ((tl1 r).map yc)])[h.length]? = some (.cells ((tl1 r).map yc)):=by simp
 unfold y2j
 simp only[show(E.ty 30).k=.slice 13 from rfl,e,show(E.ty 13).size=1 from rfl,aA,zee hr]
 rfl
theorem ydc{q:Nat}:y15 E 30 (.sl q 0 64 1 false true) (some (.int .i64 56)) none none=some (.sl q 56 8 1 false false):=rfl
theorem zuu{q:Nat}:y15 E 30 (.sl q 0 128 1 false true) (some (.int .i64 120)) none none=some (.sl q 120 8 1 false false):=rfl
theorem zqu{q o l:Nat}{gr:Bool}(h:64<=l):y15 E 30 (.sl q o l 1 false gr) none (some (.int .i64 64)) none=some (.sl q o 64 1 false false):=by
 unfold y15
 simp[bnd]
 omega
theorem zqs{q o l:Nat}{gr:Bool}(h:64<=l):y15 E 30 (.sl q o l 1 false gr) (some (.int .i64 64)) none none=some (.sl q (o+64) (l - 64) 1 false false):=by
 unfold y15
 simp[bnd]
 omega
def rst(b:List UInt8)(k:Nat):List UInt8:=b.drop (64*k)
theorem ydh{b:List UInt8}{k:Nat}:rst b (k+1)=(rst b k).drop 64:=by unfold rst;rw[cb];rfl
theorem zeo{b:List UInt8}{k:Nat}:(rst b k).length=b.length - 64*k:=by unfold rst;rw[dR]

theorem z8c{E:Env}{cP:Nat->List D->Option D}{env:List D}{hp:List Obj}{t a b c:Nat}{x y z:Xp}(h1:b ≠ a)(h2:c ≠ a)(h3:c ≠ b):xv E cP env hp (.n (.slice t (.t a) (some (.t b)) (some (.t c)) none) (.cons a x (.cons b y (.cons c z .nil))))=ob (xv E cP env hp x) fun u=>ob (xv E cP env hp y) fun v=>ob (xv E cP env hp z) fun w=>y15 E t u (some v) (some w) none:=by
 simp only[xv,xvs]
 cases xv E cP env hp x <;> try rfl
 cases xv E cP env hp y <;> try rfl
 cases xv E cP env hp z <;> try rfl
 simp only[ya,ao,Option.map_none,gOf,kv,z7,if_true,if_neg h1,if_neg h2,if_neg h3]
 exact zw
def y4m(v:List Wd):Nat->List UInt8
 | 0=>z32
 |i+1=>y60 (y4m v i) (4*i) 4 (v.getD i 0).toNat 4
theorem z3f{v:List Wd}:∀{i:Nat},(y4m v i).length=32
 | 0=>rfl
 |i+1=>by rw[y4m,z4v,z3f]
def y72(b:List UInt8):List UInt8:=
 if 55<(rst b (b.length / 64)).length then y4m (y4i (y60 (tl1 (rst b (b.length / 64))) 120 8 (b.length*8) 8) 2 (y4i b (b.length / 64) y7r)) 8
 else y4m (y4i (y60 (tl1 (rst b (b.length / 64))) 56 8 (b.length*8) 8) 1 (y4i b (b.length / 64) y7r)) 8
theorem z5c{H:List Obj}{m:List UInt8}(B:Bys H 0 m)(h:m.length=32):yv E H 73 (.loc 0 0)=some (.agg (m.map yc)):=by
 have B2:H[0]? = some (.cells (m.map yc)):=B
 have e:=z1u 32 0 (m.map yc) (by simp[h])
 unfold yv
 simp only[yx,B2,show(E.ty 73).size=32 from rfl,e]
 rfl
theorem zqr{i:Nat}(h:i<8):y15 E 73 (.loc 0 0) (some (.int .i64 (4*(i:Int)))) (some (.int .i64 (4*(i:Int)+4))) none=some (.sl 0 (4*i) 4 1 false false):=by
 have h0:(0:Int)<=4*(i:Int):=by omega
 have h1:(4*(i:Int)).toNat=4*i:=by omega
 have h2:(0:Int)<=4*(i:Int)+4:=by omega
 have h3:(4*(i:Int)+4).toNat=4*i+4:=by omega
 unfold y15
 simp only[show(E.ty 73).k=.arr 32 13 from rfl,bnd,if_pos h0,if_pos h2,h1,h3,show(E.ty 13).size=1 from rfl]
 rw[if_pos ⟨by omega,by omega⟩]
 simp

theorem r364(b:List UInt8)(hb:b.length<=1000000000):y1l E (dL E) 364 [dBy b]=some (y7g (y72 b)):=by
 refine zu c364 (by simp) ?_
 conv in t364=>reduce;dsimp[aD]
 have hz:∀ x:List D,(D.agg (y7r.map dW)).cellsL=y7r.map dW:=fun _=>rfl
 simp[t364,n364,zjx,zst]
 refine z1o (b.length / 64) (fun k env h=>∃(x5 x6 x7 x8 x9 x10 x11 x12 x13 x14 x15 x16 x17 x18 x19 x20 x21:D) ,env=[dBy b,.loc 0 0,.loc 1 0,.bfn 404 (.loc 1 0),.imm .none ((rst b k).map yc),x5,x6,x7,x8,x9,x10,x11,x12,x13,x14,x15,x16,x17,x18,x19,x20,x21]/\Bys h 0 z32/\Wds h 1 (y4i b k y7r)/\2<=h.length) 0 (by omega) ?_ ?_
 ·refine⟨_,_,_,_,_,_,_,_,_,_,_,_,_,_,_,_,_,rfl,?_,?_,by simp⟩
  ·rfl
  ·rfl
 rintro k env h hi ⟨x5,x6,x7,x8,x9,x10,x11,x12,x13,x14,x15,x16,x17,x18,x19,x20,x21,rfl,B,W,hl⟩
 by_cases hlt:k<b.length / 64
 ·have hrl:64<=(rst b k).length:=by rw[zeo];omega
  have h64:(64:Int)<=(rst b k).length:=by omega
  have e1:=zse hrl
  have e2:=zsf hrl
  obtain⟨d,h2,e,rfl,w1,k1,l1⟩:=yde (st:=1) (hp:=h) (x:=.imm .none (((rst b k).take 64).map yc)) (b:=(rst b k).take 64) (s:=y4i b k y7r) (z4b rfl) (by rw[aW];omega) W (ztq (by rw[aW];omega))
  have hs:rst b (k+1)=(rst b k).drop 64:=ydh
  have hst:y4i b (k+1) y7r=y3h (y4i b k y7r) ((rst b k).take 64):=rfl
  have B2:Bys h2 0 _:=k1.at (by omega) (by omega) B
  rw[<- hst] at w1
  generalize hT:(rst b k).take 64=T at e2 e hst
  generalize hD:(rst b k).drop 64=Dr at e1 hs
  simp[h64,e1,e2,e,z1y,hs]
  exact⟨hlt,B2,w1,by omega⟩
 ·have:k=b.length / 64:=by omega
  subst this
  have h64 : ¬ (64:Int)<=(rst b (b.length / 64)).length:=by rw[zeo];omega
  have hr:(rst b (b.length / 64)).length<64:=by rw[zeo];omega
  have hs1:55<(rst b (b.length / 64)).length->y72 b=y4m (y4i (y60 (tl1 (rst b (b.length / 64))) 120 8 (b.length*8) 8) 2 (y4i b (b.length / 64) y7r)) 8:=fun h=>by unfold y72;rw[if_pos h]
  have hs2 : ¬ 55<(rst b (b.length / 64)).length->y72 b=y4m (y4i (y60 (tl1 (rst b (b.length / 64))) 56 8 (b.length*8) 8) 1 (y4i b (b.length / 64) y7r)) 8:=fun h=>by unfold y72;rw[if_neg h]
  generalize hR:rst b (b.length / 64)=r at hr h64 hs1 hs2
  have hS:(y4i b (b.length / 64) y7r).length=8:=z4b rfl
  generalize y4i b (b.length / 64) y7r=S at W hS hs1 hs2
  have c1:=ye3 (H:=h++[Obj.cells (y7n.map yc)]) (id:=h.length) (r:=r) (by simp[Bys,At]) hr
  have c2:∀ o:Obj,(h++[Obj.cells (y7n.map yc)]).set h.length o=h++[o]:=fun o=>by simp
  rw[c2] at c1
  have c3:∀ o:Obj,(h++[o])[h.length]? = some o:=fun o=>by simp
  have c4:∀ o o':Obj,(h++[o]).set h.length o'=h++[o']:=fun o o'=>by simp
  have hr':(r.length:Int)<64:=by omega
  have htl:=zk8 (r:=r) (by omega)
  have hr1:r.length+1<=128:=by omega
  have c5:(((tl0 r).map yc).set r.length (D.int .u8 128))=(tl1 r).map yc:=by unfold tl1;rw[iw];rfl
  have c6:=fun(h:List Obj)=>rsl (h:=h) (r:=r) (by omega)
  have hL:bz.wrap (b.length:Int)=b.length:=by rw[z27];omega
  have hL8:bz.wrap ((b.length:Int)*8)=((b.length*8:Nat):Int):=by rw[z27];omega
  have hL9:bz.wrap ((b.length:Int)*8)=(b.length:Int)*8:=by rw[z27];omega
  have w56:aB.wrap 56=56:=by decide
  have w120:aB.wrap 120=120:=by decide
  simp[h64,yds,c1,↓c3,↓c4,hr',htl,hr1,c5]
  have key:∀ n:Nat,n=64\/n=128->True:=fun _ _=>trivial
  split
  ·rename_i h55
   obtain⟨d,h3,e3,rfl,rfl⟩:=ybo (hp:=h++[Obj.cells ((tl1 r).map yc)]) (id:=h.length) (off:=120) (n:=8) (gr:=false) (m:=tl1 r) (b.length*8) (by omega) (by omega) (by unfold tl1;rw[bq,htl];omega) (by simp[Bys,At])
   rw[c4] at e3
   simp at e3
   simp[c6,zuu,hL,hL8,y3d,e3,z3j,w120]
   have hM:(y60 (tl1 r) 120 8 (b.length*8) 8).length=128:=by rw[z4v,zee (by omega)]
   generalize y60 (tl1 r) 120 8 (b.length*8) 8=M at *
   refine z1o 2 (fun j env h'=>∃(x4 x6 x7 x8 x9 x10 x11 x12 x13 x14 x15 x16 x17 x18 x19 x20 x21:D) (gr:Bool),env=[dBy b,.loc 0 0,.loc 1 0,.bfn 404 (.loc 1 0),x4,.sl h.length (64*j) (128 - 64*j) 1 false gr,x6,x7,x8,x9,x10,x11,x12,x13,x14,x15,x16,x17,x18,x19,x20,x21]/\Bys h' 0 z32/\Wds h' 1 (y4i M j S)/\Bys h' h.length M/\h.length<h'.length) 0 (by omega) ?_ ?_
   ·exact⟨_,_,_,_,_,_,_,_,_,_,_,_,_,_,_,_,_,true,rfl,B.app,W.app,by simp[Bys,At],by simp⟩
   rintro j env h' hj ⟨x4,x6,x7,x8,x9,x10,x11,x12,x13,x14,x15,x16,x17,x18,x19,x20,x21,gr,rfl,B1,W1,B2,hl1⟩
   by_cases hlt:j<2
   ·obtain⟨o,ho⟩:∃ o,o=64*j:=⟨_,rfl⟩
    obtain⟨l,hl⟩:∃ l,l=128 - o:=⟨_,rfl⟩
    have hb:y4i M (j+1) S=y3h (y4i M j S) ((M.drop o).take 64):=by rw[ho];rfl
    obtain⟨d,h2,e,rfl,w1,k1,l1⟩:=yde (st:=1) (hp:=h') (x:=.sl h.length o 64 1 false false) (b:=(M.drop o).take 64) (s:=y4i M j S) (z4b hS) (by simp;omega) W1 (zr9 B2 (by omega) (by omega) (by omega))
    rw[<- hb] at w1
    have B1':Bys h2 0 z32:=k1.at (by omega) (by omega) B1
    have B2':Bys h2 h.length M:=k1.at (by omega) hl1 B2
    rw[<- ho,<- hl]
    have e1:=zqu (q:=h.length) (o:=o) (l:=l) (gr:=gr) (by omega)
    have e2:=zqs (q:=h.length) (o:=o) (l:=l) (gr:=gr) (by omega)
    have hpos:(0:Int)<l:=by omega
    have o1:64*(j+1)=o+64:=by omega
    have hpos':0<l:=by omega
    simp[hpos,hpos',e1,e2,e,z1y]
    exact⟨by omega,⟨by omega,by omega⟩,B1',w1,B2',by omega⟩
   ·have:j=2:=by omega
    subst this
    have hSl:(y4i M 2 S).length=8:=z4b hS
    have hsh:=hs1 (by omega)
    generalize y4i M 2 S=V at W1 hSl hsh
    obtain⟨a0,a1,a2,a3,a4,a5,a6,a7,hV⟩:=yb8 hSl
    have W2:h'[1]? = some (.cells (V.map dW)):=W1
    rw[hV] at W2
    simp at W2
    simp[W2]
    rw[hsh]
    refine z1o 8 (fun i env h3=>∃(x0 x2 x3 x4 x5 x6 x7 x8 x9 x10 x11 x12 x13 x14 x15 x16 x17 x20 x21:D) ,env=[x0,.loc 0 0,x2,x3,x4,x5,x6,x7,x8,x9,x10,x11,x12,x13,x14,x15,x16,x17,.agg [dW a0,dW a1,dW a2,dW a3,dW a4,dW a5,dW a6,dW a7],dI i,x20,x21]/\Bys h3 0 (y4m V i)) 0 (by omega) ?_ ?_
    ·exact⟨_,_,_,_,_,_,_,_,_,_,_,_,_,_,_,_,_,_,_,rfl,B1⟩
    rintro i env h3 hi ⟨x0,x2,x3,x4,x5,x6,x7,x8,x9,x10,x11,x12,x13,x14,x15,x16,x17,x20,x21,rfl,C⟩
    have hidx:∀ i,i<8->([dW a0,dW a1,dW a2,dW a3,dW a4,dW a5,dW a6,dW a7]:List D)[i]? = some (dW (V.getD i 0)):=fun i hi=>by
     have e:([dW a0,dW a1,dW a2,dW a3,dW a4,dW a5,dW a6,dW a7]:List D)=V.map dW:=by rw[hV];rfl
     rw[e,bR,ah,ae (by omega)];rfl
    by_cases hlt:i<8
    ·have hi8:(i:Int)<8:=by omega
     have hup:=zm hlt (by omega)
     have q1:aB.wrap (4*(i:Int))=4*(i:Int):=zc ⟨by omega,by omega⟩
     have q2:aB.wrap (4*(i:Int)+4)=4*(i:Int)+4:=zc ⟨by omega,by omega⟩
     have q3:=zqr hlt
     have q4:bz.wrap ((V.getD i 0).toNat:Int)=(V.getD i 0).toNat:=by have:=yax (w:=V.getD i 0);rw[z27];omega
     obtain⟨d,h4,e4,rfl,rfl⟩:=ybo (hp:=h3) (id:=0) (off:=4*i) (n:=4) (gr:=false) (m:=y4m V i) (V.getD i 0).toNat (by have:=yax (w:=V.getD i 0);omega) (by omega) (by rw[z3f];omega) C
     have hid:=hidx i hlt
     have hst:y4m V (i+1)=y60 (y4m V i) (4*i) 4 (V.getD i 0).toNat 4:=rfl
     have hc0:0<h3.length:=At.lt C
     generalize V.getD i 0=w at hid q4 e4 hst
     simp[hi8,hup,hid,q1,q2,q3,q4,e4,y3d,z3j,z8c]
     refine⟨hlt,?_⟩
     rw[hst]
     exact At.self hc0
    ·have:i=8:=by omega
     subst this
     have l1:=z5c C z3f
     have hsc:setCells ((y4m V 8).map yc) 0 ((y4m V 8).map yc)=(y4m V 8).map yc:=zf rfl
     have hss:h3.set 0 (.cells ((y4m V 8).map yc))=h3:=z5z C
     have C2:h3[0]? = some (.cells ((y4m V 8).map yc)):=C
     have hol:(y4m V 8).length=32:=z3f
     simp[l1,ze,C2,hsc,hss,hol]
     try trace_state
  ·rename_i h55
   obtain⟨d,h3,e3,rfl,rfl⟩:=ybo (hp:=h++[Obj.cells ((tl1 r).map yc)]) (id:=h.length) (off:=56) (n:=8) (gr:=false) (m:=tl1 r) (b.length*8) (by omega) (by omega) (by unfold tl1;rw[bq,htl];omega) (by simp[Bys,At])
   rw[c4] at e3
   simp at e3
   simp[ydc,hL,hL8,y3d,e3,z3j,w56]
   have hM:(y60 (tl1 r) 56 8 (b.length*8) 8).length=128:=by rw[z4v,zee (by omega)]
   generalize y60 (tl1 r) 56 8 (b.length*8) 8=M at *
   refine z1o 1 (fun j env h'=>∃(x4 x6 x7 x8 x9 x10 x11 x12 x13 x14 x15 x16 x17 x18 x19 x20 x21:D) (gr:Bool),env=[dBy b,.loc 0 0,.loc 1 0,.bfn 404 (.loc 1 0),x4,.sl h.length (64*j) (64 - 64*j) 1 false gr,x6,x7,x8,x9,x10,x11,x12,x13,x14,x15,x16,x17,x18,x19,x20,x21]/\Bys h' 0 z32/\Wds h' 1 (y4i M j S)/\Bys h' h.length M/\h.length<h'.length) 0 (by omega) ?_ ?_
   ·exact⟨_,_,_,_,_,_,_,_,_,_,_,_,_,_,_,_,_,true,rfl,B.app,W.app,by simp[Bys,At],by simp⟩
   rintro j env h' hj ⟨x4,x6,x7,x8,x9,x10,x11,x12,x13,x14,x15,x16,x17,x18,x19,x20,x21,gr,rfl,B1,W1,B2,hl1⟩
   by_cases hlt:j<1
   ·obtain⟨o,ho⟩:∃ o,o=64*j:=⟨_,rfl⟩
    obtain⟨l,hl⟩:∃ l,l=64 - o:=⟨_,rfl⟩
    have hb:y4i M (j+1) S=y3h (y4i M j S) ((M.drop o).take 64):=by rw[ho];rfl
    obtain⟨d,h2,e,rfl,w1,k1,l1⟩:=yde (st:=1) (hp:=h') (x:=.sl h.length o 64 1 false false) (b:=(M.drop o).take 64) (s:=y4i M j S) (z4b hS) (by simp;omega) W1 (zr9 B2 (by omega) (by omega) (by omega))
    rw[<- hb] at w1
    have B1':Bys h2 0 z32:=k1.at (by omega) (by omega) B1
    have B2':Bys h2 h.length M:=k1.at (by omega) hl1 B2
    rw[<- ho,<- hl]
    have e1:=zqu (q:=h.length) (o:=o) (l:=l) (gr:=gr) (by omega)
    have e2:=zqs (q:=h.length) (o:=o) (l:=l) (gr:=gr) (by omega)
    have hpos:(0:Int)<l:=by omega
    have o1:64*(j+1)=o+64:=by omega
    have hpos':0<l:=by omega
    simp[hpos,hpos',e1,e2,e,z1y]
    exact⟨by omega,⟨by omega,by omega⟩,B1',w1,B2',by omega⟩
   ·have:j=1:=by omega
    subst this
    have hSl:(y4i M 1 S).length=8:=z4b hS
    have hsh:=hs2 (by omega)
    generalize y4i M 1 S=V at W1 hSl hsh
    obtain⟨a0,a1,a2,a3,a4,a5,a6,a7,hV⟩:=yb8 hSl
    have W2:h'[1]? = some (.cells (V.map dW)):=W1
    rw[hV] at W2
    simp at W2
    simp[W2]
    rw[hsh]
    refine z1o 8 (fun i env h3=>∃(x0 x2 x3 x4 x5 x6 x7 x8 x9 x10 x11 x12 x13 x14 x15 x16 x17 x20 x21:D) ,env=[x0,.loc 0 0,x2,x3,x4,x5,x6,x7,x8,x9,x10,x11,x12,x13,x14,x15,x16,x17,.agg [dW a0,dW a1,dW a2,dW a3,dW a4,dW a5,dW a6,dW a7],dI i,x20,x21]/\Bys h3 0 (y4m V i)) 0 (by omega) ?_ ?_
    ·exact⟨_,_,_,_,_,_,_,_,_,_,_,_,_,_,_,_,_,_,_,rfl,B1⟩
    rintro i env h3 hi ⟨x0,x2,x3,x4,x5,x6,x7,x8,x9,x10,x11,x12,x13,x14,x15,x16,x17,x20,x21,rfl,C⟩
    have hidx:∀ i,i<8->([dW a0,dW a1,dW a2,dW a3,dW a4,dW a5,dW a6,dW a7]:List D)[i]? = some (dW (V.getD i 0)):=fun i hi=>by
     have e:([dW a0,dW a1,dW a2,dW a3,dW a4,dW a5,dW a6,dW a7]:List D)=V.map dW:=by rw[hV];rfl
     rw[e,bR,ah,ae (by omega)];rfl
    by_cases hlt:i<8
    ·have hi8:(i:Int)<8:=by omega
     have hup:=zm hlt (by omega)
     have q1:aB.wrap (4*(i:Int))=4*(i:Int):=zc ⟨by omega,by omega⟩
     have q2:aB.wrap (4*(i:Int)+4)=4*(i:Int)+4:=zc ⟨by omega,by omega⟩
     have q3:=zqr hlt
     have q4:bz.wrap ((V.getD i 0).toNat:Int)=(V.getD i 0).toNat:=by have:=yax (w:=V.getD i 0);rw[z27];omega
     obtain⟨d,h4,e4,rfl,rfl⟩:=ybo (hp:=h3) (id:=0) (off:=4*i) (n:=4) (gr:=false) (m:=y4m V i) (V.getD i 0).toNat (by have:=yax (w:=V.getD i 0);omega) (by omega) (by rw[z3f];omega) C
     have hid:=hidx i hlt
     have hst:y4m V (i+1)=y60 (y4m V i) (4*i) 4 (V.getD i 0).toNat 4:=rfl
     have hc0:0<h3.length:=At.lt C
     generalize V.getD i 0=w at hid q4 e4 hst
     simp[hi8,hup,hid,q1,q2,q3,q4,e4,y3d,z3j,z8c]
     refine⟨hlt,?_⟩
     rw[hst]
     exact At.self hc0
    ·have:i=8:=by omega
     subst this
     have l1:=z5c C z3f
     have hsc:setCells ((y4m V 8).map yc) 0 ((y4m V 8).map yc)=(y4m V 8).map yc:=zf rfl
     have hss:h3.set 0 (.cells ((y4m V 8).map yc))=h3:=z5z C
     have C2:h3[0]? = some (.cells ((y4m V 8).map yc)):=C
     have hol:(y4m V 8).length=32:=z3f
     simp[l1,ze,C2,hsc,hss,hol]
     try trace_state

theorem s384(n:Int)(h:0<=n)(h':n<=1000000000)(hp:List Obj):y1h E (dL E) (384) [.imm .exact [],dI n] hp=some (.imm (.tok hp.length) [],hp++[.tok 0 1]):=by
 have e:E.fn (384)=some f384:=rfl
 have e2:E.mp 384=false:=rfl
 have e3 : ¬ n<0:=by omega
 have e4:n*2<=yi:=by unfold yi;omega
 have e5:y2p 1 []=true:=rfl
 unfold y1h
 simp only[e,e2,f384,yk,z9q,z6o,zh3,z5o,z7u,y27]
 simp[ye,yd,yh,y1y,DOp.fin,yl,ya,ym,gOf,z7u,y1j,y43,y2i,y1r,y2h,y2c,y62,y2m,y13,yg,y23,z5o,z9p,yw,e3,e4,e5,h,y2g]

def y70(ls:List (List UInt8))(i:Nat):List UInt8:=(ls.take i).flatten
theorem zr8{ls:List (List UInt8)}{i:Nat}(h:i<ls.length):y70 ls (i+1)=y70 ls i++ls[i]:=by
 unfold y70
 rw[aU h,jG];simp
theorem zmy{ls:List (List UInt8)}{i:Nat}:(y70 ls i).length<=(y70 ls ls.length).length:=by
 have h:ls.flatten=(ls.take i).flatten++(ls.drop i).flatten:=by rw[<- jG,bA]
 unfold y70
 rw[be,h,aw];omega

theorem r365(ls:List (List UInt8))(h1:(y70 ls ls.length).length<=1000000000)(h2:ls.length<=1000000000):y1l E (dL E) 365 [.imm .none (ls.map fun l=>.imm .none (l.map yc))]=some (.imm .none ((y70 ls ls.length).map yc)):=by
 refine zu c365 (by simp) ?_
 conv in t365=>reduce;dsimp[aD]
 simp[t365,n365]
 refine z1o ls.length (fun i env h=>∃(x1 x3 x4 x5 x9 x10 x11 x12 x13 x14 x15 x16:D) (m:Nat),env=[.imm .none (ls.map fun l=>.imm .none (l.map yc)),x1,dI m,x3,x4,x5,.imm .none (ls.map fun l=>.imm .none (l.map yc)),dI ls.length,dI i,x9,x10,x11,x12,x13,x14,x15,x16]/\h=[]/\m=(y70 ls i).length) 0 (by omega) ⟨_,_,_,_,_,_,_,_,_,_,_,_,0,rfl,rfl,rfl⟩ ?_
 rintro i env h hi ⟨x1,x3,x4,x5,x9,x10,x11,x12,x13,x14,x15,x16,m,rfl,rfl,hm⟩
 by_cases hlt:i<ls.length
 ·have hs:=zr8 hlt
  have hb:=zmy (ls:=ls) (i:=i+1)
  obtain⟨W,hW⟩:∃ W,ls[i]=W:=⟨_,rfl⟩
  rw[hW] at hs
  rw[hs,aw] at hb
  have w:=zc (n:=(m:Int)+W.length) ⟨by omega,by omega⟩
  have hn : ¬ (m:Int)+W.length<0:=by omega
  rw[hm] at w hn
  simp[hlt,hW,w,hn,zm hlt (by omega),hs,hm]
 ·have:i=ls.length:=by omega
  subst this
  have e:=s384 (m:Int) (by omega) (by omega) []
  have fb:∀ l:List UInt8,((l.map yc).all fun d=>d.storable && d.cellsL.length == 1)=true:=fun l=>z78
  simp[e]
  refine z1o ls.length (fun i env h=>∃(x1 x2 x3 x5 x6 x7 x8 x9 x10 x11 x15 x16:D) (k:Nat),env=[.imm .none (ls.map fun l=>.imm .none (l.map yc)),x1,x2,x3,.imm (.tok k) ((y70 ls i).map yc),x5,x6,x7,x8,x9,x10,x11,.imm .none (ls.map fun l=>.imm .none (l.map yc)),dI ls.length,dI i,x15,x16]/\At h k (.tok ((y70 ls i).length*1) 1)) 0 (by omega) ⟨_,_,_,_,_,_,_,_,_,_,_,_,0,rfl,rfl⟩ ?_
  clear hi hm e
  rintro i env h hi ⟨x1,x2,x3,x5,x6,x7,x8,x9,x10,x11,x15,x16,k,rfl,a1⟩
  by_cases hlt:i<ls.length
  ·have hs:=zr8 hlt
   have hb:=zmy (ls:=ls) (i:=i+1)
   obtain⟨W,hW⟩:∃ W,ls[i]=W:=⟨_,rfl⟩
   obtain⟨C,hC⟩:∃ C,y70 ls i=C:=⟨_,rfl⟩
   obtain⟨C',hC'⟩:∃ C,y70 ls (i+1)=C:=⟨_,rfl⟩
   rw[hW,hC,hC'] at hs
   rw[hC',hs,aw] at hb
   have hap:=z1k (l:=C) (new:=W.map yc) (by rw[aA];omega)
   rw[hC] at a1 ⊢
   have hcat:C.map yc++W.map yc=C'.map yc:=by rw[hs];simp
   have hlen:C'.length=C.length+W.length:=by rw[hs];simp
   simp[hlt,hW,zj,z1r,a1.eq,hap,fb,zm hlt (by omega),↓hC']
   have hg:=z6i (hp:=h.set k Obj.dead) (r:=[Obj.tok (C.length+W.length) 1]) (k:=0)
   rw[bq,Nat.add_zero] at hg
   repeat apply Exists.intro
   refine⟨?_,hg.trans (by rw[hlen];rfl)⟩
   and_intros <;> first | rfl | exact hcat
  ·have:i=ls.length:=by omega
   subst this
   simp[ze]



theorem yb0(a b:List UInt8)(h:a.length+b.length<=1000000000):y1l E (dL E) 365 [.imm .none [dBy a,dBy b]]=some (dBy (a++b)):=by
 have e:=r365 [a,b] (by simp[y70];omega) (by simp)
 rw[show y70 [a,b] [a,b].length=a++b from by simp[y70]] at e
 exact e

theorem z3c{b:List UInt8}:(y72 b).length=32:=by unfold y72;split <;> exact z3f

def tgB:List UInt8->List UInt8->List UInt8:=fun t b=>y72 (y72 t++b)

theorem z9c{H:List Obj}{n:Nat}:∀(l:List UInt8),(l.map yc).flatMap (ids H (n+1))=[]
 |[]=>rfl
 |c::l=>by
  rw[av,bS,z9c l];rfl
theorem zt1{A:Obj}{T b:List UInt8}(hl:T.length=32):ids [A,.cells (T.map yc)] 12 (.imm .exact [.sl 1 0 32 1 false false,dBy b])=[1]:=by
 have h1:ids [A,.cells (T.map yc)] 11 (.sl 1 0 32 1 false false)=[1]:=by
  show 1::(((T.map yc).drop 0).take (32*1)).flatMap (ids [A,.cells (T.map yc)] 10)=[1]
  rw[cU,bE (by simp[hl]),z9c]
 have h2:ids [A,.cells (T.map yc)] 11 (dBy b)=[]:=by
  show(b.map yc).flatMap (ids [A,.cells (T.map yc)] 10)=[]
  exact z9c b
 show[D.sl 1 0 32 1 false false,dBy b].flatMap (ids [A,.cells (T.map yc)] 11)=[1]
 rw[bS,bS,h1,h2];rfl
theorem zp4{A:Obj}{cs:List D}:yr [A,.cells cs] [1]=[A,.frozen cs]:=rfl

theorem ybp(t b:List UInt8)(ht:t.length<=1000)(hb:b.length<=900000000):y1l E (dL E) 331 [.str t,dBy b]=some (y7g (tgB t b)):=by
 have e1:=r364 t (by omega)
 have e2:=yb0 (y72 t) b (by rw[z3c];omega)
 have e3:=r364 (y72 t++b) (by rw[aw,z3c];omega)
 have hl:=z3c (b:=t)
 refine zu c331 (by simp) ?_
 conv in t331=>reduce;dsimp[aD]
 have hl3:=z3c (b:=y72 t++b)
 unfold tgB
 generalize y72 t=T at e1 e2 e3 hl hl3 ⊢
 generalize y72 (T++b)=U at e3 hl3 ⊢
 have hsl:y15 E 73 (.loc 1 0) none none none=some (.sl 1 0 32 1 false false):=rfl
 have hsc:setCells (z32.map yc) 0 (T.map yc)=T.map yc:=zf (by rw[aA,aA,hl];rfl)
 have hz:z32.map yc=af 32 (D.int .u8 0):=by unfold z32;rw[eh];rfl
 rw[hz] at hsc
 simp only[af] at hsc
 have hck:y2l 1 false 32 (T.map yc)=some (T.map yc):=by rw[z5q 32 T (by omega),bE (by omega)]
 have hsc2:setCells (z32.map yc) 0 (U.map yc)=U.map yc:=zf (by rw[aA,aA,hl3];rfl)
 rw[hz] at hsc2
 simp only[af] at hsc2
 have hfa:y1o (frz [] 11) (T.map yc++b.map yc)=some (T.map yc++b.map yc):=by rw[<- bN];exact ze
 have e3':y1l E (dL E) 364 [.imm .none (T.map yc++b.map yc)]=some (y7g U):=by rw[<- bN];exact e3
 have hid:=fun A:Obj=>zt1 (A:=A) (b:=b) hl
 have hld:∀ A:Obj,yv E [.cells (U.map yc),A] 73 (.loc 0 0)=some (.agg (U.map yc)):=fun A=>z5c rfl hl3
 simp[t331,n331,e1,e2,e3',ze,hl,hl3,hsl,↓hsc,↓hsc2,hck,hfa,↓hid,zp4,↓hld]

theorem r335(a b:List UInt8)(ha:a.length=32)(hb:b.length=32):y1l E (dL E) 335 [y7g a,y7g b]=some (y7g (tgB [99,104,97,105,110] (a++b))):=by
 have e1:=yb0 a b (by omega)
 have e2:=ybp [99,104,97,105,110] (a++b) (by simp) (by simp;omega)
 have hl:(tgB [99,104,97,105,110] (a++b)).length=32:=z3c
 have s1:=z8o ha
 have s2:=z8o hb
 refine zu c335 (by simp) ?_
 conv in t335=>reduce;dsimp[aD]
 generalize tgB [99,104,97,105,110] (a++b)=U at e2 hl ⊢
 have e2':y1l E (dL E) 331 [.str [99,104,97,105,110],.imm .none (a.map yc++b.map yc)]=some (y7g U):=by rw[<- bN];exact e2
 have hfa:y1o (frz [] 11) (a.map yc++b.map yc)=some (a.map yc++b.map yc):=by rw[<- bN];exact ze
 have hsc2:setCells (z32.map yc) 0 (U.map yc)=U.map yc:=zf (by rw[aA,aA,hl];rfl)
 have hz:z32.map yc=af 32 (D.int .u8 0):=by unfold z32;rw[eh];rfl
 rw[hz] at hsc2
 simp only[af] at hsc2
 have hld:∀ r:List Obj,yv E (.cells (U.map yc)::r) 73 (.loc 0 0)=some (.agg (U.map yc)):=fun r=>z5c rfl hl
 have hfz:frz [] 11 (.str [99,104,97,105,110])=some (.str [99,104,97,105,110]):=rfl
 have hfz2:frz [] 12 (.str [99,104,97,105,110])=some (.str [99,104,97,105,110]):=rfl
 simp[t335,n335,e1,e2',ze,ha,hb,hl,s1,s2,↓hsc2,hfa,↓hld,hfz,hfz2]

abbrev pC(p:Pst):List D:=dI p.no::dI p.minute::dI p.corrects :: .imm .none (p.ents.map y2z)::p.prev.map yc
theorem zlc{h:List Obj}{p:Pst}(h32:p.prev.length=32):yv E h 71 (.iptr (pC p))=some (y36 p):=zlp h32
theorem zsu{h r:List Obj}{p:Pst}(h32:p.prev.length=32):yv E (h ++ .cells (pC p)::r) 71 (.loc h.length 0)=some (y36 p):=by
 have e:=z1u 36 0 (pC p) (by simp[h32])
 have e2:(h++Obj.cells (pC p)::r)[h.length]? = some (.cells (pC p)):=by simp
 unfold yv
 simp only[e2,show(E.ty 71).size=36 from rfl,e]
 rfl
theorem stP{p:Pst}(h32:p.prev.length=32):setCells (dI p.no::dI p.minute::dI p.corrects :: .imm .none (p.ents.map y2z)::af 32 (D.int .u8 0)) 4 (p.prev.map yc)=pC p:=by
 have e:=zp (a:=[dI p.no,dI p.minute,dI p.corrects,.imm .none (p.ents.map y2z)]) (b:=af 32 (D.int .u8 0)) (off:=0) (vs:=p.prev.map yc)
 rw[zf (by simp[h32])] at e
 exact e

def y83(l:List Pst):Prop:=l.length<=1000000 /\ ∀ p,p ∈ l->p.prev.length=32/\p.ents.length<=1000000
open Classical in
noncomputable def rdD(l:List Pst):D:=.tup [y7g (if rdE tgB l=0 then y4q tgB l else z32),dI (rdE tgB l)]
theorem z79:∀{a b:List Pst},y2e a=0->y2e (a++b)=y2e b
 |[],b,_=>rfl
 |p::a,b,h=>by
  simp only[y2e,ba] at h ⊢
  split at h
  ·rename_i hp
   rw[if_pos hp];exact z79 h
  ·rename_i hp;exact absurd h hp
theorem zme{l:List Pst}{i:Nat}(h:i<l.length)(h0:y2e (l.take i)=0)(hp:y4x l[i] ≠ 0):y2e l=y4x l[i]:=by
 have e:l=l.take i++l.drop i:=(bA i l).symm
 have e2:y2e l=y2e (l.drop i):=by
  conv=>lhs;rw[e]
  exact z79 h0
 rw[e2,b7 h,y2e,if_neg hp]
theorem zp8{l:List Pst}{i:Nat}(h:i<l.length)(h0:y2e (l.take i)=0)(hp:y4x l[i]=0):y2e (l.take (i+1))=0:=by
 rw[aU h,z79 h0,y2e,if_pos hp];rfl

theorem zbz{H:List Obj}{q:Nat}{m:List UInt8}(B:Bys H q m)(h:m.length=32):yv E H 73 (.loc q 0)=some (.agg (m.map yc)):=by
 have B2:H[q]? = some (.cells (m.map yc)):=B
 have e:=z1u 32 0 (m.map yc) (by simp[h])
 unfold yv
 simp only[yx,B2,show(E.ty 73).size=32 from rfl,e]
 rfl
theorem z9n:∀{a b:List UInt8},a.length=b.length->eqL (a.map yc) (b.map yc)=some (decide (a=b))
 |[],[],_=>rfl
 |x::a,y::b,h=>by
  have ih:=z9n (a:=a) (b:=b) (by simpa using h)
  have e:y1w (yc x) (yc y)=some (((x.toNat:Int)) == (y.toNat:Int)):=by unfold y1w yc;simp
  rw[av,av,eqL,e,ih]
  simp only[aa]
  by_cases hxy:x=y
  ·subst hxy;simp
  ·have : ¬ ((x.toNat:Int))=(y.toNat:Int):=fun h=>hxy (UInt8.toNat_inj.1 (by omega))
   simp[hxy,this]
 |[],_::_,h=>by simp at h
 |_::_,[],h=>by simp at h
theorem z5k:∀{a:List UInt8},y1i (a.map yc) (af a.length (D.int .u8 0))=true
 |[]=>rfl
 |x::a=>by
  rw[av,aF,List.replicate_succ]
  simp only[y1i,yc,decide_true,Bool.true_and]
  exact z5k
theorem zso{a b:List UInt8}(ha:a.length=32)(hb:b.length=32):y2m E .neq 73 (.agg (a.map yc)) (.agg (b.map yc))=some (.bool (!decide (a=b))):=by
 have h1:(E.ty 73).eqc=true:=rfl
 have h2:(E.ty 73).zero=af a.length (D.int .u8 0):=by rw[ha];rfl
 unfold y2m
 simp only[]
 rw[if_pos ⟨h1,by rw[h2];exact z5k⟩,z9n (by rw[ha,hb])]
theorem ydu{h r:List Obj}{p:Pst}(h32:p.prev.length=32):yv E (h ++ .cells (pC p)::r) 73 (.loc h.length 4)=some (.agg (p.prev.map yc)):=by
 have e:=z1u 32 4 (pC p) (by simp[h32])
 have e2:(h++Obj.cells (pC p)::r)[h.length]? = some (.cells (pC p)):=by simp
 unfold yv
 simp only[e2,show(E.ty 73).size=32 from rfl,e]
 rfl
theorem y3s:∀{l:List Pst},(y4q tgB l).length=32:=by
 intro l
 unfold y4q
 rcases List.eq_nil_or_concat l with e | ⟨a,b,e⟩
 ·rw[e]
  show(tgB y39 []).length=32
  exact z3c
 ·rw[e,List.concat_eq_append,g8];exact(show(y72 _).length=32 from z3c)

theorem ydl(l:List Pst)(h:y83 l):y1l E (dL E) 354 [y1p l]=some (rdD l):=by
 refine zu c354 (by simp) ?_
 conv in t354=>reduce;dsimp[aD]
 obtain⟨hl,hp⟩:=h
 by_cases hlen:65536<l.length
 ·have hE:rdE tgB l=2:=by unfold rdE;rw[if_pos hlen]
  unfold rdD
  rw[hE,if_neg (by decide)]
  have hln:(65536:Int)<l.length:=by omega
  simp[t354,n354,hln]
  rfl
 ·have hln : ¬ (65536:Int)<l.length:=by omega
  simp[t354,n354,hln]
  refine z1o l.length (fun i env h=>∃(x2 x3 x4 x5 x6 x7 x8 x9 x13 x14 x15 x16 x17 x18 x19 x20 x21 x22 x23:D) ,env=[y1p l,.loc 0 0,x2,x3,x4,x5,x6,x7,x8,x9,y1p l,dI l.length,dI i,x13,x14,x15,x16,x17,x18,x19,x20,x21,x22,x23]/\Bys h 0 z32/\y2e (l.take i)=0) 0 (by omega) ?_ ?_
  ·exact⟨_,_,_,_,_,_,_,_,_,_,_,_,_,_,_,_,_,_,_,rfl,rfl,rfl⟩
  rintro i env h hi ⟨x2,x3,x4,x5,x6,x7,x8,x9,x13,x14,x15,x16,x17,x18,x19,x20,x21,x22,x23,rfl,B,F⟩
  by_cases hlt:i<l.length
  ·obtain⟨p,hpi⟩:∃ p,p=l[i]:=⟨_,rfl⟩
   have hp2:=hp p (by rw[hpi];exact bj hlt)
   have h355:=ydk p hp2.1 hp2.2
   have hup:=zm hlt (by omega)
   have hli:l[i]? = some p:=by rw[hpi];simp[hlt]
   have q1:=fun h:List Obj=>zlc (h:=h) hp2.1
   have q2:=fun h:List Obj=>zsu (h:=h) (r:=[]) hp2.1
   have q3:=stP hp2.1
   have z1:∀ r:List Obj,yv E (h++r) 73 (.loc 0 0)=some (.agg (z32.map yc)):=fun r=>z5c B.app rfl
   have z2:∀ r:List Obj,(h++r)[0]? = some (.cells (z32.map yc)):=fun r=>B.app
   have z3:setCells (z32.map yc) 0 (z32.map yc)=z32.map yc:=zf rfl
   have z4:∀ r:List Obj,(h++r).set 0 (.cells (z32.map yc))=h++r:=fun r=>z5z B.app
   have z5:z32.length=32:=rfl
   simp only[af] at q3
   simp[hlt,hup,<- hpi,hp2.1,↓q1,↓q2,↓q3,zo,ze,h355,↓z1,↓z2,z3,↓z4,z5]
   by_cases hpc:y4x p=0
   ·rw[if_pos hpc]
    exact⟨B.app,zp8 hlt F (by rw[<- hpi];exact hpc)⟩
   ·rw[if_neg hpc]
    have hf:=zme hlt F (by rw[<- hpi];exact hpc)
    rw[<- hpi] at hf
    have hE:rdE tgB l=y4x p:=by unfold rdE;rw[if_neg hlen,if_pos (by rw[hf];exact hpc),hf]
    unfold rdD
    rw[hE,if_neg hpc]
  ·have:i=l.length:=by omega
   subst this
   rw[be] at F
   have z1:∀ r:List Obj,yv E (h++r) 73 (.loc 0 0)=some (.agg (z32.map yc)):=fun r=>z5c B.app rfl
   have e331:=ybp y39 [] (by decide) (by simp)
   have hT:tgB y39 []=y5y tgB:=rfl
   rw[hT] at e331
   have hTl:(y5y tgB).length=32:=y3s (l:=[])
   have hd0:y5y tgB=y4q tgB (l.take 0):=by rw[List.take_zero];rfl
   have e331:y1l E (dL E) 331 [.str [112,111,115,116,105,110,103,115],.imm .none []]=some (y7g (y5y tgB)):=e331
   generalize y5y tgB=d0 at e331 hTl hd0
   have hsc2:setCells (z32.map yc) 0 (d0.map yc)=d0.map yc:=zf (by rw[aA,aA,hTl];rfl)
   have hz:z32.map yc=af 32 (D.int .u8 0):=by unfold z32;rw[eh];rfl
   rw[hz] at hsc2
   simp only[af] at hsc2
   have hst:∀ n s,frz [] (n+1) (.str s)=some (.str s):=fun _ _=>rfl
   simp[e331,hTl,↓hsc2,hst]
   obtain⟨C,hC⟩:∃ C,C=h.length:=⟨_,rfl⟩
   have hC0:0<C:=by rw[hC];exact At.lt B
   refine z1o l.length (fun i env h'=>∃(x2 x3 x4 x6 x7 x8 x9 x10 x11 x12 x13 x14 x15 x19 x20 x21 x22 x23:D) ,env=[y1p l,.loc 0 0,x2,x3,x4,.loc C 0,x6,x7,x8,x9,x10,x11,x12,x13,x14,x15,y1p l,dI l.length,dI i,x19,x20,x21,x22,x23]/\Bys h' 0 z32/\Bys h' C (y4q tgB (l.take i)) /\ ∀ j p,j<i->l[j]? = some p->atP tgB l j p) 0 (by omega) ?_ ?_
   ·rw[<- hC]
    exact⟨_,_,_,_,_,_,_,_,_,_,_,_,_,_,_,_,_,_,rfl,B.app,by rw[<- hd0,hC];simp[Bys,At],fun j p hj=>absurd hj (by omega)⟩
   rintro i env h' hi ⟨x2,x3,x4,x6,x7,x8,x9,x10,x11,x12,x13,x14,x15,x19,x20,x21,x22,x23,rfl,B0,BC,V⟩
   by_cases hlt:i<l.length
   ·obtain⟨p,hpi⟩:∃ p,p=l[i]:=⟨_,rfl⟩
    have hp2:=hp p (by rw[hpi];exact bj hlt)
    have h334:=r334 p hp2.1 hp2.2
    have hgp:gdP p:=z3a.1 F p (by rw[hpi];exact bj hlt)
    unfold ybx at h334
    rw[if_pos (z2m.2 hgp)] at h334
    have hup:=zm hlt (by omega)
    have hli:l[i]? = some p:=by rw[hpi];simp[hlt]
    have q1:=fun h:List Obj=>zlc (h:=h) hp2.1
    have q2:=fun r:List Obj=>zsu (h:=h') (r:=r) hp2.1
    have q3:=stP hp2.1
    have q4:=fun r:List Obj=>ydu (h:=h') (r:=r) hp2.1
    have z1:∀ r:List Obj,yv E (h'++r) 73 (.loc 0 0)=some (.agg (z32.map yc)):=fun r=>z5c B0.app rfl
    have z2:∀ r:List Obj,(h'++r)[0]? = some (.cells (z32.map yc)):=fun r=>B0.app
    have z3:setCells (z32.map yc) 0 (z32.map yc)=z32.map yc:=zf rfl
    have z4:∀ r:List Obj,(h'++r).set 0 (.cells (z32.map yc))=h'++r:=fun r=>z5z B0.app
    have z5:z32.length=32:=rfl
    obtain⟨Z,hZ⟩:∃ Z,Z=y4q tgB (l.take i):=⟨_,rfl⟩
    rw[<- hZ] at BC
    have hZ32:Z.length=32:=by rw[hZ];exact y3s
    have y1:∀ r:List Obj,yv E (h'++r) 73 (.loc C 0)=some (.agg (Z.map yc)):=fun r=>zbz BC.app hZ32
    have y2:∀ r:List Obj,(h'++r)[C]? = some (.cells (Z.map yc)):=fun r=>BC.app
    have y3:=zso hp2.1 hZ32
    have y1':∀ r r2:List Obj,yv E (h'++r++r2) 73 (.loc C 0)=some (.agg (Z.map yc)):=fun r r2=>by rw[bY];exact y1 _
    have q4':∀ r:List Obj,yv E (h'++[.cells (pC p)]++r) 73 (.loc h'.length 4)=some (.agg (p.prev.map yc)):=fun r=>by rw[bY];exact q4 _
    have q2':∀ r:List Obj,yv E (h'++[.cells (pC p)]++r) 71 (.loc h'.length 0)=some (y36 p):=fun r=>by rw[bY];exact q2 _
    simp only[af] at q3
    have hen:(y7x p).length<=900000000:=by
     have:=zh0 (zls hgp.fm) hp2.2 (by omega)
     omega
    have e331p:=ybp y3g (y7x p) (by decide) hen
    have hT32:(tgB y3g (y7x p)).length=32:=z3c
    have e335:=r335 Z (tgB y3g (y7x p)) hZ32 hT32
    have hN:tgB [99,104,97,105,110] (Z++tgB y3g (y7x p))=y4q tgB (l.take (i+1)):=by rw[zmk hlt,<- hZ,<- hpi];rfl
    rw[hN] at e335
    have e331p:y1l E (dL E) 331 [.str [112,111,115,116,105,110,103],dBy (y7x p)]=some (y7g (tgB y3g (y7x p))):=e331p
    generalize tgB y3g (y7x p)=Tp at e331p e335 hT32 hN
    clear hN
    have hN32:=y3s (l:=l.take (i+1))
    obtain⟨N,hNe⟩:∃ N,N=y4q tgB (l.take (i+1)):=⟨_,rfl⟩
    rw[<- hNe] at e335 hN32
    have y5:setCells (Z.map yc) 0 (N.map yc)=N.map yc:=zf (by rw[aA,aA,hZ32,hN32])
    have y6:∀ r:List Obj,(h'++r).set C (.cells (N.map yc))=h'.set C (.cells (N.map yc))++r:=fun r=>z20 (At.lt BC)
    have fin:∀ r:List Obj,Bys (h'.set C (.cells (N.map yc))++r) 0 z32/\Bys (h'.set C (.cells (N.map yc))++r) C (y4q tgB (l.take (i+1)))/\(p.no=i->p.prev=Z->(∀ q,0<i->l[i - 1]? = some q->q.minute<=p.minute)->∀ j p,j<i+1->l[j]? = some p->atP tgB l j p):=by
     intro r
     refine⟨(At.ne B0 (by omega)).app,by rw[<- hNe];exact(At.self (At.lt BC)).app,fun h1 h2 h3 j p' hj hp'=>?_⟩
     by_cases hji:j<i
     ·exact V j p' hji hp'
     ·have:j=i:=by omega
      subst this
      rw[hli] at hp'
      cases hp'
      exact⟨h1,by rw[h2,hZ],fun k q hk hq=>h3 q (by omega) (by rw[show j - 1=k from by omega];exact hq)⟩
    have bad:(¬ p.no=i\/(∃ q,l[i - 1]? = some q/\0<i/\p.minute<q.minute) \/ ¬ p.prev=Z)->rdD l=.tup [y7g z32,dI 410]:=by
     intro hb
     have hv : ¬ vld tgB l:=by
      intro v
      have a:=v.2.2 i p hli
      rcases hb with h1 | ⟨q,h1,h2,h3⟩ | h1
      ·exact h1 a.no
      ·have:=a.minute (i - 1) q (by omega) h1
       omega
      ·exact h1 (by rw[hZ];exact a.prev)
     have hE:rdE tgB l=410:=by unfold rdE;rw[if_neg hlen,if_neg (by simp[F]),if_neg hv]
     unfold rdD
     rw[hE,if_neg (by decide)]
    by_cases hno:p.no=(i:Int)
    ·have hno':=eq_true hno
     have hst2:(0<i /\ ∃ q,l[i - 1]? = some q/\q.prev.length=32)\/i=0:=by
      rcases ee i with h0 | h0
      ·exact .inr h0
      ·exact .inl ⟨h0,l[i - 1],ae (by omega),(hp _ (bj _)).1⟩
     have hw1:0<i->aB.wrap ((i:Int) - 1)=((i - 1:Nat):Int):=fun h0=>by
      rw[zc ⟨by omega,by omega⟩];omega
     by_cases hpv:p.prev=Z
     ·have hpv':=eq_true hpv
      rcases hst2 with⟨h0,q,hq,hq32⟩ | h0
      ·by_cases hm:p.minute<q.minute
       ·rw[bad (.inr (.inl ⟨q,hq,h0,hm⟩))]
        simp[hlt,<- hpi,hp2.1,↓q1,↓q3,↓q4,↓q4',↓q2,↓q2',↓y1,↓y1',y3,hno',h0,hw1 h0,hq,hq32,hm,↓z1,↓z2,z3,↓z4,z5,ze]
       ·simp[hlt,<- hpi,hp2.1,↓q1,↓q3,↓q4,↓q4',↓q2,↓q2',↓y1,↓y1',y3,hno',h0,hw1 h0,hq,hq32,hm,hpv',hup,h334,zo,ze,hst,e331p,e335,hT32,hZ32,hN32,y5,↓y2,↓y6]
        exact⟨(fin _).1,(fin _).2.1,(fin []).2.2 hno hpv fun q' _ hq'=>by rw[hq] at hq';cases hq';omega⟩
      ·have h0' : ¬ 0<i:=by omega
       simp[h0',hlt,<- hpi,hp2.1,↓q1,↓q3,↓q4,↓q4',↓q2,↓q2',↓y1,↓y1',y3,hno',hpv',hup,h334,zo,ze,hst,e331p,e335,hT32,hZ32,hN32,y5,↓y2,↓y6]
       exact⟨(fin _).1,(fin _).2.1,(fin []).2.2 hno hpv fun q' h0 _=>absurd h0 h0'⟩
     ·rw[bad (.inr (.inr hpv))]
      rcases hst2 with⟨h0,q,hq,hq32⟩ | h0
      ·by_cases hm:p.minute<q.minute
       ·simp[hlt,<- hpi,hp2.1,↓q1,↓q3,↓q4,↓q4',↓q2,↓q2',↓y1,↓y1',y3,hno',h0,hw1 h0,hq,hq32,hm,↓z1,↓z2,z3,↓z4,z5,ze]
       ·simp[hlt,<- hpi,hp2.1,↓q1,↓q3,↓q4,↓q4',↓q2,↓q2',↓y1,↓y1',y3,hno',h0,hw1 h0,hq,hq32,hm,hpv,↓z1,↓z2,z3,↓z4,z5,ze]
      ·have h0' : ¬ 0<i:=by omega
       simp[h0',hlt,<- hpi,hp2.1,↓q1,↓q3,↓q4,↓q4',↓q2,↓q2',↓y1,↓y1',y3,hno',hpv,↓z1,↓z2,z3,↓z4,z5,ze]
    ·rw[bad (.inl hno)]
     simp[hlt,<- hpi,hp2.1,↓q1,↓q3,↓q4,↓q4',↓q2,↓q2',↓y1,↓y1',y3,hno,↓z1,↓z2,z3,↓z4,z5,ze]
   ·have:i=l.length:=by omega
    subst this
    rw[be] at BC
    have hv:vld tgB l:=⟨by omega,fun p hp=>z3a.1 F p hp,fun i p hi=>V i p (ac.1 hi).1 hi⟩
    have hE:rdE tgB l=0:=z1m.2 hv
    have y1:=zbz BC y3s
    have z2:h'[0]? = some (.cells (z32.map yc)):=B0
    have y4:setCells (z32.map yc) 0 ((y4q tgB l).map yc)=(y4q tgB l).map yc:=zf (by rw[aA,aA,y3s];rfl)
    have hl0:0<h'.length:=At.lt B0
    have y5:Bys (h'.set 0 (.cells ((y4q tgB l).map yc))) 0 (y4q tgB l):=At.self hl0
    have y6:=z5c y5 y3s
    have hD:rdD l=.tup [y7g (y4q tgB l),dI 0]:=by unfold rdD;rw[hE,if_pos rfl]
    have d32:=y3s (l:=l)
    rw[hD]
    have z5:z32.length=32:=rfl
    simp[y1,z2,y4,↓y6,d32,z5,ze]

end Dv

namespace Dv

def y1d:List (Int × Int)->List (Int × Int)
 |[]=>[]
 |[x]=>[x]
 |x::y::r=>if x=y then y1d (y::r) else x::y1d (y::r)

theorem zms:∀{l:List (Int × Int)} {a:Int × Int},a ∈ y1d l ↔ a ∈ l
 |[],a=>by simp[y1d]
 |[x],a=>by simp[y1d]
 |x::y::r,a=>by
  have ih:=zms (l:=y::r) (a:=a)
  unfold y1d
  split
  ·rename_i e
   rw[ih]
   subst e
   simp
  ·rw[az,ih]
   simp
theorem zh4:∀{l:List (Int × Int)},l ≠ []->y1d l ≠ []
 |[],h=>absurd rfl h
 |[x],_=>by simp[y1d]
 |x::y::r,_=>by
  unfold y1d
  split
  ·exact zh4 (by simp)
  ·simp
theorem zja:∀{l:List (Int × Int)},(y1d l).getLast? = l.getLast?
 |[]=>rfl
 |[x]=>rfl
 |x::y::r=>by
  have ih:=zja (l:=y::r)
  unfold y1d
  split
  ·rw[ih];simp
  ·have hne:=zh4 (l:=y::r) (by simp)
   obtain⟨z,zs,hz⟩:=List.exists_cons_of_ne_nil hne
   rw[hz] at ih ⊢
   rw[iA,ih]
   simp
theorem zb3:∀{l:List (Int × Int)} {a:Int × Int},y1d (l++[a])=if l.getLast? = some a then y1d l else y1d l++[a]
 |[],a=>by simp[y1d]
 |[x],a=>by
  simp only[ba,bQ,y1d,iC,aa]
  split
  ·rename_i e;rw[e]
  ·rfl
 |x::y::r,a=>by
  have ih:=zb3 (l:=y::r) (a:=a)
  have e:(x::y::r).getLast? = (y::r).getLast?:=iA
  rw[e]
  simp only[ba] at ih ⊢
  conv=>lhs;unfold y1d
  conv=>rhs;unfold y1d
  rw[ih]
  split
  ·rfl
  ·split <;> rfl
theorem z6q:∀{l:List (Int × Int)},(y1d l).length<=l.length
 |[]=>by simp[y1d]
 |[x]=>by simp[y1d]
 |x::y::r=>by
  have ih:=z6q (l:=y::r)
  unfold y1d
  split
  ·simp at ih ⊢;omega
  ·simp at ih ⊢;omega

theorem zkw{x y:Int × Int}(h:y4w y x=false):x=y\/y4w x y=true:=by
 unfold y4w at *
 simp at *
 by_cases e:x=y
 ·exact .inl e
 ·right
  have : ¬ (x.1=y.1/\x.2=y.2):=fun h=>e (Prod.ext h.1 h.2)
  omega

theorem zaj(l:List (Int × Int)):(y1s l).Perm l:=List.mergeSort_perm l _
theorem z7n(l:List (Int × Int)):(y1s l).length=l.length:=(zaj l).length_eq
theorem zd9(l:List (Int × Int)):(y1s l).Pairwise fun x y=>y4w y x=false:=by
 have h:=List.pairwise_mergeSort (le:=fun x y:Int × Int=>!y4w y x) (fun a b c h1 h2=>by
  unfold y4w at *;simp at *;omega) (fun a b=>by
  unfold y4w;simp;omega) l
 exact h.imp fun h=>by simpa using h

def yaw(l:List Pst):List (Int × Int):=y1d (y1s (yav l))
theorem zcg:∀{l:List Ent} {k i:Int},(∀ x,x ∈ l->y4n x) -> -(1099511627776*l.length:Int)<=y38 k i l/\y38 k i l<=1099511627776*l.length
 |[],k,i,_=>by simp[y38]
 |x::l,k,i,h=>by
  have ih:=zcg (l:=l) (k:=k) (i:=i) fun y hy=>h y (by simp[hy])
  have hx:=(h x (by simp)).2.2.2
  simp only[y38,aF]
  split <;> omega
def entN:List Pst->Nat
 |[]=>0
 |p::l=>p.ents.length+entN l
theorem zha:∀(l:List Pst),(yav l).length=entN l
 |[]=>rfl
 |p::l=>by
  have:=zha l
  simp only[yav,bS,aw,aA,entN] at this ⊢
  omega
theorem zn6:∀{l:List Pst} {k i m:Int},(∀ p,p ∈ l->∀ x,x ∈ p.ents->y4n x) -> -(1099511627776*entN l:Int)<=y4j k i m l/\y4j k i m l<=1099511627776*entN l
 |[],k,i,m,_=>by simp[y4j,entN]
 |p::l,k,i,m,h=>by
  have ih:=zn6 (l:=l) (k:=k) (i:=i) (m:=m) fun q hq=>h q (by simp[hq])
  have hp:=zcg (k:=k) (i:=i) (h p (by simp))
  simp only[y4j,entN]
  split <;> omega

end Dv

namespace Dv
attribute [local simp] af depth y53 y89 y3c y2q y88 y6c y34 y23 Ret
attribute [local congr] z2o z2s z24 z1n z18 z26 z16


theorem z5w:∀(a b:List D) (k:Nat) (pre:List D),pre.length=k->y1x (pre++a++b) k a.length=some a
 |[],b,k,pre,h=>rfl
 |x::a,b,k,pre,h=>by
  have ih:=z5w a b (k+1) (pre++[x]) (by simp[h])
  have hx:(pre++(x::a)++b)[k]? = some x:=by
   rw[bY,aC (by omega),h,gC];rfl
  rw[aF,y1x,hx]
  have e:pre++[x]++a++b=pre++x::a++b:=by simp
  rw[e] at ih
  rw[ih]
theorem zb4{sz:Nat}:∀(els:List D),(∀ x,x ∈ els->x.cellsL.length=sz/\yj true x.cellsL=some x)->y2l sz true els.length (yo els)=some els
 |[],_=>rfl
 |x::els,h=>by
  obtain⟨h1,h2⟩:=h x (by simp)
  have ih:=zb4 els fun y hy=>h y (by simp[hy])
  have ht:=z5w x.cellsL (yo els) 0 [] rfl
  rw[bQ,h1] at ht
  rw[aF,y2l,z14,ht]
  simp only[h2]
  rw[show(x.cellsL++yo els).drop sz=yo els from by rw[<- h1];simp,ih]

theorem zde{p:Pst}(h:p.prev.length=32):(pC p).length=36:=by simp[h]
theorem ydo{p:Pst}:∀ d,d ∈ pC p->d.atom=true:=by
 intro d hd
 simp only[pC,az,aT] at hd
 rcases hd with rfl | rfl | rfl | rfl | ⟨b,_,rfl⟩ <;> rfl
theorem zut{p:Pst}:(y36 p).storable=true:=by
 show(pC p).all D.atom=true
 rw[ay];exact ydo
theorem zdv{l:List Pst}(h:∀ p,p ∈ l->p.prev.length=32):y2p 36 (l.map y36)=true:=by
 unfold y2p
 rw[ay]
 intro x hx
 obtain⟨p,hp,rfl⟩:=aT.1 hx
 have h1:((y36 p).cellsL.length == 36)=true:=by
  show((pC p).length == 36)=true
  rw[zde (h p hp)];rfl
 rw[zut,h1];rfl
theorem z96{hp:List Obj}{sp:y1a}{l:List Pst}(h:∀ p,p ∈ l->p.prev.length=32):y13 hp 36 true (.imm sp (l.map y36))=some (l.map y36):=by
 have:=zdv h
 unfold y2p at this
 simp only[y13]
 rw[if_pos this]
def pCs(l:List Pst):List D:=yo (l.map y36)
theorem zsn{l:List Pst}(h:∀ p,p ∈ l->p.prev.length=32):(pCs l).length=l.length*36:=by
 have:=zaz (zdv h)
 unfold pCs
 rw[this,aA]
theorem zoc{l:List Pst}{p:Pst}:pCs l++yo [y36 p]=pCs (l++[p]):=by unfold pCs;rw[bN,z1i];rfl
theorem zjf{l:List Pst}(h:∀ p,p ∈ l->p.prev.length=32):y2l 36 true l.length (pCs l)=some (l.map y36):=by
 have:=zb4 (sz:=36) (l.map y36) fun x hx=>by
  obtain⟨p,hp,rfl⟩:=aT.1 hx
  exact⟨zde (h p hp),rfl⟩
 rw[aA] at this
 exact this
theorem zl{hp:List Obj}{n:Nat}{l:List Pst}:y1o (frz hp (n+5)) (l.map y36)=some (l.map y36):=z17 fun _ _=>zt6
theorem e70:(E.ty 70).k=.slice 71:=rfl
theorem znb{hp:List Obj}{id:Nat}{sp:y1a}{l:List Pst}(h:∀ p,p ∈ l->p.prev.length=32)(hl:l.length<=1000000)(h0:l ≠ []) :
  y1r E hp id 70 70 (.imm .exact []) (.imm sp (l.map y36))=some ⟨.sl id 0 l.length 36 true true,some (.cells (pCs l)),none⟩:=by
 have h4 : ¬ l.length=0:=fun h=>h0 (cO h)
 have h5:(0+l.length)*(80+1)<=yi/\80<=65536/\(y1u E 71).isSome=true/\y2p 36 ([]:List D)=true:=⟨by simp[yi];omega,by decide,rfl,rfl⟩
 unfold y1r
 simp only[e70]
 rw[show y13 hp (E.ty 71).size (E.ty 71).ag (.imm sp (l.map y36))=some (l.map y36) from z96 h]
 simp only[aA,bp]
 rw[if_neg h4,show(E.ty 71).bytes=80 from rfl,show(E.ty 71).size=36 from rfl,if_pos h5]
 simp only[bB,pCs,yo,List.flatMap_nil,bQ]
 rfl

def cpy(n:Nat)(l:List Pst):D:=if l=[] then .imm .exact [] else .sl n 0 l.length 36 true true
def y7z(l:List Pst):List Obj:=if l=[] then[] else[.cells (pCs l)]
theorem s356(l:List Pst)(h:∀ p,p ∈ l->p.prev.length=32)(hl:l.length<=1000000)(hp:List Obj):y1h E (dL E) 356 [y1p l] hp=some (cpy hp.length l,hp++y7z l):=by
 have:∃ d hp',y1h E (dL E) 356 [y1p l] hp=some (d,hp')/\(d=cpy hp.length l/\hp'=hp++y7z l):=by
  refine z34 c356 (args:=[y1p l]) (hp:=hp) (R:=fun d hp'=>d=cpy hp.length l/\hp'=hp++y7z l) (by simp) ?_
  conv in t356=>reduce;dsimp[aD]
  by_cases h0:l=[]
  ·subst h0
   simp[t356,n356,cpy,y7z,y1r,y13,yg]
  ·have ap:=fun hp id=>znb (hp:=hp) (id:=id) (sp:=.none) h hl h0
   simp[t356,n356,cpy,y7z,ap,yg,h0]
 obtain⟨d,hp',e,rfl,rfl⟩:=this
 exact e
theorem ydr(l:List Pst)(h:∀ p,p ∈ l->p.prev.length=32)(hl:l.length<=1000000)(hp:List Obj):y5q (y1h E (dL E)) 356 [y1p l] hp=some (cpy hp.length l,hp++y7z l):=by
 unfold y5q
 rw[s356 l h hl,ek]
 have hm:yw (cpy hp.length l)=false:=by unfold cpy;split <;> rfl
 simp only[y14,hm,Bool.false_eq_true,if_false,ao,aa,aq,true_and]
 rw[List.drop_append_of_le_length (by simp),iS (by simp),bQ]

theorem yb1(l:List Pst)(h:y83 l):y1l E (dL E) 324 [y1p l]=some (dI (rdE tgB l)):=by
 refine zu c324 (by simp) ?_
 conv in t324=>reduce;dsimp[aD]
 have e:=ydl l h
 unfold rdD at e
 simp[t324,n324,e,zl]
theorem r329(l:List Pst)(h:y83 l):y1l E (dL E) 329 [y1p l]=some (rdD l):=by
 refine zu c329 (by simp) ?_
 conv in t329=>reduce;dsimp[aD]
 have e:=ydl l h
 unfold rdD at e ⊢
 obtain⟨d,hd⟩:∃ d,d=(if rdE tgB l=0 then y4q tgB l else z32):=⟨_,rfl⟩
 have h32:d.length=32:=by rw[hd];split;exact y3s;rfl
 rw[<- hd] at e ⊢
 have hsc:=zf (a:=af 32 (D.int .u8 0)) (vs:=d.map yc) (by simp[h32])
 have hld:∀ r:List Obj,yv E (.cells (d.map yc)::r) 73 (.loc 0 0)=some (.agg (d.map yc)):=fun r=>z5c (m:=d) (by simp[Bys,At]) h32
 simp only[af] at hsc
 simp[t329,n329,e,zl,h32,hsc,↓hld,ze]

theorem zas{hp:List Obj}{sp:y1a}{p:Pst}(h:p.prev.length=32):y13 hp 36 true (.imm sp [y36 p])=some [y36 p]:=z96 (l:=[p]) (by simp[h])
theorem zqf{pre:List Obj}{l:List Pst}{p:Pst}{sp:y1a}(h:∀ p,p ∈ l->p.prev.length=32)(hp:p.prev.length=32)(hl:l.length<=1000000) :
  ∃ m X,y2i E (pre++y7z l) 70 70 (cpy pre.length l) (.imm sp [y36 p])=some (.sl m 0 (l.length+1) 36 true true,X)/\At X m (.cells (pCs (l++[p]))):=by
 by_cases h0:l=[]
 ·subst h0
  refine⟨pre.length,pre++[.cells (pCs [p])],?_,by simp[At]⟩
  have h5:(0+1)*(80+1)<=yi/\80<=65536/\(y1u E 71).isSome=true/\y2p 36 ([]:List D)=true:=⟨by simp[yi],by decide,rfl,rfl⟩
  unfold y2i cpy y7z
  simp only[if_true,cy,e70]
  rw[show y13 pre (E.ty 71).size (E.ty 71).ag (.imm sp [y36 p])=some [y36 p] from zas hp]
  simp only[aF,bp]
  rw[if_neg (by simp),show(E.ty 71).bytes=80 from rfl,show(E.ty 71).size=36 from rfl,if_pos h5]
  rfl
 ·have hg:(pre++y7z l)[pre.length]? = some (.cells (pCs l)):=by unfold y7z;rw[if_neg h0];simp
  refine⟨(pre++y7z l).length,(pre++y7z l).set pre.length .dead++[.cells (pCs (l++[p]))],?_,by simp[At]⟩
  have h5:(l.length+1)*(80+1)<=yi/\80<=65536/\(y1u E 71).isSome=true/\(36:Nat)=36/\(pCs l).length=l.length*36:=⟨by simp[yi];omega,by decide,rfl,rfl,zsn h⟩
  unfold y2i cpy
  simp only[if_neg h0,e70]
  rw[show y13 (pre++y7z l) (E.ty 71).size (E.ty 71).ag (.imm sp [y36 p])=some [y36 p] from zas hp,hg]
  simp only[aF,bp]
  rw[if_neg (by simp),show(E.ty 71).bytes=80 from rfl,show(E.ty 71).size=36 from rfl,if_pos h5,zoc]
  rfl
theorem zov{X:List Obj}{m n:Nat}{L:List Pst}{gr:Bool}(h:At X m (.cells (pCs L)))(h32:∀ p,p ∈ L->p.prev.length=32):frz X (n+6) (.sl m 0 L.length 36 true gr)=some (y1p L):=by
 have hr:yx X m=some (pCs L):=by unfold yx;rw[h.eq]
 show(match yx X m with | some cs=>(match y2l 36 true L.length (cs.drop 0) with | some els=>(y1o (frz X (n+5)) els).map (D.imm .none) | none=>none) | none=>none)=_
 rw[hr]
 simp only[cU]
 rw[zjf h32]
 simp only[]
 rw[zl]
 rfl

open Classical in
noncomputable def poD(l:List Pst)(s:Stp):D:=.tup [y1p (if y2y tgB l s=0 then l++[y3r tgB l s] else[]),dI (y2y tgB l s)]

theorem y9i(l:List Pst)(s:Stp)(h:y83 l)(hs:s.ents.length<=1000000):y1l E (dL E) 316 [y1p l,dI s.minute,dI s.corrects,.imm .none (s.ents.map y2z)]=some (poD l s):=by
 refine zu c316 (by simp) ?_
 conv in t316=>reduce;dsimp[aD]
 have e354:=ydl l h
 unfold rdD at e354
 obtain⟨d,hd⟩:∃ d,d=(if rdE tgB l=0 then y4q tgB l else z32):=⟨_,rfl⟩
 have h32:d.length=32:=by rw[hd];split;exact y3s;rfl
 rw[<- hd] at e354
 have hsc:=zf (a:=af 32 (D.int .u8 0)) (vs:=d.map yc) (by simp[h32])
 simp only[af] at hsc
 by_cases h0:rdE tgB l=0
 ·have v:=z1m.1 h0
  have h0':rdE tgB l=0:=h0
  rw[if_pos h0] at hd
  have hl:l.length<=65536:=v.1
  rw[h0] at e354
  by_cases hmax:l.length=65536
  ·have hm:((l.length:Nat):Int)=65536:=by omega
   have hE:y2y tgB l s=2:=by unfold y2y;rw[if_neg (by simp[h0]),if_pos hmax]
   unfold poD
   rw[hE,if_neg (by decide)]
   simp[t316,n316,e354,zl,h32,hsc,hm]
  ·have hm : ¬ ((l.length:Nat):Int)=65536:=by omega
   have hlast:(0<l.length /\ ∃ q,l[l.length - 1]? = some q/\q.prev.length=32/\l.getLast? = some q) \/ ¬ 0<l.length:=by
    rcases ee l.length with h1 | h1
    ·exact .inr (by omega)
    ·exact .inl ⟨h1,l[l.length - 1],ae (by omega),(h.2 _ (bj _)).1,by rw[fG,ae (by omega)]⟩
   have hw1:0<l.length->aB.wrap ((l.length:Int) - 1)=((l.length - 1:Nat):Int):=fun h0=>by
    rw[zc ⟨by omega,by omega⟩];omega
   obtain⟨p,hp⟩:∃ p:Pst,p=y3r tgB l s:=⟨_,rfl⟩
   have hp2:p=⟨l.length,s.minute,s.corrects,s.ents,d⟩:=by rw[hp,hd];rfl
   have p32:p.prev.length=32:=by rw[hp2];exact h32
   have hpE:(∀ q,l.getLast? = some q -> ¬ s.minute<q.minute)->y2y tgB l s=y4x p:=fun hq=>by
    rw[hp];exact z3r v (by omega) fun q h=>by have:=hq q h;omega
   have q4:setCells (dI (l.length:Int)::dI s.minute::dI s.corrects :: .imm .none (s.ents.map y2z)::af 32 (D.int .u8 0)) 4 (d.map yc)=pC p:=by
    rw[hp2];exact stP (p:=⟨l.length,s.minute,s.corrects,s.ents,d⟩) h32
   have q2:∀(x:Obj) (r:List Obj),yv E (x :: .cells (pC p)::r) 71 (.loc 1 0)=some (y36 p):=fun x r=>zsu (h:=[x]) (r:=r) p32
   have q2':∀(x:Obj) (r r2:List Obj),yv E (x :: .cells (pC p)::r++r2) 71 (.loc 1 0)=some (y36 p):=fun x r r2=>q2 x (r++r2)
   have q3:=stP p32
   simp only[af] at q3 q4
   have hld:∀ r:List Obj,yv E (.cells (d.map yc)::r) 73 (.loc 0 0)=some (.agg (d.map yc)):=fun r=>z5c (m:=d) (by simp[Bys,At]) h32
   have h355:=ydk p p32 (by rw[hp2];exact hs)
   have m356:=ydr l (fun p hp=>(h.2 p hp).1) h.1
   have hst:(pC p).length=36:=zde p32
   obtain⟨m,X,hG,hX⟩:=zqf (pre:=[.cells (d.map yc),.cells (pC p),.dead,.dead,.dead,.dead,.dead,.dead,.dead]) (sp:=.exact) (fun p hp=>(h.2 p hp).1) p32 h.1
   have hL32:∀ q,q ∈ l++[p]->q.prev.length=32:=fun q hq=>by
    rcases aS.1 hq with hq | hq
    ·exact(h.2 q hq).1
    ·simp at hq;rw[hq];exact p32
   have hfz:=zov (n:=5) (gr:=true) hX hL32
   have hll:(l++[p]).length=l.length+1:=by simp
   rw[hll] at hfz
   simp only[ba,bQ,aF,bp] at hG
   rcases hlast with⟨h1,q,hq,hq32,hql⟩ | h1
   ·by_cases hmn:s.minute<q.minute
    ·have hE:y2y tgB l s=410:=by unfold y2y;rw[if_neg (by simp[h0]),if_neg hmax,if_pos ⟨q,hql,hmn⟩]
     unfold poD
     rw[hE,if_neg (by decide)]
     simp[t316,n316,e354,zl,h32,hsc,hm,h1,hw1 h1,hq,hq32,hmn]
    ·have hE:=hpE fun q' h=>by rw[hql] at h;cases h;exact hmn
     simp[t316,n316,e354,zl,h32,hsc,hm,h1,hw1 h1,hq,hq32,hmn,-zy,hld,↓q4,p32,q2,↓q3,zo,ze,h355,m356,hG,hfz]
     unfold poD
     rw[hE,<- hp]
     by_cases hc:y4x p=0
     ·simp[hc]
     ·simp[hc]
   ·have hE:=hpE fun q' h=>by
     have:l=[]:=cO (by omega)
     subst this;simp at h
    simp[t316,n316,e354,zl,h32,hsc,hm,h1,-zy,hld,↓q4,p32,q2,↓q3,zo,ze,h355,m356,hG,hfz]
    unfold poD
    rw[hE,<- hp]
    by_cases hc:y4x p=0
    ·simp[hc]
    ·simp[hc]
 ·have hE:y2y tgB l s=rdE tgB l:=by unfold y2y;rw[if_pos h0]
  have hne : ¬ rdE tgB l=0:=h0
  unfold poD
  rw[hE,if_neg h0]
  simp[t316,n316,e354,zl,h32,hsc,hne]

theorem r359(l:List Pst):y1l E (dL E) 359 [y1p l]=some (.fn 380 [.iptr [y1p l]]):=by
 refine zu c359 (by simp) ?_
 conv in t359=>reduce;dsimp[aD]
 simp[t359,n359,zl]

def y3x(l:List Pst):List (Int × Ent):=l.flatMap fun p=>p.ents.map fun x=>(p.minute,x)
theorem zie:y3x []=[]:=rfl
theorem z49{p:Pst}{l:List Pst}:y3x (p::l)=(p.ents.map fun x=>(p.minute,x))++y3x l:=rfl

theorem ld66{H:List Obj}{q:Nat}{p:Pst}(B:At H q (.cells (pC p))):yv E H 66 (.loc q 3)=some (.imm .none (p.ents.map y2z)):=by
 unfold yv
 simp only[B.eq,show(E.ty 66).size=1 from rfl]
 rfl
theorem ld2{H:List Obj}{q:Nat}{p:Pst}(B:At H q (.cells (pC p))):yv E H 2 (.loc q 1)=some (dI p.minute):=by
 unfold yv
 simp only[B.eq,show(E.ty 2).size=1 from rfl]
 rfl

theorem i380(l:List Pst)(ok:y83 l)(L:Nat)(J:Nat->List (Int × Ent)->List Obj->Prop)(Fin:List Obj->Prop)
  (hext:∀ f rem hp r,J f rem hp->J f rem (hp++r))
  (hown:∀ f rem hp r,J f rem hp->J hp.length rem (hp++r))
  (hy:∀ f x rem hp o,J f (x::rem) hp->At hp f o->∃ t hp',y2x (dL E) L [dI x.1,y2z x.2] hp=some (.bool t,hp')/\(t=true->J f rem hp'/\At hp' f o)/\(t=false->Fin hp'))
  {hp:List Obj} {f0:Nat} (h0:J f0 (y3x l) hp) :
  ∃ d hp',y1h E (dL E) 380 [.yld L,.iptr [y1p l]] hp=some (d,hp')/\((∃ f,J f [] hp')\/Fin hp'):=by
 refine z34 c380 (R:=fun _ hp'=>(∃ f,J f [] hp')\/Fin hp') (by simp) ?_
 conv in t380=>reduce;dsimp[aD]
 have hl:=ok.1
 simp[t380,n380]
 refine z1o l.length (fun i env hp=>∃(x2 x3 x7 x8 x9 x10 x11 x12 x13 x14 x15:D) ,env=[.yld L,.iptr [y1p l],x2,x3,y1p l,dI l.length,dI i,x7,x8,x9,x10,x11,x12,x13,x14,x15] /\
  ∃ f,J f (y3x (l.drop i)) hp) 0 (by omega) ⟨_,_,_,_,_,_,_,_,_,_,_,rfl,f0,by simpa using h0⟩ ?_
 rintro i env hp hi ⟨x2,x3,x7,x8,x9,x10,x11,x12,x13,x14,x15,rfl,f,hJ⟩
 by_cases hlt:i<l.length
 rotate_left
 ·have:i=l.length:=by omega
  subst this
  rw[iz,zie] at hJ
  simp
  exact .inl ⟨f,hJ⟩
 obtain⟨p,hpi⟩:∃ p,p=l[i]:=⟨_,rfl⟩
 have hp2:=ok.2 p (by rw[hpi];exact bj hlt)
 have hup:=zm hlt (by omega)
 rw[z6l hlt,<- hpi,z49] at hJ
 obtain⟨rest,hrest⟩:∃ rest,rest=y3x (l.drop (i+1)):=⟨_,rfl⟩
 rw[<- hrest] at hJ
 have q1:=fun h:List Obj=>zlc (h:=h) hp2.1
 have q3:=stP hp2.1
 simp only[af] at q3
 have hJ1:=hown _ _ _ [.cells (pC p)] hJ
 have hA1:At (hp++[.cells (pC p)]) hp.length (.cells (pC p)):=by simp[At]
 have y1:=ld66 hA1
 simp[hlt,<- hpi,hp2.1,-zy,q1,↓q3,y1]
 generalize hp++[Obj.cells (pC p)]=H0 at hJ1 hA1
 generalize hp.length=C at hJ1 hA1
 have hel:=hp2.2
 refine z1o p.ents.length (fun j env h=>∃(x3 x7 x8 x12 x13 x14 x15:D) ,env=[.yld L,.iptr [y1p l],.loc C 0,x3,y1p l,dI l.length,dI i,x7,x8,.imm .none (p.ents.map y2z),dI p.ents.length,dI j,x12,x13,x14,x15] /\
  J C ((p.ents.drop j).map (fun x=>(p.minute,x))++rest) h/\At h C (.cells (pC p))) 0 (by omega) ⟨_,_,_,_,_,_,_,rfl,by simpa using hJ1,hA1⟩ ?_
 rintro j env h hj ⟨x3,x7,x8,x12,x13,x14,x15,rfl,hJ2,hA2⟩
 by_cases hlt2:j<p.ents.length
 rotate_left
 ·have:j=p.ents.length:=by omega
  subst this
  simp only[iz,aO,bQ] at hJ2
  rw[hrest] at hJ2
  simp[hlt,hup]
  exact⟨C,hJ2⟩
 have hup2:=zm hlt2 (by omega)
 obtain⟨x,hx⟩:∃ x,x=p.ents[j]:=⟨_,rfl⟩
 rw[z6l hlt2,av,ba,<- hx] at hJ2
 have y2:=fun r:List Obj=>ld2 (hA2.app (r:=r))
 have y3:yv E (h++[.cells [dI x.kind,dI x.idx,dI x.amt]]) 72 (.loc h.length 0)=some (y2z x):=by
  unfold yv
  simp only[List.getElem?_concat_length]
  rfl
 obtain⟨t,hp2,e1,e2,e3⟩:=hy C (p.minute,x) _ _ _ (hext _ _ _ [.cells [dI x.kind,dI x.idx,dI x.amt]] hJ2) (hA2.app)
 simp only at e1
 cases t with
 |true=>
  obtain⟨hJ3,hA3⟩:=e2 rfl
  rw[lS] at hJ3
  simp[hlt2,<- hx,-zy,y2,y3,e1,hup2]
  exact⟨hJ3,hA3⟩
 |false=>
  have hF:=e3 rfl
  simp[hlt2,<- hx,-zy,y2,y3,e1,hF]

def y46(k i m:Int):List (Int × Ent)->Int
 |[]=>0
 |x::l=>(if x.1<=m/\x.2.kind=k/\x.2.idx=i then x.2.amt else 0)+y46 k i m l
theorem z7e{k i m:Int}:∀(a b:List (Int × Ent)),y46 k i m (a++b)=y46 k i m a+y46 k i m b
 |[],b=>by simp[y46]
 |x::a,b=>by simp only[ba,y46,z7e a b];omega
theorem zac{k i m n:Int}:∀(l:List Ent),y46 k i m (l.map fun x=>(n,x))=if n<=m then y38 k i l else 0
 |[]=>by simp[y46,y38]
 |x::l=>by
  have ih:=zac (k:=k) (i:=i) (m:=m) (n:=n) l
  simp only[av,y46,ih,y38]
  by_cases h1:n<=m
  ·simp[h1]
  ·simp[h1]
theorem z8j{k i m:Int}:∀(l:List Pst),y46 k i m (y3x l)=y4j k i m l
 |[]=>rfl
 |p::l=>by rw[z49,z7e,zac,z8j l];rfl
theorem zav:∀(l:List Pst),(y3x l).length=entN l
 |[]=>rfl
 |p::l=>by rw[z49,aw,aA,zav l];rfl
theorem zif{l:List Pst}{x:Int × Ent}(h:x ∈ y3x l):∃ p,p ∈ l/\x.2 ∈ p.ents:=by
 obtain⟨p,hp,hx⟩:=List.mem_flatMap.1 h
 obtain⟨y,hy,rfl⟩:=aT.1 hx
 exact⟨p,hp,hy⟩

open Classical in
noncomputable def blD(l:List Pst)(k i m:Int):D:=.tup [dI (if rdE tgB l=0 then y4j k i m l else 0),dI (rdE tgB l)]

theorem yaq(l:List Pst)(ok:y83 l)(hN:entN l<=1000000)(k i m:Int):y1l E (dL E) 318 [y1p l,y3j k i,dI m]=some (blD l k i m):=by
 have e324:=yb1 l ok
 have e359:=r359 l
 refine zu c318 (by simp) ?_
 conv in t318=>reduce;dsimp[aD]
 unfold blD
 by_cases h0:rdE tgB l=0
 ·have v:=z1m.1 h0
  rw[h0] at e324 ⊢
  rw[if_pos rfl]
  obtain⟨B,hB⟩:∃ B,B=y4j k i m l:=⟨_,rfl⟩
  rw[<- hB]
  simp[t318,n318,zl,e324,e359]
  refine⟨380,_,rfl,?_⟩
  intro L hL hcb
  obtain⟨J,hJ⟩:∃ J:Nat->List (Int × Ent)->List Obj->Prop,J=fun f rem hp'=>2<=f /\ ∃(c:Int),At hp' 0 (.cells [dI c])/\At hp' 1 (L false none)/\c+y46 k i m rem=B/\rem.length<=1000000 /\ -(1099511627776*(1000000 - rem.length):Int)<=c/\c<=1099511627776*(1000000 - rem.length) /\ ∀ x,x ∈ rem->y4n x.2:=⟨_,rfl⟩
  have key:=i380 l ok 1 J (fun _=>False) (by
    rw[hJ]
    rintro f rem hp' r ⟨hf,c,a1,a2,a3⟩
    exact⟨hf,c,a1.app,a2.app,a3⟩) (by
    rw[hJ]
    rintro f rem hp' r ⟨hf,c,a1,a2,a3⟩
    exact⟨by have:=a2.lt;omega,c,a1.app,a2.app,a3⟩) (by
    intro f x rem hp1 o hj ho
    rw[hJ] at hj
    obtain⟨hf,c,a1,a2,a3,a4,a5,a6,a7⟩:=hj
    have l1:=a2.lt
    have⟨ok1,ok2,ok3,ok4,ok5⟩:=a7 x (by simp)
    obtain⟨mi,⟨kd,ix,am⟩⟩:=x
    simp only at ok1 ok2 ok3 ok4 ok5
    simp only[aF] at a4 a5 a6
    simp only[y46] at a3
    obtain⟨H1,hH1⟩:∃ H1,H1=hp1.set 1 (L true none):=⟨_,rfl⟩
    have b0:At H1 0 (.cells [dI c]):=by rw[hH1];exact a1.ne (by omega)
    have b1:At H1 1 (L true none):=by rw[hH1];exact At.self l1
    have bf:At H1 f o:=by rw[hH1];exact ho.ne (by omega)
    have hw:aB.wrap (c+am)=c+am:=zc ⟨by omega,by omega⟩
    have l0:=b0.lt
    obtain⟨t,hp2,e1,e2⟩:=hcb [dI mi,y2z ⟨kd,ix,am⟩] hp1 (fun t hp'=>t=true/\J f rem hp'/\At hp' f o) rfl a2 (by
     rw[show[Obj.cells [D.int aB 0]].length=1 from rfl]
     have y2:∀ r:List Obj,(hp1++r)[1]? = some (L false none):=fun r=>a2.app
     have y6:∀ r:List Obj,(hp1++r).set 1 (L true none)=H1++r:=fun r=>by rw[z20 l1,hH1]
     have y7:hp1.length=H1.length:=by rw[hH1,bq]
     have y0:∀ r:List Obj,(H1++r)[0]? = some (.cells [dI c]):=fun r=>b0.app
     have y8:∀(o:Obj) (r:List Obj),(H1++r).set 0 o=H1.set 0 o++r:=fun o r=>z20 l0
     have y9:∀(o:Obj) (r:List Obj),(H1.set 0 o++r)[1]? = some (L true none):=fun o r=>(b1.ne (by omega)).app
     have y10:∀ r:List Obj,(H1++r)[1]? = some (L true none):=fun r=>b1.app
     have fin:∀(c':Int) (G:List Obj),At G 0 (.cells [dI c'])->1<G.length->At G f o->c'+y46 k i m rem=B -> -(1099511627776*(1000000 - rem.length):Int)<=c'->c'<=1099511627776*(1000000 - rem.length)->∀ r:List Obj,J f rem ((G++r).set 1 (L false none))/\At ((G++r).set 1 (L false none)) f o:=by
      intro c' G g0 gl gf g3 g4 g5 r
      have e:(G++r).set 1 (L false none)=G.set 1 (L false none)++r:=z20 gl
      rw[e,hJ]
      exact⟨⟨hf,c',(g0.ne (by omega)).app,(At.self gl).app,g3,by omega,g4,g5,fun x hx=>a7 x (by simp[hx])⟩,(gf.ne (by omega)).app⟩
     by_cases hh:mi<=m/\kd=k/\ix=i
     ·obtain⟨g1,g2,g3⟩:=hh
      subst g2 g3
      simp[y29,↓y2,↓y6,y7,↓y0,↓y8,↓y9,↓y10,g1,hw]
      rw[if_pos ⟨g1,rfl,rfl⟩] at a3
      exact fin (c+am) _ (At.self l0) (by rw[bq];omega) (bf.ne (by omega)) (by omega) (by omega) (by omega) _
     ·rw[if_neg hh] at a3
      have hF:=fin c H1 b0 (by omega) bf (by omega) (by omega) (by omega)
      by_cases g1:mi<=m
      ·have hbf:(kd == k && ix == i)=false:=by
        rw[Bool.and_eq_false_iff]
        by_cases g2:kd=k
        ·right
         have : ¬ ix=i:=fun g3=>hh ⟨g1,g2,g3⟩
         simpa using this
        ·left;simpa using g2
       simp[y29,↓y2,↓y6,y7,↓y10,g1,hbf]
       exact hF _
      ·simp[y29,↓y2,↓y6,y7,↓y10,g1]
       exact hF _)
    exact⟨t,hp2,e1,fun _=>e2.2,fun h=>by rw[e2.1] at h;cases h⟩) (hp:=[.cells [dI 0],L false none]) (f0:=2) (by
    rw[hJ]
    have hlen:=zav l
    refine⟨aj _,0,rfl,rfl,by rw[z8j,Int.zero_add];exact hB.symm,by omega,by omega,by omega,fun x hx=>?_⟩
    obtain⟨p,hp,hx2⟩:=zif hx
    exact(v.2.1 p hp).fm.ents.ok _ hx2)
  obtain⟨d,hp',h1,h2⟩:=key
  rcases h2 with⟨f,h2⟩ | h2
  ·rw[hJ] at h2
   obtain⟨_,c,a1,a2,a3,_⟩:=h2
   simp only[y46,Int.add_zero] at a3
   subst a3
   refine⟨d,hp',h1,.inl ⟨a2,?_⟩⟩
   have l0:=a1.lt
   have c0:∀ o,((hp'.set 1 .dead).set 0 o)[0]? = some o:=fun o=>At.self (by simpa using l0)
   simp[a1.eq,↓c0]
  ·exact h2.elim
 ·rw[if_neg h0]
  simp[t318,n318,zl,e324,h0]

theorem z4t(p:Int × Int)(l:List (Int × Int)):yf (p::l)=dI p.1::dI p.2::yf l:=rfl
theorem z3v:∀(l:List (Int × Int)),(yf l).length=l.length*2
 |[]=>rfl
 |p::l=>by rw[z4t,aF,aF,z3v l,aF];omega
theorem z8h(a b:List (Int × Int)):yf (a++b)=yf a++yf b:=List.flatMap_append
theorem zdd:∀(l:List (Int × Int)),y3p (yf l)=some l
 |[]=>rfl
 |p::l=>by rw[z4t];simp only[y3p,zdd l]
theorem zbf:∀(l:List (Int × Int)) (k:Nat),(yf l).take (k*2)=yf (l.take k)
 |[],k=>by simp[yf]
 |p::l,0=>rfl
 |p::l,k+1=>by
  rw[z4t,show(k+1)*2=k*2+1+1 from by omega,fx,fx,zbf l k];rfl
theorem zrw{l:List (Int × Int)}{k:Nat}(h:k<l.length):y1x (yf l) (k*2) 2=some [dI l[k].1,dI l[k].2]:=by
 have e:yf l=yf (l.take k)++[dI l[k].1,dI l[k].2]++yf (l.drop (k+1)):=by
  conv=>lhs;rw[<- bA k l,b7 h,z8h,z4t]
  simp
 rw[e]
 exact z5w [dI l[k].1,dI l[k].2] _ _ _ (by rw[z3v,aW];omega)
theorem zrx{l:List (Int × Int)}{k:Nat}{a:Int × Int}(h:k<l.length):setCells (yf l) (k*2) [dI a.1,dI a.2]=yf (l.set k a):=by
 have e:yf l=yf (l.take k)++(dI l[k].1::dI l[k].2::yf (l.drop (k+1))):=by
  conv=>lhs;rw[<- bA k l,b7 h,z8h,z4t]
 have hl:(yf (l.take k)).length=k*2:=by rw[z3v,aW];omega
 have e2:=zp (a:=yf (l.take k)) (b:=dI l[k].1::dI l[k].2::yf (l.drop (k+1))) (off:=0) (vs:=[dI a.1,dI a.2])
 have e3:k*2+0=k*2:=rfl
 rw[hl,e3] at e2
 rw[e,e2,List.set_eq_take_append_cons_drop,if_pos h,z8h,z4t]
 rfl
theorem ya4{H:List Obj}{q k:Nat}{l:List (Int × Int)}(A:At H q (.cells (yf l)))(h:k<l.length):yv E H 65 (.loc q (k*2))=some (y3j l[k].1 l[k].2):=by
 unfold yv
 simp only[A.eq,show(E.ty 65).size=2 from rfl,zrw h]
 rfl
theorem st65{H:List Obj}{q k:Nat}{l:List (Int × Int)}{a:Int × Int}(A:At H q (.cells (yf l)))(h:k<l.length):y3i E H 65 (.loc q (k*2)) (y3j a.1 a.2)=some (H.set q (.cells (yf (l.set k a)))):=by
 unfold y3i
 simp only[A.eq]
 rw[if_pos ⟨rfl,rfl,by rw[z3v,show(E.ty 65).size=2 from rfl];omega⟩]
 rw[<- zrx h]
 rfl

theorem s361{hp:List Obj}{q:Nat}{xs:List (Int × Int)}{gr ag:Bool}{k:Nat}(hk:k=362\/k=386)(A:At hp q (.cells (yf xs)))(hl:xs.length<=1000000) :
  y1h E (dL E) (361) [.sl q 0 xs.length 2 ag gr,.fn k []] hp=some (.tup [],hp.set q (.cells (yf (y1s xs)))):=by
 have e:E.fn (361)=some f361:=rfl
 have e2:E.mp 361=false:=rfl
 have e3:[362,386].contains k=true:=by rcases hk with rfl | rfl <;> rfl
 have e4:E.prim 0=y67 [362,386]:=rfl
 have e5:y67 [362,386] [.sl q 0 xs.length 2 ag gr,.fn k []] hp=some (.tup [],hp.set q (.cells (yf (y1s xs)))):=by
  unfold y67
  simp only[e3,if_true,A.eq]
  rw[if_pos ⟨z3v xs,by omega⟩,zdd]
 unfold y1h
 simp only[e,e2,f361,yk,z9q,z6o,zh3,z5o,z7u,y27]
 simp[ye,yd,yh,y1y,DOp.fin,yl,ya,ym,gOf,z7u,y1j,y43,yg,y23,z5o,z9p,yw,e4,e5,y26]
theorem ydg{hp:List Obj}{k:Nat}(hk:k=362\/k=386):y1h E (dL E) (361) [.imm .exact [],.fn k []] hp=some (.tup [],hp):=by
 have e:E.fn (361)=some f361:=rfl
 have e2:E.mp 361=false:=rfl
 have e3:[362,386].contains k=true:=by rcases hk with rfl | rfl <;> rfl
 have e4:E.prim 0=y67 [362,386]:=rfl
 have e5:y67 [362,386] [.imm .exact [],.fn k []] hp=some (.tup [],hp):=by
  unfold y67
  simp only[e3,if_true]
 unfold y1h
 simp only[e,e2,f361,yk,z9q,z6o,zh3,z5o,z7u,y27]
 simp[ye,yd,yh,y1y,DOp.fin,yl,ya,ym,gOf,z7u,y1j,y43,yg,y23,z5o,z9p,yw,e4,e5,y26]

def y6h(xs:List (Int × Int))(m:Nat):List (Int × Int):=y1d (xs.take m)++xs.drop (y1d (xs.take m)).length
theorem zlen{xs:List (Int × Int)}{m:Nat}:(y1d (xs.take m)).length<=m:=aJ z6q (by rw[aW];omega)
theorem z7y{xs:List (Int × Int)}{m:Nat}(h:m<=xs.length):(y6h xs m).length=xs.length:=by
 have:=zlen (xs:=xs) (m:=m)
 unfold y6h
 rw[aw,dR];omega
theorem zfy{xs:List (Int × Int)}{m j:Nat}(hj:(y1d (xs.take m)).length<=j)(h:j<xs.length)(hm:m<=xs.length):(y6h xs m)[j]'(by rw[z7y hm];exact h)=xs[j]:=by
 have:(y6h xs m)[j]? = some xs[j]:=by
  unfold y6h
  rw[aC hj,ca,show(y1d (xs.take m)).length+(j - (y1d (xs.take m)).length)=j from by omega,ae h]
 rw[ae (by rw[z7y hm];exact h)] at this
 exact cg this
theorem zld{xs:List (Int × Int)}{m:Nat}(h0:0<m)(h:m<=xs.length):(xs.take m).getLast? = some (xs[m - 1]'(by omega)):=by
 rw[fG,aW,ce h,List.getElem?_take,if_pos (by omega),ae]
theorem zcm{xs:List (Int × Int)}{m:Nat}(h0:0<m)(h:m<xs.length):y1d (xs.take (m+1))=if xs[m - 1]'(by omega)=xs[m] then y1d (xs.take m) else y1d (xs.take m)++[xs[m]]:=by
 rw[aU h,zb3,zld h0 (by omega)]
 simp
theorem zrb{xs:List (Int × Int)}{m:Nat}(h0:0<m)(h:m<xs.length)(he:xs[m - 1]'(by omega)=xs[m]):y6h xs (m+1)=y6h xs m:=by
 unfold y6h;rw[zcm h0 h,if_pos he]
theorem zra{xs:List (Int × Int)}{m:Nat}(h0:0<m)(h:m<xs.length)(he : ¬ xs[m - 1]'(by omega)=xs[m]):y6h xs (m+1)=(y6h xs m).set (y1d (xs.take m)).length xs[m]:=by
 have hz:=zlen (xs:=xs) (m:=m)
 unfold y6h
 rw[zcm h0 h,if_neg he]
 rw[ff _ _ (aj _),gC]
 generalize hc:(y1d (xs.take m)).length=c at hz
 rw[aw,hc,b7 (show c<xs.length by omega),List.set_cons_zero]
 simp only[bY,ba,bQ]
 rfl

def y4u(q:Nat)(h h':List Obj):Prop:=h.length<=h'.length /\ ∀ j o,j ≠ q->At h j o->At h' j o
theorem y4u.refl{q:Nat}{h:List Obj}:y4u q h h:=⟨aj _,fun _ _ _ a=>a⟩
theorem y4u.app{q:Nat}{h h' r:List Obj}(k:y4u q h h'):y4u q h (h'++r):=⟨by rw[aw];have:=k.1;omega,fun j o hj a=>(k.2 j o hj a).app⟩
theorem y4u.set{q:Nat}{h h':List Obj}{o:Obj}(k:y4u q h h'):y4u q h (h'.set q o):=⟨by rw[bq];exact k.1,fun j o hj a=>(k.2 j o hj a).ne (Ne.symm hj)⟩

theorem z5p{xs:List (Int × Int)}(h:xs.length<2):y1d xs=xs:=by
 match xs,h with
 |[],_=>rfl
 |[x],_=>rfl
def Cp(q:Nat)(hp:List Obj)(xs:List (Int × Int))(d:D)(hp':List Obj):Prop:=
 ∃ cs,d=.sl q 0 (y1d xs).length 2 true true/\At hp' q (.cells cs)/\cs.take ((y1d xs).length*2)=yf (y1d xs)/\y4u q hp hp'

theorem zr4{a b:Int × Int}:y2m E .eql 65 (y3j a.1 a.2) (y3j b.1 b.2)=some (.bool (decide (a=b))):=by
 obtain⟨a1,a2⟩:=a
 obtain⟨b1,b2⟩:=b
 have:y2m E .eql 65 (y3j a1 a2) (y3j b1 b2)=some (.bool ((a1 == b1) && ((a2 == b2) && true))):=rfl
 rw[this]
 simp only[aa,D.bool.injEq,aq,jw]
 by_cases h1:a1=b1 <;> by_cases h2:a2=b2 <;> simp[h1,h2]
theorem zuy{a b:Int × Int}:y2m E .neq 65 (y3j a.1 a.2) (y3j b.1 b.2)=some (.bool (!decide (a=b))):=by
 obtain⟨a1,a2⟩:=a
 obtain⟨b1,b2⟩:=b
 have:y2m E .neq 65 (y3j a1 a2) (y3j b1 b2)=some (.bool (!((a1 == b1) && ((a2 == b2) && true)))):=rfl
 rw[this]
 simp only[aa,D.bool.injEq,aq,jw]
 by_cases h1:a1=b1 <;> by_cases h2:a2=b2 <;> simp[h1,h2]

theorem sl67{q n k:Nat}{gr:Bool}(h:k<=n):y15 E 67 (.sl q 0 n 2 true gr) (some (dI k)) none none=some (.sl q (k*2) (n - k) 2 true false):=by
 have hk:(E.ty 67).k=.slice 65:=rfl
 unfold y15
 simp only[hk,bnd,gU,if_true,cF]
 rw[if_pos ⟨h,aj _,rfl⟩,bB]
theorem ydd{H:List Obj}{q n k:Nat}{cs:List D}(A:At H q (.cells cs))(h:k*2<=cs.length):y2j E H 67 (.sl q 0 n 2 true true) (dI k)=some (.sl q 0 k 2 true true,H):=by
 have hk:(E.ty 67).k=.slice 65:=rfl
 have hz:(E.ty 65).size=2:=rfl
 unfold y2j
 simp only[hk,hz,A.eq,gU,true_and,cF]
 rw[if_pos ⟨h,by decide⟩]
theorem ye4{H:List Obj}{q kk:Nat}{zs:List (Int × Int)}{gr:Bool}(A:At H q (.cells (yf zs)))(h:kk<=zs.length) :
  ∃ cs,y9p E H 67 (.sl q (kk*2) (zs.length - kk) 2 true gr)=some (.undef,H.set q (.cells cs))/\cs.take (kk*2)=yf (zs.take kk):=by
 have hk:(E.ty 67).k=.slice 65:=rfl
 have hz:y1u E 65=some (y3j 0 0):=rfl
 refine⟨setCells (yf zs) (kk*2) (yo (af (zs.length - kk) (y3j 0 0))),?_,?_⟩
 ·unfold y9p
  simp only[hk,hz,A.eq]
  rw[if_pos ⟨rfl,by rw[z3v];omega⟩]
 ·have hl:(yf (zs.take kk)).length=kk*2:=by rw[z3v,aW];omega
  have e:yf zs=yf (zs.take kk)++yf (zs.drop kk):=by rw[<- z8h,bA]
  have e2:=zp (a:=yf (zs.take kk)) (b:=yf (zs.drop kk)) (off:=0) (vs:=yo (af (zs.length - kk) (y3j 0 0)))
  rw[hl] at e2
  have e3:kk*2+0=kk*2:=rfl
  rw[e3] at e2
  rw[e,e2,bK (by omega),bE (by omega)]

theorem s363{hp:List Obj}{q:Nat}{xs:List (Int × Int)}(A:At hp q (.cells (yf xs)))(hl:xs.length<=1000000) :
  ∃ d hp',y1h E (dL E) 363 [.sl q 0 xs.length 2 true true] hp=some (d,hp')/\Cp q hp xs d hp':=by
 refine z34 c363 (args:=[.sl q 0 xs.length 2 true true]) (hp:=hp) (R:=Cp q hp xs) (by simp) ?_
 conv in t363=>reduce;dsimp[aD]
 by_cases h2:xs.length<2
 ·have h2':(xs.length:Int)<2:=by omega
  simp[t363,n363,h2']
  exact⟨_,by rw[z5p h2],A,by rw[z5p h2,zbf,be],y4u.refl⟩
 have h2' : ¬ (xs.length:Int)<2:=by omega
 simp[t363,n363,h2']
 refine z1o xs.length (fun k env h=>∃(x3 x4 x5 x6 x7 x8 x9 x10:D) ,env=[.sl q 0 xs.length 2 true true,.imm .exact [],dI k,x3,x4,x5,x6,x7,x8,x9,x10]/\1<=k/\At h q (.cells (yf xs))/\y4u q hp h/\y1d (xs.take k)=xs.take k) 1 (by omega) ⟨_,_,_,_,_,_,_,_,rfl,aj _,A,y4u.refl,z5p (by rw[aW];omega)⟩ ?_
 rintro k env h hk ⟨x3,x4,x5,x6,x7,x8,x9,x10,rfl,hk1,B,K,hc⟩
 by_cases hlt:k<xs.length
 rotate_left
 ·have:k=xs.length:=by omega
  subst this
  rw[be] at hc
  simp
  exact⟨_,by rw[hc],B,by rw[hc,zbf,be],K⟩
 have hup:=zm hlt (by omega)
 have hw1:aB.wrap ((k:Int) - 1)=((k - 1:Nat):Int):=by
  rw[zc ⟨by omega,by omega⟩];omega
 have y1:∀ r:List Obj,yv E (h++r) 65 (.loc q (k*2))=some (y3j xs[k].1 xs[k].2):=fun r=>ya4 B.app hlt
 have y2:∀ r:List Obj,yv E (h++r) 65 (.loc q ((k - 1)*2))=some (y3j (xs[k - 1]'(by omega)).1 (xs[k - 1]'(by omega)).2):=fun r=>ya4 B.app (by omega)
 have hk1':(k - 1:Nat)<xs.length:=by omega
 have ez:=zr4 (a:=xs[k]) (b:=xs[k - 1]'(by omega))
 by_cases he:xs[k - 1]'(by omega)=xs[k]
 ·have he':=he.symm
  have hs:=sl67 (q:=q) (gr:=true) (show k<=xs.length by omega)
  have hc1:y1d (xs.take (k+1))=xs.take k:=by rw[zcm hk1 hlt,if_pos he,hc]
  have hz1:y6h xs (k+1)=xs:=by
   unfold y6h
   rw[hc1,aW,ce (by omega),bA]
  have hl1:(y1d (xs.take (k+1))).length=k:=by rw[hc1,aW];omega
  simp[hlt,hup,hw1,hk1',-zy,y1,y2,ez,he',hs]
  refine z1o (xs.length - k) (fun j env h=>∃(x5 x6 x7 x8 x9 x10:D) ,env=[.sl q 0 xs.length 2 true true,.imm .exact [],dI (y1d (xs.take (k+j))).length,.sl q (k*2) (xs.length - k) 2 true false,dI j,x5,x6,x7,x8,x9,x10] /\
   1<=j/\(y1d (xs.take (k+j))).length+1<=k+j/\At h q (.cells (yf (y6h xs (k+j))))/\y4u q hp h) 1 (by omega) ⟨_,_,_,_,_,_,by rw[hl1];rfl,aj _,by rw[hl1];omega,by rw[hz1];exact B.app,K.app⟩ ?_
  rintro j env h3 hj ⟨x5,x6,x7,x8,x9,x10,rfl,hj1,hkk,B3,K3⟩
  by_cases hlt2:j<xs.length - k
  rotate_left
  ·have:j=xs.length - k:=by omega
   subst this
   have hkn:k+(xs.length - k)=xs.length:=by omega
   rw[hkn] at hkk B3 ⊢
   rw[be] at hkk ⊢
   have hzl:=z7y (xs:=xs) (aj _)
   have hzt:(y6h xs xs.length).take (y1d xs).length=y1d xs:=by unfold y6h;rw[be];simp
   obtain⟨cs,h4,h5⟩:=ye4 (gr:=false) B3 (kk:=(y1d xs).length) (by omega)
   rw[hzl] at h4
   rw[hzt] at h5
   have hs2:=sl67 (q:=q) (gr:=true) (show(y1d xs).length<=xs.length from z6q)
   have hs3:=ydd (n:=xs.length) (k:=(y1d xs).length) (At.self (o:=.cells cs) B3.lt) (by have:=congrArg dD h5;rw[z3v,aW] at this;have:=z6q (l:=xs);omega)
   simp[hs2,hs3,h4]
   exact⟨cs,rfl,At.self B3.lt,h5,K3.set⟩
  have hm:k+j<xs.length:=by omega
  have hnx:k+(j+1)=k+j+1:=by omega
  have hzl:=z7y (xs:=xs) (m:=k+j) (by omega)
  have g1:=zfy (xs:=xs) (m:=k+j) (j:=k+j) (by omega) hm (by omega)
  have g2:=zfy (xs:=xs) (m:=k+j) (j:=k+j - 1) (by omega) (by omega) (by omega)
  have hup2:=zm hlt2 (by omega)
  have hwj:aB.wrap ((j:Int) - 1)=((j - 1:Nat):Int):=by
   rw[zc ⟨by omega,by omega⟩];omega
  have hj1':j - 1<xs.length - k:=by omega
  have z1:∀ r:List Obj,yv E (h3++r) 65 (.loc q (k*2+j*2))=some (y3j xs[k+j].1 xs[k+j].2):=fun r=>by
   have:=ya4 (k:=k+j) (B3.app (r:=r)) (by omega)
   rw[g1,a8] at this
   exact this
  have z2:∀ r:List Obj,yv E (h3++r) 65 (.loc q (k*2+(j - 1)*2))=some (y3j (xs[k+j - 1]'(by omega)).1 (xs[k+j - 1]'(by omega)).2):=fun r=>by
   have:=ya4 (k:=k+j - 1) (B3.app (r:=r)) (by omega)
   rw[g2,show(k+j - 1)*2=k*2+(j - 1)*2 from by omega] at this
   exact this
  have zn:=zuy (a:=xs[k+j]) (b:=xs[k+j - 1]'(by omega))
  by_cases he2:xs[k+j - 1]'(by omega)=xs[k+j]
  ·have hz2:=zrb (by omega) hm he2
   have hcm:=zcm (by omega) hm
   rw[if_pos he2] at hcm
   simp[hlt2,-zy,z1,z2,zn,he2.symm,hwj,hj1',hup2]
   rw[hnx,hcm,hz2]
   exact⟨rfl,by omega,B3.app,K3.app⟩
  ·have hz2:=zra (by omega) hm he2
   have hcm:=zcm (by omega) hm
   rw[if_neg he2] at hcm
   have he3 : ¬ xs[k+j]=xs[k+j - 1]'(by omega):=fun h=>he2 h.symm
   obtain⟨kk,hkke⟩:∃ kk,kk=(y1d (xs.take (k+j))).length:=⟨_,rfl⟩
   have hcl:(y1d (xs.take (k+(j+1)))).length=kk+1:=by rw[hnx,hcm,aw,hkke];rfl
   rw[<- hkke] at hz2 hkk
   have hst:∀ r:List Obj,y3i E (h3++r) 65 (.loc q (kk*2)) (y3j xs[k+j].1 xs[k+j].2)=some ((h3++r).set q (.cells (yf ((y6h xs (k+j)).set kk xs[k+j])))):=fun r=>st65 B3.app (by omega)
   have hkn:kk<xs.length:=by omega
   have hup3:=zm hkn (by omega)
   simp[hlt2,-zy,z1,z2,zn,he3,hwj,hj1',hup2,<- hkke,hst,hkn,hup3,hcl]
   exact⟨by omega,by rw[hnx,hz2];exact At.self (At.lt B3.app),K3.app.set⟩
 ·have he' : ¬ xs[k]=xs[k - 1]'(by omega):=fun h=>he h.symm
  simp[hlt,hup,hw1,hk1',-zy,y1,y2,ez,he']
  exact⟨B.app,K.app,by rw[zcm hk1 hlt,if_neg he,hc,<- aU hlt]⟩

def y5i(p:Int × Int):D:=y3j p.1 p.2
abbrev yae(l:List (Int × Int)):D:=.imm .none (l.map y5i)
theorem z9s{sz:Nat}{rest:List D}:∀(els:List D),(∀ x,x ∈ els->x.cellsL.length=sz/\yj true x.cellsL=some x)->y2l sz true els.length (yo els++rest)=some els
 |[],_=>rfl
 |x::els,h=>by
  obtain⟨h1,h2⟩:=h x (by simp)
  have ih:=z9s (rest:=rest) els fun y hy=>h y (by simp[hy])
  have ht:=z5w x.cellsL (yo els++rest) 0 [] rfl
  rw[bQ,h1] at ht
  rw[aF,y2l,z14,bY,ht]
  simp only[h2]
  rw[show(x.cellsL++(yo els++rest)).drop sz=yo els++rest from by rw[<- h1];simp,ih]
theorem zdt:∀(l:List (Int × Int)),yo (l.map y5i)=yf l
 |[]=>rfl
 |p::l=>by rw[av,z14,zdt l];rfl
theorem zoz{X:List Obj}{q n:Nat}{L:List (Int × Int)}{gr:Bool}{cs:List D}(h:At X q (.cells cs))(hc:cs.take (L.length*2)=yf L):frz X (n+3) (.sl q 0 L.length 2 true gr)=some (yae L):=by
 have hr:yx X q=some cs:=by unfold yx;rw[h.eq]
 have hcs:cs=yo (L.map y5i)++cs.drop (L.length*2):=by rw[zdt,<- hc,bA]
 have hch:=z9s (sz:=2) (rest:=cs.drop (L.length*2)) (L.map y5i) (fun x hx=>by obtain⟨p,_,rfl⟩:=aT.1 hx;exact⟨rfl,rfl⟩)
 rw[<- hcs,aA] at hch
 show(match yx X q with | some cs=>(match y2l 2 true L.length (cs.drop 0) with | some els=>(y1o (frz X (n+2)) els).map (D.imm .none) | none=>none) | none=>none)=_
 rw[hr]
 simp only[cU]
 rw[hch]
 simp only[]
 rw[show y1o (frz X (n+2)) (L.map y5i)=some (L.map y5i) from z17 fun _ _=>rfl]
 rfl

theorem ydf(hp:List Obj):y1h E (dL E) 363 [.imm .exact []] hp=some (.imm .exact [],hp):=by
 have:∃ d hp',y1h E (dL E) 363 [.imm .exact []] hp=some (d,hp')/\(d=.imm .exact []/\hp'=hp):=by
  refine z34 c363 (args:=[.imm .exact []]) (hp:=hp) (R:=fun d hp'=>d=.imm .exact []/\hp'=hp) (by simp) ?_
  conv in t363=>reduce;dsimp[aD]
  simp[t363,n363]
 obtain⟨d,hp',e,rfl,rfl⟩:=this
 exact e

def y4g(f:Nat)(H:List Obj)(acc:List (Int × Int))(d:D):Prop:=
 (acc=[]/\d=.imm .exact []) \/ ∃ k,d=.sl k 0 acc.length 2 true true/\2<=k/\k ≠ f/\At H k (.cells (yf acc))
theorem y4g.app{f:Nat}{H r:List Obj}{acc:List (Int × Int)}{d:D}(h:y4g f H acc d):y4g f (H++r) acc d:=by
 rcases h with h | ⟨k,h1,h2,h3,h4⟩
 ·exact .inl h
 ·exact .inr ⟨k,h1,h2,h3,h4.app⟩
theorem y4g.set{f j:Nat}{H:List Obj}{o:Obj}{acc:List (Int × Int)}{d:D}(h:y4g f H acc d)(hj:j<2):y4g f (H.set j o) acc d:=by
 rcases h with h | ⟨k,h1,h2,h3,h4⟩
 ·exact .inl h
 ·exact .inr ⟨k,h1,h2,h3,h4.ne (by omega)⟩
theorem y4g.own{f:Nat}{H r:List Obj}{acc:List (Int × Int)}{d:D}(h:y4g f H acc d):y4g H.length (H++r) acc d:=by
 rcases h with h | ⟨k,h1,h2,h3,h4⟩
 ·exact .inl h
 ·exact .inr ⟨k,h1,h2,by have:=h4.lt;omega,h4.app⟩

theorem zqg{f:Nat}{H:List Obj}{acc:List (Int × Int)}{d:D}{a b:Int}(h:y4g f H acc d)(hl:acc.length<=1000000)(hf:f<H.length)(h2:2<=H.length) :
  ∃ d' H',y2i E H 67 67 d (.imm .exact [y3j a b])=some (d',H')/\y4g f H' (acc++[(a,b)]) d'/\d'.storable=true/\d'.cellsL=[d'] /\ ∀ j o,j<2\/j=f->At H j o->At H' j o:=by
 have hlo:y13 H 2 true (.imm .exact [y3j a b])=some [y3j a b]:=rfl
 have e67:(E.ty 67).k=.slice 65:=rfl
 rcases h with⟨rfl,rfl⟩ | ⟨k,rfl,hk,hkf,hA⟩
 ·refine⟨.sl H.length 0 1 2 true true,H++[.cells (yf [(a,b)])],?_,.inr ⟨H.length,rfl,by omega,by omega,by simp[At]⟩,rfl,rfl,fun j o _ a=>a.app⟩
  have h5:(0+1)*((E.ty 65).bytes+1)<=yi/\(E.ty 65).bytes<=65536/\(y1u E 65).isSome=true/\y2p (E.ty 65).size ([]:List D)=true:=⟨by decide,by decide,rfl,rfl⟩
  unfold y2i
  simp only[e67]
  rw[show y13 H (E.ty 65).size (E.ty 65).ag (.imm .exact [y3j a b])=some [y3j a b] from hlo]
  simp only[aF,bp]
  rw[if_neg (by simp),if_pos h5]
  rfl
 ·have hb:(E.ty 65).bytes=16:=rfl
  refine⟨.sl H.length 0 (acc.length+1) 2 true true,H.set k .dead++[.cells (yf (acc++[(a,b)]))],?_,.inr ⟨H.length,by rw[aw];rfl,by omega,by omega,by simp[At]⟩,rfl,rfl,fun j o hj a=>(a.ne (by omega)).app⟩
  have h5:(acc.length+1)*((E.ty 65).bytes+1)<=yi/\(E.ty 65).bytes<=65536/\(y1u E 65).isSome=true/\2=(E.ty 65).size/\(yf acc).length=acc.length*2:=⟨by rw[hb];simp[yi];omega,by decide,rfl,rfl,z3v acc⟩
  unfold y2i
  simp only[e67]
  rw[show y13 H (E.ty 65).size (E.ty 65).ag (.imm .exact [y3j a b])=some [y3j a b] from hlo,hA.eq]
  simp only[aF,bp]
  rw[if_neg (by simp),if_pos h5,z8h]
  rfl

def yah(x:Int × Ent):Int × Int:=(x.2.kind,x.2.idx)
theorem zb9:∀(l:List Pst),(y3x l).map yah=yav l
 |[]=>rfl
 |p::l=>by
  have ih:=zb9 l
  rw[z49,bN,ih,fM]
  rfl

def y9u(H:List Obj)(A:List (Int × Int))(d:D):Prop:=
 (A=[]/\d=.imm .exact []) \/ ∃ k cs,d=.sl k 0 A.length 2 true true/\At H k (.cells cs)/\cs.take (A.length*2)=yf A

theorem s325(l:List Pst)(ok:y83 l)(hN:entN l<=1000000):∃ d hp',y1h E (dL E) 325 [y1p l] []=some (d,hp')/\y9u hp' (yaw l) d:=by
 have e359:=r359 l
 refine z34 c325 (R:=fun d hp'=>y9u hp' (yaw l) d) (by simp) ?_
 conv in t325=>reduce;dsimp[aD]
 obtain⟨AS,hAS⟩:∃ AS,AS=yav l:=⟨_,rfl⟩
 have hasl:AS.length=entN l:=by rw[hAS];exact zha l
 have hLs:yaw l=y1d (y1s AS):=by rw[hAS];rfl
 rw[hLs]
 simp[t325,n325,zl,e359]
 refine⟨380,_,rfl,?_⟩
 intro L hL hcb
 obtain⟨J,hJ⟩:∃ J:Nat->List (Int × Ent)->List Obj->Prop,J=fun f rem hp'=>2<=f /\ ∃ acc d,At hp' 0 (.cells [d])/\At hp' 1 (L false none)/\acc++rem.map yah=AS/\y4g f hp' acc d:=⟨_,rfl⟩
 have key:=i380 l ok 1 J (fun _=>False) (by
   rw[hJ]
   rintro f rem hp' r ⟨hf,acc,d,a1,a2,a3,a4⟩
   exact⟨hf,acc,d,a1.app,a2.app,a3,a4.app⟩) (by
   rw[hJ]
   rintro f rem hp' r ⟨hf,acc,d,a1,a2,a3,a4⟩
   exact⟨by have:=a2.lt;omega,acc,d,a1.app,a2.app,a3,a4.own⟩) (by
   intro f x rem hp1 o hj ho
   rw[hJ] at hj
   obtain⟨hf,acc,d,a1,a2,a3,a4⟩:=hj
   have l1:=a2.lt
   obtain⟨mi,⟨kd,ix,am⟩⟩:=x
   have hal:acc.length<=1000000:=by
    have:=congrArg dD a3
    rw[aw] at this
    omega
   obtain⟨H1,hH1⟩:∃ H1,H1=hp1.set 1 (L true none):=⟨_,rfl⟩
   have b0:At H1 0 (.cells [d]):=by rw[hH1];exact a1.ne (by omega)
   have b1:At H1 1 (L true none):=by rw[hH1];exact At.self l1
   have bf:At H1 f o:=by rw[hH1];exact ho.ne (by omega)
   have b4:y4g f H1 acc d:=by rw[hH1];exact a4.set (by omega)
   have l0:=b0.lt
   have lf:=bf.lt
   obtain⟨t,hp2,e1,e2⟩:=hcb [dI mi,y2z ⟨kd,ix,am⟩] hp1 (fun t hp'=>t=true/\J f rem hp'/\At hp' f o) rfl a2 (by
    rw[show[Obj.cells [D.imm y1a.exact []]].length=1 from rfl]
    have y2:∀ r:List Obj,(hp1++r)[1]? = some (L false none):=fun r=>a2.app
    have y6:∀ r:List Obj,(hp1++r).set 1 (L true none)=H1++r:=fun r=>by rw[z20 l1,hH1]
    have y7:hp1.length=H1.length:=by rw[hH1,bq]
    have y0:∀ r:List Obj,(H1++r)[0]? = some (.cells [d]):=fun r=>b0.app
    have hda:d.atom=true:=by rcases a4 with⟨_,rfl⟩ | ⟨k,rfl,_⟩ <;> rfl
    obtain⟨d',H',g1,g2,g3,g4,g5⟩:=zqg (a:=kd) (b:=ix) (b4.app (r:=[.cells [dI kd,dI ix,dI am]])) hal (by rw[aw];omega) (by rw[aw];omega)
    have c0:At H' 0 (.cells [d]):=g5 0 _ (.inl (by omega)) b0.app
    have c1:At H' 1 (L true none):=g5 1 _ (.inl (by omega)) b1.app
    have cf:At H' f o:=g5 f _ (.inr rfl) bf.app
    have c10:∀ o,(H'.set 0 o)[1]? = some (L true none):=fun o=>c1.ne (by omega)
    have fin:J f rem ((H'.set 0 (.cells [d'])).set 1 (L false none))/\At ((H'.set 0 (.cells [d'])).set 1 (L false none)) f o:=by
     have k0:=c0.lt
     have k1:=c1.lt
     rw[hJ]
     refine⟨⟨hf,acc++[(kd,ix)],d',(At.self k0).ne (by omega),At.self (by rw[bq];exact k1),by rw[<- a3];simp[yah],(g2.set (by omega)).set (by omega)⟩,(cf.ne (by omega)).ne (by omega)⟩
    simp[y29,↓y2,↓y6,y7,↓y0,hda,g1,g3,g4,c0.eq,↓c10]
    exact fin)
   exact⟨t,hp2,e1,fun _=>e2.2,fun h=>by rw[e2.1] at h;cases h⟩) (hp:=[.cells [.imm .exact []],L false none]) (f0:=2) (by
   rw[hJ]
   exact⟨aj _,[],.imm .exact [],rfl,rfl,by rw[zb9,hAS];rfl,.inl ⟨rfl,rfl⟩⟩)
 obtain⟨d,hp',h1,h2⟩:=key
 rcases h2 with⟨f,h2⟩ | h2
 ·rw[hJ] at h2
  obtain⟨_,acc,dd,a1,a2,a3,a4⟩:=h2
  rw[aO,cy] at a3
  subst a3
  refine⟨d,hp',h1,.inl ⟨a2,?_⟩⟩
  have hal:acc.length<=1000000:=by omega
  obtain⟨H2,hH2⟩:∃ H2,H2=hp'.set 1 Obj.dead:=⟨_,rfl⟩
  have b0:At H2 0 (.cells [dd]):=by rw[hH2];exact a1.ne (by omega)
  have b4:y4g f H2 acc dd:=by rw[hH2];exact a4.set (by omega)
  have l0:=b0.lt
  rcases b4 with⟨rfl,rfl⟩ | ⟨k,rfl,hk2,hkf,b4⟩
  ·have e1:=ydg (hp:=H2) (k:=362) (.inl rfl)
   have e2:=ydf H2
   have c0:∀ o,(H2.set 0 o)[0]? = some o:=fun o=>At.self l0
   simp[<- hH2,b0.eq,e1,e2,y14,↓c0]
   exact .inl ⟨by simp[y1s,y1d],rfl⟩
  ·have e1:=s361 (k:=362) (gr:=true) (ag:=true) (.inl rfl) b4 hal
   obtain⟨H3,hH3⟩:∃ H3,H3=H2.set k (.cells (yf (y1s acc))):=⟨_,rfl⟩
   have g0:At H3 0 (.cells [.sl k 0 acc.length 2 true true]):=by rw[hH3];exact b0.ne (by omega)
   have g4:At H3 k (.cells (yf (y1s acc))):=by rw[hH3];exact At.self b4.lt
   obtain⟨d',H4,e2,cs,rfl,f4,f5,K⟩:=s363 g4 (by rw[z7n];exact hal)
   rw[z7n] at e2
   have f0:=K.2 0 _ (by omega) g0
   have c0:∀ o,(H4.set 0 o)[0]? = some o:=fun o=>At.self f0.lt
   simp[<- hH2,b0.eq,e1,<- hH3,g0.eq,e2,f0.eq,y14,↓c0]
   exact .inr ⟨k,cs,rfl,f4.ne (by omega),f5⟩
 ·exact h2.elim


theorem r325(l:List Pst)(ok:y83 l)(hN:entN l<=1000000):y1l E (dL E) 325 [y1p l]=some (yae (yaw l)):=by
 obtain⟨d,hp',e,h⟩:=s325 l ok hN
 have hk:E.keep 325=false:=rfl
 unfold y1l
 simp only[e,hk]
 show frz hp' 12 d=_
 rcases h with⟨h1,rfl⟩ | ⟨k,cs,rfl,h2,h3⟩
 ·rw[h1];rfl
 ·exact zoz (n:=9) h2 h3

end Dv

namespace Dv

def ya3(x:Ent):Ent:=⟨x.kind,x.idx,-x.amt⟩
def y5j(l:List Ent):List Ent:=l.map ya3
theorem z43(l:List Ent):(y5j l).length=l.length:=aA _
theorem zg3:∀(l:List Ent),y51 (y5j l) = -y51 l
 |[]=>rfl
 |x::l=>by
  have:=zg3 l
  simp only[y5j,av,y51] at this ⊢
  rw[this];simp[ya3];omega
theorem ze5{k i:Int}:∀(l:List Ent),y38 k i (y5j l) = -y38 k i l
 |[]=>rfl
 |x::l=>by
  have:=ze5 (k:=k) (i:=i) l
  simp only[y5j,av,y38] at this ⊢
  rw[this]
  simp only[ya3]
  split <;> omega
theorem zt9{l:List Ent}(h:fmE l):fmE (y5j l):=by
 refine⟨by rw[z43];exact h.two,by rw[z43];exact h.most,fun x hx=>?_,fun i hi=>?_⟩
 ·obtain⟨y,hy,rfl⟩:=aT.1 hx
  obtain⟨a,b,c,d⟩:=h.ok y hy
  refine⟨a,b,?_,?_⟩ <;> simp only[ya3] <;> omega
 ·have hi':i+1<l.length:=by rw[z43] at hi;exact hi
  have:=h.ord i hi'
  simp only[y5j,im]
  exact this
theorem zry{tg:Tag}{l:List Pst}{s:Stp}(h:y2y tg l s=0)(hl:l.length+1<65536):y2y tg (l++[y3r tg l s]) ⟨s.minute,l.length,y5j s.ents⟩=0:=by
 obtain⟨_,_,v,_,g⟩:=z4w h
 rw[z3r v (by simp;omega) (fun q hq=>by
  simp only[List.getLast?_append,iC,Option.some_or,aa] at hq
  subst hq
  exact Int.le_refl _)]
 refine z2m.2 ⟨⟨?_,g.fm.minute,?_,zt9 g.fm.ents⟩,?_⟩
 ·simp only[y3r,aw,aF,bp];omega
 ·simp only[y3r,aw,aF,bp];omega
 ·show y51 (y5j s.ents)=0
  rw[zg3]
  have:=g.sum
  simp only[y3r] at this
  omega
theorem ze3{k i m:Int}{l:List Pst}{p:Pst}:y4j k i m (l++[p])=y4j k i m l+(if p.minute<=m then y38 k i p.ents else 0):=by
 rw[zfs];simp[y4j]

end Dv

namespace Dv
attribute [local simp] af depth y53 y89 y3c y2q y88 y6c y34 y23 Ret
attribute [local congr] z2o z2s z24 z1n z18 z26 z16


abbrev y4h(s:Stp):D:=.agg [dI s.minute,dI s.corrects,.imm .none (s.ents.map y2z)]
abbrev y5a(l:List Stp):D:=.imm .none (l.map y4h)
theorem zt5{hp:List Obj}{n:Nat}{s:Stp}:frz hp (n+4) (y4h s)=some (y4h s):=by
 show frz hp (n+4) (.agg _)=_
 rw[z73]
 simp only[z3h,z5l,z4q,zo,ao,z7,z6j]
theorem z9g{hp:List Obj}{n:Nat}{l:List Stp}:y1o (frz hp (n+4)) (l.map y4h)=some (l.map y4h):=z17 fun _ _=>zt5

def y87(l:List Stp):Bool:=l.all (fun s=>decide (s.ents.length<=12)) && decide (l.length<=12)

theorem r322(l:List Stp)(hl:l.length<=9223372036854775807):y1l E (dL E) 322 [y5a l]=some (.bool (y87 l)):=by
 refine zu c322 (by simp) ?_
 conv in t322=>reduce;dsimp[aD]
 obtain⟨B,hB⟩:∃ B,B=y87 l:=⟨_,rfl⟩
 rw[<- hB]
 simp[t322,n322]
 refine z1o l.length (fun i env h=>∃(x1 x2 x6 x7 x8:D) ,env=[y5a l,x1,x2,y5a l,dI l.length,dI i,x6,x7,x8] /\ ∀ s,s ∈ l.take i->s.ents.length<=12) 0 (by omega) ⟨_,_,_,_,_,rfl,by simp⟩ ?_
 rintro i env h hi ⟨x1,x2,x6,x7,x8,rfl,F⟩
 by_cases hlt:i<l.length
 rotate_left
 ·have:i=l.length:=by omega
  subst this
  rw[be] at F
  have hB2:B=decide (l.length<=12):=by
   have F2:l.all (fun s=>decide (s.ents.length<=12))=true:=by rw[ay];intro s hs;simpa using F s hs
   rw[hB];unfold y87;rw[F2];rfl
  rw[hB2]
  simp
  omega
 have hup:aB.wrap ((i:Int)+1)=(i:Int)+1:=zc ⟨by omega,by omega⟩
 obtain⟨s,hs⟩:∃ s,s=l[i]:=⟨_,rfl⟩
 have hsm:s ∈ l:=by rw[hs];exact bj hlt
 by_cases h12:s.ents.length<=12
 ·have h12' : ¬ (12:Int)<s.ents.length:=by omega
  simp[hlt,<- hs,hup,h12']
  rw[aU hlt,<- hs]
  intro t ht
  rcases aS.1 ht with ht | ht
  ·exact F t ht
  ·simp at ht;rw[ht];exact h12
 ·have h12':(12:Int)<s.ents.length:=by omega
  have hB2:B=false:=by
   rw[hB];unfold y87
   have:l.all (fun s=>decide (s.ents.length<=12))=false:=by
    rw[List.all_eq_false];exact⟨s,hsm,by simp[h12]⟩
   rw[this];rfl
  rw[hB2]
  simp[hlt,<- hs,h12']

theorem zfj{l:List Stp}(h:y87 l=true):l.length<=12 /\ ∀ s,s ∈ l->s.ents.length<=12:=by
 unfold y87 at h
 simp only[Bool.and_eq_true,decide_eq_true_eq,ay] at h
 exact⟨h.2,h.1⟩

structure y3w(n:Nat)(l:List Pst):Prop where
 v:vld tgB l
 len:l.length<=n
 ents:∀ p,p ∈ l->p.prev.length=32/\p.ents.length<=12
theorem y3w.ok{n:Nat}{l:List Pst}(h:y3w n l)(hn:n<=1000):y83 l:=⟨by have:=h.len;omega,fun p hp=>⟨(h.ents p hp).1,by have:=(h.ents p hp).2;omega⟩⟩
theorem zfl:∀{l:List Pst},(∀ p,p ∈ l->p.ents.length<=12)->entN l<=12*l.length
 |[],_=>by simp[entN]
 |p::l,h=>by
  have:=zfl (l:=l) fun q hq=>h q (by simp[hq])
  have:=h p (by simp)
  simp only[entN,aF];omega
theorem y3w.entN{n:Nat}{l:List Pst}(h:y3w n l)(hn:n<=1000):Dv.entN l<=1000000:=by
 have:=zfl fun p hp=>(h.ents p hp).2
 have:=h.len
 omega
theorem zbx{n:Nat}:y3w n []:=⟨z8f,by simp,by simp⟩
theorem zl7{n:Nat}{l:List Pst}{s:Stp}(h:y3w n l)(hs:s.ents.length<=12):y3w (n+1) (y4l tgB l s):=by
 refine⟨zku h.v,by have:=zkv (tg:=tgB) (l:=l) (s:=s);have:=h.len;omega,fun p hp=>?_⟩
 unfold y4l at hp
 split at hp
 ·rcases aS.1 hp with hp | hp
  ·exact h.ents p hp
  ·simp at hp;subst hp;exact⟨y3s,hs⟩
 ·exact h.ents p hp
theorem zgf:∀(ss:List Stp) {n:Nat} {l:List Pst},y3w n l->(∀ s,s ∈ ss->s.ents.length<=12)->y3w (n+ss.length) (ss.foldl (y4l tgB) l)
 |[],n,l,h,_=>h
 |s::ss,n,l,h,hs=>by
  have:=zgf ss (zl7 h (hs s (by simp))) fun t ht=>hs t (by simp[ht])
  rw[aF,List.foldl_cons,show n+(ss.length+1)=n+1+ss.length from by omega]
  exact this
theorem made{ss:List Stp}(h:y87 ss=true):y3w 12 (y49 tgB ss):=by
 obtain⟨h1,h2⟩:=zfj h
 have:=zgf ss (n:=0) zbx h2
 exact⟨this.v,by have:=this.len;unfold y49;omega,this.ents⟩

theorem r323(ss:List Stp)(h:y87 ss=true):y1l E (dL E) 323 [y5a ss]=some (y1p (y49 tgB ss)):=by
 obtain⟨h1,h2⟩:=zfj h
 refine zu c323 (by simp) ?_
 conv in t323=>reduce;dsimp[aD]
 simp[t323,n323]
 refine z1o ss.length (fun i env h=>∃(x2 x3 x4 x8 x9 x10 x11:D) (sp:y1a),env=[y5a ss,.imm sp ((y49 tgB (ss.take i)).map y36),x2,x3,x4,y5a ss,dI ss.length,dI i,x8,x9,x10,x11]) 0 (by omega) ⟨_,_,_,_,_,_,_,.exact,rfl⟩ ?_
 rintro i env h hi ⟨x2,x3,x4,x8,x9,x10,x11,sp,rfl⟩
 by_cases hlt:i<ss.length
 rotate_left
 ·have:i=ss.length:=by omega
  subst this
  rw[be]
  simp[zl]
 have hup:=zm hlt (by omega)
 obtain⟨s,hs⟩:∃ s,s=ss[i]:=⟨_,rfl⟩
 have hsm:s ∈ ss:=by rw[hs];exact bj hlt
 obtain⟨l,hl⟩:∃ l,l=y49 tgB (ss.take i):=⟨_,rfl⟩
 have hM:y3w 12 l:=by
  have:=zgf (ss.take i) (n:=0) zbx fun t ht=>h2 t (List.mem_of_mem_take ht)
  rw[hl]
  exact⟨this.v,by have:=this.len;rw[aW] at this;unfold y49;omega,this.ents⟩
 have hn:y49 tgB (ss.take (i+1))=y4l tgB l s:=by rw[aU hlt,<- hs,hl];unfold y49;rw[g8];rfl
 have e316:=y9i l s (hM.ok (by omega)) (by have:=h2 s hsm;omega)
 unfold poD at e316
 rw[<- hl]
 by_cases hE:y2y tgB l s=0
 ·rw[if_pos hE,hE] at e316
  have hn2:y49 tgB (ss.take (i+1))=l++[y3r tgB l s]:=by rw[hn];unfold y4l;rw[if_pos hE]
  simp[hlt,<- hs,hup,zl,zo,e316,hn2]
 ·rw[if_neg hE] at e316
  have hn2:y49 tgB (ss.take (i+1))=l:=by rw[hn];unfold y4l;rw[if_neg hE]
  simp[hlt,<- hs,hup,zl,zo,e316,hn2,hE]

end Dv
