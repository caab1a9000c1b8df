/- Texts that a proof of this claim uses, joined: Lw.W199, Lw.W200, Lw.W203, Lw.W204, Lw.W205, Lw.W201, Lw.W202, Lw.W206, Lw.W207, Lw.W208, Lw.W209, Lw.W210, Lw.W211, Lw.W212, Lw.W213, Lw.W260, Lw.W215, Lw.W216, Lw.W240, Lw.W214, Lw.W217, Lw.W218, Lw.W219, Lw.W220, Lw.W221, Lw.W222. -/
import Derived.Test.YtfagnjchgplecaaDoorLwa
import Derived.Test.YtfagnjchgplecaaDoorTc
import Derived.Test.YtfagnjchgplecaaDoorWa
import Derived.Test.YtfagnjchgplecaaDoorDva
set_option linter.all false
open BitVec renaming ofInt->cj,ofNat->ce,toNat_add->eg,toNat_and->iK,toNat_ofNat->ii,toNat_or->fq,toNat_shiftLeft->er,toNat_ushiftRight->dQ,toNat_xor->fJ
open Bool renaming and_true->jz
open Decidable renaming not_not->ke
open Go.IntKind renaming bits->fS,i64->av,signed->fx,u32->b6,u64->aV,u8->fh,wrap->fR
open Int renaming fdiv_eq_ediv_of_nonneg->cG,natCast_ediv->iJ,natCast_nonneg->jW,natCast_pow->gO,pow_nonneg->gZ,toNat_natCast->dh
open List renaming all_eq_true->az,append_assoc->bj,cons_append->bi,drop_drop->bW,drop_eq_getElem_cons->bP,drop_length->fK,drop_of_length_le->gq,drop_zero->cK,eq_nil_of_length_eq_zero->cW,flatMap_cons->bS,flatten_append->jH,foldl_append->kf,getD_eq_getElem?_getD->ah,getElem?_append_left->ay,getElem?_append_right->aA,getElem?_drop->bV,getElem?_eq_getElem->af,getElem?_eq_some_iff->ae,getElem?_map->bL,getElem?_set_ne->a8,getElem?_set_self->aQ,getElem_mem->aN,getLast?_cons_cons->iM,getLast?_eq_getElem?->dN,length->dz,length_append->aw,length_cons->aC,length_drop->cX,length_map->au,length_nil->bA,length_replicate->cV,length_set->bv,length_take->aP,map_append->bo,map_cons->ax,map_drop->lZ,map_map->fY,map_nil->aK,map_replicate->bN,map_set->fD,mem_append->aS,mem_cons->aB,mem_map->aX,nil_append->bD,not_mem_nil->gC,replicate->ac,set_append_right->dG,sizeOf_lt_of_mem->eJ,take_append_drop->bq,take_append_of_le_length->bC,take_length->bh,take_of_length_le->bl,take_succ_cons->cN,take_succ_eq_append_getElem->aR,take_zero->fE
open Nat renaming add_mul->bg,div_lt_iff_lt_mul->jj,eq_zero_or_pos->ci,le_refl->ai,le_trans->aG,min_eq_left->bu,mul_one->du,pow_add->nG,sub_self->fB,zero_add->bB
open Option renaming map_some->al
open Option.some renaming inj->bZ,injEq->aa
open Prod.mk renaming injEq->ao
open UInt8 renaming ofNat->aY,toNat_ofNat'->ig
set_option maxHeartbeats 16000000
namespace Dv

theorem zmd{A:Type}{hp r:List A}{i:Nat}{o:A}(h:hp[i]? = some o):(hp++r)[i]? = some o:=by
 rw[ay (ae.1 h).1,h]
theorem zvv{A:Type}{hp:List A}{i:Nat}{o:A}(h:hp[i]? = some o):i<hp.length:=(ae.1 h).1
theorem zwa{A:Type}{hp:List A}{i j:Nat}{x o:A}(h:hp[i]? = some o)(hn:j ≠ i):(hp.set j x)[i]? = some o:=by
 rw[a8 hn,h]
theorem zts{A:Type}{hp:List A}{i:Nat}{x:A}(h:i<hp.length):(hp.set i x)[i]? = some x:=by
 rw[aQ h]
theorem zcn{A:Type}{hp r:List A}{k:Nat}:(hp++r)[hp.length+k]? = r[k]?:=by
 rw[aA (by omega)];congr 1;omega
theorem zc2{A:Type}{hp r:List A}{k:Nat}{x:A}:(hp++r).set (hp.length+k) x=hp++r.set k x:=by
 rw[dG _ _ (by omega)];congr 2;omega
theorem z1u{A:Type}{hp r:List A}{i:Nat}{x:A}(h:i<hp.length):(hp++r).set i x=hp.set i x++r:=List.set_append_left _ _ h

def At(hp:List Obj)(i:Nat)(o:Obj):Prop:=hp[i]? = some o
theorem At.eq{hp:List Obj}{i:Nat}{o:Obj}(h:At hp i o):hp[i]? = some o:=h
theorem At.app{hp r:List Obj}{i:Nat}{o:Obj}(h:At hp i o):At (hp++r) i o:=zmd h
theorem At.appE{hp r:List Obj}{i:Nat}{o:Obj}(h:At hp i o):(hp++r)[i]? = some o:=zmd h
theorem At.ne{hp:List Obj}{i j:Nat}{x o:Obj}(h:At hp i o)(hn:j ≠ i):At (hp.set j x) i o:=zwa h hn
theorem At.lt{hp:List Obj}{i:Nat}{o:Obj}(h:At hp i o):i<hp.length:=zvv h
theorem At.self{hp:List Obj}{i:Nat}{o:Obj}(h:i<hp.length):At (hp.set i o) i o:=zts h

def y7r(C:Nat)(hp:List Obj)(sp:y17)(n sz:Nat):Prop:=sp=.exact \/ ∃ k,sp=.tok k/\C<=k/\At hp k (.tok (n*sz) sz)
def y2b(i C:Nat)(hp hp':List Obj):Prop:=∀ J:List Obj->Prop,(∀ hp r,J hp->J (hp++r))->(∀ hp j o,J hp->(j=i\/C<=j)->J (hp.set j o))->J hp->J hp'
theorem y2b.at{i C:Nat}{hp hp':List Obj}(h:y2b i C hp hp'){j:Nat}{o:Obj}(hj:j ≠ i)(hC:j<C)(g:At hp j o):At hp' j o:=
 h (fun hp=>At hp j o) (fun _ _ h=>h.app) (fun _ k _ h hk=>h.ne (by rcases hk with rfl | hk;exact fun e=>hj e.symm;omega)) g
theorem y2b.refl{i C:Nat}{hp:List Obj}:y2b i C hp hp:=fun _ _ _ h=>h
theorem y2b.trans{i C:Nat}{hp hp' hp'':List Obj}(h:y2b i C hp hp')(h':y2b i C hp' hp''):y2b i C hp hp'':=fun J h1 h2 h3=>h' J h1 h2 (h J h1 h2 h3)
theorem y2b.app{i C:Nat}{hp r:List Obj}:y2b i C hp (hp++r):=fun _ h1 _ h3=>h1 _ _ h3
theorem y2b.set{i C j:Nat}{o:Obj}{hp:List Obj}(hj:j=i\/C<=j):y2b i C hp (hp.set j o):=fun _ _ h2 h3=>h2 _ _ _ h3 hj

end Dv

namespace Dv

inductive CV where
 |mk (k n:Int) (s:List UInt8) (l:List CV)

abbrev dBy(l:List UInt8):D:=.imm .none (l.map ya)

mutual
def dV:CV->D
 |.mk k n s l=>.agg [dI k,dI n,.str s,.imm .none (dVs l)]
def dVs:List CV->List D
 |[]=>[]
 |v::l=>dV v::dVs l
end
theorem zn4:∀(l:List CV),dVs l=l.map dV
 |[]=>rfl
 |v::l=>by simp[dVs,zn4 l]
theorem z1l{k n:Int}{s:List UInt8}{l:List CV}:dV (.mk k n s l)=.agg [dI k,dI n,.str s,.imm .none (l.map dV)]:=by rw[dV,zn4]

def num(u:Nat):List UInt8:=if h:u<128 then[aY u] else aY (u % 128+128)::num (u / 128)
termination_by u
decreasing_by omega
theorem z9b{u:Nat}(h:u<128):num u=[aY u]:=by rw[num,dif_pos h]
theorem ze2{u:Nat}(h : ¬ u<128):num u=aY (u % 128+128)::num (u / 128):=by rw[num,dif_neg h]

def uns(n:Int):Nat:=if 0<=n then 2*n.toNat else 2*(-(n+1)).toNat+1
def sgn(u:Nat):Int:=if u % 2=0 then(u / 2:Nat) else -((u / 2:Nat):Int) - 1
theorem zd7{n:Int}(h:i64 n):uns n<18446744073709551616:=by
 obtain⟨h1,h2⟩:=h
 unfold uns;split <;> omega
def rdN:Nat->List UInt8->Option (Nat × List UInt8)
 |_,[]=>none
 |i,c::r=>if(i=0\/c ≠ 0)/\(i<9\/c.toNat<=1) then
   (if c.toNat<128 then some (c.toNat,r) else(rdN (i+1) r).map fun p=>(c.toNat - 128+128*p.1,p.2))
  else none

theorem zfh{n:Nat}(h:n<256):(aY n).toNat=n:=by
 rw[ig];exact Nat.mod_eq_of_lt h
theorem zvm{u:Nat}:num u ≠ []:=by
 by_cases h:u<128
 ·rw[z9b h];simp
 ·rw[ze2 h];simp
theorem zfl{u:Nat}:1<=(num u).length:=by
 have:=zvm (u:=u)
 cases h:num u with
 |nil=>exact absurd h this
 |cons _ _=>simp

mutual
def enc:CV->List UInt8
 |.mk k n s l=>if k=1 then 1::num (uns n) else if k=2 then 2::(num s.length++s) else 3::(num l.length++y3j l)
def y3j:List CV->List UInt8
 |[]=>[]
 |v::l=>enc v++y3j l
end

mutual
def fmd:CV->Prop
 |.mk k n s l=>(k=1/\i64 n/\s=[]/\l=[])\/(k=2/\n=0/\l=[])\/(k=3/\n=0/\s=[]/\y9q l)
def y9q:List CV->Prop
 |[]=>True
 |v::l=>fmd v/\y9q l
end
mutual
def dep:CV->Nat
 |.mk k _ _ l=>if k=3 then y5g l+1 else 0
def y5g:List CV->Nat
 |[]=>0
 |v::l=>Nat.max (dep v) (y5g l)
end

theorem ztz{v:CV}:1<=(enc v).length:=by
 cases v with
 |mk k n s l=>rw[enc];split <;> (try split) <;> simp
theorem zcv:∀(l:List CV),l.length<=(y3j l).length
 |[]=>by simp
 |v::l=>by
  have:=zcv l
  have:=ztz (v:=v)
  simp only[y3j,aC,aw];omega
theorem z3j:∀(a b:List CV),y3j (a++b)=y3j a++y3j b
 |[],b=>by simp[y3j]
 |v::a,b=>by simp[y3j,z3j a b]

def rdL(f:List UInt8->Option (CV × List UInt8)):Nat->List UInt8->Option (List CV × List UInt8)
 | 0,b=>some ([],b)
 |n+1,b=>match f b with
  |none=>none
  |some p=>match rdL f n p.2 with
   |none=>none
   |some q=>some (p.1::q.1,q.2)

def rdS(b:List UInt8):Option (Nat × List UInt8):=match rdN 0 b with
 |some p=>if p.1<=p.2.length then some p else none
 |none=>none

def rdV:Nat->List UInt8->Option (CV × List UInt8)
 |_,[]=>none
 | 0,c::r=>if c=1 then(rdN 0 r).map fun p=>(.mk 1 (sgn p.1) [] [],p.2)
  else if c=2 then(rdS r).map fun p=>(.mk 2 0 (p.2.take p.1) [],p.2.drop p.1)
  else none
 |d+1,c::r=>if c=1 then(rdN 0 r).map fun p=>(.mk 1 (sgn p.1) [] [],p.2)
  else if c=2 then(rdS r).map fun p=>(.mk 2 0 (p.2.take p.1) [],p.2.drop p.1)
  else if c=3 then(rdS r).bind fun p=>(rdL (rdV d) p.1 p.2).map fun q=>(.mk 3 0 [] q.1,q.2)
  else none


end Dv

namespace Dv
attribute [local simp] ac depth y4s y82 y3l y2r y81 y5v y3a y23 Ret
attribute [local congr] z2n z2r z1y z1j z18 z1z z17


theorem z86{n:Nat}(h:n<18446744073709551616):aV.wrap (n:Int)=n:=by
 simp[fR,fS,fx];omega
theorem z8p{n:Nat}:fh.wrap (n:Int)=((n % 256:Nat):Int):=by
 simp[fR,fS,fx]
theorem ydv{n:Nat}(h:n<256):y9o .u8 (n:Int) 128=((n % 128+128:Nat):Int):=by
 have key:∀ m:Fin 256,y9o .u8 ((m.val:Nat):Int) 128=((m.val % 128+128:Nat):Int):=by decide +kernel
 exact key ⟨n,h⟩
theorem z33:aV.bits=64:=rfl
theorem shr7{n:Nat}:((n:Int).fdiv 128)=((n / 128:Nat):Int):=by
 rw[cG _ (by omega)];omega
theorem mk8{n:Nat}(h:n<256):(D.int .u8 (n:Int))=ya (aY n):=by
 unfold ya
 rw[zfh h]

theorem z5a{u:Nat}(h:u<18446744073709551616):(num u).length<=11:=by
 have key:∀(k u:Nat),u<2 ^ (7*k)->(num u).length<=k+1:=by
  intro k
  induction k with
  |zero=>intro u h;rw[z9b (by omega)];simp
  |succ k ih=>
   intro u h
   by_cases h1:u<128
   ·rw[z9b h1];simp
   ·rw[ze2 h1]
    have:=ih (u / 128) (by
     rw[jj (by decide),show(128:Nat)=2 ^ 7 from rfl,<- nG]
     rwa [show 7*k+7=7*(k+1) from by omega])
    simp;omega
 have:(18446744073709551616:Nat)<=2 ^ (7*10):=by decide
 exact key 10 u (by omega)
theorem z7g{l:List UInt8}:y31 1 (l.map ya)=true:=by
 unfold y31
 rw[az]
 intro x hx
 obtain⟨r,_,rfl⟩:=aX.1 hx
 rfl
theorem zq{l:List UInt8}{new:List D}(h:l.length+new.length<=1000000000000):y2o E 13 (l.map ya) new:=by
 refine⟨?_,?_,?_,z7g⟩ <;> simp[yj]
 omega

theorem s312{C:Nat}:∀(u:Nat) {hp:List Obj} {sp:y17} (l:List UInt8),u<18446744073709551616->l.length<=900000000000->y7r C hp sp l.length 1->C<=hp.length ->
  ∃ d hp',y1i E (dL E) 312 [.imm sp (l.map ya),.int .u64 u] hp=some (d,hp') /\ ∃ k,d=.imm (.tok k) ((l++num u).map ya)/\C<=k/\At hp' k (.tok (l++num u).length 1)/\y2b C C hp hp'/\hp.length<=hp'.length:=by
 intro u hp sp l hu hl R hC
 refine z3d c312 (args:=[.imm sp (l.map ya),.int .u64 u]) (hp:=hp) (R:=fun d hp'=>∃ k,d=.imm (.tok k) ((l++num u).map ya)/\C<=k/\At hp' k (.tok (l++num u).length 1)/\y2b C C hp hp'/\hp.length<=hp'.length) (by simp) ?_
 simp[t312,n312]
 have hlen:=z5a hu
 refine⟨fun k env h=>∃(x3 x4 x5:D) (sp':y17) (l':List UInt8),env=[.imm sp' (l'.map ya),.int .u64 (k:Nat),.imm .exact [],x3,x4,x5]/\k<18446744073709551616/\l'++num k=l++num u/\y7r C h sp' l'.length 1/\y2b C C hp h/\hp.length<=h.length,u,⟨_,_,_,sp,l,rfl,hu,rfl,R,y2b.refl,ai _⟩,?_⟩
 rintro k env h ⟨x3,x4,x5,sp',l',rfl,hk,he,R',K',hh⟩
 have htot:l'.length+(num k).length<=900000000000+11:=by
  have:=congrArg dz he
  simp only[aw] at this
  omega
 have hpos:=zfl (u:=k)
 by_cases h128:128<=k
 ·have hn : ¬ k<128:=by omega
  have hI:(128:Int)<=(k:Int):=by omega
  have hap:∀ x:D,y2o E 13 (l'.map ya) [x]:=fun x=>zq (by simp;omega)
  have e1:D.int .u8 (y9o .u8 ((k:Int) % 256) 128)=ya (aY (k % 128+128)):=by
   have h1:=ydv (n:=k % 256) (by omega)
   rw[show k % 256 % 128+128=k % 128+128 from by omega,show((k % 256:Nat):Int)=(k:Int) % 256 from by omega] at h1
   rw[h1,mk8 (n:=k % 128+128) (by omega)]
  have e2:(k:Int).fdiv 128=((k / 128:Nat):Int):=shr7
  rw[ze2 hn] at he
  obtain⟨c,hc⟩:∃ c,c=aY (k % 128+128):=⟨_,rfl⟩
  rw[<- hc] at e1 he
  have he':(l'++[c])++num (k / 128)=l++num u:=by simpa using he
  rcases R' with rfl | ⟨q,rfl,hq,hq2⟩
  ·simp[hI,y2k,zy,zt,hap,z8p,e1,z33,e2]
   exact⟨k / 128,by omega,_,_,_,_,l'++[c],⟨⟨rfl,by simp⟩,by omega,rfl,rfl,rfl⟩,by omega,he',.inr ⟨h.length,rfl,by omega,by simp[At]⟩,K'.trans y2b.app,by omega⟩
  ·simp[hI,y2k,zy,z12,hap,z8p,e1,hq2.eq,z33,e2]
   exact⟨k / 128,by omega,_,_,_,_,l'++[c],⟨⟨rfl,by simp⟩,by omega,rfl,rfl,rfl⟩,by omega,he',.inr ⟨h.length,rfl,by omega,by simp[At]⟩,(K'.trans (y2b.set (.inr hq))).trans y2b.app,by omega⟩
 ·have hI : ¬ (128:Int)<=(k:Int):=by omega
  have e0:=z8p (n:=k)
  rw[show k % 256=k from by omega] at e0
  have e3:=mk8 (n:=k) (by omega)
  have hap:∀ x:D,y2o E 13 (l'.map ya) [x]:=fun x=>zq (by simp;omega)
  rw[z9b (by omega)] at he
  obtain⟨c,hc⟩:∃ c,c=aY k:=⟨_,rfl⟩
  rw[<- hc] at e3 he
  have hm:l'.map ya++[ya c]=l.map ya++(num u).map ya:=by
   have:=congrArg (List.map ya) he
   simpa using this
  have hl2:l'.length+1=l.length+(num u).length:=by
   have:=congrArg dz he
   simpa using this
  rcases R' with rfl | ⟨q,rfl,hq,hq2⟩
  ·simp[hI,y2k,zy,zt,hap,e0,e3]
   exact⟨h.length,⟨rfl,hm⟩,by omega,by simp[At,hl2],K'.trans y2b.app,by omega⟩
  ·simp[hI,y2k,zy,z12,hap,e0,e3,hq2.eq]
   exact⟨h.length,⟨rfl,hm⟩,by omega,by simp[At,hl2],(K'.trans (y2b.set (.inr hq))).trans y2b.app,by omega⟩

theorem zq9:av.bits=64:=rfl
theorem z14(m:Int):aV.wrap m=m % 18446744073709551616:=by
 simp[fR,fS,fx]
theorem zo3{x:Nat}(h:x<18446744073709551616):y7i .u64 (x:Int) 0=x:=by
 unfold y7i
 rw[z14]
 have e:(cj aV.bits (x:Int) ^^^ cj aV.bits 0).toNat=x:=by
  rw[show aV.bits=64 from rfl]
  simp
  omega
 rw[e];omega
theorem zo4{x:Nat}(h:x<18446744073709551616):y7i .u64 (x:Int) 18446744073709551615=((18446744073709551615 - x:Nat):Int):=by
 unfold y7i
 rw[z14]
 have e:(cj aV.bits (x:Int) ^^^ cj aV.bits 18446744073709551615).toNat=18446744073709551615 - x:=by
  rw[show aV.bits=64 from rfl]
  have:(cj 64 18446744073709551615)=BitVec.allOnes 64:=by decide
  rw[this,BitVec.xor_allOnes]
  simp
  omega
 rw[e];omega
theorem zig{n:Int}(h:i64 n):y7i .u64 (aV.wrap (aV.wrap n*2)) (aV.wrap (n.fdiv 9223372036854775808))=(uns n:Nat):=by
 obtain⟨h1,h2⟩:=h
 have hf:n.fdiv 9223372036854775808=n / 9223372036854775808:=cG _ (by omega)
 rw[hf,z14,z14,z14]
 unfold uns
 by_cases h0:0<=n
 ·rw[if_pos h0,show n / 9223372036854775808 % 18446744073709551616=0 from by omega,show n % 18446744073709551616*2 % 18446744073709551616=((2*n.toNat:Nat):Int) from by omega]
  exact zo3 (by omega)
 ·rw[if_neg h0,show n / 9223372036854775808 % 18446744073709551616=18446744073709551615 from by omega,show n % 18446744073709551616*2 % 18446744073709551616=((18446744073709551616 - 2*(-n).toNat:Nat):Int) from by omega,zo4 (by omega)]
  omega

theorem r311{n:Int}(h:i64 n):y14 E (dL E) 311 [dI n]=some (.int .u64 (uns n:Nat)):=by
 refine zh c311 (by simp) ?_
 have e:=zig h
 simp[t311,n311,y2k,z33,zq9,e]

def y79(C:Nat)(hp:List Obj)(l e:List UInt8)(d:D)(hp':List Obj):Prop:=
 ∃ k,d=.imm (.tok k) ((l++e).map ya)/\C<=k/\At hp' k (.tok (l++e).length 1)/\y2b C C hp hp'/\hp.length<=hp'.length

theorem zao{C:Nat}{hp h2:List Obj}{l a e:List UInt8}{d:D}{hp':List Obj}(hk:y2b C C hp h2)(hl:hp.length<=h2.length)(w:y79 C h2 (l++a) e d hp'):y79 C hp l (a++e) d hp':=by
 obtain⟨k,w1,w2,w3,w4,w5⟩:=w
 rw[bj] at w1 w3
 exact⟨k,w1,w2,w3,hk.trans w4,aG hl w5⟩
theorem y79.imm{C:Nat}{hp:List Obj}{l e:List UInt8}{d:D}{hp':List Obj}(w:y79 C hp l e d hp'):yw d=false:=by
 obtain⟨k,rfl,_⟩:=w;rfl
theorem yb1{C:Nat}(u:Nat){hp:List Obj}{sp:y17}(l:List UInt8)(hu:u<18446744073709551616)(hl:l.length<=900000000000)(R:y7r C hp sp l.length 1)(hC:C<=hp.length) :
  ∃ d hp',y1i E (dL E) 312 [.imm sp (l.map ya),.int .u64 u] hp=some (d,hp')/\yw d=false/\y79 C hp l (num u) d hp':=by
 obtain⟨d,hp',e,w⟩:=s312 u l hu hl R hC
 have w:y79 C hp l (num u) d hp':=w
 exact⟨d,hp',e,w.imm,w⟩
theorem z89{C:Nat}{hp r:List Obj}{n k:Nat}(hC:C<=hp.length)(h:r[k]? = some (.tok n 1)):y7r C (hp++r) (.tok (hp.length+k)) n 1:=
 .inr ⟨hp.length+k,rfl,by omega,by rw[du];exact zcn.trans h⟩
theorem zc6{C:Nat}{hp r:List Obj}{o:Obj}{n k q:Nat}(hC:C<=hp.length)(h:r[k]? = some (.tok n 1)):y7r C (hp.set q o++r) (.tok (hp.length+k)) n 1:=by
 have:=z89 (C:=C) (hp:=hp.set q o) (r:=r) (k:=k) (n:=n) (by simpa using hC) h
 simpa using this
theorem zul{C:Nat}{hp:List Obj}{sp:y17}{l:List UInt8}{m k:Nat}(c:UInt8)(x:D)(hx:x=ya c)(hk:k<m)(R:y7r C hp sp l.length 1)(hC:C<=hp.length)(hl:l.length<=900000000000) :
  ∃ h2,y77 E (hp++ac m .dead) (hp.length+k) 30 30 (.imm sp (l.map ya)) (.imm .exact [x])=some (.imm (.tok (hp.length+k)) ((l++[c]).map ya),h2)/\y2b C C hp h2/\h2.length=hp.length+m/\y7r C h2 (.tok (hp.length+k)) (l++[c]).length 1:=by
 subst hx
 have hap:∀ x:D,y2o E 13 (l.map ya) [x]:=fun x=>zq (by simp;omega)
 have hr:(ac m Obj.dead).length=m:=by simp
 have hg:((ac m Obj.dead).set k (.tok (l.length+1) 1))[k]? = some (.tok (l.length+1) 1):=by simp[hk]
 rcases R with rfl | ⟨q,rfl,hq,hq2⟩
 ·refine⟨hp++(ac m Obj.dead).set k (.tok (l.length+1) 1),?_,y2b.app,by simp,?_⟩
  ·simp[zt,hap,hk,↓zc2]
  ·have:=z89 (C:=C) hC hg
   simpa using this
 ·have hlt:=hq2.lt
  have hq3:(hp++ac m Obj.dead)[q]? = some (.tok (l.length*1) 1):=hq2.appE
  rw[du] at hq3
  refine⟨hp.set q .dead++(ac m Obj.dead).set k (.tok (l.length+1) 1),?_,(y2b.set (.inr hq)).trans y2b.app,by simp,?_⟩
  ·have e:((hp++ac m Obj.dead).set q .dead).set (hp.length+k) (.tok (l.length+1) 1)=hp.set q .dead++(ac m Obj.dead).set k (.tok (l.length+1) 1):=by
    rw[z1u hlt]
    have:=zc2 (hp:=hp.set q Obj.dead) (r:=ac m Obj.dead) (k:=k) (x:=.tok (l.length+1) 1)
    rwa [bv] at this
   simp[z12,hap,hk,hq3]
   exact e
  ·have:=zc6 (C:=C) (o:=.dead) (q:=q) hC hg
   simpa using this
theorem z8c{l:List UInt8}{c:UInt8}:(l++[c]).map ya=l.map ya++[.int .u8 c.toNat]:=by simp

theorem s298{C:Nat}{hp:List Obj}{sp:y17}(l:List UInt8)(n:Int)(hn:i64 n)(hl:l.length<=800000000000)(R:y7r C hp sp l.length 1)(hC:C<=hp.length) :
  ∃ d hp',y1i E (dL E) 298 [.imm sp (l.map ya),dV (.mk 1 n [] [])] hp=some (d,hp')/\y79 C hp l (enc (.mk 1 n [] [])) d hp':=by
 refine z3d c298 (args:=[.imm sp (l.map ya),dV (.mk 1 n [] [])]) (hp:=hp) (R:=y79 C hp l (enc (.mk 1 n [] []))) (by simp) ?_
 have h311:=r311 hn
 have hap:∀ x:D,y2o E 13 (l.map ya) [x]:=fun x=>zq (by simp;omega)
 have he:enc (.mk 1 n [] [])=[1]++num (uns n):=by rw[enc,if_pos rfl];rfl
 rw[z1l,he]
 rcases R with rfl | ⟨q,rfl,hq,hq2⟩
 ·obtain⟨d,hp',e,hm,w⟩:=yb1 (C:=C) (hp:=hp++[.dead,.dead,.tok (l.length+1) 1,.dead,.dead,.dead,.dead,.dead]) (sp:=.tok (hp.length+2)) (uns n) (l++[1]) (zd7 hn) (by simp;omega) (by rw[aw];exact z89 hC rfl) (by simp;omega)
  have w':=zao (hp:=hp) y2b.app (by simp) w
  rw[z8c] at e
  simp at e
  simp[t298,n298,zy,zt,hap,h311,e,hm]
  exact w'
 ·obtain⟨d,hp',e,hm,w⟩:=yb1 (C:=C) (hp:=hp.set q .dead++[.dead,.dead,.tok (l.length+1) 1,.dead,.dead,.dead,.dead,.dead]) (sp:=.tok (hp.length+2)) (uns n) (l++[1]) (zd7 hn) (by simp;omega) (by rw[aw];exact zc6 hC rfl) (by simp;omega)
  have w':=zao (hp:=hp) ((y2b.set (.inr hq)).trans y2b.app) (by simp) w
  rw[z8c] at e
  simp at e
  have hq3:(hp++ac 8 Obj.dead)[q]? = some (.tok (l.length*1) 1):=hq2.appE
  simp at hq3
  have hlt:=hq2.lt
  simp[t298,n298,zy,z12,hap,h311,e,hm,hq3,↓z1u hlt]
  exact w'

theorem s299{C:Nat}{hp:List Obj}{sp:y17}(l s:List UInt8)(hl:l.length+s.length<=800000000000)(R:y7r C hp sp l.length 1)(hC:C<=hp.length) :
  ∃ d hp',y1i E (dL E) 299 [.imm sp (l.map ya),dV (.mk 2 0 s [])] hp=some (d,hp')/\y79 C hp l (enc (.mk 2 0 s [])) d hp':=by
 refine z3d c299 (args:=[.imm sp (l.map ya),dV (.mk 2 0 s [])]) (hp:=hp) (R:=y79 C hp l (enc (.mk 2 0 s []))) (by simp) ?_
 have hap:∀ x:D,y2o E 13 (l.map ya) [x]:=fun x=>zq (by simp;omega)
 have he:enc (.mk 2 0 s [])=([2]++num s.length)++s:=by rw[enc,if_neg (by decide),if_pos rfl];rfl
 have hw:=z86 (n:=s.length) (by omega)
 have hn:=z5a (u:=s.length) (by omega)
 rw[z1l,he]
 have fin:∀{d:D} {h2:List Obj},hp.length+12<=h2.length->y79 C hp l ([2]++num s.length) d h2->∃ k,d=.imm (.tok k) ((l++([2]++num s.length)).map ya)/\h2[k]? = some (.tok (l++([2]++num s.length)).length 1)/\y2o E 13 ((l++([2]++num s.length)).map ya) (s.map ya) /\
   y79 C hp l (([2]++num s.length)++s) (.imm (.tok (hp.length+10)) ((l++([2]++num s.length)).map ya++s.map ya)) ((h2.set k .dead).set (hp.length+10) (.tok ((l++([2]++num s.length)).length+s.length) 1)):=by
  rintro d h2 hh ⟨k,rfl,w2,w3,w4,w5⟩
  refine⟨k,rfl,w3,zq (by simp at hn ⊢;omega),hp.length+10,by simp,by omega,?_,(w4.trans (y2b.set (.inr w2))).trans (y2b.set (.inr (by omega))),by simp;omega⟩
  have:(l++(([2]++num s.length)++s)).length=(l++([2]++num s.length)).length+s.length:=by simp;omega
  rw[this]
  exact At.self (by simp;omega)
 rcases R with rfl | ⟨q,rfl,hq,hq2⟩
 ·obtain⟨d,hp',e,hm,w⟩:=yb1 (C:=C) (hp:=hp++[.dead,.dead,.tok (l.length+1) 1,.dead,.dead,.dead,.dead,.dead,.dead,.dead,.dead,.dead]) (sp:=.tok (hp.length+2)) s.length (l++[2]) (by omega) (by simp;omega) (by rw[aw];exact z89 hC rfl) (by simp;omega)
  have hlen:hp.length+12<=hp'.length:=by have:=w.choose_spec.2.2.2.2;simpa using this
  have w':=zao (hp:=hp) y2b.app (by simp) w
  obtain⟨k,rfl,f1,f2,f3⟩:=fin hlen w'
  rw[z8c] at e
  simp at e f1 f2 f3
  have h10:hp.length+10<hp'.length:=by omega
  simp[t299,n299,zy,zt,z12,hap,hw,y2k,e,f1,f2,h10]
  simpa using f3
 ·obtain⟨d,hp',e,hm,w⟩:=yb1 (C:=C) (hp:=hp.set q .dead++[.dead,.dead,.tok (l.length+1) 1,.dead,.dead,.dead,.dead,.dead,.dead,.dead,.dead,.dead]) (sp:=.tok (hp.length+2)) s.length (l++[2]) (by omega) (by simp;omega) (by rw[aw];exact zc6 hC rfl) (by simp;omega)
  have hlen:hp.length+12<=hp'.length:=by have:=w.choose_spec.2.2.2.2;simpa using this
  have w':=zao (hp:=hp) ((y2b.set (.inr hq)).trans y2b.app) (by simp) w
  obtain⟨k,rfl,f1,f2,f3⟩:=fin hlen w'
  rw[z8c] at e
  have hq3:(hp++ac 12 Obj.dead)[q]? = some (.tok (l.length*1) 1):=hq2.appE
  simp at e f1 f2 f3 hq3
  have hlt:=hq2.lt
  have h10:hp.length+10<hp'.length:=by omega
  simp[t299,n299,zy,z12,hap,hw,y2k,e,f1,f2,h10,hq3,↓z1u hlt]
  simpa using f3

structure Wrs(hp:List Obj)(A B:Nat):Prop where
 a:At hp A (.cells [.nilfn,.fn 298 [],.fn 299 [],.fn 300 [.loc B 0]])
 b:At hp B (.cells [.loc A 0])
theorem Wrs.keep{C:Nat}{hp hp':List Obj}{A B:Nat}(w:Wrs hp A B)(hA:A<C)(hB:B<C)(k:y2b C C hp hp'):Wrs hp' A B:=⟨k.at (by omega) hA w.a,k.at (by omega) hB w.b⟩

def wrF(k:Int):Nat:=if k=1 then 298 else if k=2 then 299 else 300
def wrC(k:Int)(B:Nat):List D:=if k=1 then[] else if k=2 then[] else[.loc B 0]
def y7p(v:CV)(k:Int):Prop:=∀{C A B:Nat} {hp:List Obj} {sp:y17} (l:List UInt8),Wrs hp A B->A<C->B<C->l.length+(enc v).length<=800000000000->y7r C hp sp l.length 1->C<=hp.length ->
 ∃ d hp',y1i E (dL E) (wrF k) (.imm sp (l.map ya)::dV v::wrC k B) hp=some (d,hp')/\y79 C hp l (enc v) d hp'

theorem s300(vs:List CV)(ih:∀ k n s l,CV.mk k n s l ∈ vs->(k=1\/k=2\/k=3)/\y7p (.mk k n s l) k):y7p (.mk 3 0 [] vs) 3:=by
 intro C A B hp sp l W hA hB hl R hC
 have he:enc (.mk 3 0 [] vs)=([3]++num vs.length)++y3j vs:=by rw[enc,if_neg (by decide),if_neg (by decide)];rfl
 rw[he] at hl ⊢
 have hvl:vs.length<=800000000000:=by have:=zcv vs;simp at hl;omega
 show ∃ d hp',y1i E (dL E) 300 [.imm sp (l.map ya),dV (.mk 3 0 [] vs),.loc B 0] hp=some (d,hp')/\y79 C hp l (([3]++num vs.length)++y3j vs) d hp'
 refine z3d c300 (args:=[.imm sp (l.map ya),dV (.mk 3 0 [] vs),.loc B 0]) (hp:=hp) (R:=y79 C hp l (([3]++num vs.length)++y3j vs)) (by simp) ?_
 have hap:∀ x:D,y2o E 13 (l.map ya) [x]:=fun x=>zq (by simp at hl ⊢;omega)
 have hw:=z86 (n:=vs.length) (by omega)
 rw[z1l]
 obtain⟨h2,e1,k1,l1,R1⟩:=zul (l:=l) (m:=9) (k:=2) 3 (.int .u8 3) rfl (by omega) R hC (by simp at hl;omega)
 obtain⟨d,h3,e2,hm,w⟩:=yb1 (C:=C) (hp:=h2) vs.length (l++[3]) (by omega) (by simp at hl ⊢;omega) R1 (by omega)
 have w':=zao (hp:=hp) k1 (by omega) w
 simp at e1 e2
 simp[t300,n300,zy,hw,y2k,e1,e2,hm]
 refine z13 vs.length (fun i env h=>∃(x5 x6 x7 x11 x12 x13:D) (dd:D),env=[dd,.agg [dI 3,dI 0,.str [],.imm .none (vs.map dV)],.loc B 0,.iptr [dI 3,dI 0,.str [],.imm .none (vs.map dV)],.imm .exact [],x5,x6,x7,.imm .none (vs.map dV),dI vs.length,dI i,x11,x12,x13]/\y79 C hp l (([3]++num vs.length)++y3j (vs.take i)) dd h) 0 (by omega) ?_ ?_
 ·exact⟨_,_,_,_,_,_,d,rfl,by simpa[y3j] using w'⟩
 rintro i env h hi ⟨x5,x6,x7,x11,x12,x13,dd,rfl,wi⟩
 by_cases hlt:i<vs.length
 ·obtain⟨tk,rfl,w2,w3,w4,w5⟩:=wi
  obtain⟨k,n,s,l',hv⟩:∃ k n s l',vs[i]=CV.mk k n s l':=by
   cases h:vs[i] with
   |mk k n s l'=>exact⟨k,n,s,l',rfl⟩
  have WA:=W.keep hA hB w4
  obtain⟨hk,hwr⟩:=ih k n s l' (by rw[<- hv];exact aN hlt)
  have a1:=WA.a
  have b1:=WA.b
  have hsp:y3j (vs.take (i+1))=y3j (vs.take i)++enc (.mk k n s l'):=by
   rw[List.take_add_one,af hlt,hv,z3j];simp[y3j]
  have htk:y3j vs=y3j (vs.take (i+1))++y3j (vs.drop (i+1)):=by rw[<- z3j,bq]
  have hL:(l++([3]++num vs.length++y3j (vs.take i))).length+(enc (.mk k n s l')).length<=800000000000:=by
   rw[htk,hsp] at hl
   simp only[aw] at hl ⊢
   omega
  obtain⟨d',h5,e,w⟩:=hwr (C:=C) (A:=A) (B:=B) (sp:=.tok tk) (hp:=h++[.cells [dI k,dI n,.str s,.imm .none (l'.map dV)],.dead,.dead,.dead,.dead,.dead,.dead,.dead,.dead,.dead,.dead,.dead]) (l++([3]++num vs.length++y3j (vs.take i))) (WA.keep hA hB y2b.app) hA hB hL (.inr ⟨tk,rfl,w2,by rw[du];exact w3.app⟩) (by simp;omega)
  have hm':=w.imm
  have w':=zao (hp:=hp) (l:=l) (a:=[3]++num vs.length++y3j (vs.take i)) (w4.trans y2b.app) (by simp;omega) w
  have hf:([3]++num vs.length++y3j (vs.take i))++enc (.mk k n s l')=3::(num vs.length++y3j (vs.take (i+1))):=by rw[hsp];simp
  rw[hf] at w'
  have hup:=zl hlt (by omega)
  rw[z1l] at e
  rcases hk with rfl | rfl | rfl
  ·simp[wrF,wrC] at e
   simp[hlt,hv,z1l,a1.appE,b1.appE,e,hm',hup]
   exact⟨_,_,_,_,_,_,_,⟨rfl,rfl,rfl,rfl,rfl,rfl,rfl⟩,w'⟩
  ·simp[wrF,wrC] at e
   simp[hlt,hv,z1l,a1.appE,b1.appE,e,hm',hup]
   exact⟨_,_,_,_,_,_,_,⟨rfl,rfl,rfl,rfl,rfl,rfl,rfl⟩,w'⟩
  ·simp[wrF,wrC] at e
   simp[hlt,hv,z1l,a1.appE,b1.appE,e,hm',hup]
   exact⟨_,_,_,_,_,_,_,⟨rfl,rfl,rfl,rfl,rfl,rfl,rfl⟩,w'⟩
 ·have:i=vs.length:=by omega
  subst this
  rw[bh] at wi
  simp
  simpa using wi

theorem z9y:∀{l:List CV},y9q l->∀ v ∈ l,fmd v
 |[],_,v,h=>by simp at h
 |w::l,hf,v,h=>by
  rw[y9q] at hf
  rcases aB.1 h with rfl | h
  ·exact hf.1
  ·exact z9y hf.2 v h
theorem zwg{k n:Int}{s:List UInt8}{l:List CV}(h:fmd (.mk k n s l)):k=1\/k=2\/k=3:=by
 rw[fmd] at h
 rcases h with⟨h,_⟩ | ⟨h,_⟩ | ⟨h,_⟩ <;> simp[h]

theorem y9k:∀(m:Nat) (v:CV),sizeOf v<=m->fmd v->∀ k n s l,v=.mk k n s l->y7p v k:=by
 intro m
 induction m with
 |zero=>
  intro v hm
  cases v
  simp at hm
 |succ m ih=>
  intro v hm hf k n s l hv
  subst hv
  have hf':=hf
  rw[fmd] at hf'
  rcases hf' with⟨rfl,hn,rfl,rfl⟩ | ⟨rfl,rfl,rfl⟩ | ⟨rfl,rfl,rfl,hl⟩
  ·intro C A B hp sp l W hA hB hl R hC
   exact s298 l n hn (by omega) R hC
  ·intro C A B hp sp l' W hA hB hl R hC
   have he:enc (.mk 2 0 s [])=2::(num s.length++s):=by rw[enc,if_neg (by decide),if_pos rfl]
   rw[he] at hl
   exact s299 l' s (by simp at hl;omega) R hC
  ·have q:∀ k' n' s' l',CV.mk k' n' s' l' ∈ l->(k'=1\/k'=2\/k'=3)/\y7p (.mk k' n' s' l') k':=fun k' n' s' l' hmem=>⟨zwg (z9y hl _ hmem),by
    have h1:=eJ hmem
    have h2:sizeOf (CV.mk k' n' s' l')<=m:=by
     rw[CV.mk.sizeOf_spec] at hm
     omega
    intro C A B hp sp
    exact ih _ h2 (z9y hl _ hmem) k' n' s' l' rfl⟩
   intro C A B hp sp
   exact s300 l q

theorem zg6:∀{l:List CV} {v:CV},v ∈ l->dep v<=y5g l
 |[],v,h=>by simp at h
 |w::l,v,h=>by
  rw[y5g]
  rcases aB.1 h with rfl | h
  ·exact Nat.le_max_left _ _
  ·exact aG (zg6 h) (Nat.le_max_right _ _)
theorem zrk{hp:List Obj}:∀(m:Nat) (v:CV),fmd v->dep v<=m->∀ n,2*m+2<=n->frz hp n (dV v)=some (dV v):=by
 intro m
 induction m with
 |zero=>
  intro v hf hd n hn
  obtain⟨n,rfl⟩:∃ j,n=j+2:=⟨n - 2,by omega⟩
  obtain⟨k,x,s,l⟩:=v
  rw[fmd] at hf
  rw[dep] at hd
  rcases hf with⟨rfl,_,rfl,rfl⟩ | ⟨rfl,rfl,rfl⟩ | ⟨rfl,_⟩
  ·rw[z1l];rfl
  ·rw[z1l];rfl
  ·simp at hd
 |succ m ih=>
  intro v hf hd n hn
  obtain⟨n,rfl⟩:∃ j,n=j+3:=⟨n - 3,by omega⟩
  obtain⟨k,x,s,l⟩:=v
  rw[fmd] at hf
  rw[dep] at hd
  rcases hf with⟨rfl,_,rfl,rfl⟩ | ⟨rfl,rfl,rfl⟩ | ⟨rfl,rfl,rfl,hl⟩
  ·rw[z1l];rfl
  ·rw[z1l];rfl
  ·rw[if_pos rfl] at hd
   have e:y1j (frz hp (n+1)) (l.map dV)=some (l.map dV):=z1d fun v hv=>ih v (z9y hl v hv) (by have:=zg6 hv;omega) (n+1) (by omega)
   rw[z1l]
   have hs:frz hp (n+2) (.str [])=some (.str []):=rfl
   simp only[z9v,z4j,z7d,hs,z5v,e,al,za,z8e]

theorem zen{l:List CV}{i:Nat}(h:i<l.length):y5g (l.take (i+1))=Nat.max (y5g (l.take i)) (dep l[i]):=by
 induction l generalizing i with
 |nil=>simp at h
 |cons v l ih=>
  cases i with
  |zero=>simp[y5g]
  |succ i=>
   simp only[aC] at h
   simp only[cN,y5g,List.getElem_cons_succ]
   rw[ih (by omega)]
   exact(Nat.max_assoc _ _ _).symm

theorem zhc:∀{l:List CV} {v:CV},v ∈ l->(enc v).length<=(y3j l).length
 |[],v,h=>by simp at h
 |w::l,v,h=>by
  rw[y3j,aw]
  rcases aB.1 h with rfl | h
  ·omega
  ·have:=zhc h
   omega
structure y47(v:CV):Prop where
 f:fmd v
 d:dep v<=4
 n:(enc v).length<=800000000000
theorem y47.len{k n:Int}{s:List UInt8}{l:List CV}(h:y47 (.mk k n s l)):s.length<=800000000000/\l.length<=800000000000:=by
 have hf:=h.f
 have hn:=h.n
 rw[fmd] at hf
 rcases hf with⟨rfl,_,rfl,rfl⟩ | ⟨rfl,rfl,rfl⟩ | ⟨rfl,rfl,rfl,hl⟩
 ·simp
 ·rw[enc,if_neg (by decide),if_pos rfl] at hn
  simp at hn ⊢;omega
 ·rw[enc,if_neg (by decide),if_neg (by decide)] at hn
  have:=zcv l
  simp at hn ⊢;omega
theorem y47.sub{n:Int}{s:List UInt8}{l:List CV}(h:y47 (.mk 3 n s l)){v:CV}(hv:v ∈ l):y47 v:=by
 have hf:=h.f
 have hn:=h.n
 have hd:=h.d
 rw[fmd] at hf
 rw[dep,if_pos rfl] at hd
 rcases hf with⟨h3,_⟩ | ⟨h3,_⟩ | ⟨_,rfl,rfl,hl⟩
 ·omega
 ·omega
 ·rw[enc,if_neg (by decide),if_neg (by decide)] at hn
  have:=zhc hv
  have:=zg6 hv
  exact⟨z9y hl v hv,by omega,by simp at hn;omega⟩
theorem z3i{hp:List Obj}{v:CV}(h:y47 v):frz hp 12 (dV v)=some (dV v):=zrk 4 v h.f h.d 12 (by decide)

theorem r297:∀(m:Nat) (v:CV),sizeOf v<=m->y47 v->y14 E (dL E) 297 [dV v]=some (.tup [dI (dep v),.bool true]):=by
 intro m
 induction m with
 |zero=>intro v hm;cases v;simp at hm
 |succ m ih=>
  intro v hm hf
  obtain⟨k,n,s,l⟩:=v
  have hf':=hf.f
  have hz:=z3i (hp:=[]) hf
  refine zh c297 (by simp) ?_
  rw[fmd] at hf'
  rw[z1l]
  rcases hf' with⟨rfl,hn,rfl,rfl⟩ | ⟨rfl,rfl,rfl⟩ | ⟨rfl,rfl,rfl,hl⟩
  ·by_cases h0:n=0 <;> simp[t297,n297,h0,dep]
  ·by_cases h0:s=[] <;> simp[t297,n297,h0,dep]
  ·have hd:y5g l<=3:=by have:=hf.d;rw[dep,if_pos rfl] at this;omega
   have hln:=hf.len.2
   have hdw:av.wrap ((y5g l:Int)+1)=(y5g l:Int)+1:=zc ⟨by omega,by omega⟩
   by_cases hb:((l.length:Int) == 0)=true
   all_goals
    simp[t297,n297,dep,hb]
    refine z13 l.length (fun i env h=>∃(x0 x1 x3 x4 x5 x6 x7 x8 x9 x10 x14 x15 x16 x17:D) ,env=[x0,x1,dI (y5g (l.take i)),x3,x4,x5,x6,x7,x8,x9,x10,.imm .none (l.map dV),dI l.length,dI i,x14,x15,x16,x17]) 0 (by omega) ?_ ?_
    ·exact⟨_,_,_,_,_,_,_,_,_,_,_,_,_,_,rfl⟩
    rintro i env h hi ⟨x0,x1,x3,x4,x5,x6,x7,x8,x9,x10,x14,x15,x16,x17,rfl⟩
    by_cases hlt:i<l.length
    ·have hv:=hf.sub (aN hlt)
     have e:=ih l[i] (by have:=eJ (aN hlt);rw[CV.mk.sizeOf_spec] at hm;omega) hv
     have hz':=z3i (hp:=[]) hv
     have hup:=zl hlt (by omega)
     obtain⟨k,n,s,l',hq⟩:∃ k n s l',l[i]=CV.mk k n s l':=by
      cases h:l[i] with
      |mk k n s l'=>exact⟨k,n,s,l',rfl⟩
     have hdt:=zen hlt
     rw[hq] at e hz' hdt
     rw[z1l] at e hz'
     simp[hlt,hq,z1l,e,hz',hup]
     rw[hdt]
     simp only[Nat.max_def]
     split <;> split <;> omega
    ·have:i=l.length:=by omega
     subst this
     simp[hdw]

theorem z49{E:Env}{cP:Nat->List D->Option D}{cS cY:Nat->List D->List Obj->Option (D × List Obj)}{hp:List Obj}{id:Nat}{g:Opd->D}{f:Opd}:yd E cP cS cY id g hp (.call 4 f [])=(match g f with | .fn k caps=>ob (y1j (frz [] depth) caps) (fun vs=>y5s cS k vs hp) | _=>none):=by
 simp only[yd,DOp.fin,yl]
 cases g f <;> try rfl
 rename_i k caps
 simp only[]
 cases y1j (frz [] depth) caps <;> rfl

theorem s282(hp:List Obj):y1i E (dL E) 282 [] hp=some (.loc hp.length 0,hp++[.cells [.nilfn,.fn 298 [],.fn 299 [],.fn 300 [.loc (hp.length+1) 0]],.cells [.loc hp.length 0]]):=by
 have:∃ d hp',y1i E (dL E) 282 [] hp=some (d,hp')/\(d=.loc hp.length 0/\hp'=hp++[.cells [.nilfn,.fn 298 [],.fn 299 [],.fn 300 [.loc (hp.length+1) 0]],.cells [.loc hp.length 0]]):=by
  refine z3d c282 (args:=[]) (hp:=hp) (R:=fun d hp'=>d=.loc hp.length 0/\hp'=hp++[.cells [.nilfn,.fn 298 [],.fn 299 [],.fn 300 [.loc (hp.length+1) 0]],.cells [.loc hp.length 0]]) (by simp) ?_
  simp[t282,n282]
 obtain⟨d,hp',e,rfl,rfl⟩:=this
 exact e
theorem r281{v:CV}(h:y47 v):y14 E (dL E) 281 [dV v]=some (dI 0):=by
 have e:=r297 (sizeOf v) v (ai _) h
 have hz:=z3i (hp:=[]) h
 obtain⟨k,n,s,l⟩:=v
 refine zh c281 (by simp) ?_
 have hd:=h.d
 rw[z1l] at e hz ⊢
 simp[t281,n281,e,hz]
 omega
theorem r264{v:CV}(h:y47 v):y14 E (dL E) 264 [dV v]=some (.tup [dBy (enc v),dI 0]):=by
 have e:=r281 h
 have hz:=z3i (hp:=[]) h
 have e2:=s282 (ac 11 .dead)
 have hf:=h.f
 have hn:=h.n
 obtain⟨k,n,s,l⟩:=v
 have hk:=zwg hf
 obtain⟨d,h5,e5,w⟩:=y9k (sizeOf (CV.mk k n s l)) (.mk k n s l) (ai _) hf k n s l rfl (C:=13) (A:=11) (B:=12) (sp:=.exact) (hp:=ac 11 .dead++[.cells [.nilfn,.fn 298 [],.fn 299 [],.fn 300 [.loc 12 0]],.cells [.loc 11 0]]) []
  ⟨by simp[At],by simp[At]⟩ (by omega) (by omega) (by simpa using hn) (.inl rfl) (by simp)
 have hm:=w.imm
 obtain⟨tk,rfl,w2,w3,w4,w5⟩:=w
 rw[bD] at w3 hm e5
 have hfz:∀ l:List UInt8,y1j (frz h5 10) (l.map ya)=some (l.map ya):=fun l=>z1d fun x _=>rfl
 refine zh c264 (by simp) ?_
 rw[z1l] at e hz e5 ⊢
 simp at e2
 rcases hk with rfl | rfl | rfl
 ·simp[wrF,wrC] at e5
  simp[t264,n264,e,hz,z49,y5s,e2,e5,hfz,y16]
 ·simp[wrF,wrC] at e5
  simp[t264,n264,e,hz,z49,y5s,e2,e5,hfz,y16]
 ·simp[wrF,wrC] at e5
  simp[t264,n264,e,hz,z49,y5s,e2,e5,hfz,y16]

end Dv

namespace Dv

structure Ent where
 kind:Int
 idx:Int
 amt:Int
deriving DecidableEq

structure Pst where
 no:Int
 minute:Int
 corrects:Int
 ents:List Ent
 prev:List UInt8
deriving DecidableEq


abbrev y3n(e:Ent):D:=.agg [dI e.kind,dI e.idx,dI e.amt]
abbrev y2p(p:Pst):D:=.agg (dI p.no::dI p.minute::dI p.corrects :: .imm .none (p.ents.map y3n)::p.prev.map ya)
abbrev y1m(l:List Pst):D:=.imm .none (l.map y2p)
abbrev y4r(d:List UInt8):D:=.agg (d.map ya)

def ltA(a b:Ent):Prop:=a.kind<b.kind\/a.kind=b.kind/\a.idx<b.idx
instance(a b:Ent):Decidable (ltA a b):=inferInstanceAs (Decidable (_\/_))
def y4o(x:Ent):Prop:=(1<=x.kind/\x.kind<=5)/\(-1<=x.idx/\x.idx<=4095)/\x.amt ≠ 0 /\ -1099511627776<=x.amt/\x.amt<=1099511627776
instance(x:Ent):Decidable (y4o x):=inferInstanceAs (Decidable (_/\_))
def ordE(l:List Ent):Prop:=∀ i,∀ h:i+1<l.length,ltA l[i] l[i+1]
def y4m:List Ent->Int
 |[]=>0
 |x::l=>x.amt+y4m l
theorem zf2(a b:List Ent):y4m (a++b)=y4m a+y4m b:=by
 induction a with
 |nil=>simp[y4m]
 |cons x a ih=>simp only[bi,y4m,ih];omega
structure fmE(l:List Ent):Prop where
 two:2<=l.length
 most:l.length<=4096
 ok:∀ x,x ∈ l->y4o x
 ord:ordE l
structure fmP(p:Pst):Prop where
 no:0<=p.no/\p.no<65536
 minute:0<=p.minute/\p.minute<1440
 corrects : -1<=p.corrects/\p.corrects<p.no
 ents:fmE p.ents
open Classical in
noncomputable def y3o(p:Pst):Int:=if fmP p then(if y4m p.ents=0 then 0 else 411) else 410
structure gdP(p:Pst):Prop where
 fm:fmP p
 sum:y4m p.ents=0
theorem z1f{p:Pst}:y3o p=0 ↔ gdP p:=by
 unfold y3o
 constructor
 ·intro h
  split at h
  ·rename_i h1
   split at h
   ·rename_i h2;exact⟨h1,h2⟩
   ·simp at h
  ·simp at h
 ·rintro⟨h1,h2⟩
  rw[if_pos h1,if_pos h2]

def cI(n:Int):CV:=.mk 1 n [] []
def cL(l:List CV):CV:=.mk 3 0 [] l
def cT(s:List UInt8):CV:=.mk 2 0 s []
def y4q(x:Ent):CV:=cL [cI x.kind,cI x.idx,cI x.amt]
def y8h(p:Pst):CV:=cL [cI p.no,cI p.minute,cI p.corrects,cL (p.ents.map y4q),cT p.prev]
def y5f(p:Pst):List UInt8:=enc (y8h p)

theorem z7e{n:Int}(h:i64 n):fmd (cI n):=by unfold cI;rw[fmd];exact .inl ⟨rfl,h,rfl,rfl⟩
theorem zpo{s:List UInt8}:fmd (cT s):=by unfold cT;rw[fmd];exact .inr (.inl ⟨rfl,rfl,rfl⟩)
theorem zcq{l:List CV}(h:y9q l):fmd (cL l):=by unfold cL;rw[fmd];exact .inr (.inr ⟨rfl,rfl,rfl,h⟩)
theorem z8f:∀{l:List CV},(∀ v,v ∈ l->fmd v)->y9q l
 |[],_=>by rw[y9q];trivial
 |v::l,h=>by rw[y9q];exact⟨h v (by simp),z8f fun w hw=>h w (by simp[hw])⟩
theorem zcx{n:Int}:dep (cI n)=0:=by unfold cI;rw[dep,if_neg (by decide)]
theorem zq2{s:List UInt8}:dep (cT s)=0:=by unfold cT;rw[dep,if_neg (by decide)]
theorem zcw{l:List CV}:dep (cL l)=y5g l+1:=by unfold cL;rw[dep,if_pos rfl]
theorem zcy{n:Nat}:∀{l:List CV},(∀ v,v ∈ l->dep v<=n)->y5g l<=n
 |[],_=>by rw[y5g];omega
 |v::l,h=>by rw[y5g];exact Nat.max_le.2 ⟨h v (by simp),zcy fun w hw=>h w (by simp[hw])⟩

structure ybt(p:Pst):Prop where
 no:i64 p.no
 minute:i64 p.minute
 corrects:i64 p.corrects
 ents:∀ x,x ∈ p.ents->i64 x.kind/\i64 x.idx/\i64 x.amt

theorem zck{p:Pst}(h:fmP p):ybt p:=by
 obtain⟨h1,h2,h3,h4⟩:=h
 refine⟨⟨by omega,by omega⟩,⟨by omega,by omega⟩,⟨by omega,by omega⟩,fun x hx=>?_⟩
 obtain⟨a,b,c,d⟩:=h4.ok x hx
 exact⟨⟨by omega,by omega⟩,⟨by omega,by omega⟩,⟨by omega,by omega⟩⟩

theorem zmn{x:Ent}(h:i64 x.kind/\i64 x.idx/\i64 x.amt):fmd (y4q x):=by
 unfold y4q
 refine zcq (z8f fun v hv=>?_)
 simp only[aB,gC,or_false] at hv
 rcases hv with rfl | rfl | rfl
 ·exact z7e h.1
 ·exact z7e h.2.1
 ·exact z7e h.2.2
theorem ztw{p:Pst}(h:ybt p):fmd (y8h p):=by
 unfold y8h
 refine zcq (z8f fun v hv=>?_)
 simp only[aB,gC,or_false] at hv
 rcases hv with rfl | rfl | rfl | rfl | rfl
 ·exact z7e h.no
 ·exact z7e h.minute
 ·exact z7e h.corrects
 ·refine zcq (z8f fun v hv=>?_)
  obtain⟨x,hx,rfl⟩:=aX.1 hv
  exact zmn (h.ents x hx)
 ·exact zpo
theorem zn3{x:Ent}:dep (y4q x)=1:=by
 unfold y4q;rw[zcw];simp[y5g,zcx]
theorem zu2{p:Pst}:dep (y8h p)<=3:=by
 unfold y8h
 rw[zcw]
 have:y5g [cI p.no,cI p.minute,cI p.corrects,cL (p.ents.map y4q),cT p.prev]<=2:=by
  refine zcy fun v hv=>?_
  simp only[aB,gC,or_false] at hv
  rcases hv with rfl | rfl | rfl | rfl | rfl
  ·rw[zcx];omega
  ·rw[zcx];omega
  ·rw[zcx];omega
  ·rw[zcw]
   have:y5g (p.ents.map y4q)<=1:=zcy fun v hv=>by
    obtain⟨x,_,rfl⟩:=aX.1 hv
    rw[zn3];omega
   omega
  ·rw[zq2];omega
 omega

theorem z9c{u:Nat}(h:u<18446744073709551616):(num u).length<=11:=by
 have key:∀(k u:Nat),u<2 ^ (7*k)->(num u).length<=k+1:=by
  intro k
  induction k with
  |zero=>intro u h;rw[z9b (by omega)];simp
  |succ k ih=>
   intro u h
   by_cases h1:u<128
   ·rw[z9b h1];simp
   ·rw[ze2 h1]
    have:=ih (u / 128) (by
     rw[jj (by decide),show(128:Nat)=2 ^ 7 from rfl,<- nG]
     rwa [show 7*k+7=7*(k+1) from by omega])
    simp;omega
 have:(18446744073709551616:Nat)<=2 ^ (7*10):=by decide
 exact key 10 u (by omega)
theorem zu0{n:Int}:enc (cI n)=1::num (uns n):=by unfold cI;rw[enc,if_pos rfl]
theorem zpw{s:List UInt8}:enc (cT s)=2::(num s.length++s):=by unfold cT;rw[enc,if_neg (by decide),if_pos rfl]
theorem zct{l:List CV}:enc (cL l)=3::(num l.length++y3j l):=by unfold cL;rw[enc,if_neg (by decide),if_neg (by decide)]
theorem z5g{n:Int}(h:i64 n):(enc (cI n)).length<=12:=by
 rw[zu0]
 have:=z9c (zd7 h)
 simp;omega
theorem zn0{n:Nat}:∀{l:List CV},(∀ v,v ∈ l->(enc v).length<=n)->(y3j l).length<=l.length*n
 |[],_=>by simp[y3j]
 |v::l,h=>by
  have h1:=h v (by simp)
  have h2:=zn0 (l:=l) fun w hw=>h w (by simp[hw])
  simp only[y3j,aw,aC,bg];omega
theorem zpy{x:Ent}(h:i64 x.kind/\i64 x.idx/\i64 x.amt):(enc (y4q x)).length<=48:=by
 unfold y4q
 rw[zct]
 have h1:=z5g h.1
 have h2:=z5g h.2.1
 have h3:=z5g h.2.2
 have h4:=z9c (u:=3) (by omega)
 simp[y3j] at h1 h2 h3 h4 ⊢
 omega
theorem zcu{p:Pst}(h:ybt p)(hn:p.ents.length<=1000000)(hp:p.prev.length<=1000000):(y5f p).length<=48*p.ents.length+p.prev.length+100:=by
 unfold y5f y8h
 rw[zct]
 have h1:=z5g h.no
 have h2:=z5g h.minute
 have h3:=z5g h.corrects
 have h4:=z9c (u:=5) (by omega)
 have h5:(enc (cL (p.ents.map y4q))).length<=48*p.ents.length+12:=by
  rw[zct]
  have:=z9c (u:=(p.ents.map y4q).length) (by simp;omega)
  have h6:=zn0 (n:=48) (l:=p.ents.map y4q) fun v hv=>by
   obtain⟨x,hx,rfl⟩:=aX.1 hv
   exact zpy (h.ents x hx)
  simp at this h6 ⊢
  omega
 have h7:(enc (cT p.prev)).length<=p.prev.length+12:=by
  rw[zpw]
  have:=z9c (u:=p.prev.length) (by omega)
  simp;omega
 simp only[aC,aw,y3j,bA,Nat.reduceAdd] at h4 ⊢
 omega


abbrev Tag:=List UInt8->List UInt8->List UInt8
def y3d:List UInt8:=[112,111,115,116,105,110,103,115]
def y26:List UInt8:=[112,111,115,116,105,110,103]
def ybg:List UInt8:=[99,104,97,105,110]
def y34(tg:Tag):List UInt8:=tg y3d []
def ybf(tg:Tag)(a b:List UInt8):List UInt8:=tg ybg (a++b)
def y6a(tg:Tag)(d:List UInt8)(p:Pst):List UInt8:=ybf tg d (tg y26 (y5f p))
def y3i(tg:Tag)(l:List Pst):List UInt8:=l.foldl (y6a tg) (y34 tg)
theorem zn2{tg:Tag}{l:List Pst}{p:Pst}:y3i tg (l++[p])=y6a tg (y3i tg l) p:=by simp[y3i]
theorem za3{tg:Tag}{l:List Pst}{i:Nat}(h:i<l.length):y3i tg (l.take (i+1))=y6a tg (y3i tg (l.take i)) l[i]:=by
 rw[aR h,zn2]

structure atP(tg:Tag)(l:List Pst)(i:Nat)(p:Pst):Prop where
 no:p.no=i
 prev:p.prev=y3i tg (l.take i)
 minute:∀ j q,j+1=i->l[j]? = some q->q.minute<=p.minute
def vld(tg:Tag)(l:List Pst):Prop:=l.length<=65536/\(∀ p,p ∈ l->gdP p) /\ ∀ i p,l[i]? = some p->atP tg l i p

open Classical in
noncomputable def y2e:List Pst->Int
 |[]=>0
 |p::l=>if y3o p=0 then y2e l else y3o p
open Classical in
noncomputable def rdE(tg:Tag)(l:List Pst):Int:=if 65536<l.length then 2 else if y2e l ≠ 0 then y2e l else if vld tg l then 0 else 410

theorem z24:∀{l:List Pst},y2e l=0 ↔ ∀ p,p ∈ l->gdP p
 |[]=>by simp[y2e]
 |p::l=>by
  simp only[y2e,aB,forall_eq_or_imp]
  split
  ·rename_i h
   rw[z24]
   exact⟨fun h2=>⟨z1f.1 h,h2⟩,fun h2=>h2.2⟩
  ·rename_i h
   exact⟨fun h2=>absurd h2 h,fun h2=>absurd (z1f.2 h2.1) h⟩
theorem z1w{tg:Tag}{l:List Pst}:rdE tg l=0 ↔ vld tg l:=by
 unfold rdE
 constructor
 ·intro h
  split at h
  ·simp at h
  ·split at h
   ·rename_i h2;exact absurd h h2
   ·split at h
    ·assumption
    ·simp at h
 ·intro h
  rw[if_neg (by have:=h.1;omega),if_neg (by simp only[ne_eq,ke];exact z24.2 h.2.1),if_pos h]

theorem zbu{tg:Tag}:vld tg []:=⟨by simp,by simp,by simp⟩
theorem zo8{tg:Tag}{l:List Pst}{p:Pst}(h:vld tg l)(hl:l.length<65536)(g:gdP p)(hno:p.no=l.length)(hprev:p.prev=y3i tg l)(hm:∀ q,l.getLast? = some q->q.minute<=p.minute):vld tg (l++[p]):=by
 refine⟨by simp;omega,fun q hq=>?_,fun i q hi=>?_⟩
 ·rcases aS.1 hq with hq | hq
  ·exact h.2.1 q hq
  ·simp at hq;subst hq;exact g
 ·rw[List.getElem?_append] at hi
  split at hi
  ·rename_i hlt
   obtain⟨a,b,c⟩:=h.2.2 i q hi
   refine⟨a,?_,fun j r hj hr=>c j r hj ?_⟩
   ·rw[bC (by omega)];exact b
   ·rw[ay (by omega)] at hr;exact hr
  ·rename_i hge
   have hi0:i=l.length:=by
    have:=(ae.1 hi).1
    simp at this;omega
   subst hi0
   simp at hi;subst hi
   refine⟨hno,?_,fun j r hj hr=>hm r ?_⟩
   ·rw[bC (ai _),bh];exact hprev
   ·rw[ay (by omega)] at hr
    rw[dN,<- hr]
    congr 1;omega

structure Stp where
 minute:Int
 corrects:Int
 ents:List Ent
def y4f(tg:Tag)(l:List Pst)(s:Stp):Pst:=⟨l.length,s.minute,s.corrects,s.ents,y3i tg l⟩
open Classical in
noncomputable def y2j(tg:Tag)(l:List Pst)(s:Stp):Int:=
 if rdE tg l ≠ 0 then rdE tg l else if l.length=65536 then 2 else if ∃ q,l.getLast? = some q/\s.minute<q.minute then 410 else y3o (y4f tg l s)
theorem zca{tg:Tag}{l:List Pst}{s:Stp}(h:y2j tg l s=0):vld tg l/\l.length<65536/\vld tg (l++[y4f tg l s])/\(∀ q,l.getLast? = some q->q.minute<=s.minute)/\gdP (y4f tg l s):=by
 unfold y2j at h
 split at h
 ·rename_i h1;exact absurd h h1
 ·rename_i h1
  have v:=z1w.1 (ke.1 h1)
  split at h
  ·simp at h
  ·rename_i h2
   have hl:l.length<65536:=by have:=v.1;omega
   split at h
   ·simp at h
   ·rename_i h3
    have hm:∀ q,l.getLast? = some q->q.minute<=s.minute:=fun q hq=>by
     rcases Int.lt_or_le s.minute q.minute with h4 | h4
     ·exact absurd ⟨q,hq,h4⟩ h3
     ·exact h4
    have g:=z1f.1 h
    exact⟨v,hl,zo8 v hl g rfl rfl hm,hm,g⟩
theorem z3z{tg:Tag}{l:List Pst}{s:Stp}(v:vld tg l)(hl:l.length<65536)(hm:∀ q,l.getLast? = some q->q.minute<=s.minute):y2j tg l s=y3o (y4f tg l s):=by
 unfold y2j
 rw[if_neg (by simp[z1w.2 v]),if_neg (by omega),if_neg]
 rintro⟨q,h1,h2⟩
 have:=hm q h1
 omega

def y54(k i:Int):List Ent->Int
 |[]=>0
 |x::l=>(if x.kind=k/\x.idx=i then x.amt else 0)+y54 k i l
def y76(k i m:Int):List Pst->Int
 |[]=>0
 |p::l=>(if p.minute<=m then y54 k i p.ents else 0)+y76 k i m l
end Dv

namespace Dv

def yaw(l:List Pst):List (Int × Int):=l.flatMap fun p=>p.ents.map fun x=>(x.kind,x.idx)

end Dv

namespace Dv
attribute [local simp] ac depth y4s y82 y3l y2r y81 y5v y3a y23 Ret
attribute [local congr] z2n z2r z1y z1j z18 z1z z17


abbrev xI(n:Int):D:=.agg [dI 1,dI n,.str [],.imm .exact []]
theorem zeo{n:Int}:dV (cI n)=.agg [dI 1,dI n,.str [],.imm .none []]:=by unfold cI;rw[z1l];rfl
theorem zwc{hp:List Obj}{k:Nat}{n:Int}:frz hp (k+2) (xI n)=some (dV (cI n)):=by rw[zeo];rfl
def is4(x:D):Prop:=x.storable=true/\x.cellsL.length=4
theorem zah{l new:List D}(h:l.length+new.length<=1000000)(hl:∀ x,x ∈ l->is4 x):y2o E 55 l new:=by
 refine⟨?_,?_,?_,?_⟩
 all_goals simp[yj]
 ·omega
 ·unfold y31
  rw[az]
  intro x hx
  obtain⟨h1,h2⟩:=hl x hx
  simp[h1,h2]
def Lx(vs:List Int)(i:Nat):List D:=(vs.take i).map xI
theorem zuo{vs:List Int}:Lx vs 0=[]:=rfl
theorem zws{vs:List Int}:Lx vs vs.length=vs.map xI:=by unfold Lx;rw[bh]
theorem zwr{vs:List Int}{i:Nat}(h:i<=vs.length):(Lx vs i).length=i:=by unfold Lx;rw[au,aP];omega
theorem Lx_s{vs:List Int}{i:Nat}(h:i<vs.length):Lx vs (i+1)=Lx vs i++[xI vs[i]]:=by unfold Lx;rw[aR h,bo];rfl
theorem zrh{l:List Int}:∀ x,x ∈ l.map xI->is4 x:=by
 intro x hx
 obtain⟨n,_,rfl⟩:=aX.1 hx
 exact⟨rfl,rfl⟩

def LstI(hp:List Obj)(vs:List Int)(d:D)(hp':List Obj):Prop:=
 ∃ sp,d=.agg [dI 3,dI 0,.str [],.imm sp (vs.map xI)]/\y7r hp.length hp' sp vs.length 4/\y2b hp.length hp.length hp hp'/\hp.length<=hp'.length

theorem s366(vs:List Int)(sp0:y17)(hp:List Obj)(hv:vs.length<=100000):∃ d hp',y1i E (dL E) 366 [.imm sp0 (vs.map dI)] hp=some (d,hp')/\LstI hp vs d hp':=by
 refine z3d c366 (args:=[.imm sp0 (vs.map dI)]) (hp:=hp) (R:=LstI hp vs) (by simp) ?_
 simp[t366,n366]
 refine z13 vs.length (fun i env h=>∃(x3 x7 x8:D) (sp:y17),env=[.imm sp0 (vs.map dI),.loc hp.length 0,.loc (hp.length+1) 0,x3,.imm sp0 (vs.map dI),dI vs.length,dI i,x7,x8] /\
  At h hp.length (.cells [dI 0,dI 0,.str [],.imm .exact []])/\At h (hp.length+1) (.cells [dI 3,dI 0,.str [],.imm sp (Lx vs i)])/\y7r (hp.length+2) h sp i 4/\y2b hp.length hp.length hp h/\hp.length+2<=h.length) 0 (by omega) ?_ ?_
 ·rw[zuo]
  exact⟨_,_,_,.exact,rfl,by simp[At],by simp[At],.inl rfl,y2b.app,by simp⟩
 rintro i env h hi ⟨x3,x7,x8,sp,rfl,a1,a2,R,k,hlen⟩
 have hL:(Lx vs i).length=i:=zwr hi
 by_cases hlt:i<vs.length
 ·have hup:=zl hlt (by omega)
  have hap:∀ x:D,y2o E 55 (Lx vs i) [x]:=fun x=>zah (by rw[hL];simp;omega) zrh
  have hsp:=Lx_s hlt
  have h1:hp.length+1<h.length:=by omega
  rcases R with rfl | ⟨q,rfl,hq,hq2⟩
  ·simp[hlt,hup,a2.eq,a2.appE,zy,zt,hap,hL]
   refine⟨a1.app.ne (by omega),.tok h.length,by rw[hsp];exact At.self (by simp;omega),.inr ⟨h.length,rfl,by omega,?_⟩,(k.trans y2b.app).trans (y2b.set (.inr (by omega))),by omega⟩
   exact At.ne (by simp[At]) (by omega)
  ·have hq3:=hq2.eq
   have a2':=a2.ne (j:=q) (x:=Obj.dead) (by omega)
   have a1':=a1.ne (j:=q) (x:=Obj.dead) (by omega)
   simp[hlt,hup,a2.eq,a2'.appE,zy,z12,hap,hL,hq3]
   refine⟨a1'.app.ne (by omega),.tok h.length,by rw[hsp];exact At.self (by simp;omega),.inr ⟨h.length,rfl,by omega,?_⟩,((k.trans (y2b.set (.inr (by omega)))).trans y2b.app).trans (y2b.set (.inr (by omega))),by omega⟩
   exact At.ne (by simp[At]) (by omega)
 ·have:i=vs.length:=by omega
  subst this
  rw[zws] at a2
  have h0:hp.length<h.length:=by omega
  have a3:∀ o,(h.set hp.length o)[hp.length]? = some o:=fun o=>At.self h0
  simp[a1.eq,a2.eq,a3]
  refine⟨sp,rfl,?_,k.trans (y2b.set (.inr (by omega))),by simp;omega⟩
  rcases R with rfl | ⟨q,rfl,hq,hq2⟩
  ·exact .inl rfl
  ·exact .inr ⟨q,rfl,by omega,hq2.ne (by omega)⟩

theorem zcp{A:Type}{f:D->Option D}{g g':A->D}:∀{l:List A},(∀ x,x ∈ l->f (g x)=some (g' x))->y1j f (l.map g)=some (l.map g')
 |[],_=>rfl
 |x::l,h=>by
  rw[ax,ax,z4j,h x (by simp),zcp fun y hy=>h y (by simp[hy])];rfl
theorem zu4{vs:List Int}:dV (cL (vs.map cI))=.agg [dI 3,dI 0,.str [],.imm .none (vs.map fun n=>dV (cI n))]:=by
 unfold cL;rw[z1l,fY];rfl
theorem r366(vs:List Int)(hv:vs.length<=100000):y14 E (dL E) 366 [.imm .none (vs.map dI)]=some (dV (cL (vs.map cI))):=by
 obtain⟨d,hp',e,sp,rfl,_⟩:=s366 vs .none [] hv
 unfold y14
 have hk:E.keep 366=false:=rfl
 have hz:frz hp' depth (.agg [dI 3,dI 0,.str [],.imm sp (vs.map xI)])=some (dV (cL (vs.map cI))):=by
  have:y1j (frz hp' 10) (vs.map xI)=some (vs.map fun n=>dV (cI n)):=zcp fun n _=>zwc
  rw[zu4]
  show frz hp' 12 _=_
  have hs:frz hp' 11 (.str [])=some (.str []):=rfl
  simp[this,hs]
 simp[e,hk]
 exact hz

def yau(a b:Ent):Int:=orI [y6k a.kind b.kind,y6k a.idx b.idx]
theorem r362(a b:Ent):y14 E (dL E) 362 [y3k a.kind a.idx,y3k b.kind b.idx]=some (dI (yau a b)):=by
 have h1:=r74 a.kind b.kind
 have h2:=r74 a.idx b.idx
 have h3:=ydu [y6k a.kind b.kind,y6k a.idx b.idx] (by simp)
 simp only[y3l,ax,aK] at h3
 refine zh c362 (by simp) ?_
 simp[t362,n362,h1,h2,h3]
 try rfl
theorem zn9{a b:Ent}:yau a b<0 ↔ ltA a b:=by
 unfold yau ltA y6k
 simp only[orI]
 repeat' split
 all_goals omega

theorem zvz{P:Prop}[Decidable P]{b:Bool}:(if P then some (D.bool true) else some (D.bool b))=some (D.bool (decide P || b)):=by
 by_cases h:P <;> simp[h]
theorem zm1{a b:Bool}:yb8 (.bool a) (some (.bool true)) (some (.bool b))=some (.bool (a || b)):=by
 cases a <;> rfl

def yat(l:List Ent)(i:Nat):Prop:=(∀ j,∀ h:j<l.length,j<i->y4o l[j]) /\ ∀ j,∀ h:j+1<l.length,j+1<i->ltA l[j] l[j+1]
theorem zlf{l:List Ent}:yat l 0:=⟨fun _ _ h=>absurd h (by omega),fun _ _ h=>absurd h (by omega)⟩
theorem zov{l:List Ent}(h:yat l l.length):(∀ x,x ∈ l->y4o x)/\ordE l:=by
 refine⟨fun x hx=>?_,fun j hj=>h.2 j hj hj⟩
 obtain⟨j,hj,rfl⟩:=List.mem_iff_getElem.1 hx
 exact h.1 j hj hj
theorem zrg{l:List Ent}{i:Nat}(hi:i<l.length)(h:yat l i)(hx:y4o l[i])(ho:∀ h:0<i,ltA (l[i - 1]'(by omega)) l[i]):yat l (i+1):=by
 constructor
 ·intro j hj hji
  by_cases e:j=i
  ·subst e;exact hx
  ·exact h.1 j hj (by omega)
 ·intro j hj hji
  by_cases e:j+1=i
  ·subst e
   exact ho (by omega)
  ·exact h.2 j hj (by omega)
theorem zr5{l:List Ent}{i:Nat}(h:i<l.length):y4m (l.take (i+1))=y4m (l.take i)+l[i].amt:=by
 rw[aR h,zf2];simp[y4m]
theorem zsw{l:List Ent}{i:Nat}(h:yat l i):i<=l.length -> -(i*1099511627776:Int)<=y4m (l.take i)/\y4m (l.take i)<=(i*1099511627776:Int):=by
 induction i with
 |zero=>intro _;simp[y4m]
 |succ i ih=>
  intro hi
  have h1:=ih ⟨fun j hj hji=>h.1 j hj (by omega),fun j hj hji=>h.2 j hj (by omega)⟩ (by omega)
  have h2:=h.1 i hi (by omega)
  rw[zr5 hi]
  obtain⟨_,_,_,h3,h4⟩:=h2
  push_cast
  omega
theorem zcb{p:Pst}(h : ¬ fmP p):y3o p=410:=by unfold y3o;rw[if_neg h]

theorem ydp(p:Pst)(h32:p.prev.length=32)(hl:p.ents.length<=1000000):y14 E (dL E) 355 [y2p p]=some (dI (y3o p)):=by
 refine zh c355 (by simp) ?_
 obtain⟨no,minute,corrects,ents,prev⟩:=p
 simp only at h32 hl
 simp[t355,n355,h32,zvz,zm1]
 split
 ·rename_i hb
  rw[zcb]
  rintro⟨h1,h2,h3,⟨h4,h5,h6,h7⟩⟩
  simp only at h1 h2 h3 h4 h5
  omega
 rename_i hg
 refine z13 ents.length (fun i env h=>∃(x0 x2 x4 x5 x6 x10 x11 x12 x13 x14:D) ,env=[x0,.iptr (dI no::dI minute::dI corrects :: .imm .none (ents.map y3n)::prev.map ya),x2,dI (y4m (ents.take i)),x4,x5,x6,.imm .none (ents.map y3n),dI ents.length,dI i,x10,x11,x12,x13,x14]/\yat ents i) 0 (by omega) ?_ ?_
 ·exact⟨_,_,_,_,_,_,_,_,_,_,rfl,zlf⟩
 rintro i env h hi ⟨x0,x2,x4,x5,x6,x10,x11,x12,x13,x14,rfl,ok⟩
 by_cases hlt:i<ents.length
 ·have hup:=zl hlt (by omega)
  have hbad : ¬ y4o ents[i]->y3o { no:=no,minute:=minute,corrects:=corrects,ents:=ents,prev:=prev }=410:=fun hx=>zcb fun f=>hx (f.ents.ok _ (aN hlt))
  have hs:=zr5 hlt
  have hsb:=zsw ok hi
  simp[hlt,hup,zvz,zm1]
  split
  ·rename_i hb
   refine(hbad fun hx=>?_).symm
   obtain⟨h1,h2,h3,h4,h5⟩:=hx
   omega
  rename_i hb
  have hx:y4o ents[i]:=⟨by omega,by omega,by omega,by omega,by omega⟩
  have hsw:av.wrap (y4m (ents.take i)+ents[i].amt)=y4m (ents.take (i+1)):=by
   rw[hs]
   refine zc ⟨?_,?_⟩ <;> omega
  by_cases h0:i=0
  ·have ok':=zrg hlt ok hx (fun h=>absurd h (by omega))
   subst h0
   simp at hsw
   have h1:av.wrap 1=1:=by decide
   simp[hsw,h1,hlt]
   exact ok'
  ·have hw:av.wrap ((i:Int) - 1)=((i - 1:Nat):Int):=by rw[zc ⟨by omega,by omega⟩];omega
   have hlt':i - 1<ents.length:=by omega
   have h0':0<i:=by omega
   have hc:=r362 ents[i - 1] ents[i]
   by_cases hq:ltA ents[i - 1] ents[i]
   ·have ok':=zrg hlt ok hx (fun _=>hq)
    have hn : ¬ 0<=yau ents[i - 1] ents[i]:=by have:=zn9.2 hq;omega
    simp[h0',hw,hlt',hc,hn,hsw,hup]
    exact ok'
   ·have hn:0<=yau ents[i - 1] ents[i]:=by
     by_cases h:yau ents[i - 1] ents[i]<0
     ·exact absurd (zn9.1 h) hq
     ·omega
    simp[h0',hw,hlt',hc,hn]
    refine(zcb fun f=>hq ?_).symm
    have:=f.ents.ord (i - 1) (by simp only;omega)
    simp only[show i - 1+1=i from by omega] at this
    exact this
 ·have:i=ents.length:=by omega
  subst this
  rw[bh]
  obtain⟨o1,o2⟩:=zov ok
  have hf:fmP { no:=no,minute:=minute,corrects:=corrects,ents:=ents,prev:=prev }:=⟨by simp only;omega,by simp only;omega,by simp only;omega,by simp only;omega,by simp only;omega,o1,o2⟩
  unfold y3o
  rw[if_pos hf]
  by_cases h0:y4m ents=0 <;> simp[h0]

def Le(l:List Ent)(i:Nat):List D:=(l.take i).map fun x=>dV (y4q x)
theorem zup{l:List Ent}:Le l 0=[]:=rfl
theorem zwu{l:List Ent}:Le l l.length=l.map fun x=>dV (y4q x):=by unfold Le;rw[bh]
theorem zwt{l:List Ent}{i:Nat}(h:i<=l.length):(Le l i).length=i:=by unfold Le;rw[au,aP];omega
theorem Le_s{l:List Ent}{i:Nat}(h:i<l.length):Le l (i+1)=Le l i++[dV (y4q l[i])]:=by unfold Le;rw[aR h,bo];rfl
theorem Le_4{l:List Ent}{i:Nat}:∀ x,x ∈ Le l i->is4 x:=by
 intro x hx
 obtain⟨e,_,rfl⟩:=aX.1 hx
 constructor
 ·rw[y4q,cL,z1l];rfl
 ·rw[y4q,cL,z1l];rfl

theorem At.dif{hp:List Obj}{i j:Nat}{a b:Obj}(h:At hp i a)(h':At hp j b)(hn:a ≠ b):i ≠ j:=by
 rintro rfl
 unfold At at h h'
 rw[h] at h'
 exact hn (bZ h')
theorem zwe{hp:List Obj}{n:Nat}{l:List Ent}(h:∀ x,x ∈ l->i64 x.kind/\i64 x.idx/\i64 x.amt):y1j (frz hp (n+4)) (Le l l.length)=some (l.map fun x=>dV (y4q x)):=by
 rw[zwu]
 exact z1d fun x hx=>zrk 1 (y4q x) (zmn (h x hx)) (by rw[zn3];omega) (n+4) (by omega)
theorem zro{p:Pst}:dV (y8h p)=.agg [dI 3,dI 0,.str [],.imm .none [dV (cI p.no),dV (cI p.minute),dV (cI p.corrects),.agg [dI 3,dI 0,.str [],.imm .none (p.ents.map fun x=>dV (y4q x))],.agg [dI 2,dI 0,.str p.prev,.imm .none []]]]:=by
 unfold y8h cL cT
 rw[z1l]
 simp only[ax,aK,z1l,fY]
 rfl
theorem zef{p:Pst}(h:ybt p)(hl:p.ents.length<=1000000)(h32:p.prev.length=32):y47 (y8h p):=by
 have:=zcu h hl (by omega)
 unfold y5f at this
 exact⟨ztw h,by have:=zu2 (p:=p);omega,by omega⟩
theorem z3w{l:List UInt8}(h:l.length=32):y15 E 73 (.iptr (l.map ya)) none none none=some (.imm .none (l.map ya)):=by
 unfold y15
 simp[h,bnd]
 rw[bl (by simp[h])]

noncomputable def yad(p:Pst):D:=if y3o p=0 then .tup [dBy (y5f p),dI 0] else .tup [.imm .none [],dI (y3o p)]

theorem z1g:∀(n k:Nat) (cs:List D),cs.length=k+n->y1x cs k n=some (cs.drop k)
 | 0,k,cs,h=>by rw[y1x,gq (by omega)]
 |n+1,k,cs,h=>by
  have hk:k<cs.length:=by omega
  rw[y1x,z1g n (k+1) cs (by omega),af hk,bP hk]
theorem zcj{p:Pst}(h32:p.prev.length=32):y3s E 71 (.iptr (dI p.no::dI p.minute::dI p.corrects :: .imm .none (p.ents.map y3n)::p.prev.map ya))=some (y2p p):=by
 rw[z1r]
 have e:=z1g 36 0 (dI p.no::dI p.minute::dI p.corrects :: .imm .none (p.ents.map y3n)::p.prev.map ya) (by simp[h32])
 rw[show(E.ty 71).size=36 from rfl,e]
 rfl
theorem z6{hp:List Obj}{n:Nat}{l:List UInt8}:y1j (frz hp (n+1)) (l.map ya)=some (l.map ya):=z1d fun x _=>rfl
theorem zi{hp:List Obj}{n:Nat}{l:List Ent}:y1j (frz hp (n+2)) (l.map y3n)=some (l.map y3n):=z1d fun x _=>rfl
theorem ztu{hp:List Obj}{n:Nat}{p:Pst}:frz hp (n+5) (y2p p)=some (y2p p):=by
 show frz hp (n+5) (.agg _)=_
 rw[z9v]
 simp only[z4j,z7d,z5v,zi,al,za,z6]

theorem zu1{hp r:List Obj}{k:Nat}{o:Obj}(h:At r k o)(hk:hp.length<=k):At (hp++r.drop hp.length) k o:=by
 unfold At at h ⊢
 rw[aA hk,bV]
 rw[show hp.length+(k - hp.length)=k from by omega]
 exact h
theorem yb4(vs:List Int)(sp0:y17)(hp:List Obj)(hv:vs.length<=100000):∃ d sp r,y5s (y1i E (dL E)) 366 [.imm sp0 (vs.map dI)] hp=some (d,hp++r)/\d=.agg [dI 3,dI 0,.str [],.imm sp (vs.map xI)]/\y7r hp.length (hp++r) sp vs.length 4:=by
 obtain⟨d,h',e,sp,rfl,R,k,hl⟩:=s366 vs sp0 (ac hp.length .dead) hv
 rw[cV] at R k hl
 refine⟨_,sp,h'.drop hp.length,?_,rfl,?_⟩
 ·unfold y5s
  rw[e]
  rfl
 ·rcases R with rfl | ⟨q,rfl,hq,hq2⟩
  ·exact .inl rfl
  ·exact .inr ⟨q,rfl,hq,zu1 hq2 hq⟩

theorem r334(p:Pst)(h32:p.prev.length=32)(hl:p.ents.length<=1000000):y14 E (dL E) 334 [y2p p]=some (yad p):=by
 refine zh c334 (by simp) ?_
 have h355:=ydp p h32 hl
 unfold yad
 obtain⟨no,minute,corrects,ents,prev⟩:=p
 simp only at h32 hl
 have hil:=zcj (p:={ no:=no,minute:=minute,corrects:=corrects,ents:=ents,prev:=prev }) h32
 simp only at hil
 by_cases hg:y3o { no:=no,minute:=minute,corrects:=corrects,ents:=ents,prev:=prev }=0
 ·rw[if_pos hg]
  rw[hg] at h355
  obtain⟨d1,sp1,r1,e1,rfl,R1⟩:=yb4 [no,minute,corrects] .none [] (by simp)
  obtain⟨d2,sp2,r2,e2,rfl,R2⟩:=yb4 [] .none r1 (by simp)
  have g1:=(z1f.1 hg).fm
  have hln:ents.length<=4096:=g1.ents.most
  rw[bD] at e1 R1
  have S1:∃ G:List Obj,G=r1++r2 /\ ∀ k,sp1=.tok k->At G k (.tok 12 4)/\k<r1.length:=⟨_,rfl,fun k hk=>by
   rcases R1 with rfl | ⟨q,rfl,_,hq⟩
   ·cases hk
   ·cases hk
    exact⟨At.app hq,At.lt hq⟩⟩
  have R1':sp1=.exact \/ ∃ k,sp1=.tok k:=by
   rcases R1 with h | ⟨q,h,_⟩
   ·exact .inl h
   ·exact .inr ⟨q,h⟩
  obtain⟨G,hG,T⟩:=S1
  rw[<- hG] at e2 R2
  have hG1:r1.length<=G.length:=by rw[hG];simp
  clear hG R1
  simp at e1 e2 R2
  have w1:∀ x y:Obj,(G++[x,y])[G.length+1]? = some y:=fun x y=>by simp
  have w2:∀ x y z:Obj,(G++[x,y]).set (G.length+1) z=G++[x,z]:=fun x y z=>by simp
  simp[t334,n334,h32,h355,z68,↓hil,zi,z6,e1,e2,↓w1,↓w2]
  refine z13 ents.length (fun i env h=>∃(x0 x2 x3 x4 x7 x8 x9 x10 x14 x15 x16 x17 x18:D) (sp:y17),env=[x0,.iptr (dI no::dI minute::dI corrects :: .imm .none (ents.map y3n)::prev.map ya),x2,x3,x4,.loc G.length 0,.loc (G.length+1) 0,x7,x8,x9,x10,.imm .none (ents.map y3n),dI ents.length,dI i,x14,x15,x16,x17,x18] /\
   At h G.length (.cells [dI 3,dI 0,.str [],.imm sp1 [xI no,xI minute,xI corrects]])/\At h (G.length+1) (.cells [dI 3,dI 0,.str [],.imm sp (Le ents i)])/\(∀ k,sp1=.tok k->At h k (.tok 12 4))/\y7r r1.length h sp i 4/\G.length+2<=h.length) 0 (by omega) ?_ ?_
  ·refine⟨_,_,_,_,_,_,_,_,_,_,_,_,_,sp2,rfl,by simp[At],by simp[At,zup],fun k hk=>(T k hk).1.app,?_,by simp⟩
   rcases R2 with h | ⟨q,h,hq,hq2⟩
   ·exact .inl h
   ·exact .inr ⟨q,h,hq,hq2.app⟩
  rintro i env h hi ⟨x0,x2,x3,x4,x7,x8,x9,x10,x14,x15,x16,x17,x18,sp,rfl,a1,a2,T1,T3,hlen⟩
  have hL:(Le ents i).length=i:=zwt hi
  by_cases hlt:i<ents.length
  ·have hup:=zl hlt (by omega)
   have e4:=r366 [ents[i].kind,ents[i].idx,ents[i].amt] (by simp)
   simp only[ax,aK] at e4
   have hap:∀ x:D,y2o E 55 (Le ents i) [x]:=fun x=>zah (by rw[hL];simp;omega) Le_4
   have hv:dV (cL [cI ents[i].kind,cI ents[i].idx,cI ents[i].amt])=dV (y4q ents[i]):=rfl
   have h4:is4 (dV (y4q ents[i])):=Le_4 (l:=ents) (i:=i+1) _ (by rw[Le_s hlt];simp)
   have hsp:=Le_s hlt
   have nt:∀(i:Nat) (l:List D) (a b:Nat),Obj.tok a b ≠ .cells l:=fun _ _ _ _ e=>by cases e
   have T2:∀ k,sp1=.tok k->k<r1.length:=fun k hk=>(T k hk).2
   have T4:∀ k,sp1=.tok k->k<h.length/\k ≠ G.length/\k ≠ G.length+1:=fun k hk=>⟨(T1 k hk).lt,(T1 k hk).dif a1 (nt 0 _ _ _),(T1 k hk).dif a2 (nt 0 _ _ _)⟩
   rcases T3 with rfl | ⟨q,rfl,hq,hq2⟩
   ·have a3:∀ X o,((h++X).set (h.length+1+13) o)[G.length+1]? = some (.cells [dI 3,dI 0,.str [],.imm .exact (Le ents i)]):=fun X o=>(a2.app (r:=X)).ne (by omega)
    simp[hlt,hup,a2.appE,zy,zt,hap,hL,e4,hv,h4.1,h4.2,↓a3]
    refine⟨((a1.app).ne (by omega)).ne (by omega),.tok (h.length+1+13),by rw[hsp];exact At.self (by simp;omega),fun k hk=>?_,.inr ⟨_,rfl,by omega,?_⟩,by omega⟩
    ·obtain⟨k1,k2,k3⟩:=T4 k hk
     exact(((T1 k hk).app).ne (by omega)).ne (by omega)
    ·exact(At.self (by simp)).ne (by omega)
   ·have q1:q ≠ G.length:=hq2.dif a1 (nt 0 _ _ _)
    have q2:q ≠ G.length+1:=hq2.dif a2 (nt 0 _ _ _)
    have hq3:∀ X,(h++X)[q]? = some (.tok (i*4) 4):=fun X=>hq2.app (r:=X)
    have hql:=hq2.lt
    have a2':At (h.set q .dead) (G.length+1) (.cells [dI 3,dI 0,.str [],.imm (.tok q) (Le ents i)]):=a2.ne (by omega)
    have a1':=a1.ne (j:=q) (x:=.dead) (by omega)
    have a3:∀ X o,((h.set q .dead++X).set (h.length+1+13) o)[G.length+1]? = some (.cells [dI 3,dI 0,.str [],.imm (.tok q) (Le ents i)]):=fun X o=>(a2'.app (r:=X)).ne (by omega)
    have hs:∀ X o,(h++X).set q o=h.set q o++X:=fun X o=>z1u hql
    simp[hlt,hup,a2.appE,zy,z12,hap,hL,e4,hv,h4.1,h4.2,↓a3,hq3,↓hs]
    refine⟨((a1'.app).ne (by omega)).ne (by omega),.tok (h.length+1+13),by rw[hsp];exact At.self (by simp;omega),fun k hk=>?_,.inr ⟨_,rfl,by omega,?_⟩,by omega⟩
    ·obtain⟨k1,k2,k3⟩:=T4 k hk
     have:=T2 k hk
     exact((((T1 k hk).ne (by omega)).app).ne (by omega)).ne (by omega)
    ·exact(At.self (by simp)).ne (by omega)
  ·have:i=ents.length:=by omega
   subst this
   have hap:∀ x y:D,y2o E 55 [xI no,xI minute,xI corrects] [x,y]:=fun x y=>zah (by simp) fun z hz=>zrh (l:=[no,minute,corrects]) z hz
   have hsl:=z3w h32
   have hi64:=zck g1
   have hz:=zwe (hp:=[]) (n:=4) hi64.ents
   have hst:∀ n s,frz [] (n+1) (.str s)=some (.str s):=fun _ _=>rfl
   have e64:=r264 (zef hi64 hl h32)
   rw[zro,zeo,zeo,zeo] at e64
   simp only at hz e64
   have hGl:G.length<h.length:=by omega
   have hr:∀(X:List Obj) (o:Obj),((h++X).set G.length o)[G.length]? = some o:=fun X o=>At.self (by simp;omega)
   rcases R1' with rfl | ⟨k1,rfl⟩
   ·simp[a1.appE,a2.appE,hsl,z8k,zy,zt,hap,↓hr,hz,hst,e64,z6]
    rfl
   ·have hk:=(T1 k1 rfl)
    have hk1:k1 ≠ G.length:=hk.dif a1 (fun e=>by cases e)
    have hkl:=hk.lt
    have hk2:∀ X:List Obj,(h++X)[k1]? = some (.tok 12 4):=fun X=>hk.app (r:=X)
    have hs:∀(X:List Obj) (o:Obj),(h++X).set k1 o=h.set k1 o++X:=fun X o=>z1u hkl
    have a1':=a1.ne (j:=k1) (x:=.dead) (by omega)
    have hw:∀ X:List Obj,(h.set k1 .dead++X)[G.length]? = some (.cells [dI 3,dI 0,.str [],.imm (.tok k1) [xI no,xI minute,xI corrects]]):=fun X=>a1'.app (r:=X)
    have hr':∀(X:List Obj) (o:Obj),((h.set k1 .dead++X).set G.length o)[G.length]? = some o:=fun X o=>At.self (by simp;omega)
    simp[a1.appE,a2.appE,hsl,z8k,zy,z12,hap,↓hk2,↓hs,hw,↓hr',hz,hst,e64,z6]
    rfl
 ·rw[if_neg hg]
  simp[t334,n334,h32,h355,hg,↓hil,zi,z6]

abbrev Wd:=BitVec 32
abbrev dW(w:Wd):D:=.int .u32 (w.toNat:Int)
theorem z47(m:Int):b6.wrap m=m % 4294967296:=by simp[fR,fS,fx]
theorem z4m:b6.bits=32:=rfl
theorem zie{w:Wd}:cj 32 (w.toNat:Int)=w:=by simp
theorem zhq{a b:Wd}:b6.wrap ((a.toNat:Int)+b.toNat)=((a+b).toNat:Nat):=by
 rw[z47,eg];omega
theorem yay{w:Wd}:w.toNat<4294967296:=w.isLt
theorem zs8{w:Wd}:((w.toNat:Nat):Int) % 4294967296=w.toNat:=by have:=yay (w:=w);omega
theorem zhn{a b:Wd}:y7i .u32 (a.toNat:Int) b.toNat=((a ^^^ b).toNat:Nat):=by
 unfold y7i
 rw[z47,show b6.bits=32 from rfl,zie,zie,zs8]
theorem zv1{a b:Wd}:yah .u32 (a.toNat:Int) b.toNat=((a &&& b).toNat:Nat):=by
 unfold yah
 rw[z47,show b6.bits=32 from rfl,zie,zie,zs8]
theorem y9l{a b:Wd}:y9o .u32 (a.toNat:Int) b.toNat=((a ||| b).toNat:Nat):=by
 unfold y9o
 rw[z47,show b6.bits=32 from rfl,zie,zie,zs8]
theorem zhp{a:Wd}{n:Nat}(h:n<=32):b6.wrap ((a.toNat:Int)*2 ^ (min n 32))=((a <<< n).toNat:Nat):=by
 rw[z47,er,Nat.shiftLeft_eq,bu h]
 have e:(a.toNat:Int)*2 ^ n=((a.toNat*2 ^ n:Nat):Int):=by rw[Int.natCast_mul,gO];rfl
 rw[e,show(2:Nat) ^ 32=4294967296 from rfl]
 omega
theorem zho{a:Wd}{n:Nat}(h:n<=32):(a.toNat:Int).fdiv (2 ^ (min n 32))=((a >>> n).toNat:Nat):=by
 rw[dQ,Nat.shiftRight_eq_div_pow,bu h,cG _ (gZ (by decide)),iJ,gO]
 rfl

def y4n(x:Wd)(s:Nat):Wd:=(x <<< s) ||| (x >>> (32 - s))
theorem zv8(k:Int):yah .u64 (aV.wrap k) 31=k % 32:=by
 unfold yah
 rw[z14,z14,show aV.bits=64 from rfl]
 have:(cj 64 (k % 18446744073709551616) &&& cj 64 31).toNat=(k % 18446744073709551616).toNat % 32:=by
  rw[iK]
  have h1:(cj 64 31).toNat=31:=by decide
  rw[h1]
  have h2:(cj 64 (k % 18446744073709551616)).toNat=(k % 18446744073709551616).toNat:=by
   rw[BitVec.toNat_ofInt]
   show((k % 18446744073709551616) % 18446744073709551616).toNat=_
   omega
  rw[h2]
  exact Nat.and_two_pow_sub_one_eq_mod _ 5
 rw[this]
 omega

theorem ya2(x:Wd)(k:Int)(h:i64 k):y14 E (dL E) 406 [dW x,dI k]=some (dW (y4n x (k % 32).toNat)):=by
 refine zh c406 (by simp) ?_
 have e:=zv8 k
 obtain⟨s,hs⟩:∃ s:Nat,k % 32=s:=⟨(k % 32).toNat,by omega⟩
 have hs32:s<32:=by omega
 rw[hs] at e ⊢
 have hw:aV.wrap (32 - (s:Int))=((32 - s:Nat):Int):=by rw[z14];omega
 have e1:=zhp (a:=x) (n:=s) (by omega)
 have e2:=zho (a:=x) (n:=32 - s) (by omega)
 have e3:=y9l (a:=x <<< s) (b:=x >>> (32 - s))
 rw[bu (by omega)] at e1 e2
 have m1:min s 32=s:=bu (by omega)
 have m2:min (32 - s) 32=32 - s:=bu (by omega)
 simp[t406,n406,y2k,z4m,e,hw,m1,m2,e1,e2,e3,-er,-dQ,-fq]
 rfl

theorem r407(x:Wd)(a b c:Int)(ha:0<=a/\a<=100)(hb:0<=b/\b<=100)(hc:0<=c/\c<=100) :
  y14 E (dL E) 407 [dW x,dI a,dI b,dI c]=some (dW (y4n x (-a % 32).toNat ^^^ y4n x (-b % 32).toNat ^^^ y4n x (-c % 32).toNat)):=by
 refine zh c407 (by simp) ?_
 have e1:=ya2 x (-a) ⟨by omega,by omega⟩
 have e2:=ya2 x (-b) ⟨by omega,by omega⟩
 have e3:=ya2 x (-c) ⟨by omega,by omega⟩
 have h1:av.wrap (-a) = -a:=zc ⟨by omega,by omega⟩
 have h2:av.wrap (-b) = -b:=zc ⟨by omega,by omega⟩
 have h3:av.wrap (-c) = -c:=zc ⟨by omega,by omega⟩
 simp[t407,n407,e1,e2,e3,h1,h2,h3,zhn,-fJ]

def y68(b:List UInt8)(n:Nat):Wd:=(b.take n).foldl (fun w c=>(w <<< 8) ||| ce 32 c.toNat) 0
theorem zux{b:List UInt8}{n:Nat}(h:n<b.length):y68 b (n+1)=(y68 b n <<< 8) ||| ce 32 b[n].toNat:=by
 unfold y68
 rw[aR h,kf];rfl

theorem zcl{l:List UInt8}:y57 1 (l.map ya)=true:=by cases l <;> rfl
theorem zgl{b:List UInt8}{i:Nat}(h:i<=b.length):y15 E 30 (.imm .none (b.map ya)) none (some (dI i)) none=some (.imm .none ((b.take i).map ya)):=by
 unfold y15
 simp[bnd]
 exact⟨⟨h,zcl⟩,by unfold y2q;simp⟩
theorem z29{E:Env}{cP:Nat->List D->Option D}{env:List D}{hp:List Obj}{a t:Nat}{d:D}{x:Xp}:xv E cP env hp (.n (.slice t (.t a) none (some (.c d)) none) (.cons a x .nil))=ob (xv E cP env hp x) fun u=>y15 E t u none (some d) none:=by
 simp only[xv,xvs]
 cases xv E cP env hp x <;> try rfl
 simp only[yb,gOf,kv,if_true,za]
 exact z10

theorem r405(b:List UInt8)(h:4<=b.length):y14 E (dL E) 405 [.imm .none (b.map ya)]=some (dW (y68 b 4)):=by
 refine zh c405 (by simp) ?_
 have e:=zgl h
 have hl:((b.take 4).map ya).length=4:=by simp;omega
 have e:y15 E 30 (.imm .none (b.map ya)) none (some (.int .i64 4)) none=some (.imm .none ((b.take 4).map ya)):=e
 simp[t405,n405,e,z29]
 rw[bu h]
 refine z13 4 (fun i env h=>∃(x0 x2 x6:D) ,env=[x0,dW (y68 b i),x2,.imm .none ((b.map ya).take 4),dI 4,dI i,x6]) 0 (by omega) ?_ ?_
 ·exact⟨_,_,_,rfl⟩
 rintro i env hp hi ⟨x0,x2,x6,rfl⟩
 by_cases hlt:i<4
 ·have hup:=zl hlt (by omega)
  have hib:i<b.length:=by omega
  have hs:=zux hib
  have e1:=zhp (a:=y68 b i) (n:=8) (by omega)
  have hc:b[i].toNat<256:=b[i].toNat_lt
  have e2:b6.wrap (b[i].toNat:Int)=((ce 32 b[i].toNat).toNat:Nat):=by
   rw[z47,ii];omega
  have e3:=y9l (a:=y68 b i <<< 8) (b:=ce 32 b[i].toNat)
  have hi4:(i:Int)<4:=by omega
  rw[bu (by omega)] at e1
  have e1:b6.wrap (((y68 b i).toNat:Int)*256)=((y68 b i <<< 8).toNat:Nat):=e1
  simp[hi4,hlt,hup,y2k,z4m,e1,e2,e3,hs,hib,-er,-fq,-ii]
 ·have:i=4:=by omega
  subst this
  simp

def y56(m:List UInt8)(off n v:Nat):Nat->List UInt8
 | 0=>m
 |i+1=>(y56 m off n v i).set (off+(n - 1 - i)) (aY (v / 2 ^ (8*i)))
theorem z3n{m:List UInt8}{off n v:Nat}:∀{i:Nat},(y56 m off n v i).length=m.length
 | 0=>rfl
 |i+1=>by rw[y56,bv,z3n]
theorem zf1(m:Int):fh.wrap m=m % 256:=by simp[fR,fS,fx]
theorem zgp{v i:Nat}(h:i<8):fh.wrap ((v:Int).fdiv (2 ^ (min (8*i) 64)))=((aY (v / 2 ^ (8*i))).toNat:Nat):=by
 rw[zf1,bu (by omega),cG _ (gZ (by decide)),ig]
 have e:(v:Int) / 2 ^ (8*i)=((v / 2 ^ (8*i):Nat):Int):=by rw[iJ,gO];rfl
 rw[e]
 omega

theorem z69{hp:List Obj}{id:Nat}{o:Obj}(h:At hp id o):hp.set id o=hp:=by
 apply List.ext_getElem?
 intro j
 by_cases hj:j=id
 ·subst hj
  rw[aQ h.lt]
  exact h.symm
 ·rw[a8 (by omega)]

def Bys(hp:List Obj)(id:Nat)(m:List UInt8):Prop:=At hp id (.cells (m.map ya))

theorem ybm{hp:List Obj}{id off n:Nat}{gr:Bool}{m:List UInt8}(v:Nat)(hv:v<18446744073709551616)(hn:n<=8)(ho:off+n<=m.length)(B:Bys hp id m) :
  ∃ d hp',y1i E (dL E) 383 [.sl id off n 1 false gr,.int .u64 v] hp=some (d,hp')/\(d=.tup []/\hp'=hp.set id (.cells ((y56 m off n v n).map ya))):=by
 refine z3d c383 (args:=[.sl id off n 1 false gr,.int .u64 v]) (hp:=hp) (R:=fun d hp'=>d=.tup []/\hp'=hp.set id (.cells ((y56 m off n v n).map ya))) (by simp) ?_
 have hid:=At.lt B
 simp[t383,n383]
 refine z13 n (fun i env h=>∃(x2 x5:D) ,env=[.sl id off n 1 false gr,.int .u64 v,x2,dI n,dI i,x5]/\h=hp.set id (.cells ((y56 m off n v i).map ya))) 0 (by omega) ?_ ?_
 ·refine⟨_,_,rfl,?_⟩
  rw[y56]
  exact(z69 B).symm
 rintro i env h hi ⟨x2,x5,rfl,rfl⟩
 have hset:∀ o:Obj,(hp.set id o)[id]? = some o:=fun o=>At.self hid
 by_cases hlt:i<n
 ·have hup:=zl hlt (by omega)
  have hb:=zgp (v:=v) (i:=i) (by omega)
  have h1:av.wrap ((n:Int) - 1)=(n:Int) - 1:=zc ⟨by omega,by omega⟩
  have h2:av.wrap ((n:Int) - 1 - i)=((n - 1 - i:Nat):Int):=by rw[zc ⟨by omega,by omega⟩];omega
  have h3:av.wrap (8*(i:Int))=((8*i:Nat):Int):=by rw[zc ⟨by omega,by omega⟩];omega
  have h4:(n - 1 - i:Nat)<n:=by omega
  have h5:off+(n - 1 - i)+1<=m.length:=by omega
  have h0:(8*(i:Int)).toNat=8*i:=by omega
  have h6:off+(n - 1 - i)<(y56 m off n v i).length:=by rw[z3n];omega
  have h8:(0:Int)<=8*(i:Int):=by omega
  simp[hlt,hup,hset,z33,y2k,h1,h2,h3,h4,h5,hb,h0,h8,z3n,y56]
  have hbe:ya (aY (v / 2 ^ (8*i)))=.int .u8 ((v:Int) / 2 ^ (8*i) % 256):=by
   show D.int .u8 ((aY (v / 2 ^ (8*i))).toNat:Int)=_
   rw[<- hb,zf1,bu (by omega),cG _ (gZ (by decide))]
  rw[hbe]
 ·have:i=n:=by omega
  subst this
  simp

def y7a(b:List UInt8):Nat->List Wd
 | 0=>ac 64 0
 |i+1=>(y7a b i).set i (y68 (b.drop (4*i)) 4)
theorem z62{b:List UInt8}:∀{i:Nat},(y7a b i).length=64
 | 0=>by simp[y7a]
 |i+1=>by rw[y7a,bv,z62]
def sg0(x:Wd):Wd:=y4n x 25 ^^^ y4n x 14 ^^^ (x >>> 3)
def sg1(x:Wd):Wd:=y4n x 15 ^^^ y4n x 13 ^^^ (x >>> 10)
def y2v(b:List UInt8):Nat->List Wd
 | 0=>y7a b 16
 |k+1=>(y2v b k).set (k+16) ((y2v b k).getD k 0+sg0 ((y2v b k).getD (k+1) 0)+(y2v b k).getD (k+9) 0+sg1 ((y2v b k).getD (k+14) 0))
theorem z3l{b:List UInt8}:∀{i:Nat},(y2v b i).length=64
 | 0=>z62
 |i+1=>by rw[y2v,bv,z3l]

def Wds(hp:List Obj)(id:Nat)(m:List Wd):Prop:=At hp id (.cells (m.map dW))

def y50:List Wd:=[1116352408,1899447441,3049323471,3921009573,961987163,1508970993,2453635748,2870763221,3624381080,310598401,607225278,1426881987,1925078388,2162078206,2614888103,3248222580,3835390401,4022224774,264347078,604807628,770255983,1249150122,1555081692,1996064986,2554220882,2821834349,2952996808,3210313671,3336571891,3584528711,113926993,338241895,666307205,773529912,1294757372,1396182291,1695183700,1986661051,2177026350,2456956037,2730485921,2820302411,3259730800,3345764771,3516065817,3600352804,4094571909,275423344,430227734,506948616,659060556,883997877,958139571,1322822218,1537002063,1747873779,1955562222,2024104815,2227730452,2361852424,2428436474,2756734187,3204031479,3329325298]
theorem z8d:y50.length=64:=rfl
theorem zey{E:Env}{cP:Nat->List D->Option D}{env:List D}{hp:List Obj}{b t:Nat}{d:D}{x:Xp}:xv E cP env hp (.n (.iaddr t (.c d) (.t b)) (.cons b x .nil))=ob (xv E cP env hp x) fun u=>y25 E t d u:=by
 simp only[xv,xvs]
 cases xv E cP env hp x <;> try rfl
 simp only[yb,gOf,kv,if_true,za]
 exact z10
def ya9(i:Nat):List D:=(y50.map dW).drop i
theorem ye3{i:Nat}(h:i<64):y25 E 80 (.iptr [.int .u32 1116352408,.int .u32 1899447441,.int .u32 3049323471,.int .u32 3921009573,.int .u32 961987163,.int .u32 1508970993,.int .u32 2453635748,.int .u32 2870763221,.int .u32 3624381080,.int .u32 310598401,.int .u32 607225278,.int .u32 1426881987,.int .u32 1925078388,.int .u32 2162078206,.int .u32 2614888103,.int .u32 3248222580,.int .u32 3835390401,.int .u32 4022224774,.int .u32 264347078,.int .u32 604807628,.int .u32 770255983,.int .u32 1249150122,.int .u32 1555081692,.int .u32 1996064986,.int .u32 2554220882,.int .u32 2821834349,.int .u32 2952996808,.int .u32 3210313671,.int .u32 3336571891,.int .u32 3584528711,.int .u32 113926993,.int .u32 338241895,.int .u32 666307205,.int .u32 773529912,.int .u32 1294757372,.int .u32 1396182291,.int .u32 1695183700,.int .u32 1986661051,.int .u32 2177026350,.int .u32 2456956037,.int .u32 2730485921,.int .u32 2820302411,.int .u32 3259730800,.int .u32 3345764771,.int .u32 3516065817,.int .u32 3600352804,.int .u32 4094571909,.int .u32 275423344,.int .u32 430227734,.int .u32 506948616,.int .u32 659060556,.int .u32 883997877,.int .u32 958139571,.int .u32 1322822218,.int .u32 1537002063,.int .u32 1747873779,.int .u32 1955562222,.int .u32 2024104815,.int .u32 2227730452,.int .u32 2361852424,.int .u32 2428436474,.int .u32 2756734187,.int .u32 3204031479,.int .u32 3329325298]) (.int .i64 (i:Int))=some (.iptr (ya9 i)):=by
 have e:(y50.map dW)=[.int .u32 1116352408,.int .u32 1899447441,.int .u32 3049323471,.int .u32 3921009573,.int .u32 961987163,.int .u32 1508970993,.int .u32 2453635748,.int .u32 2870763221,.int .u32 3624381080,.int .u32 310598401,.int .u32 607225278,.int .u32 1426881987,.int .u32 1925078388,.int .u32 2162078206,.int .u32 2614888103,.int .u32 3248222580,.int .u32 3835390401,.int .u32 4022224774,.int .u32 264347078,.int .u32 604807628,.int .u32 770255983,.int .u32 1249150122,.int .u32 1555081692,.int .u32 1996064986,.int .u32 2554220882,.int .u32 2821834349,.int .u32 2952996808,.int .u32 3210313671,.int .u32 3336571891,.int .u32 3584528711,.int .u32 113926993,.int .u32 338241895,.int .u32 666307205,.int .u32 773529912,.int .u32 1294757372,.int .u32 1396182291,.int .u32 1695183700,.int .u32 1986661051,.int .u32 2177026350,.int .u32 2456956037,.int .u32 2730485921,.int .u32 2820302411,.int .u32 3259730800,.int .u32 3345764771,.int .u32 3516065817,.int .u32 3600352804,.int .u32 4094571909,.int .u32 275423344,.int .u32 430227734,.int .u32 506948616,.int .u32 659060556,.int .u32 883997877,.int .u32 958139571,.int .u32 1322822218,.int .u32 1537002063,.int .u32 1747873779,.int .u32 1955562222,.int .u32 2024104815,.int .u32 2227730452,.int .u32 2361852424,.int .u32 2428436474,.int .u32 2756734187,.int .u32 3204031479,.int .u32 3329325298]:=rfl
 rw[<- e,zj9 (m:=64) (e:=78) rfl,if_pos ⟨by omega,by omega⟩]
 rw[show(E.ty 78).size=1 from rfl,du,dh]
 rfl
theorem ye2{i:Nat}{h:List Obj}(hi:i<64):yt E h 78 (.iptr (ya9 i))=some (dW (y50.getD i 0)):=by
 have hl:i<(y50.map dW).length:=by rw[au,z8d];exact hi
 unfold ya9
 rw[bP hl,List.getElem_map,ah,af (by rw[z8d];exact hi)]
 rfl
theorem sl_1{q:Nat}:y15 E 77 (.loc q 0) (some (.int .i64 1)) none none=some (.sl q 1 7 1 false false):=rfl
theorem sl_7{q:Nat}:y15 E 77 (.loc q 0) none (some (.int .i64 7)) none=some (.sl q 0 7 1 false false):=rfl
theorem cp8{H:List Obj}{q:Nat}{d0 d1 d2 d3 d4 d5 d6 d7:Wd}(h:H[q]? = some (.cells [dW d0,dW d1,dW d2,dW d3,dW d4,dW d5,dW d6,dW d7])):y5w E H 81 81 (.sl q 1 7 1 false false) (.sl q 0 7 1 false false)=some (.int .i64 7,H.set q (.cells [dW d0,dW d0,dW d1,dW d2,dW d3,dW d4,dW d5,dW d6])):=by
 unfold y5w
 simp[h,yz,yx,y2y,y1x,yi]
 rfl
def rnd(w:List Wd)(i:Nat)(v:List Wd):List Wd:=match v with
 |[a,b,c,d,e,f,g,h]=>
  let t:=h+(y4n e 26 ^^^ y4n e 21 ^^^ y4n e 7)+(g ^^^ (e &&& (f ^^^ g)))+y50.getD i 0+w.getD i 0
  [t+((y4n a 30 ^^^ y4n a 19 ^^^ y4n a 10)+((a &&& b) ||| (c &&& (a ||| b)))),a,b,c,d+t,e,f,g]
 |v=>v
def y8a(w:List Wd)(v:List Wd):Nat->List Wd
 | 0=>v
 |i+1=>rnd w i (y8a w v i)
theorem y93{l:List Wd}(h:l.length=8):∃ a b c d e f g k,l=[a,b,c,d,e,f,g,k]:=by
 match l,h with
 |[a,b,c,d,e,f,g,k],_=>exact⟨a,b,c,d,e,f,g,k,rfl⟩
theorem zt4{w:List Wd}{i:Nat}{v:List Wd}(h:v.length=8):(rnd w i v).length=8:=by
 obtain⟨a,b,c,d,e,f,g,k,rfl⟩:=y93 h
 rfl
theorem zc7{w v:List Wd}(h:v.length=8):∀{i:Nat},(y8a w v i).length=8
 | 0=>h
 |i+1=>zt4 (zc7 h)

theorem y2b.wk{i C:Nat}{hp hp':List Obj}(h:y2b C C hp hp'):y2b i C hp hp':=fun J h1 h2 h3=>h J h1 (fun hp j o hj hk=>h2 hp j o hj (by rcases hk with rfl | hk;exact .inr (ai _);exact .inr hk)) h3
def Blk(st:Nat)(hp:List Obj)(x:D)(b:List UInt8):Prop:=∀ i:Nat,i<16->∃ y,y15 E 30 x (some (dI (4*(i:Int)))) none none=some y /\ ∀ h,y2b st hp.length hp h->frz h 12 y=some (dBy (b.drop (4*i)))
theorem ztv{l:List UInt8}{h:List Obj}:frz h 12 (dBy l)=some (dBy l):=by rw[z5v,z6];rfl

def y78(s v:List Wd):Nat->List Wd
 | 0=>s
 |i+1=>(y78 s v i).set i ((y78 s v i).getD i 0+v.getD i 0)
theorem z8n{s v:List Wd}:∀{i:Nat},(y78 s v i).length=s.length
 | 0=>rfl
 |i+1=>by rw[y78,bv,z8n]
def y2u(s:List Wd)(b:List UInt8):List Wd:=y78 s (y8a (y2v b 48) s 64) 8

theorem ydh{hp:List Obj}{st:Nat}{x:D}{b:List UInt8}{s:List Wd}(hs:s.length=8)(hb:64<=b.length)(S:Wds hp st s)(hx:Blk st hp x b) :
  ∃ d hp',y1i E (dL E) 404 [.loc st 0,x] hp=some (d,hp')/\(d=.tup []/\Wds hp' st (y2u s b)/\y2b st hp.length hp hp'/\hp.length<=hp'.length):=by
 refine z3d c404 (args:=[.loc st 0,x]) (hp:=hp) (R:=fun d hp'=>d=.tup []/\Wds hp' st (y2u s b)/\y2b st hp.length hp hp'/\hp.length<=hp'.length) (by simp) ?_
 have hid:=At.lt S
 simp[t404,n404]
 refine z13 16 (fun i env h=>∃(x3 x4 x5 x6 x7 x8 x9 x10 x11 x13 x14 x15 x16 x17 x18 x19 x20 x21:D) ,env=[.loc st 0,x,.loc hp.length 0,x3,x4,x5,x6,x7,x8,x9,x10,x11,dI i,x13,x14,x15,x16,x17,x18,x19,x20,x21]/\Wds h hp.length (y7a b i)/\y2b hp.length hp.length hp h) 0 (by omega) ?_ ?_
 ·refine⟨_,_,_,_,_,_,_,_,_,_,_,_,_,_,_,_,_,_,rfl,?_,y2b.app⟩
  unfold Wds y7a
  simp[At]
 rintro i env h hi ⟨x3,x4,x5,x6,x7,x8,x9,x10,x11,x13,x14,x15,x16,x17,x18,x19,x20,x21,rfl,w1,w2⟩
 by_cases hlt:i<16
 ·have hi16:(i:Int)<16:=by omega
  have hup:=zl hlt (by omega)
  obtain⟨y,hy,hf⟩:=hx i hlt
  have hf:=hf h w2.wk
  have hw4:av.wrap (4*(i:Int))=4*(i:Int):=zc ⟨by omega,by omega⟩
  have hy:y15 E 30 x (some (.int .i64 (4*(i:Int)))) none none=some y:=hy
  have e:=r405 (b.drop (4*i)) (by simp;omega)
  have hi64:(i:Int)<64:=by omega
  have w1':h[hp.length]? = some (.cells ((y7a b i).map dW)):=w1
  have hl64:i+1<=(y7a b i).length:=by rw[z62];omega
  have hhl:hp.length<h.length:=w1.lt
  have hst:y7a b (i+1)=(y7a b i).set i (y68 (b.drop (4*i)) 4):=rfl
  generalize hbb:b.drop (4*i)=bb at hf e hst
  have hl63:i<64:=by omega
  have hl65:i+1<=64:=by omega
  simp[hi16,hup,hw4,hy,hf,e,hi64,w1',z62,hl63,hl65]
  refine⟨hlt,?_,w2.trans (y2b.set (.inr (ai _)))⟩
  unfold Wds
  rw[hst,fD]
  exact At.self hhl
 have:i=16:=by omega
 subst this
 simp
 refine z13 48 (fun k env h=>∃(x3 x5 x6 x7 x8 x9 x10 x11 x12 x13 x14 x15 x16 x17 x18 x19 x20 x21:D) ,env=[.loc st 0,x,.loc hp.length 0,x3,dI ((k:Int)+16),x5,x6,x7,x8,x9,x10,x11,x12,x13,x14,x15,x16,x17,x18,x19,x20,x21]/\Wds h hp.length (y2v b k)/\y2b hp.length hp.length hp h) 0 (by omega) ?_ ?_
 ·exact⟨_,_,_,_,_,_,_,_,_,_,_,_,_,_,_,_,_,_,rfl,w1,w2⟩
 clear hi hlt w1 w2 h
 rintro k env h hi ⟨x3,x5,x6,x7,x8,x9,x10,x11,x12,x13,x14,x15,x16,x17,x18,x19,x20,x21,rfl,w1,w2⟩
 have hhl:hp.length<h.length:=w1.lt
 have w1':h[hp.length]? = some (.cells ((y2v b k).map dW)):=w1
 by_cases hlt:k<48
 ·have hk64:(k:Int)+16<64:=by omega
  have i15:av.wrap ((k:Int)+16 - 15)=(k:Int)+1:=by rw[zc ⟨by omega,by omega⟩];omega
  have i2:av.wrap ((k:Int)+16 - 2)=(k:Int)+14:=by rw[zc ⟨by omega,by omega⟩];omega
  have i16:av.wrap ((k:Int)+16 - 16)=(k:Int):=by rw[zc ⟨by omega,by omega⟩];omega
  have i7:av.wrap ((k:Int)+16 - 7)=(k:Int)+9:=by rw[zc ⟨by omega,by omega⟩];omega
  have i1:av.wrap ((k:Int)+16+1)=(k:Int)+1+16:=by rw[zc ⟨by omega,by omega⟩];omega
  have hst:y2v b (k+1)=(y2v b k).set (k+16) ((y2v b k).getD k 0+sg0 ((y2v b k).getD (k+1) 0)+(y2v b k).getD (k+9) 0+sg1 ((y2v b k).getD (k+14) 0)):=rfl
  have hgd:∀ j,j<64->(y2v b k)[j]? = some ((y2v b k).getD j 0):=fun j hj=>by rw[ah,af (by rw[z3l];exact hj)];rfl
  have g0:=hgd k (by omega)
  have g1:=hgd (k+1) (by omega)
  have g9:=hgd (k+9) (by omega)
  have g14:=hgd (k+14) (by omega)
  have hlen:(y2v b k).length=64:=z3l
  clear hgd
  generalize (y2v b k).getD k 0=v0 at g0 hst
  generalize (y2v b k).getD (k+1) 0=v1 at g1 hst
  generalize (y2v b k).getD (k+9) 0=v9 at g9 hst
  generalize (y2v b k).getD (k+14) 0=v14 at g14 hst
  generalize y2v b k=W at g0 g1 g9 g14 hst hlen w1 w1'
  have b1:(0:Int)<=(k:Int)+1:=by omega
  have d1:(k:Int)+1<64:=by omega
  have t1:((k:Int)+1).toNat=k+1:=by omega
  have b14:(0:Int)<=(k:Int)+14:=by omega
  have d14:(k:Int)+14<64:=by omega
  have t14:((k:Int)+14).toNat=k+14:=by omega
  have b9:(0:Int)<=(k:Int)+9:=by omega
  have d9:(k:Int)+9<64:=by omega
  have t9:((k:Int)+9).toNat=k+9:=by omega
  have b16:(0:Int)<=(k:Int)+16:=by omega
  have d16:(k:Int)+16<64:=by omega
  have t16:((k:Int)+16).toNat=k+16:=by omega
  have d0:(k:Int)<64:=by omega
  have n16:k+16<64:=by omega
  have n17:k+16+1<=64:=by omega
  have wA:∀ r:List Obj,(h++r)[hp.length]? = some (.cells (W.map dW)):=fun r=>w1.app (r:=r)
  have r1:=ya2 v1 (-7) ⟨by decide,by decide⟩
  have r2:=ya2 v1 (-18) ⟨by decide,by decide⟩
  have r3:=ya2 v14 (-17) ⟨by decide,by decide⟩
  have r4:=ya2 v14 (-19) ⟨by decide,by decide⟩
  have sh3:∀ x:Wd,(x.toNat:Int).fdiv 8=((x >>> 3).toNat:Nat):=fun x=>zho (a:=x) (n:=3) (by omega)
  have sh10:∀ x:Wd,(x.toNat:Int).fdiv 1024=((x >>> 10).toNat:Nat):=fun x=>zho (a:=x) (n:=10) (by omega)
  have i0:av.wrap (k:Int)=(k:Int):=zc ⟨by omega,by omega⟩
  simp[hk64,i0,i15,i2,i16,i7,i1,w1',wA,g0,g1,g9,g14,hlen,r1,r2,r3,r4,b1,d1,t1,b14,d14,t14,b9,d9,t9,b16,t16,d0,n16,n17,z4m,sh3,sh10,zhn,zhq,-fJ,-eg,-dQ]
  refine⟨hlt,?_,w2.trans (y2b.app.trans (y2b.set (.inr (ai _))))⟩
  unfold Wds
  rw[hst,fD]
  exact At.self (by simp;omega)
 have:k=48:=by omega
 subst this
 have S':Wds h st s:=w2.at (by omega) hid S
 have S2:h[st]? = some (.cells (s.map dW)):=S'
 obtain⟨a0,a1,a2,a3,a4,a5,a6,a7,he⟩:=y93 hs
 rw[he] at S2
 simp at S2
 simp[S2]
 refine z13 64 (fun i env h'=>∃(x3 x4 x5 x6 x8 x9 x10 x11 x12 x13 x14 x15 x16 x18 x19 x20 x21:D) ,env=[.loc st 0,x,.loc hp.length 0,x3,x4,x5,x6,.loc h.length 0,x8,x9,x10,x11,x12,x13,x14,x15,x16,dI i,x18,x19,x20,x21]/\Wds h' hp.length (y2v b 48)/\Wds h' h.length (y8a (y2v b 48) s i)/\y2b hp.length hp.length hp h'/\h.length<h'.length) 0 (by omega) ?_ ?_
 ·refine⟨_,_,_,_,_,_,_,_,_,_,_,_,_,_,_,_,_,rfl,w1.app,?_,w2.trans y2b.app,by simp⟩
  simp[Wds,At,y8a,he]
 rintro i env h' hi ⟨x3,x4,x5,x6,x8,x9,x10,x11,x12,x13,x14,x15,x16,x18,x19,x20,x21,rfl,v1,v2,v3,v4⟩
 by_cases hlt':i<64
 ·have hi64:(i:Int)<64:=by omega
  have hup:=zl hlt' (by omega)
  obtain⟨a,b',c,d,e,f,g,g',hr⟩:=y93 (zc7 (w:=y2v b 48) (v:=s) (i:=i) hs)
  have hst:y8a (y2v b 48) s (i+1)=rnd (y2v b 48) i (y8a (y2v b 48) s i):=rfl
  rw[hr] at v2 hst
  have v1':∀ r:List Obj,(h'++r)[hp.length]? = some (.cells ((y2v b 48).map dW)):=fun r=>v1.app (r:=r)
  have v2':∀ r:List Obj,(h'++r)[h.length]? = some (.cells (([a,b',c,d,e,f,g,g']:List Wd).map dW)):=fun r=>v2.app (r:=r)
  have hw:(y2v b 48)[i]? = some ((y2v b 48).getD i 0):=by rw[ah,af (by rw[z3l];exact hlt')];rfl
  have k1:=ye3 hlt'
  have k2:=fun h:List Obj=>ye2 (h:=h) hlt'
  have hlen:(y2v b 48).length=64:=z3l
  generalize hW:(y2v b 48).getD i 0=wi at hw
  generalize hK:y50.getD i 0=ki at k2
  have q1:=r407 e 6 11 25 (by decide) (by decide) (by decide)
  have q2:=r407 a 2 13 22 (by decide) (by decide) (by decide)
  simp at v2'
  have hcp:=fun r:List Obj=>cp8 (v2' r)
  have hset:∀(r:List Obj) (o:Obj),((h'++r).set h.length o)[h.length]? = some o:=fun r o=>At.self (by simp;omega)
  simp[hi64,hup,v1',v2',hw,q1,q2,zey,k1,k2,z29,sl_1,sl_7,↓hcp,↓hset,hlen,zhn,zhq,zv1,y9l,-fJ,-eg,-iK,-fq]
  refine⟨hlt',v1.app.ne (by omega),?_,v3.trans (y2b.app.trans (y2b.set (.inr (by omega)))),by omega⟩
  unfold Wds
  rw[hst]
  simp only[rnd,hK,hW]
  exact At.self (by simp;omega)
 have:i=64:=by omega
 subst this
 simp
 have hvl:(y8a (y2v b 48) s 64).length=8:=zc7 hs
 unfold y2u at *
 generalize y8a (y2v b 48) s 64=V at v2 hvl ⊢
 have v5:Wds h' st s:=v3.at (by omega) hid S
 refine z13 8 (fun i env h2=>∃(x1 x2 x3 x4 x5 x6 x8 x9 x10 x11 x12 x13 x14 x15 x16 x17 x18 x19 x21:D) ,env=[.loc st 0,x1,x2,x3,x4,x5,x6,.loc h.length 0,x8,x9,x10,x11,x12,x13,x14,x15,x16,x17,x18,x19,dI i,x21]/\Wds h2 h.length V/\Wds h2 st (y78 s V i)/\y2b st hp.length hp h2/\hp.length<=h2.length) 0 (by omega) ?_ ?_
 ·exact⟨_,_,_,_,_,_,_,_,_,_,_,_,_,_,_,_,_,_,_,rfl,v2,v5,v3.wk,by omega⟩
 clear hi hlt' v1 v2 v3 v5
 rintro i env h2 hi ⟨x1,x2,x3,x4,x5,x6,x8,x9,x10,x11,x12,x13,x14,x15,x16,x17,x18,x19,x21,rfl,v2,v5,v3,v6⟩
 by_cases hlt':i<8
 ·have hi8:(i:Int)<8:=by omega
  have hup:=zl hlt' (by omega)
  have g1:(y78 s V i)[i]? = some ((y78 s V i).getD i 0):=by rw[ah,af (by rw[z8n];omega)];rfl
  have g2:V[i]? = some (V.getD i 0):=by rw[ah,af (by omega)];rfl
  have hst:y78 s V (i+1)=(y78 s V i).set i ((y78 s V i).getD i 0+V.getD i 0):=rfl
  have v2':∀ r:List Obj,(h2++r)[h.length]? = some (.cells (V.map dW)):=fun r=>v2.app (r:=r)
  have v5':∀ r:List Obj,(h2++r)[st]? = some (.cells ((y78 s V i).map dW)):=fun r=>v5.app (r:=r)
  have hal:(y78 s V i).length=8:=by rw[z8n];exact hs
  have hi9:i+1<=8:=by omega
  have hi88:i<8:=hlt'
  have e1:(y78 s V i).getD i 0=(y78 s V i)[i]'(by omega):=by rw[ah,af (by omega)];rfl
  have e2:V.getD i 0=V[i]'(by omega):=by rw[ah,af (by omega)];rfl
  rw[e1,e2] at hst
  have v2l:=v2.lt
  have v5l:=v5.lt
  simp[hi8,hup,g1,g2,v2',v5',hal,hvl,hi9,hi88,zhq,-eg]
  refine⟨v2.app.ne (by omega),?_,(v3.trans y2b.app).trans (y2b.set (.inl rfl)),by omega⟩
  unfold Wds
  rw[hst,fD]
  exact At.self (by simp;omega)
 ·have:i=8:=by omega
  subst this
  simp
  exact⟨v5,v3,v6⟩

theorem zrb{b:List UInt8}{i:Nat}(h:i<=b.length):y15 E 30 (.imm .none (b.map ya)) (some (dI i)) none none=some (.imm .none ((b.drop i).map ya)):=by
 unfold y15
 simp[bnd]
 exact⟨⟨h,zcl⟩,by unfold y2q;simp,bl (by simp)⟩
theorem zud{st:Nat}{hp:List Obj}{b:List UInt8}(h:64<=b.length):Blk st hp (.imm .none (b.map ya)) b:=fun i hi=>⟨.imm .none ((b.drop (4*i)).map ya),by
 have:=zrb (b:=b) (i:=4*i) (by omega)
 exact this,fun h _=>ztv⟩
theorem z4k:∀(n:Nat) (l:List UInt8),n<=l.length->y2y 1 false n (l.map ya)=some ((l.take n).map ya)
 | 0,l,_=>by simp[y2y]
 |n+1,[],h=>by simp at h
 |n+1,c::l,h=>by
  have e:=z4k n l (by simp at h;omega)
  simp[y2y,y1x,yi,e]
theorem zrt{st id off n:Nat}{gr:Bool}{hp:List Obj}{m:List UInt8}(B:Bys hp id m)(hid:id ≠ st)(hn:64<=n)(ho:off+n<=m.length):Blk st hp (.sl id off n 1 false gr) ((m.drop off).take n):=fun i hi=>⟨.sl id (off+4*i) (n - 4*i) 1 false false,by
  unfold y15
  have h0:(0:Int)<=4*(i:Int):=by omega
  have h1:(4*(i:Int)).toNat=4*i:=by omega
  simp[bnd,h0,h1]
  omega,fun h k=>by
  have B':Bys h id m:=k.at hid B.lt B
  have B2:h[id]? = some (.cells (m.map ya)):=B'
  rw[zrj]
  simp only[B2,y8g]
  rw[za,<- lZ,z4k _ _ (by simp;omega),za,z6,al,List.drop_take,bW]⟩

def y58:List Wd:=[1779033703,3144134277,1013904242,2773480762,1359893119,2600822924,528734635,1541459225]
def y3f(b:List UInt8):Nat->List Wd->List Wd
 | 0,s=>s
 |k+1,s=>y2u (y3f b k s) ((b.drop (64*k)).take 64)
theorem zgg{s:List Wd}{b:List UInt8}(h:s.length=8):(y2u s b).length=8:=by unfold y2u;rw[z8n];exact h
theorem z2e{b:List UInt8}{s:List Wd}(h:s.length=8):∀{k:Nat},(y3f b k s).length=8
 | 0=>h
 |k+1=>zgg (z2e h)

theorem zkc{E:Env}{cP:Nat->List D->Option D}{env:List D}{hp:List Obj}{t:Nat}{d:D}:xv E cP env hp (.n (.load t (.c d)) .nil)=yt E hp t d:=by
 simp only[xv,xvs]
 simp only[yb,gOf]
 exact z10
theorem ztg{hp:List Obj}:yt E hp 76 (.iptr [.int .u32 1779033703,.int .u32 3144134277,.int .u32 1013904242,.int .u32 2773480762,.int .u32 1359893119,.int .u32 2600822924,.int .u32 528734635,.int .u32 1541459225])=some (.agg (y58.map dW)):=rfl
theorem zsz{b:List UInt8}(h:64<=b.length):y15 E 30 (.imm .none (b.map ya)) (some (.int .i64 64)) none none=some (.imm .none ((b.drop 64).map ya)):=zrb (i:=64) h
theorem zt0{b:List UInt8}(h:64<=b.length):y15 E 30 (.imm .none (b.map ya)) none (some (.int .i64 64)) none=some (.imm .none ((b.take 64).map ya)):=zgl (i:=64) h
def z32:List UInt8:=ac 32 0
def y7t:List UInt8:=ac 128 0
def tl0(r:List UInt8):List UInt8:=r++ac (128 - r.length) 0
theorem zkm{r:List UInt8}(h:r.length<=128):(tl0 r).length=128:=by unfold tl0;rw[aw,cV];omega
theorem zcs:∀(l:List UInt8),yn (l.map ya)=l.map ya
 |[]=>rfl
 |c::l=>by
  have:=zcs l
  simp only[ax,yn,bS] at this ⊢
  rw[this];rfl
theorem ydy{h:List Obj}:y4z E h 30 (.int .i64 64) (.int .i64 128)=some (.sl h.length 0 64 1 false true,h++[.cells (y7t.map ya)]):=by
 have e:=zcs y7t
 have e2:y7t.map ya=ac 128 (D.int .u8 0):=by unfold y7t;rw[bN];rfl
 rw[e2] at e ⊢
 unfold y4z
 simp only[show(E.ty 30).k=.slice 13 from rfl,show y1u E 13=some (D.int .u8 0) from rfl,show(E.ty 13).size=1 from rfl,show(E.ty 13).ag=false from rfl]
 rw[if_pos (by refine⟨by decide,by decide,by decide⟩)]
 rw[show((128:Int)).toNat=128 from rfl,e]
 rfl
theorem z5i{l:List UInt8}:(l.map ya).all (fun d=>d.storable && d.cellsL.length == 1)=true:=z7g
theorem ye9{H:List Obj}{id:Nat}{r:List UInt8}(B:Bys H id y7t)(h:r.length<64):y5w E H 30 30 (.sl id 0 64 1 false true) (.imm .none (r.map ya))=some (.int .i64 r.length,H.set id (.cells ((tl0 r).map ya))):=by
 have B2:H[id]? = some (.cells (y7t.map ya)):=B
 have hl:(y7t.map ya).length=128:=rfl
 have hm:Nat.min r.length 64=r.length:=bu (by omega)
 have hs:setCells (y7t.map ya) 0 (yn (r.map ya))=(tl0 r).map ya:=by
  rw[zcs]
  have e:y7t.map ya=(ac r.length (0:UInt8)).map ya++(ac (128 - r.length) (0:UInt8)).map ya:=by
   rw[<- bo,List.replicate_append_replicate]
   unfold y7t
   congr 2;omega
  rw[e,z1x (by simp),zb (by simp)]
  unfold tl0
  rw[bo]
 have hL:yz H 1 false (.imm .none (r.map ya))=some (r.map ya):=by
  unfold yz
  simp only[z5i,if_true]
 unfold y5w
 simp only[show(E.ty 30).k=.slice 13 from rfl,B2,show(E.ty 13).size=1 from rfl,show(E.ty 13).ag=false from rfl,hL,au,hm]
 rw[if_pos ⟨trivial,by simp[y7t]⟩,bl (by simp),hs]

def tl1(r:List UInt8):List UInt8:=(tl0 r).set r.length 128
theorem z8v{r:List UInt8}(h:r.length<=128):(tl1 r).length=128:=by unfold tl1;rw[bv,zkm h]
theorem rsl{h:List Obj}{r:List UInt8}(hr:r.length<=128):y2w E (h++[.cells ((tl1 r).map ya)]) 30 (.sl h.length 0 64 1 false true) (.int .i64 128)=some (.sl h.length 0 128 1 false true,h++[.cells ((tl1 r).map ya)]):=by
 have e:(h++[Obj.cells ((tl1 r).map ya)])[h.length]? = some (.cells ((tl1 r).map ya)):=by simp
 unfold y2w
 simp only[show(E.ty 30).k=.slice 13 from rfl,e,show(E.ty 13).size=1 from rfl,au,z8v hr]
 rfl
theorem yde{q:Nat}:y15 E 30 (.sl q 0 64 1 false true) (some (.int .i64 56)) none none=some (.sl q 56 8 1 false false):=rfl
theorem zvh{q:Nat}:y15 E 30 (.sl q 0 128 1 false true) (some (.int .i64 120)) none none=some (.sl q 120 8 1 false false):=rfl
theorem zrc{q o l:Nat}{gr:Bool}(h:64<=l):y15 E 30 (.sl q o l 1 false gr) none (some (.int .i64 64)) none=some (.sl q o 64 1 false false):=by
 unfold y15
 simp[bnd]
 omega
theorem zra{q o l:Nat}{gr:Bool}(h:64<=l):y15 E 30 (.sl q o l 1 false gr) (some (.int .i64 64)) none none=some (.sl q (o+64) (l - 64) 1 false false):=by
 unfold y15
 simp[bnd]
 omega
def rst(b:List UInt8)(k:Nat):List UInt8:=b.drop (64*k)
theorem ydk{b:List UInt8}{k:Nat}:rst b (k+1)=(rst b k).drop 64:=by unfold rst;rw[bW];rfl
theorem zc5{b:List UInt8}{k:Nat}:(rst b k).length=b.length - 64*k:=by unfold rst;rw[cX]

theorem z42{E:Env}{cP:Nat->List D->Option D}{env:List D}{hp:List Obj}{t a b c:Nat}{x y z:Xp}(h1:b ≠ a)(h2:c ≠ a)(h3:c ≠ b):xv E cP env hp (.n (.slice t (.t a) (some (.t b)) (some (.t c)) none) (.cons a x (.cons b y (.cons c z .nil))))=ob (xv E cP env hp x) fun u=>ob (xv E cP env hp y) fun v=>ob (xv E cP env hp z) fun w=>y15 E t u (some v) (some w) none:=by
 simp only[xv,xvs]
 cases xv E cP env hp x <;> try rfl
 cases xv E cP env hp y <;> try rfl
 cases xv E cP env hp z <;> try rfl
 simp only[yb,al,Option.map_none,gOf,kv,za,if_true,if_neg h1,if_neg h2,if_neg h3]
 exact z10
def y41(v:List Wd):Nat->List UInt8
 | 0=>z32
 |i+1=>y56 (y41 v i) (4*i) 4 (v.getD i 0).toNat 4
theorem z2c{v:List Wd}:∀{i:Nat},(y41 v i).length=32
 | 0=>rfl
 |i+1=>by rw[y41,z3n,z2c]
def y5m(b:List UInt8):List UInt8:=
 if 55<(rst b (b.length / 64)).length then y41 (y3f (y56 (tl1 (rst b (b.length / 64))) 120 8 (b.length*8) 8) 2 (y3f b (b.length / 64) y58)) 8
 else y41 (y3f (y56 (tl1 (rst b (b.length / 64))) 56 8 (b.length*8) 8) 1 (y3f b (b.length / 64) y58)) 8
theorem z2f{H:List Obj}{m:List UInt8}(B:Bys H 0 m)(h:m.length=32):yt E H 73 (.loc 0 0)=some (.agg (m.map ya)):=by
 have B2:H[0]? = some (.cells (m.map ya)):=B
 have e:=z1g 32 0 (m.map ya) (by simp[h])
 unfold yt
 simp only[yx,B2,show(E.ty 73).size=32 from rfl,e]
 rfl
theorem zr8{i:Nat}(h:i<8):y15 E 73 (.loc 0 0) (some (.int .i64 (4*(i:Int)))) (some (.int .i64 (4*(i:Int)+4))) none=some (.sl 0 (4*i) 4 1 false false):=by
 have h0:(0:Int)<=4*(i:Int):=by omega
 have h1:(4*(i:Int)).toNat=4*i:=by omega
 have h2:(0:Int)<=4*(i:Int)+4:=by omega
 have h3:(4*(i:Int)+4).toNat=4*i+4:=by omega
 unfold y15
 simp only[show(E.ty 73).k=.arr 32 13 from rfl,bnd,if_pos h0,if_pos h2,h1,h3,show(E.ty 13).size=1 from rfl]
 rw[if_pos ⟨by omega,by omega⟩]
 simp

theorem r364(b:List UInt8)(hb:b.length<=1000000000):y14 E (dL E) 364 [dBy b]=some (y4r (y5m b)):=by
 refine zh c364 (by simp) ?_
 have hz:∀ x:List D,(D.agg (y58.map dW)).cellsL=y58.map dW:=fun _=>rfl
 simp[t364,n364,zkc,ztg]
 refine z13 (b.length / 64) (fun k env h=>∃(x5 x6 x7 x8 x9 x10 x11 x12 x13 x14 x15 x16 x17 x18 x19 x20 x21:D) ,env=[dBy b,.loc 0 0,.loc 1 0,.bfn 404 (.loc 1 0),.imm .none ((rst b k).map ya),x5,x6,x7,x8,x9,x10,x11,x12,x13,x14,x15,x16,x17,x18,x19,x20,x21]/\Bys h 0 z32/\Wds h 1 (y3f b k y58)/\2<=h.length) 0 (by omega) ?_ ?_
 ·refine⟨_,_,_,_,_,_,_,_,_,_,_,_,_,_,_,_,_,rfl,?_,?_,by simp⟩
  ·rfl
  ·rfl
 rintro k env h hi ⟨x5,x6,x7,x8,x9,x10,x11,x12,x13,x14,x15,x16,x17,x18,x19,x20,x21,rfl,B,W,hl⟩
 by_cases hlt:k<b.length / 64
 ·have hrl:64<=(rst b k).length:=by rw[zc5];omega
  have h64:(64:Int)<=(rst b k).length:=by omega
  have e1:=zsz hrl
  have e2:=zt0 hrl
  obtain⟨d,h2,e,rfl,w1,k1,l1⟩:=ydh (st:=1) (hp:=h) (x:=.imm .none (((rst b k).take 64).map ya)) (b:=(rst b k).take 64) (s:=y3f b k y58) (z2e rfl) (by rw[aP];omega) W (zud (by rw[aP];omega))
  have hs:rst b (k+1)=(rst b k).drop 64:=ydk
  have hst:y3f b (k+1) y58=y2u (y3f b k y58) ((rst b k).take 64):=rfl
  have B2:Bys h2 0 _:=k1.at (by omega) (by omega) B
  rw[<- hst] at w1
  generalize hT:(rst b k).take 64=T at e2 e hst
  generalize hD:(rst b k).drop 64=Dr at e1 hs
  simp[h64,e1,e2,e,z29,hs]
  exact⟨hlt,B2,w1,by omega⟩
 ·have:k=b.length / 64:=by omega
  subst this
  have h64 : ¬ (64:Int)<=(rst b (b.length / 64)).length:=by rw[zc5];omega
  have hr:(rst b (b.length / 64)).length<64:=by rw[zc5];omega
  have hs1:55<(rst b (b.length / 64)).length->y5m b=y41 (y3f (y56 (tl1 (rst b (b.length / 64))) 120 8 (b.length*8) 8) 2 (y3f b (b.length / 64) y58)) 8:=fun h=>by unfold y5m;rw[if_pos h]
  have hs2 : ¬ 55<(rst b (b.length / 64)).length->y5m b=y41 (y3f (y56 (tl1 (rst b (b.length / 64))) 56 8 (b.length*8) 8) 1 (y3f b (b.length / 64) y58)) 8:=fun h=>by unfold y5m;rw[if_neg h]
  generalize hR:rst b (b.length / 64)=r at hr h64 hs1 hs2
  have hS:(y3f b (b.length / 64) y58).length=8:=z2e rfl
  generalize y3f b (b.length / 64) y58=S at W hS hs1 hs2
  have c1:=ye9 (H:=h++[Obj.cells (y7t.map ya)]) (id:=h.length) (r:=r) (by simp[Bys,At]) hr
  have c2:∀ o:Obj,(h++[Obj.cells (y7t.map ya)]).set h.length o=h++[o]:=fun o=>by simp
  rw[c2] at c1
  have c3:∀ o:Obj,(h++[o])[h.length]? = some o:=fun o=>by simp
  have c4:∀ o o':Obj,(h++[o]).set h.length o'=h++[o']:=fun o o'=>by simp
  have hr':(r.length:Int)<64:=by omega
  have htl:=zkm (r:=r) (by omega)
  have hr1:r.length+1<=128:=by omega
  have c5:(((tl0 r).map ya).set r.length (D.int .u8 128))=(tl1 r).map ya:=by unfold tl1;rw[fD];rfl
  have c6:=fun(h:List Obj)=>rsl (h:=h) (r:=r) (by omega)
  have hL:aV.wrap (b.length:Int)=b.length:=by rw[z14];omega
  have hL8:aV.wrap ((b.length:Int)*8)=((b.length*8:Nat):Int):=by rw[z14];omega
  have hL9:aV.wrap ((b.length:Int)*8)=(b.length:Int)*8:=by rw[z14];omega
  have w56:av.wrap 56=56:=by decide
  have w120:av.wrap 120=120:=by decide
  simp[h64,ydy,c1,↓c3,↓c4,hr',htl,hr1,c5]
  have key:∀ n:Nat,n=64\/n=128->True:=fun _ _=>trivial
  split
  ·rename_i h55
   obtain⟨d,h3,e3,rfl,rfl⟩:=ybm (hp:=h++[Obj.cells ((tl1 r).map ya)]) (id:=h.length) (off:=120) (n:=8) (gr:=false) (m:=tl1 r) (b.length*8) (by omega) (by omega) (by unfold tl1;rw[bv,htl];omega) (by simp[Bys,At])
   rw[c4] at e3
   simp at e3
   simp[c6,zvh,hL,hL8,y2k,e3,z33,w120]
   have hM:(y56 (tl1 r) 120 8 (b.length*8) 8).length=128:=by rw[z3n,z8v (by omega)]
   generalize y56 (tl1 r) 120 8 (b.length*8) 8=M at *
   refine z13 2 (fun j env h'=>∃(x4 x6 x7 x8 x9 x10 x11 x12 x13 x14 x15 x16 x17 x18 x19 x20 x21:D) (gr:Bool),env=[dBy b,.loc 0 0,.loc 1 0,.bfn 404 (.loc 1 0),x4,.sl h.length (64*j) (128 - 64*j) 1 false gr,x6,x7,x8,x9,x10,x11,x12,x13,x14,x15,x16,x17,x18,x19,x20,x21]/\Bys h' 0 z32/\Wds h' 1 (y3f M j S)/\Bys h' h.length M/\h.length<h'.length) 0 (by omega) ?_ ?_
   ·exact⟨_,_,_,_,_,_,_,_,_,_,_,_,_,_,_,_,_,true,rfl,B.app,W.app,by simp[Bys,At],by simp⟩
   rintro j env h' hj ⟨x4,x6,x7,x8,x9,x10,x11,x12,x13,x14,x15,x16,x17,x18,x19,x20,x21,gr,rfl,B1,W1,B2,hl1⟩
   by_cases hlt:j<2
   ·obtain⟨o,ho⟩:∃ o,o=64*j:=⟨_,rfl⟩
    obtain⟨l,hl⟩:∃ l,l=128 - o:=⟨_,rfl⟩
    have hb:y3f M (j+1) S=y2u (y3f M j S) ((M.drop o).take 64):=by rw[ho];rfl
    obtain⟨d,h2,e,rfl,w1,k1,l1⟩:=ydh (st:=1) (hp:=h') (x:=.sl h.length o 64 1 false false) (b:=(M.drop o).take 64) (s:=y3f M j S) (z2e hS) (by simp;omega) W1 (zrt B2 (by omega) (by omega) (by omega))
    rw[<- hb] at w1
    have B1':Bys h2 0 z32:=k1.at (by omega) (by omega) B1
    have B2':Bys h2 h.length M:=k1.at (by omega) hl1 B2
    rw[<- ho,<- hl]
    have e1:=zrc (q:=h.length) (o:=o) (l:=l) (gr:=gr) (by omega)
    have e2:=zra (q:=h.length) (o:=o) (l:=l) (gr:=gr) (by omega)
    have hpos:(0:Int)<l:=by omega
    have o1:64*(j+1)=o+64:=by omega
    have hpos':0<l:=by omega
    simp[hpos,hpos',e1,e2,e,z29]
    exact⟨by omega,⟨by omega,by omega⟩,B1',w1,B2',by omega⟩
   ·have:j=2:=by omega
    subst this
    have hSl:(y3f M 2 S).length=8:=z2e hS
    have hsh:=hs1 (by omega)
    generalize y3f M 2 S=V at W1 hSl hsh
    obtain⟨a0,a1,a2,a3,a4,a5,a6,a7,hV⟩:=y93 hSl
    have W2:h'[1]? = some (.cells (V.map dW)):=W1
    rw[hV] at W2
    simp at W2
    simp[W2]
    rw[hsh]
    refine z13 8 (fun i env h3=>∃(x0 x2 x3 x4 x5 x6 x7 x8 x9 x10 x11 x12 x13 x14 x15 x16 x17 x20 x21:D) ,env=[x0,.loc 0 0,x2,x3,x4,x5,x6,x7,x8,x9,x10,x11,x12,x13,x14,x15,x16,x17,.agg [dW a0,dW a1,dW a2,dW a3,dW a4,dW a5,dW a6,dW a7],dI i,x20,x21]/\Bys h3 0 (y41 V i)) 0 (by omega) ?_ ?_
    ·exact⟨_,_,_,_,_,_,_,_,_,_,_,_,_,_,_,_,_,_,_,rfl,B1⟩
    rintro i env h3 hi ⟨x0,x2,x3,x4,x5,x6,x7,x8,x9,x10,x11,x12,x13,x14,x15,x16,x17,x20,x21,rfl,C⟩
    have hidx:∀ i,i<8->([dW a0,dW a1,dW a2,dW a3,dW a4,dW a5,dW a6,dW a7]:List D)[i]? = some (dW (V.getD i 0)):=fun i hi=>by
     have e:([dW a0,dW a1,dW a2,dW a3,dW a4,dW a5,dW a6,dW a7]:List D)=V.map dW:=by rw[hV];rfl
     rw[e,bL,ah,af (by omega)];rfl
    by_cases hlt:i<8
    ·have hi8:(i:Int)<8:=by omega
     have hup:=zl hlt (by omega)
     have q1:av.wrap (4*(i:Int))=4*(i:Int):=zc ⟨by omega,by omega⟩
     have q2:av.wrap (4*(i:Int)+4)=4*(i:Int)+4:=zc ⟨by omega,by omega⟩
     have q3:=zr8 hlt
     have q4:aV.wrap ((V.getD i 0).toNat:Int)=(V.getD i 0).toNat:=by have:=yay (w:=V.getD i 0);rw[z14];omega
     obtain⟨d,h4,e4,rfl,rfl⟩:=ybm (hp:=h3) (id:=0) (off:=4*i) (n:=4) (gr:=false) (m:=y41 V i) (V.getD i 0).toNat (by have:=yay (w:=V.getD i 0);omega) (by omega) (by rw[z2c];omega) C
     have hid:=hidx i hlt
     have hst:y41 V (i+1)=y56 (y41 V i) (4*i) 4 (V.getD i 0).toNat 4:=rfl
     have hc0:0<h3.length:=At.lt C
     generalize V.getD i 0=w at hid q4 e4 hst
     simp[hi8,hup,hid,q1,q2,q3,q4,e4,y2k,z33,z42]
     refine⟨hlt,?_⟩
     rw[hst]
     exact At.self hc0
    ·have:i=8:=by omega
     subst this
     have l1:=z2f C z2c
     have hsc:setCells ((y41 V 8).map ya) 0 ((y41 V 8).map ya)=(y41 V 8).map ya:=zb rfl
     have hss:h3.set 0 (.cells ((y41 V 8).map ya))=h3:=z69 C
     have C2:h3[0]? = some (.cells ((y41 V 8).map ya)):=C
     have hol:(y41 V 8).length=32:=z2c
     simp[l1,z6,C2,hsc,hss,hol]
     try trace_state
  ·rename_i h55
   obtain⟨d,h3,e3,rfl,rfl⟩:=ybm (hp:=h++[Obj.cells ((tl1 r).map ya)]) (id:=h.length) (off:=56) (n:=8) (gr:=false) (m:=tl1 r) (b.length*8) (by omega) (by omega) (by unfold tl1;rw[bv,htl];omega) (by simp[Bys,At])
   rw[c4] at e3
   simp at e3
   simp[yde,hL,hL8,y2k,e3,z33,w56]
   have hM:(y56 (tl1 r) 56 8 (b.length*8) 8).length=128:=by rw[z3n,z8v (by omega)]
   generalize y56 (tl1 r) 56 8 (b.length*8) 8=M at *
   refine z13 1 (fun j env h'=>∃(x4 x6 x7 x8 x9 x10 x11 x12 x13 x14 x15 x16 x17 x18 x19 x20 x21:D) (gr:Bool),env=[dBy b,.loc 0 0,.loc 1 0,.bfn 404 (.loc 1 0),x4,.sl h.length (64*j) (64 - 64*j) 1 false gr,x6,x7,x8,x9,x10,x11,x12,x13,x14,x15,x16,x17,x18,x19,x20,x21]/\Bys h' 0 z32/\Wds h' 1 (y3f M j S)/\Bys h' h.length M/\h.length<h'.length) 0 (by omega) ?_ ?_
   ·exact⟨_,_,_,_,_,_,_,_,_,_,_,_,_,_,_,_,_,true,rfl,B.app,W.app,by simp[Bys,At],by simp⟩
   rintro j env h' hj ⟨x4,x6,x7,x8,x9,x10,x11,x12,x13,x14,x15,x16,x17,x18,x19,x20,x21,gr,rfl,B1,W1,B2,hl1⟩
   by_cases hlt:j<1
   ·obtain⟨o,ho⟩:∃ o,o=64*j:=⟨_,rfl⟩
    obtain⟨l,hl⟩:∃ l,l=64 - o:=⟨_,rfl⟩
    have hb:y3f M (j+1) S=y2u (y3f M j S) ((M.drop o).take 64):=by rw[ho];rfl
    obtain⟨d,h2,e,rfl,w1,k1,l1⟩:=ydh (st:=1) (hp:=h') (x:=.sl h.length o 64 1 false false) (b:=(M.drop o).take 64) (s:=y3f M j S) (z2e hS) (by simp;omega) W1 (zrt B2 (by omega) (by omega) (by omega))
    rw[<- hb] at w1
    have B1':Bys h2 0 z32:=k1.at (by omega) (by omega) B1
    have B2':Bys h2 h.length M:=k1.at (by omega) hl1 B2
    rw[<- ho,<- hl]
    have e1:=zrc (q:=h.length) (o:=o) (l:=l) (gr:=gr) (by omega)
    have e2:=zra (q:=h.length) (o:=o) (l:=l) (gr:=gr) (by omega)
    have hpos:(0:Int)<l:=by omega
    have o1:64*(j+1)=o+64:=by omega
    have hpos':0<l:=by omega
    simp[hpos,hpos',e1,e2,e,z29]
    exact⟨by omega,⟨by omega,by omega⟩,B1',w1,B2',by omega⟩
   ·have:j=1:=by omega
    subst this
    have hSl:(y3f M 1 S).length=8:=z2e hS
    have hsh:=hs2 (by omega)
    generalize y3f M 1 S=V at W1 hSl hsh
    obtain⟨a0,a1,a2,a3,a4,a5,a6,a7,hV⟩:=y93 hSl
    have W2:h'[1]? = some (.cells (V.map dW)):=W1
    rw[hV] at W2
    simp at W2
    simp[W2]
    rw[hsh]
    refine z13 8 (fun i env h3=>∃(x0 x2 x3 x4 x5 x6 x7 x8 x9 x10 x11 x12 x13 x14 x15 x16 x17 x20 x21:D) ,env=[x0,.loc 0 0,x2,x3,x4,x5,x6,x7,x8,x9,x10,x11,x12,x13,x14,x15,x16,x17,.agg [dW a0,dW a1,dW a2,dW a3,dW a4,dW a5,dW a6,dW a7],dI i,x20,x21]/\Bys h3 0 (y41 V i)) 0 (by omega) ?_ ?_
    ·exact⟨_,_,_,_,_,_,_,_,_,_,_,_,_,_,_,_,_,_,_,rfl,B1⟩
    rintro i env h3 hi ⟨x0,x2,x3,x4,x5,x6,x7,x8,x9,x10,x11,x12,x13,x14,x15,x16,x17,x20,x21,rfl,C⟩
    have hidx:∀ i,i<8->([dW a0,dW a1,dW a2,dW a3,dW a4,dW a5,dW a6,dW a7]:List D)[i]? = some (dW (V.getD i 0)):=fun i hi=>by
     have e:([dW a0,dW a1,dW a2,dW a3,dW a4,dW a5,dW a6,dW a7]:List D)=V.map dW:=by rw[hV];rfl
     rw[e,bL,ah,af (by omega)];rfl
    by_cases hlt:i<8
    ·have hi8:(i:Int)<8:=by omega
     have hup:=zl hlt (by omega)
     have q1:av.wrap (4*(i:Int))=4*(i:Int):=zc ⟨by omega,by omega⟩
     have q2:av.wrap (4*(i:Int)+4)=4*(i:Int)+4:=zc ⟨by omega,by omega⟩
     have q3:=zr8 hlt
     have q4:aV.wrap ((V.getD i 0).toNat:Int)=(V.getD i 0).toNat:=by have:=yay (w:=V.getD i 0);rw[z14];omega
     obtain⟨d,h4,e4,rfl,rfl⟩:=ybm (hp:=h3) (id:=0) (off:=4*i) (n:=4) (gr:=false) (m:=y41 V i) (V.getD i 0).toNat (by have:=yay (w:=V.getD i 0);omega) (by omega) (by rw[z2c];omega) C
     have hid:=hidx i hlt
     have hst:y41 V (i+1)=y56 (y41 V i) (4*i) 4 (V.getD i 0).toNat 4:=rfl
     have hc0:0<h3.length:=At.lt C
     generalize V.getD i 0=w at hid q4 e4 hst
     simp[hi8,hup,hid,q1,q2,q3,q4,e4,y2k,z33,z42]
     refine⟨hlt,?_⟩
     rw[hst]
     exact At.self hc0
    ·have:i=8:=by omega
     subst this
     have l1:=z2f C z2c
     have hsc:setCells ((y41 V 8).map ya) 0 ((y41 V 8).map ya)=(y41 V 8).map ya:=zb rfl
     have hss:h3.set 0 (.cells ((y41 V 8).map ya))=h3:=z69 C
     have C2:h3[0]? = some (.cells ((y41 V 8).map ya)):=C
     have hol:(y41 V 8).length=32:=z2c
     simp[l1,z6,C2,hsc,hss,hol]
     try trace_state

theorem s384(n:Int)(h:0<=n)(h':n<=1000000000)(hp:List Obj):y1i E (dL E) (384) [.imm .exact [],dI n] hp=some (.imm (.tok hp.length) [],hp++[.tok 0 1]):=by
 have e:E.fn (384)=some f384:=rfl
 have e2:E.mp 384=false:=rfl
 have e3 : ¬ n<0:=by omega
 have e4:n*2<=yj:=by unfold yj;omega
 have e5:y31 1 []=true:=rfl
 unfold y1i
 simp only[e,e2,f384,yk,za6,z6w,zhe,z5x,z81,y2a]
 simp[ye,yd,yh,y1y,DOp.fin,yl,yb,ym,gOf,z81,y1l,y49,y2t,y1r,y2s,y2f,y62,y2n,yz,yg,y23,z5x,za5,yw,e3,e4,e5,h,y2g]

def y75(ls:List (List UInt8))(i:Nat):List UInt8:=(ls.take i).flatten
theorem zrs{ls:List (List UInt8)}{i:Nat}(h:i<ls.length):y75 ls (i+1)=y75 ls i++ls[i]:=by
 unfold y75
 rw[aR h,jH];simp
theorem zne{ls:List (List UInt8)}{i:Nat}:(y75 ls i).length<=(y75 ls ls.length).length:=by
 have h:ls.flatten=(ls.take i).flatten++(ls.drop i).flatten:=by rw[<- jH,bq]
 unfold y75
 rw[bh,h,aw];omega

theorem r365(ls:List (List UInt8))(h1:(y75 ls ls.length).length<=1000000000)(h2:ls.length<=1000000000):y14 E (dL E) 365 [.imm .none (ls.map fun l=>.imm .none (l.map ya))]=some (.imm .none ((y75 ls ls.length).map ya)):=by
 refine zh c365 (by simp) ?_
 simp[t365,n365]
 refine z13 ls.length (fun i env h=>∃(x1 x3 x4 x5 x9 x10 x11 x12 x13 x14 x15 x16:D) (m:Nat),env=[.imm .none (ls.map fun l=>.imm .none (l.map ya)),x1,dI m,x3,x4,x5,.imm .none (ls.map fun l=>.imm .none (l.map ya)),dI ls.length,dI i,x9,x10,x11,x12,x13,x14,x15,x16]/\h=[]/\m=(y75 ls i).length) 0 (by omega) ⟨_,_,_,_,_,_,_,_,_,_,_,_,0,rfl,rfl,rfl⟩ ?_
 rintro i env h hi ⟨x1,x3,x4,x5,x9,x10,x11,x12,x13,x14,x15,x16,m,rfl,rfl,hm⟩
 by_cases hlt:i<ls.length
 ·have hs:=zrs hlt
  have hb:=zne (ls:=ls) (i:=i+1)
  obtain⟨W,hW⟩:∃ W,ls[i]=W:=⟨_,rfl⟩
  rw[hW] at hs
  rw[hs,aw] at hb
  have w:=zc (n:=(m:Int)+W.length) ⟨by omega,by omega⟩
  have hn : ¬ (m:Int)+W.length<0:=by omega
  rw[hm] at w hn
  simp[hlt,hW,w,hn,zl hlt (by omega),hs,hm]
 ·have:i=ls.length:=by omega
  subst this
  have e:=s384 (m:Int) (by omega) (by omega) []
  have fb:∀ l:List UInt8,((l.map ya).all fun d=>d.storable && d.cellsL.length == 1)=true:=fun l=>z7g
  simp[e]
  refine z13 ls.length (fun i env h=>∃(x1 x2 x3 x5 x6 x7 x8 x9 x10 x11 x15 x16:D) (k:Nat),env=[.imm .none (ls.map fun l=>.imm .none (l.map ya)),x1,x2,x3,.imm (.tok k) ((y75 ls i).map ya),x5,x6,x7,x8,x9,x10,x11,.imm .none (ls.map fun l=>.imm .none (l.map ya)),dI ls.length,dI i,x15,x16]/\At h k (.tok ((y75 ls i).length*1) 1)) 0 (by omega) ⟨_,_,_,_,_,_,_,_,_,_,_,_,0,rfl,rfl⟩ ?_
  clear hi hm e
  rintro i env h hi ⟨x1,x2,x3,x5,x6,x7,x8,x9,x10,x11,x15,x16,k,rfl,a1⟩
  by_cases hlt:i<ls.length
  ·have hs:=zrs hlt
   have hb:=zne (ls:=ls) (i:=i+1)
   obtain⟨W,hW⟩:∃ W,ls[i]=W:=⟨_,rfl⟩
   obtain⟨C,hC⟩:∃ C,y75 ls i=C:=⟨_,rfl⟩
   obtain⟨C',hC'⟩:∃ C,y75 ls (i+1)=C:=⟨_,rfl⟩
   rw[hW,hC,hC'] at hs
   rw[hC',hs,aw] at hb
   have hap:=zq (l:=C) (new:=W.map ya) (by rw[au];omega)
   rw[hC] at a1 ⊢
   have hcat:C.map ya++W.map ya=C'.map ya:=by rw[hs];simp
   have hlen:C'.length=C.length+W.length:=by rw[hs];simp
   simp[hlt,hW,zy,z12,a1.eq,hap,fb,zl hlt (by omega),↓hC']
   have hg:=zcn (hp:=h.set k Obj.dead) (r:=[Obj.tok (C.length+W.length) 1]) (k:=0)
   rw[bv,Nat.add_zero] at hg
   repeat apply Exists.intro
   refine⟨?_,hg.trans (by rw[hlen];rfl)⟩
   and_intros <;> first | rfl | exact hcat
  ·have:i=ls.length:=by omega
   subst this
   simp[z6]



theorem yb0(a b:List UInt8)(h:a.length+b.length<=1000000000):y14 E (dL E) 365 [.imm .none [dBy a,dBy b]]=some (dBy (a++b)):=by
 have e:=r365 [a,b] (by simp[y75];omega) (by simp)
 rw[show y75 [a,b] [a,b].length=a++b from by simp[y75]] at e
 exact e

theorem z1m{b:List UInt8}:(y5m b).length=32:=by unfold y5m;split <;> exact z2c

def tgB:List UInt8->List UInt8->List UInt8:=fun t b=>y5m (y5m t++b)

theorem z9r{H:List Obj}{n:Nat}:∀(l:List UInt8),(l.map ya).flatMap (ids H (n+1))=[]
 |[]=>rfl
 |c::l=>by
  rw[ax,bS,z9r l];rfl
theorem ztq{A:Obj}{T b:List UInt8}(hl:T.length=32):ids [A,.cells (T.map ya)] 12 (.imm .exact [.sl 1 0 32 1 false false,dBy b])=[1]:=by
 have h1:ids [A,.cells (T.map ya)] 11 (.sl 1 0 32 1 false false)=[1]:=by
  show 1::(((T.map ya).drop 0).take (32*1)).flatMap (ids [A,.cells (T.map ya)] 10)=[1]
  rw[cK,bl (by simp[hl]),z9r]
 have h2:ids [A,.cells (T.map ya)] 11 (dBy b)=[]:=by
  show(b.map ya).flatMap (ids [A,.cells (T.map ya)] 10)=[]
  exact z9r b
 show[D.sl 1 0 32 1 false false,dBy b].flatMap (ids [A,.cells (T.map ya)] 11)=[1]
 rw[bS,bS,h1,h2];rfl
theorem zpm{A:Obj}{cs:List D}:yr [A,.cells cs] [1]=[A,.frozen cs]:=rfl

theorem ybn(t b:List UInt8)(ht:t.length<=1000)(hb:b.length<=900000000):y14 E (dL E) 331 [.str t,dBy b]=some (y4r (tgB t b)):=by
 have e1:=r364 t (by omega)
 have e2:=yb0 (y5m t) b (by rw[z1m];omega)
 have e3:=r364 (y5m t++b) (by rw[aw,z1m];omega)
 have hl:=z1m (b:=t)
 refine zh c331 (by simp) ?_
 have hl3:=z1m (b:=y5m t++b)
 unfold tgB
 generalize y5m t=T at e1 e2 e3 hl hl3 ⊢
 generalize y5m (T++b)=U at e3 hl3 ⊢
 have hsl:y15 E 73 (.loc 1 0) none none none=some (.sl 1 0 32 1 false false):=rfl
 have hsc:setCells (z32.map ya) 0 (T.map ya)=T.map ya:=zb (by rw[au,au,hl];rfl)
 have hz:z32.map ya=ac 32 (D.int .u8 0):=by unfold z32;rw[bN];rfl
 rw[hz] at hsc
 simp only[ac] at hsc
 have hck:y2y 1 false 32 (T.map ya)=some (T.map ya):=by rw[z4k 32 T (by omega),bl (by omega)]
 have hsc2:setCells (z32.map ya) 0 (U.map ya)=U.map ya:=zb (by rw[au,au,hl3];rfl)
 rw[hz] at hsc2
 simp only[ac] at hsc2
 have hfa:y1j (frz [] 11) (T.map ya++b.map ya)=some (T.map ya++b.map ya):=by rw[<- bo];exact z6
 have e3':y14 E (dL E) 364 [.imm .none (T.map ya++b.map ya)]=some (y4r U):=by rw[<- bo];exact e3
 have hid:=fun A:Obj=>ztq (A:=A) (b:=b) hl
 have hld:∀ A:Obj,yt E [.cells (U.map ya),A] 73 (.loc 0 0)=some (.agg (U.map ya)):=fun A=>z2f rfl hl3
 simp[t331,n331,e1,e2,e3',z6,hl,hl3,hsl,↓hsc,↓hsc2,hck,hfa,↓hid,zpm,↓hld]

theorem r335(a b:List UInt8)(ha:a.length=32)(hb:b.length=32):y14 E (dL E) 335 [y4r a,y4r b]=some (y4r (tgB [99,104,97,105,110] (a++b))):=by
 have e1:=yb0 a b (by omega)
 have e2:=ybn [99,104,97,105,110] (a++b) (by simp) (by simp;omega)
 have hl:(tgB [99,104,97,105,110] (a++b)).length=32:=z1m
 have s1:=z3w ha
 have s2:=z3w hb
 refine zh c335 (by simp) ?_
 generalize tgB [99,104,97,105,110] (a++b)=U at e2 hl ⊢
 have e2':y14 E (dL E) 331 [.str [99,104,97,105,110],.imm .none (a.map ya++b.map ya)]=some (y4r U):=by rw[<- bo];exact e2
 have hfa:y1j (frz [] 11) (a.map ya++b.map ya)=some (a.map ya++b.map ya):=by rw[<- bo];exact z6
 have hsc2:setCells (z32.map ya) 0 (U.map ya)=U.map ya:=zb (by rw[au,au,hl];rfl)
 have hz:z32.map ya=ac 32 (D.int .u8 0):=by unfold z32;rw[bN];rfl
 rw[hz] at hsc2
 simp only[ac] at hsc2
 have hld:∀ r:List Obj,yt E (.cells (U.map ya)::r) 73 (.loc 0 0)=some (.agg (U.map ya)):=fun r=>z2f rfl hl
 have hfz:frz [] 11 (.str [99,104,97,105,110])=some (.str [99,104,97,105,110]):=rfl
 have hfz2:frz [] 12 (.str [99,104,97,105,110])=some (.str [99,104,97,105,110]):=rfl
 simp[t335,n335,e1,e2',z6,ha,hb,hl,s1,s2,↓hsc2,hfa,↓hld,hfz,hfz2]

theorem zvi{x:Wd}{n:Nat}(h:n<=32):(x >>> n) ||| (x <<< (32 - n))=y4n x (32 - n):=by
 unfold y4n
 rw[show 32 - (32 - n)=n from by omega,BitVec.or_comm]
theorem y92(x:Wd)(n:Nat)(h:n<=32):y14 E (dL E) 422 [dW x,dI n]=some (dW (y4n x (32 - n))):=by
 refine zh c422 (by simp) ?_
 have hw:av.wrap (32 - (n:Int))=((32 - n:Nat):Int):=by rw[zc ⟨by omega,by omega⟩];omega
 have e1:=zho (a:=x) (n:=n) h
 have e2:=zhp (a:=x) (n:=32 - n) (by omega)
 have e3:=y9l (a:=x >>> n) (b:=x <<< (32 - n))
 have m1:min n 32=n:=bu h
 have m2:min (32 - n) 32=32 - n:=bu (by omega)
 rw[m1] at e1
 rw[m2] at e2
 rw[<- zvi h]
 simp[t422,n422,z4m,hw,m1,m2,e1,e2,e3,-er,-dQ,-fq]

def yc0(a b c d:UInt8):Wd:=(ce 32 a.toNat <<< 24) ||| (ce 32 b.toNat <<< 16) ||| (ce 32 c.toNat <<< 8) ||| ce 32 d.toNat
theorem zs3{a b c d:UInt8}{r:List UInt8}:y68 (a::b::c::d::r) 4=yc0 a b c d:=by
 unfold y68 yc0
 simp only[cN,fE,List.foldl_cons,List.foldl_nil]
 generalize ce 32 a.toNat=A
 generalize ce 32 b.toNat=B
 generalize ce 32 c.toNat=C
 generalize ce 32 d.toNat=D'
 have h0:((0:Wd) <<< 8 ||| A)=A:=by simp
 rw[h0]
 simp only[BitVec.shiftLeft_or_distrib,<- BitVec.shiftLeft_add]
theorem r421(b:List UInt8)(h:b.length=4):y14 E (dL E) 421 [.imm .none (b.map ya)]=some (dW (y68 b 4)):=by
 match b,h with
 |[a,b,c,d],_=>
  refine zh c421 (by simp) ?_
  have cv:∀ a:UInt8,b6.wrap (a.toNat:Int)=((ce 32 a.toNat).toNat:Nat):=fun a=>by
   have:=a.toNat_lt
   rw[z47,ii];omega
  rw[zs3]
  unfold yc0
  generalize hA:ce 32 a.toNat=A
  generalize hB:ce 32 b.toNat=B
  generalize hC:ce 32 c.toNat=C
  generalize hD:ce 32 d.toNat=D'
  have ca:=cv a
  have cb:=cv b
  have cc:=cv c
  have cd:=cv d
  rw[hA] at ca
  rw[hB] at cb
  rw[hC] at cc
  rw[hD] at cd
  have e1:=zhp (a:=A) (n:=24) (by omega)
  have e2:=zhp (a:=B) (n:=16) (by omega)
  have e3:=zhp (a:=C) (n:=8) (by omega)
  simp only[show min 24 32=24 from rfl,show min 16 32=16 from rfl,show min 8 32=8 from rfl] at e1 e2 e3
  have e1:b6.wrap ((A.toNat:Int)*16777216)=((A <<< 24).toNat:Nat):=e1
  have e2:b6.wrap ((B.toNat:Int)*65536)=((B <<< 16).toNat:Nat):=e2
  have e3:b6.wrap ((C.toNat:Int)*256)=((C <<< 8).toNat:Nat):=e3
  have f1:=y9l (a:=A <<< 24) (b:=B <<< 16)
  have f2:=y9l (a:=A <<< 24 ||| B <<< 16) (b:=C <<< 8)
  have f3:=y9l (a:=A <<< 24 ||| B <<< 16 ||| C <<< 8) (b:=D')
  simp[t421,n421,y2k,z4m,ca,cb,cc,cd,e1,e2,e3,f1,f2,f3,-er,-fq]

end Dv

namespace Dv

def y1e:List (Int × Int)->List (Int × Int)
 |[]=>[]
 |[x]=>[x]
 |x::y::r=>if x=y then y1e (y::r) else x::y1e (y::r)

theorem zn8:∀{l:List (Int × Int)} {a:Int × Int},a ∈ y1e l ↔ a ∈ l
 |[],a=>by simp[y1e]
 |[x],a=>by simp[y1e]
 |x::y::r,a=>by
  have ih:=zn8 (l:=y::r) (a:=a)
  unfold y1e
  split
  ·rename_i e
   rw[ih]
   subst e
   simp
  ·rw[aB,ih]
   simp
theorem zhf:∀{l:List (Int × Int)},l ≠ []->y1e l ≠ []
 |[],h=>absurd rfl h
 |[x],_=>by simp[y1e]
 |x::y::r,_=>by
  unfold y1e
  split
  ·exact zhf (by simp)
  ·simp
theorem zjq:∀{l:List (Int × Int)},(y1e l).getLast? = l.getLast?
 |[]=>rfl
 |[x]=>rfl
 |x::y::r=>by
  have ih:=zjq (l:=y::r)
  unfold y1e
  split
  ·rw[ih];simp
  ·have hne:=zhf (l:=y::r) (by simp)
   obtain⟨z,zs,hz⟩:=List.exists_cons_of_ne_nil hne
   rw[hz] at ih ⊢
   rw[iM,ih]
   simp
theorem zbj:∀{l:List (Int × Int)} {a:Int × Int},y1e (l++[a])=if l.getLast? = some a then y1e l else y1e l++[a]
 |[],a=>by simp[y1e]
 |[x],a=>by
  simp only[bi,bD,y1e,List.getLast?_singleton,aa]
  split
  ·rename_i e;rw[e]
  ·rfl
 |x::y::r,a=>by
  have ih:=zbj (l:=y::r) (a:=a)
  have e:(x::y::r).getLast? = (y::r).getLast?:=iM
  rw[e]
  simp only[bi] at ih ⊢
  conv=>lhs;unfold y1e
  conv=>rhs;unfold y1e
  rw[ih]
  split
  ·rfl
  ·split <;> rfl
theorem z6y:∀{l:List (Int × Int)},(y1e l).length<=l.length
 |[]=>by simp[y1e]
 |[x]=>by simp[y1e]
 |x::y::r=>by
  have ih:=z6y (l:=y::r)
  unfold y1e
  split
  ·simp at ih ⊢;omega
  ·simp at ih ⊢;omega

theorem zl8{x y:Int × Int}(h:y4y y x=false):x=y\/y4y x y=true:=by
 unfold y4y at *
 simp at *
 by_cases e:x=y
 ·exact .inl e
 ·right
  have : ¬ (x.1=y.1/\x.2=y.2):=fun h=>e (Prod.ext h.1 h.2)
  omega

theorem zay(l:List (Int × Int)):(y1s l).Perm l:=List.mergeSort_perm l _
theorem z7u(l:List (Int × Int)):(y1s l).length=l.length:=(zay l).length_eq
theorem zdw(l:List (Int × Int)):(y1s l).Pairwise fun x y=>y4y y x=false:=by
 have h:=List.pairwise_mergeSort (le:=fun x y:Int × Int=>!y4y y x) (fun a b c h1 h2=>by
  unfold y4y at *;simp at *;omega) (fun a b=>by
  unfold y4y;simp;omega) l
 exact h.imp fun h=>by simpa using h

def yax(l:List Pst):List (Int × Int):=y1e (y1s (yaw l))
def entN:List Pst->Nat
 |[]=>0
 |p::l=>p.ents.length+entN l
theorem zhl:∀(l:List Pst),(yaw l).length=entN l
 |[]=>rfl
 |p::l=>by
  have:=zhl l
  simp only[yaw,bS,aw,au,entN] at this ⊢
  omega
end Dv

namespace Dv
attribute [local simp] ac depth y4s y82 y3l y2r y81 y5v y3a y23 Ret
attribute [local congr] z2n z2r z1y z1j z18 z1z z17


abbrev pC(p:Pst):List D:=dI p.no::dI p.minute::dI p.corrects :: .imm .none (p.ents.map y3n)::p.prev.map ya
theorem ze9{h:List Obj}{p:Pst}(h32:p.prev.length=32):yt E h 71 (.iptr (pC p))=some (y2p p):=zcj h32
theorem zp3{h r:List Obj}{p:Pst}(h32:p.prev.length=32):yt E (h ++ .cells (pC p)::r) 71 (.loc h.length 0)=some (y2p p):=by
 have e:=z1g 36 0 (pC p) (by simp[h32])
 have e2:(h++Obj.cells (pC p)::r)[h.length]? = some (.cells (pC p)):=by simp
 unfold yt
 simp only[e2,show(E.ty 71).size=36 from rfl,e]
 rfl
theorem stP{p:Pst}(h32:p.prev.length=32):setCells (dI p.no::dI p.minute::dI p.corrects :: .imm .none (p.ents.map y3n)::ac 32 (D.int .u8 0)) 4 (p.prev.map ya)=pC p:=by
 have e:=zu (a:=[dI p.no,dI p.minute,dI p.corrects,.imm .none (p.ents.map y3n)]) (b:=ac 32 (D.int .u8 0)) (off:=0) (vs:=p.prev.map ya)
 rw[zb (by simp[h32])] at e
 exact e

def y6f(l:List Pst):Prop:=l.length<=1000000 /\ ∀ p,p ∈ l->p.prev.length=32/\p.ents.length<=1000000
open Classical in
noncomputable def rdD(l:List Pst):D:=.tup [y4r (if rdE tgB l=0 then y3i tgB l else z32),dI (rdE tgB l)]
theorem z7h:∀{a b:List Pst},y2e a=0->y2e (a++b)=y2e b
 |[],b,_=>rfl
 |p::a,b,h=>by
  simp only[y2e,bi] at h ⊢
  split at h
  ·rename_i hp
   rw[if_pos hp];exact z7h h
  ·rename_i hp;exact absurd h hp
theorem zej{l:List Pst}{i:Nat}(h:i<l.length)(h0:y2e (l.take i)=0)(hp:y3o l[i] ≠ 0):y2e l=y3o l[i]:=by
 have e:l=l.take i++l.drop i:=(bq i l).symm
 have e2:y2e l=y2e (l.drop i):=by
  conv=>lhs;rw[e]
  exact z7h h0
 rw[e2,bP h,y2e,if_neg hp]
theorem zha{l:List Pst}{i:Nat}(h:i<l.length)(h0:y2e (l.take i)=0)(hp:y3o l[i]=0):y2e (l.take (i+1))=0:=by
 rw[aR h,z7h h0,y2e,if_pos hp];rfl

theorem z4w{H:List Obj}{q:Nat}{m:List UInt8}(B:Bys H q m)(h:m.length=32):yt E H 73 (.loc q 0)=some (.agg (m.map ya)):=by
 have B2:H[q]? = some (.cells (m.map ya)):=B
 have e:=z1g 32 0 (m.map ya) (by simp[h])
 unfold yt
 simp only[yx,B2,show(E.ty 73).size=32 from rfl,e]
 rfl
theorem za2:∀{a b:List UInt8},a.length=b.length->eqL (a.map ya) (b.map ya)=some (decide (a=b))
 |[],[],_=>rfl
 |x::a,y::b,h=>by
  have ih:=za2 (a:=a) (b:=b) (by simpa using h)
  have e:y1w (ya x) (ya y)=some (((x.toNat:Int)) == (y.toNat:Int)):=by unfold y1w ya;simp
  rw[ax,ax,eqL,e,ih]
  simp only[aa]
  by_cases hxy:x=y
  ·subst hxy;simp
  ·have : ¬ ((x.toNat:Int))=(y.toNat:Int):=fun h=>hxy (UInt8.toNat_inj.1 (by omega))
   simp[hxy,this]
 |[],_::_,h=>by simp at h
 |_::_,[],h=>by simp at h
theorem z5u:∀{a:List UInt8},y1k (a.map ya) (ac a.length (D.int .u8 0))=true
 |[]=>rfl
 |x::a=>by
  rw[ax,aC,List.replicate_succ]
  simp only[y1k,ya,decide_true,Bool.true_and]
  exact z5u
theorem zli{a b:List UInt8}(ha:a.length=32)(hb:b.length=32):y2n E .neq 73 (.agg (a.map ya)) (.agg (b.map ya))=some (.bool (!decide (a=b))):=by
 have h1:(E.ty 73).eqc=true:=rfl
 have h2:(E.ty 73).zero=ac a.length (D.int .u8 0):=by rw[ha];rfl
 unfold y2n
 simp only[]
 rw[if_pos ⟨h1,by rw[h2];exact z5u⟩,za2 (by rw[ha,hb])]
theorem ye0{h r:List Obj}{p:Pst}(h32:p.prev.length=32):yt E (h ++ .cells (pC p)::r) 73 (.loc h.length 4)=some (.agg (p.prev.map ya)):=by
 have e:=z1g 32 4 (pC p) (by simp[h32])
 have e2:(h++Obj.cells (pC p)::r)[h.length]? = some (.cells (pC p)):=by simp
 unfold yt
 simp only[e2,show(E.ty 73).size=32 from rfl,e]
 rfl
theorem y2m:∀{l:List Pst},(y3i tgB l).length=32:=by
 intro l
 unfold y3i
 rcases List.eq_nil_or_concat l with e | ⟨a,b,e⟩
 ·rw[e]
  show(tgB y3d []).length=32
  exact z1m
 ·rw[e,List.concat_eq_append,kf];exact(show(y5m _).length=32 from z1m)

theorem ydq(l:List Pst)(h:y6f l):y14 E (dL E) 354 [y1m l]=some (rdD l):=by
 refine zh c354 (by simp) ?_
 obtain⟨hl,hp⟩:=h
 by_cases hlen:65536<l.length
 ·have hE:rdE tgB l=2:=by unfold rdE;rw[if_pos hlen]
  unfold rdD
  rw[hE,if_neg (by decide)]
  have hln:(65536:Int)<l.length:=by omega
  simp[t354,n354,hln]
  rfl
 ·have hln : ¬ (65536:Int)<l.length:=by omega
  simp[t354,n354,hln]
  refine z13 l.length (fun i env h=>∃(x2 x3 x4 x5 x6 x7 x8 x9 x13 x14 x15 x16 x17 x18 x19 x20 x21 x22 x23:D) ,env=[y1m l,.loc 0 0,x2,x3,x4,x5,x6,x7,x8,x9,y1m l,dI l.length,dI i,x13,x14,x15,x16,x17,x18,x19,x20,x21,x22,x23]/\Bys h 0 z32/\y2e (l.take i)=0) 0 (by omega) ?_ ?_
  ·exact⟨_,_,_,_,_,_,_,_,_,_,_,_,_,_,_,_,_,_,_,rfl,rfl,rfl⟩
  rintro i env h hi ⟨x2,x3,x4,x5,x6,x7,x8,x9,x13,x14,x15,x16,x17,x18,x19,x20,x21,x22,x23,rfl,B,F⟩
  by_cases hlt:i<l.length
  ·obtain⟨p,hpi⟩:∃ p,p=l[i]:=⟨_,rfl⟩
   have hp2:=hp p (by rw[hpi];exact aN hlt)
   have h355:=ydp p hp2.1 hp2.2
   have hup:=zl hlt (by omega)
   have hli:l[i]? = some p:=by rw[hpi];simp[hlt]
   have q1:=fun h:List Obj=>ze9 (h:=h) hp2.1
   have q2:=fun h:List Obj=>zp3 (h:=h) (r:=[]) hp2.1
   have q3:=stP hp2.1
   have z1:∀ r:List Obj,yt E (h++r) 73 (.loc 0 0)=some (.agg (z32.map ya)):=fun r=>z2f B.app rfl
   have z2:∀ r:List Obj,(h++r)[0]? = some (.cells (z32.map ya)):=fun r=>B.app
   have z3:setCells (z32.map ya) 0 (z32.map ya)=z32.map ya:=zb rfl
   have z4:∀ r:List Obj,(h++r).set 0 (.cells (z32.map ya))=h++r:=fun r=>z69 B.app
   have z5:z32.length=32:=rfl
   simp only[ac] at q3
   simp[hlt,hup,<- hpi,hp2.1,↓q1,↓q2,↓q3,zi,z6,h355,↓z1,↓z2,z3,↓z4,z5]
   by_cases hpc:y3o p=0
   ·rw[if_pos hpc]
    exact⟨B.app,zha hlt F (by rw[<- hpi];exact hpc)⟩
   ·rw[if_neg hpc]
    have hf:=zej hlt F (by rw[<- hpi];exact hpc)
    rw[<- hpi] at hf
    have hE:rdE tgB l=y3o p:=by unfold rdE;rw[if_neg hlen,if_pos (by rw[hf];exact hpc),hf]
    unfold rdD
    rw[hE,if_neg hpc]
  ·have:i=l.length:=by omega
   subst this
   rw[bh] at F
   have z1:∀ r:List Obj,yt E (h++r) 73 (.loc 0 0)=some (.agg (z32.map ya)):=fun r=>z2f B.app rfl
   have e331:=ybn y3d [] (by decide) (by simp)
   have hT:tgB y3d []=y34 tgB:=rfl
   rw[hT] at e331
   have hTl:(y34 tgB).length=32:=y2m (l:=[])
   have hd0:y34 tgB=y3i tgB (l.take 0):=by rw[fE];rfl
   have e331:y14 E (dL E) 331 [.str [112,111,115,116,105,110,103,115],.imm .none []]=some (y4r (y34 tgB)):=e331
   generalize y34 tgB=d0 at e331 hTl hd0
   have hsc2:setCells (z32.map ya) 0 (d0.map ya)=d0.map ya:=zb (by rw[au,au,hTl];rfl)
   have hz:z32.map ya=ac 32 (D.int .u8 0):=by unfold z32;rw[bN];rfl
   rw[hz] at hsc2
   simp only[ac] at hsc2
   have hst:∀ n s,frz [] (n+1) (.str s)=some (.str s):=fun _ _=>rfl
   simp[e331,hTl,↓hsc2,hst]
   obtain⟨C,hC⟩:∃ C,C=h.length:=⟨_,rfl⟩
   have hC0:0<C:=by rw[hC];exact At.lt B
   refine z13 l.length (fun i env h'=>∃(x2 x3 x4 x6 x7 x8 x9 x10 x11 x12 x13 x14 x15 x19 x20 x21 x22 x23:D) ,env=[y1m l,.loc 0 0,x2,x3,x4,.loc C 0,x6,x7,x8,x9,x10,x11,x12,x13,x14,x15,y1m l,dI l.length,dI i,x19,x20,x21,x22,x23]/\Bys h' 0 z32/\Bys h' C (y3i tgB (l.take i)) /\ ∀ j p,j<i->l[j]? = some p->atP tgB l j p) 0 (by omega) ?_ ?_
   ·rw[<- hC]
    exact⟨_,_,_,_,_,_,_,_,_,_,_,_,_,_,_,_,_,_,rfl,B.app,by rw[<- hd0,hC];simp[Bys,At],fun j p hj=>absurd hj (by omega)⟩
   rintro i env h' hi ⟨x2,x3,x4,x6,x7,x8,x9,x10,x11,x12,x13,x14,x15,x19,x20,x21,x22,x23,rfl,B0,BC,V⟩
   by_cases hlt:i<l.length
   ·obtain⟨p,hpi⟩:∃ p,p=l[i]:=⟨_,rfl⟩
    have hp2:=hp p (by rw[hpi];exact aN hlt)
    have h334:=r334 p hp2.1 hp2.2
    have hgp:gdP p:=z24.1 F p (by rw[hpi];exact aN hlt)
    unfold yad at h334
    rw[if_pos (z1f.2 hgp)] at h334
    have hup:=zl hlt (by omega)
    have hli:l[i]? = some p:=by rw[hpi];simp[hlt]
    have q1:=fun h:List Obj=>ze9 (h:=h) hp2.1
    have q2:=fun r:List Obj=>zp3 (h:=h') (r:=r) hp2.1
    have q3:=stP hp2.1
    have q4:=fun r:List Obj=>ye0 (h:=h') (r:=r) hp2.1
    have z1:∀ r:List Obj,yt E (h'++r) 73 (.loc 0 0)=some (.agg (z32.map ya)):=fun r=>z2f B0.app rfl
    have z2:∀ r:List Obj,(h'++r)[0]? = some (.cells (z32.map ya)):=fun r=>B0.app
    have z3:setCells (z32.map ya) 0 (z32.map ya)=z32.map ya:=zb rfl
    have z4:∀ r:List Obj,(h'++r).set 0 (.cells (z32.map ya))=h'++r:=fun r=>z69 B0.app
    have z5:z32.length=32:=rfl
    obtain⟨Z,hZ⟩:∃ Z,Z=y3i tgB (l.take i):=⟨_,rfl⟩
    rw[<- hZ] at BC
    have hZ32:Z.length=32:=by rw[hZ];exact y2m
    have y1:∀ r:List Obj,yt E (h'++r) 73 (.loc C 0)=some (.agg (Z.map ya)):=fun r=>z4w BC.app hZ32
    have y2:∀ r:List Obj,(h'++r)[C]? = some (.cells (Z.map ya)):=fun r=>BC.app
    have y3:=zli hp2.1 hZ32
    have y1':∀ r r2:List Obj,yt E (h'++r++r2) 73 (.loc C 0)=some (.agg (Z.map ya)):=fun r r2=>by rw[bj];exact y1 _
    have q4':∀ r:List Obj,yt E (h'++[.cells (pC p)]++r) 73 (.loc h'.length 4)=some (.agg (p.prev.map ya)):=fun r=>by rw[bj];exact q4 _
    have q2':∀ r:List Obj,yt E (h'++[.cells (pC p)]++r) 71 (.loc h'.length 0)=some (y2p p):=fun r=>by rw[bj];exact q2 _
    simp only[ac] at q3
    have hen:(y5f p).length<=900000000:=by
     have:=zcu (zck hgp.fm) hp2.2 (by omega)
     omega
    have e331p:=ybn y26 (y5f p) (by decide) hen
    have hT32:(tgB y26 (y5f p)).length=32:=z1m
    have e335:=r335 Z (tgB y26 (y5f p)) hZ32 hT32
    have hN:tgB [99,104,97,105,110] (Z++tgB y26 (y5f p))=y3i tgB (l.take (i+1)):=by rw[za3 hlt,<- hZ,<- hpi];rfl
    rw[hN] at e335
    have e331p:y14 E (dL E) 331 [.str [112,111,115,116,105,110,103],dBy (y5f p)]=some (y4r (tgB y26 (y5f p))):=e331p
    generalize tgB y26 (y5f p)=Tp at e331p e335 hT32 hN
    clear hN
    have hN32:=y2m (l:=l.take (i+1))
    obtain⟨N,hNe⟩:∃ N,N=y3i tgB (l.take (i+1)):=⟨_,rfl⟩
    rw[<- hNe] at e335 hN32
    have y5:setCells (Z.map ya) 0 (N.map ya)=N.map ya:=zb (by rw[au,au,hZ32,hN32])
    have y6:∀ r:List Obj,(h'++r).set C (.cells (N.map ya))=h'.set C (.cells (N.map ya))++r:=fun r=>z1u (At.lt BC)
    have fin:∀ r:List Obj,Bys (h'.set C (.cells (N.map ya))++r) 0 z32/\Bys (h'.set C (.cells (N.map ya))++r) C (y3i tgB (l.take (i+1)))/\(p.no=i->p.prev=Z->(∀ q,0<i->l[i - 1]? = some q->q.minute<=p.minute)->∀ j p,j<i+1->l[j]? = some p->atP tgB l j p):=by
     intro r
     refine⟨(At.ne B0 (by omega)).app,by rw[<- hNe];exact(At.self (At.lt BC)).app,fun h1 h2 h3 j p' hj hp'=>?_⟩
     by_cases hji:j<i
     ·exact V j p' hji hp'
     ·have:j=i:=by omega
      subst this
      rw[hli] at hp'
      cases hp'
      exact⟨h1,by rw[h2,hZ],fun k q hk hq=>h3 q (by omega) (by rw[show j - 1=k from by omega];exact hq)⟩
    have bad:(¬ p.no=i\/(∃ q,l[i - 1]? = some q/\0<i/\p.minute<q.minute) \/ ¬ p.prev=Z)->rdD l=.tup [y4r z32,dI 410]:=by
     intro hb
     have hv : ¬ vld tgB l:=by
      intro v
      have a:=v.2.2 i p hli
      rcases hb with h1 | ⟨q,h1,h2,h3⟩ | h1
      ·exact h1 a.no
      ·have:=a.minute (i - 1) q (by omega) h1
       omega
      ·exact h1 (by rw[hZ];exact a.prev)
     have hE:rdE tgB l=410:=by unfold rdE;rw[if_neg hlen,if_neg (by simp[F]),if_neg hv]
     unfold rdD
     rw[hE,if_neg (by decide)]
    by_cases hno:p.no=(i:Int)
    ·have hno':=eq_true hno
     have hst2:(0<i /\ ∃ q,l[i - 1]? = some q/\q.prev.length=32)\/i=0:=by
      rcases ci i with h0 | h0
      ·exact .inr h0
      ·exact .inl ⟨h0,l[i - 1],af (by omega),(hp _ (aN _)).1⟩
     have hw1:0<i->av.wrap ((i:Int) - 1)=((i - 1:Nat):Int):=fun h0=>by
      rw[zc ⟨by omega,by omega⟩];omega
     by_cases hpv:p.prev=Z
     ·have hpv':=eq_true hpv
      rcases hst2 with⟨h0,q,hq,hq32⟩ | h0
      ·by_cases hm:p.minute<q.minute
       ·rw[bad (.inr (.inl ⟨q,hq,h0,hm⟩))]
        simp[hlt,<- hpi,hp2.1,↓q1,↓q3,↓q4,↓q4',↓q2,↓q2',↓y1,↓y1',y3,hno',h0,hw1 h0,hq,hq32,hm,↓z1,↓z2,z3,↓z4,z5,z6]
       ·simp[hlt,<- hpi,hp2.1,↓q1,↓q3,↓q4,↓q4',↓q2,↓q2',↓y1,↓y1',y3,hno',h0,hw1 h0,hq,hq32,hm,hpv',hup,h334,zi,z6,hst,e331p,e335,hT32,hZ32,hN32,y5,↓y2,↓y6]
        exact⟨(fin _).1,(fin _).2.1,(fin []).2.2 hno hpv fun q' _ hq'=>by rw[hq] at hq';cases hq';omega⟩
      ·have h0' : ¬ 0<i:=by omega
       simp[h0',hlt,<- hpi,hp2.1,↓q1,↓q3,↓q4,↓q4',↓q2,↓q2',↓y1,↓y1',y3,hno',hpv',hup,h334,zi,z6,hst,e331p,e335,hT32,hZ32,hN32,y5,↓y2,↓y6]
       exact⟨(fin _).1,(fin _).2.1,(fin []).2.2 hno hpv fun q' h0 _=>absurd h0 h0'⟩
     ·rw[bad (.inr (.inr hpv))]
      rcases hst2 with⟨h0,q,hq,hq32⟩ | h0
      ·by_cases hm:p.minute<q.minute
       ·simp[hlt,<- hpi,hp2.1,↓q1,↓q3,↓q4,↓q4',↓q2,↓q2',↓y1,↓y1',y3,hno',h0,hw1 h0,hq,hq32,hm,↓z1,↓z2,z3,↓z4,z5,z6]
       ·simp[hlt,<- hpi,hp2.1,↓q1,↓q3,↓q4,↓q4',↓q2,↓q2',↓y1,↓y1',y3,hno',h0,hw1 h0,hq,hq32,hm,hpv,↓z1,↓z2,z3,↓z4,z5,z6]
      ·have h0' : ¬ 0<i:=by omega
       simp[h0',hlt,<- hpi,hp2.1,↓q1,↓q3,↓q4,↓q4',↓q2,↓q2',↓y1,↓y1',y3,hno',hpv,↓z1,↓z2,z3,↓z4,z5,z6]
    ·rw[bad (.inl hno)]
     simp[hlt,<- hpi,hp2.1,↓q1,↓q3,↓q4,↓q4',↓q2,↓q2',↓y1,↓y1',y3,hno,↓z1,↓z2,z3,↓z4,z5,z6]
   ·have:i=l.length:=by omega
    subst this
    rw[bh] at BC
    have hv:vld tgB l:=⟨by omega,fun p hp=>z24.1 F p hp,fun i p hi=>V i p (ae.1 hi).1 hi⟩
    have hE:rdE tgB l=0:=z1w.2 hv
    have y1:=z4w BC y2m
    have z2:h'[0]? = some (.cells (z32.map ya)):=B0
    have y4:setCells (z32.map ya) 0 ((y3i tgB l).map ya)=(y3i tgB l).map ya:=zb (by rw[au,au,y2m];rfl)
    have hl0:0<h'.length:=At.lt B0
    have y5:Bys (h'.set 0 (.cells ((y3i tgB l).map ya))) 0 (y3i tgB l):=At.self hl0
    have y6:=z2f y5 y2m
    have hD:rdD l=.tup [y4r (y3i tgB l),dI 0]:=by unfold rdD;rw[hE,if_pos rfl]
    have d32:=y2m (l:=l)
    rw[hD]
    have z5:z32.length=32:=rfl
    simp[y1,z2,y4,↓y6,d32,z5,z6]

theorem z65:∀(a b:List D) (k:Nat) (pre:List D),pre.length=k->y1x (pre++a++b) k a.length=some a
 |[],b,k,pre,h=>rfl
 |x::a,b,k,pre,h=>by
  have ih:=z65 a b (k+1) (pre++[x]) (by simp[h])
  have hx:(pre++(x::a)++b)[k]? = some x:=by
   rw[bj,aA (by omega),h,fB];rfl
  rw[aC,y1x,hx]
  have e:pre++[x]++a++b=pre++x::a++b:=by simp
  rw[e] at ih
  rw[ih]
theorem zbk{sz:Nat}:∀(els:List D),(∀ x,x ∈ els->x.cellsL.length=sz/\yi true x.cellsL=some x)->y2y sz true els.length (yn els)=some els
 |[],_=>rfl
 |x::els,h=>by
  obtain⟨h1,h2⟩:=h x (by simp)
  have ih:=zbk els fun y hy=>h y (by simp[hy])
  have ht:=z65 x.cellsL (yn els) 0 [] rfl
  rw[bD,h1] at ht
  rw[aC,y2y,z1b,ht]
  simp only[h2]
  rw[show(x.cellsL++yn els).drop sz=yn els from by rw[<- h1];simp,ih]

theorem z9a{p:Pst}(h:p.prev.length=32):(pC p).length=36:=by simp[h]
theorem zvk{p:Pst}:∀ d,d ∈ pC p->d.atom=true:=by
 intro d hd
 simp only[pC,aB,aX] at hd
 rcases hd with rfl | rfl | rfl | rfl | ⟨b,_,rfl⟩ <;> rfl
theorem zr6{p:Pst}:(y2p p).storable=true:=by
 show(pC p).all D.atom=true
 rw[az];exact zvk
theorem zei{l:List Pst}(h:∀ p,p ∈ l->p.prev.length=32):y31 36 (l.map y2p)=true:=by
 unfold y31
 rw[az]
 intro x hx
 obtain⟨p,hp,rfl⟩:=aX.1 hx
 have h1:((y2p p).cellsL.length == 36)=true:=by
  show((pC p).length == 36)=true
  rw[z9a (h p hp)];rfl
 rw[zr6,h1];rfl
theorem z9l{hp:List Obj}{sp:y17}{l:List Pst}(h:∀ p,p ∈ l->p.prev.length=32):yz hp 36 true (.imm sp (l.map y2p))=some (l.map y2p):=by
 have:=zei h
 unfold y31 at this
 simp only[yz]
 rw[if_pos this]
def pCs(l:List Pst):List D:=yn (l.map y2p)
theorem zta{l:List Pst}(h:∀ p,p ∈ l->p.prev.length=32):(pCs l).length=l.length*36:=by
 have:=zbf (zei h)
 unfold pCs
 rw[this,au]
theorem zot{l:List Pst}{p:Pst}:pCs l++yn [y2p p]=pCs (l++[p]):=by unfold pCs;rw[bo,z1s];rfl
theorem zjv{l:List Pst}(h:∀ p,p ∈ l->p.prev.length=32):y2y 36 true l.length (pCs l)=some (l.map y2p):=by
 have:=zbk (sz:=36) (l.map y2p) fun x hx=>by
  obtain⟨p,hp,rfl⟩:=aX.1 hx
  exact⟨z9a (h p hp),rfl⟩
 rw[au] at this
 exact this
theorem zj{hp:List Obj}{n:Nat}{l:List Pst}:y1j (frz hp (n+5)) (l.map y2p)=some (l.map y2p):=z1d fun _ _=>ztu
theorem e70:(E.ty 70).k=.slice 71:=rfl
theorem znr{hp:List Obj}{id:Nat}{sp:y17}{l:List Pst}(h:∀ p,p ∈ l->p.prev.length=32)(hl:l.length<=1000000)(h0:l ≠ []) :
  y1r E hp id 70 70 (.imm .exact []) (.imm sp (l.map y2p))=some ⟨.sl id 0 l.length 36 true true,some (.cells (pCs l)),none⟩:=by
 have h4 : ¬ l.length=0:=fun h=>h0 (cW h)
 have h5:(0+l.length)*(80+1)<=yj/\80<=65536/\(y1u E 71).isSome=true/\y31 36 ([]:List D)=true:=⟨by simp[yj];omega,by decide,rfl,rfl⟩
 unfold y1r
 simp only[e70]
 rw[show yz hp (E.ty 71).size (E.ty 71).ag (.imm sp (l.map y2p))=some (l.map y2p) from z9l h]
 simp only[au,bA]
 rw[if_neg h4,show(E.ty 71).bytes=80 from rfl,show(E.ty 71).size=36 from rfl,if_pos h5]
 simp only[bB,pCs,yn,List.flatMap_nil,bD]
 rfl

def cpy(n:Nat)(l:List Pst):D:=if l=[] then .imm .exact [] else .sl n 0 l.length 36 true true
def y83(l:List Pst):List Obj:=if l=[] then[] else[.cells (pCs l)]
theorem s356(l:List Pst)(h:∀ p,p ∈ l->p.prev.length=32)(hl:l.length<=1000000)(hp:List Obj):y1i E (dL E) 356 [y1m l] hp=some (cpy hp.length l,hp++y83 l):=by
 have:∃ d hp',y1i E (dL E) 356 [y1m l] hp=some (d,hp')/\(d=cpy hp.length l/\hp'=hp++y83 l):=by
  refine z3d c356 (args:=[y1m l]) (hp:=hp) (R:=fun d hp'=>d=cpy hp.length l/\hp'=hp++y83 l) (by simp) ?_
  by_cases h0:l=[]
  ·subst h0
   simp[t356,n356,cpy,y83,y1r,yz,yg]
  ·have ap:=fun hp id=>znr (hp:=hp) (id:=id) (sp:=.none) h hl h0
   simp[t356,n356,cpy,y83,ap,yg,h0]
 obtain⟨d,hp',e,rfl,rfl⟩:=this
 exact e
theorem ydx(l:List Pst)(h:∀ p,p ∈ l->p.prev.length=32)(hl:l.length<=1000000)(hp:List Obj):y5s (y1i E (dL E)) 356 [y1m l] hp=some (cpy hp.length l,hp++y83 l):=by
 unfold y5s
 rw[s356 l h hl,cV]
 have hm:yw (cpy hp.length l)=false:=by unfold cpy;split <;> rfl
 simp only[y16,hm,Bool.false_eq_true,if_false,al,aa,ao,true_and]
 rw[List.drop_append_of_le_length (by simp),gq (by simp),bD]

theorem ybo(l:List Pst)(h:y6f l):y14 E (dL E) 324 [y1m l]=some (dI (rdE tgB l)):=by
 refine zh c324 (by simp) ?_
 have e:=ydq l h
 unfold rdD at e
 simp[t324,n324,e,zj]
theorem r329(l:List Pst)(h:y6f l):y14 E (dL E) 329 [y1m l]=some (rdD l):=by
 refine zh c329 (by simp) ?_
 have e:=ydq l h
 unfold rdD at e ⊢
 obtain⟨d,hd⟩:∃ d,d=(if rdE tgB l=0 then y3i tgB l else z32):=⟨_,rfl⟩
 have h32:d.length=32:=by rw[hd];split;exact y2m;rfl
 rw[<- hd] at e ⊢
 have hsc:=zb (a:=ac 32 (D.int .u8 0)) (vs:=d.map ya) (by simp[h32])
 have hld:∀ r:List Obj,yt E (.cells (d.map ya)::r) 73 (.loc 0 0)=some (.agg (d.map ya)):=fun r=>z2f (m:=d) (by simp[Bys,At]) h32
 simp only[ac] at hsc
 simp[t329,n329,e,zj,h32,hsc,↓hld,z6]

theorem zb6{hp:List Obj}{sp:y17}{p:Pst}(h:p.prev.length=32):yz hp 36 true (.imm sp [y2p p])=some [y2p p]:=z9l (l:=[p]) (by simp[h])
theorem zqv{pre:List Obj}{l:List Pst}{p:Pst}{sp:y17}(h:∀ p,p ∈ l->p.prev.length=32)(hp:p.prev.length=32)(hl:l.length<=1000000) :
  ∃ m X,y2t E (pre++y83 l) 70 70 (cpy pre.length l) (.imm sp [y2p p])=some (.sl m 0 (l.length+1) 36 true true,X)/\At X m (.cells (pCs (l++[p]))):=by
 by_cases h0:l=[]
 ·subst h0
  refine⟨pre.length,pre++[.cells (pCs [p])],?_,by simp[At]⟩
  have h5:(0+1)*(80+1)<=yj/\80<=65536/\(y1u E 71).isSome=true/\y31 36 ([]:List D)=true:=⟨by simp[yj],by decide,rfl,rfl⟩
  unfold y2t cpy y83
  simp only[if_true,List.append_nil,e70]
  rw[show yz pre (E.ty 71).size (E.ty 71).ag (.imm sp [y2p p])=some [y2p p] from zb6 hp]
  simp only[aC,bA]
  rw[if_neg (by simp),show(E.ty 71).bytes=80 from rfl,show(E.ty 71).size=36 from rfl,if_pos h5]
  rfl
 ·have hg:(pre++y83 l)[pre.length]? = some (.cells (pCs l)):=by unfold y83;rw[if_neg h0];simp
  refine⟨(pre++y83 l).length,(pre++y83 l).set pre.length .dead++[.cells (pCs (l++[p]))],?_,by simp[At]⟩
  have h5:(l.length+1)*(80+1)<=yj/\80<=65536/\(y1u E 71).isSome=true/\(36:Nat)=36/\(pCs l).length=l.length*36:=⟨by simp[yj];omega,by decide,rfl,rfl,zta h⟩
  unfold y2t cpy
  simp only[if_neg h0,e70]
  rw[show yz (pre++y83 l) (E.ty 71).size (E.ty 71).ag (.imm sp [y2p p])=some [y2p p] from zb6 hp,hg]
  simp only[aC,bA]
  rw[if_neg (by simp),show(E.ty 71).bytes=80 from rfl,show(E.ty 71).size=36 from rfl,if_pos h5,zot]
  rfl
theorem zpd{X:List Obj}{m n:Nat}{L:List Pst}{gr:Bool}(h:At X m (.cells (pCs L)))(h32:∀ p,p ∈ L->p.prev.length=32):frz X (n+6) (.sl m 0 L.length 36 true gr)=some (y1m L):=by
 have hr:yx X m=some (pCs L):=by unfold yx;rw[h.eq]
 show(match yx X m with | some cs=>(match y2y 36 true L.length (cs.drop 0) with | some els=>(y1j (frz X (n+5)) els).map (D.imm .none) | none=>none) | none=>none)=_
 rw[hr]
 simp only[cK]
 rw[zjv h32]
 simp only[]
 rw[zj]
 rfl

open Classical in
noncomputable def poD(l:List Pst)(s:Stp):D:=.tup [y1m (if y2j tgB l s=0 then l++[y4f tgB l s] else[]),dI (y2j tgB l s)]

theorem yar(l:List Pst)(s:Stp)(h:y6f l)(hs:s.ents.length<=1000000):y14 E (dL E) 316 [y1m l,dI s.minute,dI s.corrects,.imm .none (s.ents.map y3n)]=some (poD l s):=by
 refine zh c316 (by simp) ?_
 have e354:=ydq l h
 unfold rdD at e354
 obtain⟨d,hd⟩:∃ d,d=(if rdE tgB l=0 then y3i tgB l else z32):=⟨_,rfl⟩
 have h32:d.length=32:=by rw[hd];split;exact y2m;rfl
 rw[<- hd] at e354
 have hsc:=zb (a:=ac 32 (D.int .u8 0)) (vs:=d.map ya) (by simp[h32])
 simp only[ac] at hsc
 by_cases h0:rdE tgB l=0
 ·have v:=z1w.1 h0
  have h0':rdE tgB l=0:=h0
  rw[if_pos h0] at hd
  have hl:l.length<=65536:=v.1
  rw[h0] at e354
  by_cases hmax:l.length=65536
  ·have hm:((l.length:Nat):Int)=65536:=by omega
   have hE:y2j tgB l s=2:=by unfold y2j;rw[if_neg (by simp[h0]),if_pos hmax]
   unfold poD
   rw[hE,if_neg (by decide)]
   simp[t316,n316,e354,zj,h32,hsc,hm]
  ·have hm : ¬ ((l.length:Nat):Int)=65536:=by omega
   have hlast:(0<l.length /\ ∃ q,l[l.length - 1]? = some q/\q.prev.length=32/\l.getLast? = some q) \/ ¬ 0<l.length:=by
    rcases ci l.length with h1 | h1
    ·exact .inr (by omega)
    ·exact .inl ⟨h1,l[l.length - 1],af (by omega),(h.2 _ (aN _)).1,by rw[dN,af (by omega)]⟩
   have hw1:0<l.length->av.wrap ((l.length:Int) - 1)=((l.length - 1:Nat):Int):=fun h0=>by
    rw[zc ⟨by omega,by omega⟩];omega
   obtain⟨p,hp⟩:∃ p:Pst,p=y4f tgB l s:=⟨_,rfl⟩
   have hp2:p=⟨l.length,s.minute,s.corrects,s.ents,d⟩:=by rw[hp,hd];rfl
   have p32:p.prev.length=32:=by rw[hp2];exact h32
   have hpE:(∀ q,l.getLast? = some q -> ¬ s.minute<q.minute)->y2j tgB l s=y3o p:=fun hq=>by
    rw[hp];exact z3z v (by omega) fun q h=>by have:=hq q h;omega
   have q4:setCells (dI (l.length:Int)::dI s.minute::dI s.corrects :: .imm .none (s.ents.map y3n)::ac 32 (D.int .u8 0)) 4 (d.map ya)=pC p:=by
    rw[hp2];exact stP (p:=⟨l.length,s.minute,s.corrects,s.ents,d⟩) h32
   have q2:∀(x:Obj) (r:List Obj),yt E (x :: .cells (pC p)::r) 71 (.loc 1 0)=some (y2p p):=fun x r=>zp3 (h:=[x]) (r:=r) p32
   have q2':∀(x:Obj) (r r2:List Obj),yt E (x :: .cells (pC p)::r++r2) 71 (.loc 1 0)=some (y2p p):=fun x r r2=>q2 x (r++r2)
   have q3:=stP p32
   simp only[ac] at q3 q4
   have hld:∀ r:List Obj,yt E (.cells (d.map ya)::r) 73 (.loc 0 0)=some (.agg (d.map ya)):=fun r=>z2f (m:=d) (by simp[Bys,At]) h32
   have h355:=ydp p p32 (by rw[hp2];exact hs)
   have m356:=ydx l (fun p hp=>(h.2 p hp).1) h.1
   have hst:(pC p).length=36:=z9a p32
   obtain⟨m,X,hG,hX⟩:=zqv (pre:=[.cells (d.map ya),.cells (pC p),.dead,.dead,.dead,.dead,.dead,.dead,.dead]) (sp:=.exact) (fun p hp=>(h.2 p hp).1) p32 h.1
   have hL32:∀ q,q ∈ l++[p]->q.prev.length=32:=fun q hq=>by
    rcases aS.1 hq with hq | hq
    ·exact(h.2 q hq).1
    ·simp at hq;rw[hq];exact p32
   have hfz:=zpd (n:=5) (gr:=true) hX hL32
   have hll:(l++[p]).length=l.length+1:=by simp
   rw[hll] at hfz
   simp only[bi,bD,aC,bA] at hG
   rcases hlast with⟨h1,q,hq,hq32,hql⟩ | h1
   ·by_cases hmn:s.minute<q.minute
    ·have hE:y2j tgB l s=410:=by unfold y2j;rw[if_neg (by simp[h0]),if_neg hmax,if_pos ⟨q,hql,hmn⟩]
     unfold poD
     rw[hE,if_neg (by decide)]
     simp[t316,n316,e354,zj,h32,hsc,hm,h1,hw1 h1,hq,hq32,hmn]
    ·have hE:=hpE fun q' h=>by rw[hql] at h;cases h;exact hmn
     simp[t316,n316,e354,zj,h32,hsc,hm,h1,hw1 h1,hq,hq32,hmn,-zp,hld,↓q4,p32,q2,↓q3,zi,z6,h355,m356,hG,hfz]
     unfold poD
     rw[hE,<- hp]
     by_cases hc:y3o p=0
     ·simp[hc]
     ·simp[hc]
   ·have hE:=hpE fun q' h=>by
     have:l=[]:=cW (by omega)
     subst this;simp at h
    simp[t316,n316,e354,zj,h32,hsc,hm,h1,-zp,hld,↓q4,p32,q2,↓q3,zi,z6,h355,m356,hG,hfz]
    unfold poD
    rw[hE,<- hp]
    by_cases hc:y3o p=0
    ·simp[hc]
    ·simp[hc]
 ·have hE:y2j tgB l s=rdE tgB l:=by unfold y2j;rw[if_pos h0]
  have hne : ¬ rdE tgB l=0:=h0
  unfold poD
  rw[hE,if_neg h0]
  simp[t316,n316,e354,zj,h32,hsc,hne]

theorem r359(l:List Pst):y14 E (dL E) 359 [y1m l]=some (.fn 380 [.iptr [y1m l]]):=by
 refine zh c359 (by simp) ?_
 simp[t359,n359,zj]

def y42(l:List Pst):List (Int × Ent):=l.flatMap fun p=>p.ents.map fun x=>(p.minute,x)
theorem ziw:y42 []=[]:=rfl
theorem z4i{p:Pst}{l:List Pst}:y42 (p::l)=(p.ents.map fun x=>(p.minute,x))++y42 l:=rfl

theorem ld66{H:List Obj}{q:Nat}{p:Pst}(B:At H q (.cells (pC p))):yt E H 66 (.loc q 3)=some (.imm .none (p.ents.map y3n)):=by
 unfold yt
 simp only[B.eq,show(E.ty 66).size=1 from rfl]
 rfl
theorem ld2{H:List Obj}{q:Nat}{p:Pst}(B:At H q (.cells (pC p))):yt E H 2 (.loc q 1)=some (dI p.minute):=by
 unfold yt
 simp only[B.eq,show(E.ty 2).size=1 from rfl]
 rfl

theorem i380(l:List Pst)(ok:y6f l)(L:Nat)(J:Nat->List (Int × Ent)->List Obj->Prop)(Fin:List Obj->Prop)
  (hext:∀ f rem hp r,J f rem hp->J f rem (hp++r))
  (hown:∀ f rem hp r,J f rem hp->J hp.length rem (hp++r))
  (hy:∀ f x rem hp o,J f (x::rem) hp->At hp f o->∃ t hp',y38 (dL E) L [dI x.1,y3n x.2] hp=some (.bool t,hp')/\(t=true->J f rem hp'/\At hp' f o)/\(t=false->Fin hp'))
  {hp:List Obj} {f0:Nat} (h0:J f0 (y42 l) hp) :
  ∃ d hp',y1i E (dL E) 380 [.yld L,.iptr [y1m l]] hp=some (d,hp')/\((∃ f,J f [] hp')\/Fin hp'):=by
 refine z3d c380 (R:=fun _ hp'=>(∃ f,J f [] hp')\/Fin hp') (by simp) ?_
 have hl:=ok.1
 simp[t380,n380]
 refine z13 l.length (fun i env hp=>∃(x2 x3 x7 x8 x9 x10 x11 x12 x13 x14 x15:D) ,env=[.yld L,.iptr [y1m l],x2,x3,y1m l,dI l.length,dI i,x7,x8,x9,x10,x11,x12,x13,x14,x15] /\
  ∃ f,J f (y42 (l.drop i)) hp) 0 (by omega) ⟨_,_,_,_,_,_,_,_,_,_,_,rfl,f0,by simpa using h0⟩ ?_
 rintro i env hp hi ⟨x2,x3,x7,x8,x9,x10,x11,x12,x13,x14,x15,rfl,f,hJ⟩
 by_cases hlt:i<l.length
 rotate_left
 ·have:i=l.length:=by omega
  subst this
  rw[fK,ziw] at hJ
  simp
  exact .inl ⟨f,hJ⟩
 obtain⟨p,hpi⟩:∃ p,p=l[i]:=⟨_,rfl⟩
 have hp2:=ok.2 p (by rw[hpi];exact aN hlt)
 have hup:=zl hlt (by omega)
 rw[z3k hlt,<- hpi,z4i] at hJ
 obtain⟨rest,hrest⟩:∃ rest,rest=y42 (l.drop (i+1)):=⟨_,rfl⟩
 rw[<- hrest] at hJ
 have q1:=fun h:List Obj=>ze9 (h:=h) hp2.1
 have q3:=stP hp2.1
 simp only[ac] at q3
 have hJ1:=hown _ _ _ [.cells (pC p)] hJ
 have hA1:At (hp++[.cells (pC p)]) hp.length (.cells (pC p)):=by simp[At]
 have y1:=ld66 hA1
 simp[hlt,<- hpi,hp2.1,-zp,q1,↓q3,y1]
 generalize hp++[Obj.cells (pC p)]=H0 at hJ1 hA1
 generalize hp.length=C at hJ1 hA1
 have hel:=hp2.2
 refine z13 p.ents.length (fun j env h=>∃(x3 x7 x8 x12 x13 x14 x15:D) ,env=[.yld L,.iptr [y1m l],.loc C 0,x3,y1m l,dI l.length,dI i,x7,x8,.imm .none (p.ents.map y3n),dI p.ents.length,dI j,x12,x13,x14,x15] /\
  J C ((p.ents.drop j).map (fun x=>(p.minute,x))++rest) h/\At h C (.cells (pC p))) 0 (by omega) ⟨_,_,_,_,_,_,_,rfl,by simpa using hJ1,hA1⟩ ?_
 rintro j env h hj ⟨x3,x7,x8,x12,x13,x14,x15,rfl,hJ2,hA2⟩
 by_cases hlt2:j<p.ents.length
 rotate_left
 ·have:j=p.ents.length:=by omega
  subst this
  simp only[fK,aK,bD] at hJ2
  rw[hrest] at hJ2
  simp[hlt,hup]
  exact⟨C,hJ2⟩
 have hup2:=zl hlt2 (by omega)
 obtain⟨x,hx⟩:∃ x,x=p.ents[j]:=⟨_,rfl⟩
 rw[z3k hlt2,ax,bi,<- hx] at hJ2
 have y2:=fun r:List Obj=>ld2 (hA2.app (r:=r))
 have y3:yt E (h++[.cells [dI x.kind,dI x.idx,dI x.amt]]) 72 (.loc h.length 0)=some (y3n x):=by
  unfold yt
  simp only[List.getElem?_concat_length]
  rfl
 obtain⟨t,hp2,e1,e2,e3⟩:=hy C (p.minute,x) _ _ _ (hext _ _ _ [.cells [dI x.kind,dI x.idx,dI x.amt]] hJ2) (hA2.app)
 simp only at e1
 cases t with
 |true=>
  obtain⟨hJ3,hA3⟩:=e2 rfl
  rw[lZ] at hJ3
  simp[hlt2,<- hx,-zp,y2,y3,e1,hup2]
  exact⟨hJ3,hA3⟩
 |false=>
  have hF:=e3 rfl
  simp[hlt2,<- hx,-zp,y2,y3,e1,hF]

def y4c(k i m:Int):List (Int × Ent)->Int
 |[]=>0
 |x::l=>(if x.1<=m/\x.2.kind=k/\x.2.idx=i then x.2.amt else 0)+y4c k i m l
theorem z7l{k i m:Int}:∀(a b:List (Int × Ent)),y4c k i m (a++b)=y4c k i m a+y4c k i m b
 |[],b=>by simp[y4c]
 |x::a,b=>by simp only[bi,y4c,z7l a b];omega
theorem zar{k i m n:Int}:∀(l:List Ent),y4c k i m (l.map fun x=>(n,x))=if n<=m then y54 k i l else 0
 |[]=>by simp[y4c,y54]
 |x::l=>by
  have ih:=zar (k:=k) (i:=i) (m:=m) (n:=n) l
  simp only[ax,y4c,ih,y54]
  by_cases h1:n<=m
  ·simp[h1]
  ·simp[h1]
theorem z8w{k i m:Int}:∀(l:List Pst),y4c k i m (y42 l)=y76 k i m l
 |[]=>rfl
 |p::l=>by rw[z4i,z7l,zar,z8w l];rfl
theorem zbb:∀(l:List Pst),(y42 l).length=entN l
 |[]=>rfl
 |p::l=>by rw[z4i,aw,au,zbb l];rfl
theorem zix{l:List Pst}{x:Int × Ent}(h:x ∈ y42 l):∃ p,p ∈ l/\x.2 ∈ p.ents:=by
 obtain⟨p,hp,hx⟩:=List.mem_flatMap.1 h
 obtain⟨y,hy,rfl⟩:=aX.1 hx
 exact⟨p,hp,hy⟩

open Classical in
noncomputable def blD(l:List Pst)(k i m:Int):D:=.tup [dI (if rdE tgB l=0 then y76 k i m l else 0),dI (rdE tgB l)]

theorem ybp(l:List Pst)(ok:y6f l)(hN:entN l<=1000000)(k i m:Int):y14 E (dL E) 318 [y1m l,y3k k i,dI m]=some (blD l k i m):=by
 have e324:=ybo l ok
 have e359:=r359 l
 refine zh c318 (by simp) ?_
 unfold blD
 by_cases h0:rdE tgB l=0
 ·have v:=z1w.1 h0
  rw[h0] at e324 ⊢
  rw[if_pos rfl]
  obtain⟨B,hB⟩:∃ B,B=y76 k i m l:=⟨_,rfl⟩
  rw[<- hB]
  simp[t318,n318,zj,e324,e359]
  refine⟨380,_,rfl,?_⟩
  intro L hL hcb
  obtain⟨J,hJ⟩:∃ J:Nat->List (Int × Ent)->List Obj->Prop,J=fun f rem hp'=>2<=f /\ ∃(c:Int),At hp' 0 (.cells [dI c])/\At hp' 1 (L false none)/\c+y4c k i m rem=B/\rem.length<=1000000 /\ -(1099511627776*(1000000 - rem.length):Int)<=c/\c<=1099511627776*(1000000 - rem.length) /\ ∀ x,x ∈ rem->y4o x.2:=⟨_,rfl⟩
  have key:=i380 l ok 1 J (fun _=>False) (by
    rw[hJ]
    rintro f rem hp' r ⟨hf,c,a1,a2,a3⟩
    exact⟨hf,c,a1.app,a2.app,a3⟩) (by
    rw[hJ]
    rintro f rem hp' r ⟨hf,c,a1,a2,a3⟩
    exact⟨by have:=a2.lt;omega,c,a1.app,a2.app,a3⟩) (by
    intro f x rem hp1 o hj ho
    rw[hJ] at hj
    obtain⟨hf,c,a1,a2,a3,a4,a5,a6,a7⟩:=hj
    have l1:=a2.lt
    have⟨ok1,ok2,ok3,ok4,ok5⟩:=a7 x (by simp)
    obtain⟨mi,⟨kd,ix,am⟩⟩:=x
    simp only at ok1 ok2 ok3 ok4 ok5
    simp only[aC] at a4 a5 a6
    simp only[y4c] at a3
    obtain⟨H1,hH1⟩:∃ H1,H1=hp1.set 1 (L true none):=⟨_,rfl⟩
    have b0:At H1 0 (.cells [dI c]):=by rw[hH1];exact a1.ne (by omega)
    have b1:At H1 1 (L true none):=by rw[hH1];exact At.self l1
    have bf:At H1 f o:=by rw[hH1];exact ho.ne (by omega)
    have hw:av.wrap (c+am)=c+am:=zc ⟨by omega,by omega⟩
    have l0:=b0.lt
    obtain⟨t,hp2,e1,e2⟩:=hcb [dI mi,y3n ⟨kd,ix,am⟩] hp1 (fun t hp'=>t=true/\J f rem hp'/\At hp' f o) rfl a2 (by
     rw[show[Obj.cells [D.int av 0]].length=1 from rfl]
     have y2:∀ r:List Obj,(hp1++r)[1]? = some (L false none):=fun r=>a2.app
     have y6:∀ r:List Obj,(hp1++r).set 1 (L true none)=H1++r:=fun r=>by rw[z1u l1,hH1]
     have y7:hp1.length=H1.length:=by rw[hH1,bv]
     have y0:∀ r:List Obj,(H1++r)[0]? = some (.cells [dI c]):=fun r=>b0.app
     have y8:∀(o:Obj) (r:List Obj),(H1++r).set 0 o=H1.set 0 o++r:=fun o r=>z1u l0
     have y9:∀(o:Obj) (r:List Obj),(H1.set 0 o++r)[1]? = some (L true none):=fun o r=>(b1.ne (by omega)).app
     have y10:∀ r:List Obj,(H1++r)[1]? = some (L true none):=fun r=>b1.app
     have fin:∀(c':Int) (G:List Obj),At G 0 (.cells [dI c'])->1<G.length->At G f o->c'+y4c k i m rem=B -> -(1099511627776*(1000000 - rem.length):Int)<=c'->c'<=1099511627776*(1000000 - rem.length)->∀ r:List Obj,J f rem ((G++r).set 1 (L false none))/\At ((G++r).set 1 (L false none)) f o:=by
      intro c' G g0 gl gf g3 g4 g5 r
      have e:(G++r).set 1 (L false none)=G.set 1 (L false none)++r:=z1u gl
      rw[e,hJ]
      exact⟨⟨hf,c',(g0.ne (by omega)).app,(At.self gl).app,g3,by omega,g4,g5,fun x hx=>a7 x (by simp[hx])⟩,(gf.ne (by omega)).app⟩
     by_cases hh:mi<=m/\kd=k/\ix=i
     ·obtain⟨g1,g2,g3⟩:=hh
      subst g2 g3
      simp[y2c,↓y2,↓y6,y7,↓y0,↓y8,↓y9,↓y10,g1,hw]
      rw[if_pos ⟨g1,rfl,rfl⟩] at a3
      exact fin (c+am) _ (At.self l0) (by rw[bv];omega) (bf.ne (by omega)) (by omega) (by omega) (by omega) _
     ·rw[if_neg hh] at a3
      have hF:=fin c H1 b0 (by omega) bf (by omega) (by omega) (by omega)
      by_cases g1:mi<=m
      ·have hbf:(kd == k && ix == i)=false:=by
        rw[Bool.and_eq_false_iff]
        by_cases g2:kd=k
        ·right
         have : ¬ ix=i:=fun g3=>hh ⟨g1,g2,g3⟩
         simpa using this
        ·left;simpa using g2
       simp[y2c,↓y2,↓y6,y7,↓y10,g1,hbf]
       exact hF _
      ·simp[y2c,↓y2,↓y6,y7,↓y10,g1]
       exact hF _)
    exact⟨t,hp2,e1,fun _=>e2.2,fun h=>by rw[e2.1] at h;cases h⟩) (hp:=[.cells [dI 0],L false none]) (f0:=2) (by
    rw[hJ]
    have hlen:=zbb l
    refine⟨ai _,0,rfl,rfl,by rw[z8w,Int.zero_add];exact hB.symm,by omega,by omega,by omega,fun x hx=>?_⟩
    obtain⟨p,hp,hx2⟩:=zix hx
    exact(v.2.1 p hp).fm.ents.ok _ hx2)
  obtain⟨d,hp',h1,h2⟩:=key
  rcases h2 with⟨f,h2⟩ | h2
  ·rw[hJ] at h2
   obtain⟨_,c,a1,a2,a3,_⟩:=h2
   simp only[y4c,Int.add_zero] at a3
   subst a3
   refine⟨d,hp',h1,.inl ⟨a2,?_⟩⟩
   have l0:=a1.lt
   have c0:∀ o,((hp'.set 1 .dead).set 0 o)[0]? = some o:=fun o=>At.self (by simpa using l0)
   simp[a1.eq,↓c0]
  ·exact h2.elim
 ·rw[if_neg h0]
  simp[t318,n318,zj,e324,h0]

theorem z58(p:Int × Int)(l:List (Int × Int)):yf (p::l)=dI p.1::dI p.2::yf l:=rfl
theorem z44:∀(l:List (Int × Int)),(yf l).length=l.length*2
 |[]=>rfl
 |p::l=>by rw[z58,aC,aC,z44 l,aC];omega
theorem z8s(a b:List (Int × Int)):yf (a++b)=yf a++yf b:=List.flatMap_append
theorem ze0:∀(l:List (Int × Int)),y3x (yf l)=some l
 |[]=>rfl
 |p::l=>by rw[z58];simp only[y3x,ze0 l]
theorem zbw:∀(l:List (Int × Int)) (k:Nat),(yf l).take (k*2)=yf (l.take k)
 |[],k=>by simp[yf]
 |p::l,0=>rfl
 |p::l,k+1=>by
  rw[z58,show(k+1)*2=k*2+1+1 from by omega,cN,cN,zbw l k];rfl
theorem zsf{l:List (Int × Int)}{k:Nat}(h:k<l.length):y1x (yf l) (k*2) 2=some [dI l[k].1,dI l[k].2]:=by
 have e:yf l=yf (l.take k)++[dI l[k].1,dI l[k].2]++yf (l.drop (k+1)):=by
  conv=>lhs;rw[<- bq k l,bP h,z8s,z58]
  simp
 rw[e]
 exact z65 [dI l[k].1,dI l[k].2] _ _ _ (by rw[z44,aP];omega)
theorem zsg{l:List (Int × Int)}{k:Nat}{a:Int × Int}(h:k<l.length):setCells (yf l) (k*2) [dI a.1,dI a.2]=yf (l.set k a):=by
 have e:yf l=yf (l.take k)++(dI l[k].1::dI l[k].2::yf (l.drop (k+1))):=by
  conv=>lhs;rw[<- bq k l,bP h,z8s,z58]
 have hl:(yf (l.take k)).length=k*2:=by rw[z44,aP];omega
 have e2:=zu (a:=yf (l.take k)) (b:=dI l[k].1::dI l[k].2::yf (l.drop (k+1))) (off:=0) (vs:=[dI a.1,dI a.2])
 have e3:k*2+0=k*2:=rfl
 rw[hl,e3] at e2
 rw[e,e2,List.set_eq_take_append_cons_drop,if_pos h,z8s,z58]
 rfl
theorem ybs{H:List Obj}{q k:Nat}{l:List (Int × Int)}(A:At H q (.cells (yf l)))(h:k<l.length):yt E H 65 (.loc q (k*2))=some (y3k l[k].1 l[k].2):=by
 unfold yt
 simp only[A.eq,show(E.ty 65).size=2 from rfl,zsf h]
 rfl
theorem st65{H:List Obj}{q k:Nat}{l:List (Int × Int)}{a:Int × Int}(A:At H q (.cells (yf l)))(h:k<l.length):y3b E H 65 (.loc q (k*2)) (y3k a.1 a.2)=some (H.set q (.cells (yf (l.set k a)))):=by
 unfold y3b
 simp only[A.eq]
 rw[if_pos ⟨rfl,rfl,by rw[z44,show(E.ty 65).size=2 from rfl];omega⟩]
 rw[<- zsg h]
 rfl

theorem s361{hp:List Obj}{q:Nat}{xs:List (Int × Int)}{gr ag:Bool}{k:Nat}(hk:k=362\/k=386)(A:At hp q (.cells (yf xs)))(hl:xs.length<=1000000) :
  y1i E (dL E) (361) [.sl q 0 xs.length 2 ag gr,.fn k []] hp=some (.tup [],hp.set q (.cells (yf (y1s xs)))):=by
 have e:E.fn (361)=some f361:=rfl
 have e2:E.mp 361=false:=rfl
 have e3:[362,386].contains k=true:=by rcases hk with rfl | rfl <;> rfl
 have e4:E.prim 0=y6b [362,386]:=rfl
 have e5:y6b [362,386] [.sl q 0 xs.length 2 ag gr,.fn k []] hp=some (.tup [],hp.set q (.cells (yf (y1s xs)))):=by
  unfold y6b
  simp only[e3,if_true,A.eq]
  rw[if_pos ⟨z44 xs,by omega⟩,ze0]
 unfold y1i
 simp only[e,e2,f361,yk,za6,z6w,zhe,z5x,z81,y2a]
 simp[ye,yd,yh,y1y,DOp.fin,yl,yb,ym,gOf,z81,y1l,y49,yg,y23,z5x,za5,yw,e4,e5,y29]
theorem ydj{hp:List Obj}{k:Nat}(hk:k=362\/k=386):y1i E (dL E) (361) [.imm .exact [],.fn k []] hp=some (.tup [],hp):=by
 have e:E.fn (361)=some f361:=rfl
 have e2:E.mp 361=false:=rfl
 have e3:[362,386].contains k=true:=by rcases hk with rfl | rfl <;> rfl
 have e4:E.prim 0=y6b [362,386]:=rfl
 have e5:y6b [362,386] [.imm .exact [],.fn k []] hp=some (.tup [],hp):=by
  unfold y6b
  simp only[e3,if_true]
 unfold y1i
 simp only[e,e2,f361,yk,za6,z6w,zhe,z5x,z81,y2a]
 simp[ye,yd,yh,y1y,DOp.fin,yl,yb,ym,gOf,z81,y1l,y49,yg,y23,z5x,za5,yw,e4,e5,y29]

def y6l(xs:List (Int × Int))(m:Nat):List (Int × Int):=y1e (xs.take m)++xs.drop (y1e (xs.take m)).length
theorem zlen{xs:List (Int × Int)}{m:Nat}:(y1e (xs.take m)).length<=m:=aG z6y (by rw[aP];omega)
theorem z85{xs:List (Int × Int)}{m:Nat}(h:m<=xs.length):(y6l xs m).length=xs.length:=by
 have:=zlen (xs:=xs) (m:=m)
 unfold y6l
 rw[aw,cX];omega
theorem zgh{xs:List (Int × Int)}{m j:Nat}(hj:(y1e (xs.take m)).length<=j)(h:j<xs.length)(hm:m<=xs.length):(y6l xs m)[j]'(by rw[z85 hm];exact h)=xs[j]:=by
 have:(y6l xs m)[j]? = some xs[j]:=by
  unfold y6l
  rw[aA hj,bV,show(y1e (xs.take m)).length+(j - (y1e (xs.take m)).length)=j from by omega,af h]
 rw[af (by rw[z85 hm];exact h)] at this
 exact bZ this
theorem zlt{xs:List (Int × Int)}{m:Nat}(h0:0<m)(h:m<=xs.length):(xs.take m).getLast? = some (xs[m - 1]'(by omega)):=by
 rw[dN,aP,bu h,List.getElem?_take,if_pos (by omega),af]
theorem zcm{xs:List (Int × Int)}{m:Nat}(h0:0<m)(h:m<xs.length):y1e (xs.take (m+1))=if xs[m - 1]'(by omega)=xs[m] then y1e (xs.take m) else y1e (xs.take m)++[xs[m]]:=by
 rw[aR h,zbj,zlt h0 (by omega)]
 simp
theorem zrv{xs:List (Int × Int)}{m:Nat}(h0:0<m)(h:m<xs.length)(he:xs[m - 1]'(by omega)=xs[m]):y6l xs (m+1)=y6l xs m:=by
 unfold y6l;rw[zcm h0 h,if_pos he]
theorem zru{xs:List (Int × Int)}{m:Nat}(h0:0<m)(h:m<xs.length)(he : ¬ xs[m - 1]'(by omega)=xs[m]):y6l xs (m+1)=(y6l xs m).set (y1e (xs.take m)).length xs[m]:=by
 have hz:=zlen (xs:=xs) (m:=m)
 unfold y6l
 rw[zcm h0 h,if_neg he]
 rw[dG _ _ (ai _),fB]
 generalize hc:(y1e (xs.take m)).length=c at hz
 rw[aw,hc,bP (show c<xs.length by omega),List.set_cons_zero]
 simp only[bj,bi,bD]
 rfl

def y4w(q:Nat)(h h':List Obj):Prop:=h.length<=h'.length /\ ∀ j o,j ≠ q->At h j o->At h' j o
theorem y4w.refl{q:Nat}{h:List Obj}:y4w q h h:=⟨ai _,fun _ _ _ a=>a⟩
theorem y4w.app{q:Nat}{h h' r:List Obj}(k:y4w q h h'):y4w q h (h'++r):=⟨by rw[aw];have:=k.1;omega,fun j o hj a=>(k.2 j o hj a).app⟩
theorem y4w.set{q:Nat}{h h':List Obj}{o:Obj}(k:y4w q h h'):y4w q h (h'.set q o):=⟨by rw[bv];exact k.1,fun j o hj a=>(k.2 j o hj a).ne (Ne.symm hj)⟩

theorem z5y{xs:List (Int × Int)}(h:xs.length<2):y1e xs=xs:=by
 match xs,h with
 |[],_=>rfl
 |[x],_=>rfl
def Cp(q:Nat)(hp:List Obj)(xs:List (Int × Int))(d:D)(hp':List Obj):Prop:=
 ∃ cs,d=.sl q 0 (y1e xs).length 2 true true/\At hp' q (.cells cs)/\cs.take ((y1e xs).length*2)=yf (y1e xs)/\y4w q hp hp'

theorem zrn{a b:Int × Int}:y2n E .eql 65 (y3k a.1 a.2) (y3k b.1 b.2)=some (.bool (decide (a=b))):=by
 obtain⟨a1,a2⟩:=a
 obtain⟨b1,b2⟩:=b
 have:y2n E .eql 65 (y3k a1 a2) (y3k b1 b2)=some (.bool ((a1 == b1) && ((a2 == b2) && true))):=rfl
 rw[this]
 simp only[aa,D.bool.injEq,ao,jz]
 by_cases h1:a1=b1 <;> by_cases h2:a2=b2 <;> simp[h1,h2]
theorem zvo{a b:Int × Int}:y2n E .neq 65 (y3k a.1 a.2) (y3k b.1 b.2)=some (.bool (!decide (a=b))):=by
 obtain⟨a1,a2⟩:=a
 obtain⟨b1,b2⟩:=b
 have:y2n E .neq 65 (y3k a1 a2) (y3k b1 b2)=some (.bool (!((a1 == b1) && ((a2 == b2) && true)))):=rfl
 rw[this]
 simp only[aa,D.bool.injEq,ao,jz]
 by_cases h1:a1=b1 <;> by_cases h2:a2=b2 <;> simp[h1,h2]

theorem sl67{q n k:Nat}{gr:Bool}(h:k<=n):y15 E 67 (.sl q 0 n 2 true gr) (some (dI k)) none none=some (.sl q (k*2) (n - k) 2 true false):=by
 have hk:(E.ty 67).k=.slice 65:=rfl
 unfold y15
 simp only[hk,bnd,jW,if_true,dh]
 rw[if_pos ⟨h,ai _,rfl⟩,bB]
theorem ydf{H:List Obj}{q n k:Nat}{cs:List D}(A:At H q (.cells cs))(h:k*2<=cs.length):y2w E H 67 (.sl q 0 n 2 true true) (dI k)=some (.sl q 0 k 2 true true,H):=by
 have hk:(E.ty 67).k=.slice 65:=rfl
 have hz:(E.ty 65).size=2:=rfl
 unfold y2w
 simp only[hk,hz,A.eq,jW,true_and,dh]
 rw[if_pos ⟨h,by decide⟩]
theorem yea{H:List Obj}{q kk:Nat}{zs:List (Int × Int)}{gr:Bool}(A:At H q (.cells (yf zs)))(h:kk<=zs.length) :
  ∃ cs,y9s E H 67 (.sl q (kk*2) (zs.length - kk) 2 true gr)=some (.undef,H.set q (.cells cs))/\cs.take (kk*2)=yf (zs.take kk):=by
 have hk:(E.ty 67).k=.slice 65:=rfl
 have hz:y1u E 65=some (y3k 0 0):=rfl
 refine⟨setCells (yf zs) (kk*2) (yn (ac (zs.length - kk) (y3k 0 0))),?_,?_⟩
 ·unfold y9s
  simp only[hk,hz,A.eq]
  rw[if_pos ⟨rfl,by rw[z44];omega⟩]
 ·have hl:(yf (zs.take kk)).length=kk*2:=by rw[z44,aP];omega
  have e:yf zs=yf (zs.take kk)++yf (zs.drop kk):=by rw[<- z8s,bq]
  have e2:=zu (a:=yf (zs.take kk)) (b:=yf (zs.drop kk)) (off:=0) (vs:=yn (ac (zs.length - kk) (y3k 0 0)))
  rw[hl] at e2
  have e3:kk*2+0=kk*2:=rfl
  rw[e3] at e2
  rw[e,e2,bC (by omega),bl (by omega)]

theorem s363{hp:List Obj}{q:Nat}{xs:List (Int × Int)}(A:At hp q (.cells (yf xs)))(hl:xs.length<=1000000) :
  ∃ d hp',y1i E (dL E) 363 [.sl q 0 xs.length 2 true true] hp=some (d,hp')/\Cp q hp xs d hp':=by
 refine z3d c363 (args:=[.sl q 0 xs.length 2 true true]) (hp:=hp) (R:=Cp q hp xs) (by simp) ?_
 by_cases h2:xs.length<2
 ·have h2':(xs.length:Int)<2:=by omega
  simp[t363,n363,h2']
  exact⟨_,by rw[z5y h2],A,by rw[z5y h2,zbw,bh],y4w.refl⟩
 have h2' : ¬ (xs.length:Int)<2:=by omega
 simp[t363,n363,h2']
 refine z13 xs.length (fun k env h=>∃(x3 x4 x5 x6 x7 x8 x9 x10:D) ,env=[.sl q 0 xs.length 2 true true,.imm .exact [],dI k,x3,x4,x5,x6,x7,x8,x9,x10]/\1<=k/\At h q (.cells (yf xs))/\y4w q hp h/\y1e (xs.take k)=xs.take k) 1 (by omega) ⟨_,_,_,_,_,_,_,_,rfl,ai _,A,y4w.refl,z5y (by rw[aP];omega)⟩ ?_
 rintro k env h hk ⟨x3,x4,x5,x6,x7,x8,x9,x10,rfl,hk1,B,K,hc⟩
 by_cases hlt:k<xs.length
 rotate_left
 ·have:k=xs.length:=by omega
  subst this
  rw[bh] at hc
  simp
  exact⟨_,by rw[hc],B,by rw[hc,zbw,bh],K⟩
 have hup:=zl hlt (by omega)
 have hw1:av.wrap ((k:Int) - 1)=((k - 1:Nat):Int):=by
  rw[zc ⟨by omega,by omega⟩];omega
 have y1:∀ r:List Obj,yt E (h++r) 65 (.loc q (k*2))=some (y3k xs[k].1 xs[k].2):=fun r=>ybs B.app hlt
 have y2:∀ r:List Obj,yt E (h++r) 65 (.loc q ((k - 1)*2))=some (y3k (xs[k - 1]'(by omega)).1 (xs[k - 1]'(by omega)).2):=fun r=>ybs B.app (by omega)
 have hk1':(k - 1:Nat)<xs.length:=by omega
 have ez:=zrn (a:=xs[k]) (b:=xs[k - 1]'(by omega))
 by_cases he:xs[k - 1]'(by omega)=xs[k]
 ·have he':=he.symm
  have hs:=sl67 (q:=q) (gr:=true) (show k<=xs.length by omega)
  have hc1:y1e (xs.take (k+1))=xs.take k:=by rw[zcm hk1 hlt,if_pos he,hc]
  have hz1:y6l xs (k+1)=xs:=by
   unfold y6l
   rw[hc1,aP,bu (by omega),bq]
  have hl1:(y1e (xs.take (k+1))).length=k:=by rw[hc1,aP];omega
  simp[hlt,hup,hw1,hk1',-zp,y1,y2,ez,he',hs]
  refine z13 (xs.length - k) (fun j env h=>∃(x5 x6 x7 x8 x9 x10:D) ,env=[.sl q 0 xs.length 2 true true,.imm .exact [],dI (y1e (xs.take (k+j))).length,.sl q (k*2) (xs.length - k) 2 true false,dI j,x5,x6,x7,x8,x9,x10] /\
   1<=j/\(y1e (xs.take (k+j))).length+1<=k+j/\At h q (.cells (yf (y6l xs (k+j))))/\y4w q hp h) 1 (by omega) ⟨_,_,_,_,_,_,by rw[hl1];rfl,ai _,by rw[hl1];omega,by rw[hz1];exact B.app,K.app⟩ ?_
  rintro j env h3 hj ⟨x5,x6,x7,x8,x9,x10,rfl,hj1,hkk,B3,K3⟩
  by_cases hlt2:j<xs.length - k
  rotate_left
  ·have:j=xs.length - k:=by omega
   subst this
   have hkn:k+(xs.length - k)=xs.length:=by omega
   rw[hkn] at hkk B3 ⊢
   rw[bh] at hkk ⊢
   have hzl:=z85 (xs:=xs) (ai _)
   have hzt:(y6l xs xs.length).take (y1e xs).length=y1e xs:=by unfold y6l;rw[bh];simp
   obtain⟨cs,h4,h5⟩:=yea (gr:=false) B3 (kk:=(y1e xs).length) (by omega)
   rw[hzl] at h4
   rw[hzt] at h5
   have hs2:=sl67 (q:=q) (gr:=true) (show(y1e xs).length<=xs.length from z6y)
   have hs3:=ydf (n:=xs.length) (k:=(y1e xs).length) (At.self (o:=.cells cs) B3.lt) (by have:=congrArg dz h5;rw[z44,aP] at this;have:=z6y (l:=xs);omega)
   simp[hs2,hs3,h4]
   exact⟨cs,rfl,At.self B3.lt,h5,K3.set⟩
  have hm:k+j<xs.length:=by omega
  have hnx:k+(j+1)=k+j+1:=by omega
  have hzl:=z85 (xs:=xs) (m:=k+j) (by omega)
  have g1:=zgh (xs:=xs) (m:=k+j) (j:=k+j) (by omega) hm (by omega)
  have g2:=zgh (xs:=xs) (m:=k+j) (j:=k+j - 1) (by omega) (by omega) (by omega)
  have hup2:=zl hlt2 (by omega)
  have hwj:av.wrap ((j:Int) - 1)=((j - 1:Nat):Int):=by
   rw[zc ⟨by omega,by omega⟩];omega
  have hj1':j - 1<xs.length - k:=by omega
  have z1:∀ r:List Obj,yt E (h3++r) 65 (.loc q (k*2+j*2))=some (y3k xs[k+j].1 xs[k+j].2):=fun r=>by
   have:=ybs (k:=k+j) (B3.app (r:=r)) (by omega)
   rw[g1,bg] at this
   exact this
  have z2:∀ r:List Obj,yt E (h3++r) 65 (.loc q (k*2+(j - 1)*2))=some (y3k (xs[k+j - 1]'(by omega)).1 (xs[k+j - 1]'(by omega)).2):=fun r=>by
   have:=ybs (k:=k+j - 1) (B3.app (r:=r)) (by omega)
   rw[g2,show(k+j - 1)*2=k*2+(j - 1)*2 from by omega] at this
   exact this
  have zn:=zvo (a:=xs[k+j]) (b:=xs[k+j - 1]'(by omega))
  by_cases he2:xs[k+j - 1]'(by omega)=xs[k+j]
  ·have hz2:=zrv (by omega) hm he2
   have hcm:=zcm (by omega) hm
   rw[if_pos he2] at hcm
   simp[hlt2,-zp,z1,z2,zn,he2.symm,hwj,hj1',hup2]
   rw[hnx,hcm,hz2]
   exact⟨rfl,by omega,B3.app,K3.app⟩
  ·have hz2:=zru (by omega) hm he2
   have hcm:=zcm (by omega) hm
   rw[if_neg he2] at hcm
   have he3 : ¬ xs[k+j]=xs[k+j - 1]'(by omega):=fun h=>he2 h.symm
   obtain⟨kk,hkke⟩:∃ kk,kk=(y1e (xs.take (k+j))).length:=⟨_,rfl⟩
   have hcl:(y1e (xs.take (k+(j+1)))).length=kk+1:=by rw[hnx,hcm,aw,hkke];rfl
   rw[<- hkke] at hz2 hkk
   have hst:∀ r:List Obj,y3b E (h3++r) 65 (.loc q (kk*2)) (y3k xs[k+j].1 xs[k+j].2)=some ((h3++r).set q (.cells (yf ((y6l xs (k+j)).set kk xs[k+j])))):=fun r=>st65 B3.app (by omega)
   have hkn:kk<xs.length:=by omega
   have hup3:=zl hkn (by omega)
   simp[hlt2,-zp,z1,z2,zn,he3,hwj,hj1',hup2,<- hkke,hst,hkn,hup3,hcl]
   exact⟨by omega,by rw[hnx,hz2];exact At.self (At.lt B3.app),K3.app.set⟩
 ·have he' : ¬ xs[k]=xs[k - 1]'(by omega):=fun h=>he h.symm
  simp[hlt,hup,hw1,hk1',-zp,y1,y2,ez,he']
  exact⟨B.app,K.app,by rw[zcm hk1 hlt,if_neg he,hc,<- aR hlt]⟩

end Dv
