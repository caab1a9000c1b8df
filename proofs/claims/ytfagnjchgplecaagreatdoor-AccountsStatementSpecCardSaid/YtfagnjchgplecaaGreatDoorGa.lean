/- Texts that a proof of this claim uses, joined: Lw.W199, Lw.W200, Lw.W203, Lw.W204, Lw.W205, Lw.W201, Lw.W202, Lw.W206, Lw.W207, Lw.W208, Lw.W209, Lw.W210, Lw.W211, Lw.W212, Lw.W213, Lw.W260, Lw.W215, Lw.W216, Lw.W240, Lw.W214, Lw.W217, Lw.W218, Lw.W219, Lw.W220, Lw.W221, Lw.W222. -/
import Derived.Test.YtfagnjchgplecaaGreatDoorLwa
import Derived.Test.YtfagnjchgplecaaGreatDoorTc
import Derived.Test.YtfagnjchgplecaaGreatDoorWa
import Derived.Test.YtfagnjchgplecaaGreatDoorDva
set_option linter.all false
open BitVec renaming ofInt->cp,ofNat->cj,toNat_add->ek,toNat_and->i8,toNat_ofNat->iF,toNat_or->fu,toNat_shiftLeft->ev,toNat_ushiftRight->dY,toNat_xor->fK
open Bool renaming and_true->iJ
open Decidable renaming not_not->gy
open Go.IntKind renaming bits->fY,i64->aw,signed->fA,u32->cg,u64->bd,u8->fo,wrap->fX
open Int renaming fdiv_eq_ediv_of_nonneg->cX,natCast_ediv->i6,natCast_nonneg->eB,natCast_pow->ic,negSucc_eq->ah,pow_nonneg->iq,toNat_natCast->ci
open List renaming all_eq_true->aD,append_assoc->a8,cons_append->aO,drop_drop->b6,drop_eq_getElem_cons->bC,drop_length->bE,drop_of_length_le->gE,drop_zero->cn,eq_nil_of_length_eq_zero->cm,flatMap_cons->bD,flatten_append->j5,foldl_append->gz,getD_eq_getElem?_getD->aj,getElem?_append_left->aB,getElem?_append_right->aF,getElem?_drop->bX,getElem?_eq_getElem->ae,getElem?_eq_some_iff->ac,getElem?_map->bK,getElem?_set_ne->bl,getElem?_set_self->aW,getElem_map->gR,getElem_mem->aC,getLast?_cons_cons->jb,getLast?_eq_getElem?->dO,length->cJ,length_append->ak,length_cons->aA,length_drop->cq,length_map->ao,length_nil->ba,length_replicate->df,length_set->bu,length_take->aI,map_append->bm,map_cons->av,map_drop->fN,map_map->iZ,map_nil->aQ,map_replicate->bS,map_set->fh,mem_append->aN,mem_cons->az,mem_cons_of_mem->bI,mem_map->aT,mem_singleton->fq,nil_append->bh,nodup_cons->dS,not_mem_nil->fg,pairwise_cons->bN,pairwise_iff_getElem->fW,replicate->af,set_append_right->cH,sizeOf_lt_of_mem->eI,sum_cons->eM,take_append_drop->bp,take_append_of_le_length->bG,take_length->aS,take_of_length_le->bg,take_succ_cons->de,take_succ_eq_append_getElem->aH,take_zero->fD
open List.Pairwise renaming imp->sF
open Nat renaming add_mul->bo,div_lt_iff_lt_mul->jC,eq_zero_or_pos->bR,le_refl->ai,le_trans->aJ,min_eq_left->bq,mul_one->dA,pow_add->nR,sub_self->fc,zero_add->bA
open Option renaming map_some->aq
open Option.some renaming inj->co,injEq->aa
open Prod renaming ext->kS
open Prod.mk renaming injEq->au
open UInt8 renaming ofNat->bi,toNat_ofNat'->iE
set_option maxRecDepth 100000
set_option maxHeartbeats 16000000
namespace Dv

theorem zpl{A:Type}{hp r:List A}{i:Nat}{o:A}(h:hp[i]? = some o):(hp++r)[i]? = some o:=by
 rw[aB (ac.1 h).1,h]
theorem zz8{A:Type}{hp:List A}{i:Nat}{o:A}(h:hp[i]? = some o):i<hp.length:=(ac.1 h).1
theorem zzl{A:Type}{hp:List A}{i j:Nat}{x o:A}(h:hp[i]? = some o)(hn:j ≠ i):(hp.set j x)[i]? = some o:=by
 rw[bl hn,h]
theorem zxb{A:Type}{hp:List A}{i:Nat}{x:A}(h:i<hp.length):(hp.set i x)[i]? = some x:=by
 rw[aW h]
theorem z61{A:Type}{hp r:List A}{k:Nat}:(hp++r)[hp.length+k]? = r[k]?:=by
 rw[aF (by omega)];congr 1;omega
theorem z72{A:Type}{hp r:List A}{k:Nat}{x:A}:(hp++r).set (hp.length+k) x=hp++r.set k x:=by
 rw[cH _ _ (by omega)];congr 2;omega
theorem z1p{A:Type}{hp r:List A}{i:Nat}{x:A}(h:i<hp.length):(hp++r).set i x=hp.set i x++r:=List.set_append_left _ _ h

def At(hp:List Obj)(i:Nat)(o:Obj):Prop:=hp[i]? = some o
theorem At.eq{hp:List Obj}{i:Nat}{o:Obj}(h:At hp i o):hp[i]? = some o:=h
theorem At.app{hp r:List Obj}{i:Nat}{o:Obj}(h:At hp i o):At (hp++r) i o:=zpl h
theorem At.appE{hp r:List Obj}{i:Nat}{o:Obj}(h:At hp i o):(hp++r)[i]? = some o:=zpl h
theorem At.ne{hp:List Obj}{i j:Nat}{x o:Obj}(h:At hp i o)(hn:j ≠ i):At (hp.set j x) i o:=zzl h hn
theorem At.lt{hp:List Obj}{i:Nat}{o:Obj}(h:At hp i o):i<hp.length:=zz8 h
theorem At.self{hp:List Obj}{i:Nat}{o:Obj}(h:i<hp.length):At (hp.set i o) i o:=zxb h

def y8l(C:Nat)(hp:List Obj)(sp:y13)(n sz:Nat):Prop:=sp=.exact \/ ∃ k,sp=.tok k/\C<=k/\At hp k (.tok (n*sz) sz)
def y2g(i C:Nat)(hp hp':List Obj):Prop:=∀ J:List Obj->Prop,(∀ hp r,J hp->J (hp++r))->(∀ hp j o,J hp->(j=i\/C<=j)->J (hp.set j o))->J hp->J hp'
theorem y2g.at{i C:Nat}{hp hp':List Obj}(h:y2g i C hp hp'){j:Nat}{o:Obj}(hj:j ≠ i)(hC:j<C)(g:At hp j o):At hp' j o:=
 h (fun hp=>At hp j o) (fun _ _ h=>h.app) (fun _ k _ h hk=>h.ne (by rcases hk with rfl | hk;exact fun e=>hj e.symm;omega)) g
theorem y2g.refl{i C:Nat}{hp:List Obj}:y2g i C hp hp:=fun _ _ _ h=>h
theorem y2g.trans{i C:Nat}{hp hp' hp'':List Obj}(h:y2g i C hp hp')(h':y2g i C hp' hp''):y2g i C hp hp'':=fun J h1 h2 h3=>h' J h1 h2 (h J h1 h2 h3)
theorem y2g.app{i C:Nat}{hp r:List Obj}:y2g i C hp (hp++r):=fun _ h1 _ h3=>h1 _ _ h3
theorem y2g.set{i C j:Nat}{o:Obj}{hp:List Obj}(hj:j=i\/C<=j):y2g i C hp (hp.set j o):=fun _ _ h2 h3=>h2 _ _ _ h3 hj

end Dv

namespace Dv

inductive CV where
 |mk (k n:Int) (s:List UInt8) (l:List CV)

abbrev dBy(l:List UInt8):D:=.imm .none (l.map ya)

mutual
def dV:CV->D
 |.mk k n s l=>.agg [dI k,dI n,.str s,.imm .none (dVs l)]
def dVs:List CV->List D
 |[]=>[]
 |v::l=>dV v::dVs l
end
theorem zqd:∀(l:List CV),dVs l=l.map dV
 |[]=>rfl
 |v::l=>by simp[dVs,zqd l]
theorem z1n{k n:Int}{s:List UInt8}{l:List CV}:dV (.mk k n s l)=.agg [dI k,dI n,.str s,.imm .none (l.map dV)]:=by rw[dV,zqd]

def num(u:Nat):List UInt8:=if h:u<128 then[bi u] else bi (u % 128+128)::num (u / 128)
termination_by u
decreasing_by omega
theorem zae{u:Nat}(h:u<128):num u=[bi u]:=by rw[num,dif_pos h]
theorem zfm{u:Nat}(h : ¬ u<128):num u=bi (u % 128+128)::num (u / 128):=by rw[num,dif_neg h]

def uns(n:Int):Nat:=if 0<=n then 2*n.toNat else 2*(-(n+1)).toNat+1
def sgn(u:Nat):Int:=if u % 2=0 then(u / 2:Nat) else -((u / 2:Nat):Int) - 1
theorem zep{n:Int}(h:i64 n):uns n<18446744073709551616:=by
 obtain⟨h1,h2⟩:=h
 unfold uns;split <;> omega
def rdN:Nat->List UInt8->Option (Nat × List UInt8)
 |_,[]=>none
 |i,c::r=>if(i=0\/c ≠ 0)/\(i<9\/c.toNat<=1) then
   (if c.toNat<128 then some (c.toNat,r) else(rdN (i+1) r).map fun p=>(c.toNat - 128+128*p.1,p.2))
  else none

theorem zh7{n:Nat}(h:n<256):(bi n).toNat=n:=by
 rw[iE];exact Nat.mod_eq_of_lt h
theorem zz3{u:Nat}:num u ≠ []:=by
 by_cases h:u<128
 ·rw[zae h];simp
 ·rw[zfm h];simp
theorem zhb{u:Nat}:1<=(num u).length:=by
 have:=zz3 (u:=u)
 cases h:num u with
 |nil=>exact absurd h this
 |cons _ _=>simp

mutual
def enc:CV->List UInt8
 |.mk k n s l=>if k=1 then 1::num (uns n) else if k=2 then 2::(num s.length++s) else 3::(num l.length++y3x l)
def y3x:List CV->List UInt8
 |[]=>[]
 |v::l=>enc v++y3x l
end

mutual
def fmd:CV->Prop
 |.mk k n s l=>(k=1/\i64 n/\s=[]/\l=[])\/(k=2/\n=0/\l=[])\/(k=3/\n=0/\s=[]/\yap l)
def yap:List CV->Prop
 |[]=>True
 |v::l=>fmd v/\yap l
end
mutual
def dep:CV->Nat
 |.mk k _ _ l=>if k=3 then y63 l+1 else 0
def y63:List CV->Nat
 |[]=>0
 |v::l=>Nat.max (dep v) (y63 l)
end

theorem zxi{v:CV}:1<=(enc v).length:=by
 cases v with
 |mk k n s l=>rw[enc];split <;> (try split) <;> simp
theorem ze9:∀(l:List CV),l.length<=(y3x l).length
 |[]=>by simp
 |v::l=>by
  have:=ze9 l
  have:=zxi (v:=v)
  simp only[y3x,aA,ak];omega
theorem z3v:∀(a b:List CV),y3x (a++b)=y3x a++y3x b
 |[],b=>by simp[y3x]
 |v::a,b=>by simp[y3x,z3v a b]

def rdL(f:List UInt8->Option (CV × List UInt8)):Nat->List UInt8->Option (List CV × List UInt8)
 | 0,b=>some ([],b)
 |n+1,b=>match f b with
  |none=>none
  |some p=>match rdL f n p.2 with
   |none=>none
   |some q=>some (p.1::q.1,q.2)

def rdS(b:List UInt8):Option (Nat × List UInt8):=match rdN 0 b with
 |some p=>if p.1<=p.2.length then some p else none
 |none=>none

def rdV:Nat->List UInt8->Option (CV × List UInt8)
 |_,[]=>none
 | 0,c::r=>if c=1 then(rdN 0 r).map fun p=>(.mk 1 (sgn p.1) [] [],p.2)
  else if c=2 then(rdS r).map fun p=>(.mk 2 0 (p.2.take p.1) [],p.2.drop p.1)
  else none
 |d+1,c::r=>if c=1 then(rdN 0 r).map fun p=>(.mk 1 (sgn p.1) [] [],p.2)
  else if c=2 then(rdS r).map fun p=>(.mk 2 0 (p.2.take p.1) [],p.2.drop p.1)
  else if c=3 then(rdS r).bind fun p=>(rdL (rdV d) p.1 p.2).map fun q=>(.mk 3 0 [] q.1,q.2)
  else none


end Dv

namespace Dv
attribute [local simp] af depth y2x y6l y31 y2f y6k y3b y3p y1y Ret
attribute [local congr] z2r z2v z20 z1l z1d z24 z1c


theorem z8y{n:Nat}(h:n<18446744073709551616):bd.wrap (n:Int)=n:=by
 simp[fX,fY,fA];omega
theorem z9l{n:Nat}:fo.wrap (n:Int)=((n % 256:Nat):Int):=by
 simp[fX,fY,fA]
theorem yfi{n:Nat}(h:n<256):yam .u8 (n:Int) 128=((n % 128+128:Nat):Int):=by
 have key:∀ m:Fin 256,yam .u8 ((m.val:Nat):Int) 128=((m.val % 128+128:Nat):Int):=by decide +kernel
 exact key ⟨n,h⟩
theorem z3c:bd.bits=64:=rfl
theorem shr7{n:Nat}:((n:Int).fdiv 128)=((n / 128:Nat):Int):=by
 rw[cX _ (by omega)];omega
theorem mk8{n:Nat}(h:n<256):(D.int .u8 (n:Int))=ya (bi n):=by
 unfold ya
 rw[zh7 h]

theorem z5w{u:Nat}(h:u<18446744073709551616):(num u).length<=11:=by
 have key:∀(k u:Nat),u<2 ^ (7*k)->(num u).length<=k+1:=by
  intro k
  induction k with
  |zero=>intro u h;rw[zae (by omega)];simp
  |succ k ih=>
   intro u h
   by_cases h1:u<128
   ·rw[zae h1];simp
   ·rw[zfm h1]
    have:=ih (u / 128) (by
     rw[jC (by decide),show(128:Nat)=2 ^ 7 from rfl,<- nR]
     rwa [show 7*k+7=7*(k+1) from by omega])
    simp;omega
 have:(18446744073709551616:Nat)<=2 ^ (7*10):=by decide
 exact key 10 u (by omega)
theorem z87{l:List UInt8}:y2u 1 (l.map ya)=true:=by
 unfold y2u
 rw[aD]
 intro x hx
 obtain⟨r,_,rfl⟩:=aT.1 hx
 rfl
theorem zt{l:List UInt8}{new:List D}(h:l.length+new.length<=1000000000000):y2y E 13 (l.map ya) new:=by
 refine⟨?_,?_,?_,z87⟩ <;> simp[yg]
 omega

theorem s312{C:Nat}:∀(u:Nat) {hp:List Obj} {sp:y13} (l:List UInt8),u<18446744073709551616->l.length<=900000000000->y8l C hp sp l.length 1->C<=hp.length ->
  ∃ d hp',y1o E (dL E) 312 [.imm sp (l.map ya),.int .u64 u] hp=some (d,hp') /\ ∃ k,d=.imm (.tok k) ((l++num u).map ya)/\C<=k/\At hp' k (.tok (l++num u).length 1)/\y2g C C hp hp'/\hp.length<=hp'.length:=by
 intro u hp sp l hu hl R hC
 refine z30 c312 (args:=[.imm sp (l.map ya),.int .u64 u]) (hp:=hp) (R:=fun d hp'=>∃ k,d=.imm (.tok k) ((l++num u).map ya)/\C<=k/\At hp' k (.tok (l++num u).length 1)/\y2g C C hp hp'/\hp.length<=hp'.length) (by simp) ?_
 conv in t312=>reduce;dsimp[ah]
 simp[t312,n312]
 have hlen:=z5w hu
 refine⟨fun k env h=>∃(x3 x4 x5:D) (sp':y13) (l':List UInt8),env=[.imm sp' (l'.map ya),.int .u64 (k:Nat),.imm .exact [],x3,x4,x5]/\k<18446744073709551616/\l'++num k=l++num u/\y8l C h sp' l'.length 1/\y2g C C hp h/\hp.length<=h.length,u,⟨_,_,_,sp,l,rfl,hu,rfl,R,y2g.refl,ai _⟩,?_⟩
 rintro k env h ⟨x3,x4,x5,sp',l',rfl,hk,he,R',K',hh⟩
 have htot:l'.length+(num k).length<=900000000000+11:=by
  have:=congrArg cJ he
  simp only[ak] at this
  omega
 have hpos:=zhb (u:=k)
 by_cases h128:128<=k
 ·have hn : ¬ k<128:=by omega
  have hI:(128:Int)<=(k:Int):=by omega
  have hap:∀ x:D,y2y E 13 (l'.map ya) [x]:=fun x=>zt (by simp;omega)
  have e1:D.int .u8 (yam .u8 ((k:Int) % 256) 128)=ya (bi (k % 128+128)):=by
   have h1:=yfi (n:=k % 256) (by omega)
   rw[show k % 256 % 128+128=k % 128+128 from by omega,show((k % 256:Nat):Int)=(k:Int) % 256 from by omega] at h1
   rw[h1,mk8 (n:=k % 128+128) (by omega)]
  have e2:(k:Int).fdiv 128=((k / 128:Nat):Int):=shr7
  rw[zfm hn] at he
  obtain⟨c,hc⟩:∃ c,c=bi (k % 128+128):=⟨_,rfl⟩
  rw[<- hc] at e1 he
  have he':(l'++[c])++num (k / 128)=l++num u:=by simpa using he
  rcases R' with rfl | ⟨q,rfl,hq,hq2⟩
  ·simp[hI,y2v,z13,zu,hap,z9l,e1,z3c,e2]
   exact⟨k / 128,by omega,_,_,_,_,l'++[c],⟨⟨rfl,by simp⟩,by omega,rfl,rfl,rfl⟩,by omega,he',.inr ⟨h.length,rfl,by omega,by simp[At]⟩,K'.trans y2g.app,by omega⟩
  ·simp[hI,y2v,z13,z14,hap,z9l,e1,hq2.eq,z3c,e2]
   exact⟨k / 128,by omega,_,_,_,_,l'++[c],⟨⟨rfl,by simp⟩,by omega,rfl,rfl,rfl⟩,by omega,he',.inr ⟨h.length,rfl,by omega,by simp[At]⟩,(K'.trans (y2g.set (.inr hq))).trans y2g.app,by omega⟩
 ·have hI : ¬ (128:Int)<=(k:Int):=by omega
  have e0:=z9l (n:=k)
  rw[show k % 256=k from by omega] at e0
  have e3:=mk8 (n:=k) (by omega)
  have hap:∀ x:D,y2y E 13 (l'.map ya) [x]:=fun x=>zt (by simp;omega)
  rw[zae (by omega)] at he
  obtain⟨c,hc⟩:∃ c,c=bi k:=⟨_,rfl⟩
  rw[<- hc] at e3 he
  have hm:l'.map ya++[ya c]=l.map ya++(num u).map ya:=by
   have:=congrArg (List.map ya) he
   simpa using this
  have hl2:l'.length+1=l.length+(num u).length:=by
   have:=congrArg cJ he
   simpa using this
  rcases R' with rfl | ⟨q,rfl,hq,hq2⟩
  ·simp[hI,y2v,z13,zu,hap,e0,e3]
   exact⟨h.length,⟨rfl,hm⟩,by omega,by simp[At,hl2],K'.trans y2g.app,by omega⟩
  ·simp[hI,y2v,z13,z14,hap,e0,e3,hq2.eq]
   exact⟨h.length,⟨rfl,hm⟩,by omega,by simp[At,hl2],(K'.trans (y2g.set (.inr hq))).trans y2g.app,by omega⟩

theorem ztv:aw.bits=64:=rfl
theorem z1a(m:Int):bd.wrap m=m % 18446744073709551616:=by
 simp[fX,fY,fA]
theorem zri{x:Nat}(h:x<18446744073709551616):y8c .u64 (x:Int) 0=x:=by
 unfold y8c
 rw[z1a]
 have e:(cp bd.bits (x:Int) ^^^ cp bd.bits 0).toNat=x:=by
  rw[show bd.bits=64 from rfl]
  simp
  omega
 rw[e];omega
theorem zrj{x:Nat}(h:x<18446744073709551616):y8c .u64 (x:Int) 18446744073709551615=((18446744073709551615 - x:Nat):Int):=by
 unfold y8c
 rw[z1a]
 have e:(cp bd.bits (x:Int) ^^^ cp bd.bits 18446744073709551615).toNat=18446744073709551615 - x:=by
  rw[show bd.bits=64 from rfl]
  have:(cp 64 18446744073709551615)=BitVec.allOnes 64:=by decide
  rw[this,BitVec.xor_allOnes]
  simp
  omega
 rw[e];omega
theorem zig{n:Int}(h:i64 n):y8c .u64 (bd.wrap (bd.wrap n*2)) (bd.wrap (n.fdiv 9223372036854775808))=(uns n:Nat):=by
 obtain⟨h1,h2⟩:=h
 have hf:n.fdiv 9223372036854775808=n / 9223372036854775808:=cX _ (by omega)
 rw[hf,z1a,z1a,z1a]
 unfold uns
 by_cases h0:0<=n
 ·rw[if_pos h0,show n / 9223372036854775808 % 18446744073709551616=0 from by omega,show n % 18446744073709551616*2 % 18446744073709551616=((2*n.toNat:Nat):Int) from by omega]
  exact zri (by omega)
 ·rw[if_neg h0,show n / 9223372036854775808 % 18446744073709551616=18446744073709551615 from by omega,show n % 18446744073709551616*2 % 18446744073709551616=((18446744073709551616 - 2*(-n).toNat:Nat):Int) from by omega,zrj (by omega)]
  omega

theorem r311{n:Int}(h:i64 n):yu E (dL E) 311 [dI n]=some (.int .u64 (uns n:Nat)):=by
 refine ze c311 (by simp) ?_
 conv in t311=>reduce;dsimp[ah]
 have e:=zig h
 simp[t311,n311,y2v,z3c,ztv,e]

def y7y(C:Nat)(hp:List Obj)(l e:List UInt8)(d:D)(hp':List Obj):Prop:=
 ∃ k,d=.imm (.tok k) ((l++e).map ya)/\C<=k/\At hp' k (.tok (l++e).length 1)/\y2g C C hp hp'/\hp.length<=hp'.length

theorem zbx{C:Nat}{hp h2:List Obj}{l a e:List UInt8}{d:D}{hp':List Obj}(hk:y2g C C hp h2)(hl:hp.length<=h2.length)(w:y7y C h2 (l++a) e d hp'):y7y C hp l (a++e) d hp':=by
 obtain⟨k,w1,w2,w3,w4,w5⟩:=w
 rw[a8] at w1 w3
 exact⟨k,w1,w2,w3,hk.trans w4,aJ hl w5⟩
theorem y7y.imm{C:Nat}{hp:List Obj}{l e:List UInt8}{d:D}{hp':List Obj}(w:y7y C hp l e d hp'):yw d=false:=by
 obtain⟨k,rfl,_⟩:=w;rfl
theorem yc6{C:Nat}(u:Nat){hp:List Obj}{sp:y13}(l:List UInt8)(hu:u<18446744073709551616)(hl:l.length<=900000000000)(R:y8l C hp sp l.length 1)(hC:C<=hp.length) :
  ∃ d hp',y1o E (dL E) 312 [.imm sp (l.map ya),.int .u64 u] hp=some (d,hp')/\yw d=false/\y7y C hp l (num u) d hp':=by
 obtain⟨d,hp',e,w⟩:=s312 u l hu hl R hC
 have w:y7y C hp l (num u) d hp':=w
 exact⟨d,hp',e,w.imm,w⟩
theorem z91{C:Nat}{hp r:List Obj}{n k:Nat}(hC:C<=hp.length)(h:r[k]? = some (.tok n 1)):y8l C (hp++r) (.tok (hp.length+k)) n 1:=
 .inr ⟨hp.length+k,rfl,by omega,by rw[dA];exact z61.trans h⟩
theorem zdh{C:Nat}{hp r:List Obj}{o:Obj}{n k q:Nat}(hC:C<=hp.length)(h:r[k]? = some (.tok n 1)):y8l C (hp.set q o++r) (.tok (hp.length+k)) n 1:=by
 have:=z91 (C:=C) (hp:=hp.set q o) (r:=r) (k:=k) (n:=n) (by simpa using hC) h
 simpa using this
theorem zy2{C:Nat}{hp:List Obj}{sp:y13}{l:List UInt8}{m k:Nat}(c:UInt8)(x:D)(hx:x=ya c)(hk:k<m)(R:y8l C hp sp l.length 1)(hC:C<=hp.length)(hl:l.length<=900000000000) :
  ∃ h2,y4u E (hp++af m .dead) (hp.length+k) 30 30 (.imm sp (l.map ya)) (.imm .exact [x])=some (.imm (.tok (hp.length+k)) ((l++[c]).map ya),h2)/\y2g C C hp h2/\h2.length=hp.length+m/\y8l C h2 (.tok (hp.length+k)) (l++[c]).length 1:=by
 subst hx
 have hap:∀ x:D,y2y E 13 (l.map ya) [x]:=fun x=>zt (by simp;omega)
 have hr:(af m Obj.dead).length=m:=by simp
 have hg:((af m Obj.dead).set k (.tok (l.length+1) 1))[k]? = some (.tok (l.length+1) 1):=by simp[hk]
 rcases R with rfl | ⟨q,rfl,hq,hq2⟩
 ·refine⟨hp++(af m Obj.dead).set k (.tok (l.length+1) 1),?_,y2g.app,by simp,?_⟩
  ·simp[zu,hap,hk,↓z72]
  ·have:=z91 (C:=C) hC hg
   simpa using this
 ·have hlt:=hq2.lt
  have hq3:(hp++af m Obj.dead)[q]? = some (.tok (l.length*1) 1):=hq2.appE
  rw[dA] at hq3
  refine⟨hp.set q .dead++(af m Obj.dead).set k (.tok (l.length+1) 1),?_,(y2g.set (.inr hq)).trans y2g.app,by simp,?_⟩
  ·have e:((hp++af m Obj.dead).set q .dead).set (hp.length+k) (.tok (l.length+1) 1)=hp.set q .dead++(af m Obj.dead).set k (.tok (l.length+1) 1):=by
    rw[z1p hlt]
    have:=z72 (hp:=hp.set q Obj.dead) (r:=af m Obj.dead) (k:=k) (x:=.tok (l.length+1) 1)
    rwa [bu] at this
   simp[z14,hap,hk,hq3]
   exact e
  ·have:=zdh (C:=C) (o:=.dead) (q:=q) hC hg
   simpa using this
theorem z94{l:List UInt8}{c:UInt8}:(l++[c]).map ya=l.map ya++[.int .u8 c.toNat]:=by simp

theorem s298{C:Nat}{hp:List Obj}{sp:y13}(l:List UInt8)(n:Int)(hn:i64 n)(hl:l.length<=800000000000)(R:y8l C hp sp l.length 1)(hC:C<=hp.length) :
  ∃ d hp',y1o E (dL E) 298 [.imm sp (l.map ya),dV (.mk 1 n [] [])] hp=some (d,hp')/\y7y C hp l (enc (.mk 1 n [] [])) d hp':=by
 refine z30 c298 (args:=[.imm sp (l.map ya),dV (.mk 1 n [] [])]) (hp:=hp) (R:=y7y C hp l (enc (.mk 1 n [] []))) (by simp) ?_
 conv in t298=>reduce;dsimp[ah]
 have h311:=r311 hn
 have hap:∀ x:D,y2y E 13 (l.map ya) [x]:=fun x=>zt (by simp;omega)
 have he:enc (.mk 1 n [] [])=[1]++num (uns n):=by rw[enc,if_pos rfl];rfl
 rw[z1n,he]
 rcases R with rfl | ⟨q,rfl,hq,hq2⟩
 ·obtain⟨d,hp',e,hm,w⟩:=yc6 (C:=C) (hp:=hp++[.dead,.dead,.tok (l.length+1) 1,.dead,.dead,.dead,.dead,.dead]) (sp:=.tok (hp.length+2)) (uns n) (l++[1]) (zep hn) (by simp;omega) (by rw[ak];exact z91 hC rfl) (by simp;omega)
  have w':=zbx (hp:=hp) y2g.app (by simp) w
  rw[z94] at e
  simp at e
  simp[t298,n298,z13,zu,hap,h311,e,hm]
  exact w'
 ·obtain⟨d,hp',e,hm,w⟩:=yc6 (C:=C) (hp:=hp.set q .dead++[.dead,.dead,.tok (l.length+1) 1,.dead,.dead,.dead,.dead,.dead]) (sp:=.tok (hp.length+2)) (uns n) (l++[1]) (zep hn) (by simp;omega) (by rw[ak];exact zdh hC rfl) (by simp;omega)
  have w':=zbx (hp:=hp) ((y2g.set (.inr hq)).trans y2g.app) (by simp) w
  rw[z94] at e
  simp at e
  have hq3:(hp++af 8 Obj.dead)[q]? = some (.tok (l.length*1) 1):=hq2.appE
  simp at hq3
  have hlt:=hq2.lt
  simp[t298,n298,z13,z14,hap,h311,e,hm,hq3,↓z1p hlt]
  exact w'

theorem s299{C:Nat}{hp:List Obj}{sp:y13}(l s:List UInt8)(hl:l.length+s.length<=800000000000)(R:y8l C hp sp l.length 1)(hC:C<=hp.length) :
  ∃ d hp',y1o E (dL E) 299 [.imm sp (l.map ya),dV (.mk 2 0 s [])] hp=some (d,hp')/\y7y C hp l (enc (.mk 2 0 s [])) d hp':=by
 refine z30 c299 (args:=[.imm sp (l.map ya),dV (.mk 2 0 s [])]) (hp:=hp) (R:=y7y C hp l (enc (.mk 2 0 s []))) (by simp) ?_
 conv in t299=>reduce;dsimp[ah]
 have hap:∀ x:D,y2y E 13 (l.map ya) [x]:=fun x=>zt (by simp;omega)
 have he:enc (.mk 2 0 s [])=([2]++num s.length)++s:=by rw[enc,if_neg (by decide),if_pos rfl];rfl
 have hw:=z8y (n:=s.length) (by omega)
 have hn:=z5w (u:=s.length) (by omega)
 rw[z1n,he]
 have fin:∀{d:D} {h2:List Obj},hp.length+12<=h2.length->y7y C hp l ([2]++num s.length) d h2->∃ k,d=.imm (.tok k) ((l++([2]++num s.length)).map ya)/\h2[k]? = some (.tok (l++([2]++num s.length)).length 1)/\y2y E 13 ((l++([2]++num s.length)).map ya) (s.map ya) /\
   y7y C hp l (([2]++num s.length)++s) (.imm (.tok (hp.length+10)) ((l++([2]++num s.length)).map ya++s.map ya)) ((h2.set k .dead).set (hp.length+10) (.tok ((l++([2]++num s.length)).length+s.length) 1)):=by
  rintro d h2 hh ⟨k,rfl,w2,w3,w4,w5⟩
  refine⟨k,rfl,w3,zt (by simp at hn ⊢;omega),hp.length+10,by simp,by omega,?_,(w4.trans (y2g.set (.inr w2))).trans (y2g.set (.inr (by omega))),by simp;omega⟩
  have:(l++(([2]++num s.length)++s)).length=(l++([2]++num s.length)).length+s.length:=by simp;omega
  rw[this]
  exact At.self (by simp;omega)
 rcases R with rfl | ⟨q,rfl,hq,hq2⟩
 ·obtain⟨d,hp',e,hm,w⟩:=yc6 (C:=C) (hp:=hp++[.dead,.dead,.tok (l.length+1) 1,.dead,.dead,.dead,.dead,.dead,.dead,.dead,.dead,.dead]) (sp:=.tok (hp.length+2)) s.length (l++[2]) (by omega) (by simp;omega) (by rw[ak];exact z91 hC rfl) (by simp;omega)
  have hlen:hp.length+12<=hp'.length:=by have:=w.choose_spec.2.2.2.2;simpa using this
  have w':=zbx (hp:=hp) y2g.app (by simp) w
  obtain⟨k,rfl,f1,f2,f3⟩:=fin hlen w'
  rw[z94] at e
  simp at e f1 f2 f3
  have h10:hp.length+10<hp'.length:=by omega
  simp[t299,n299,z13,zu,z14,hap,hw,y2v,e,f1,f2,h10]
  simpa using f3
 ·obtain⟨d,hp',e,hm,w⟩:=yc6 (C:=C) (hp:=hp.set q .dead++[.dead,.dead,.tok (l.length+1) 1,.dead,.dead,.dead,.dead,.dead,.dead,.dead,.dead,.dead]) (sp:=.tok (hp.length+2)) s.length (l++[2]) (by omega) (by simp;omega) (by rw[ak];exact zdh hC rfl) (by simp;omega)
  have hlen:hp.length+12<=hp'.length:=by have:=w.choose_spec.2.2.2.2;simpa using this
  have w':=zbx (hp:=hp) ((y2g.set (.inr hq)).trans y2g.app) (by simp) w
  obtain⟨k,rfl,f1,f2,f3⟩:=fin hlen w'
  rw[z94] at e
  have hq3:(hp++af 12 Obj.dead)[q]? = some (.tok (l.length*1) 1):=hq2.appE
  simp at e f1 f2 f3 hq3
  have hlt:=hq2.lt
  have h10:hp.length+10<hp'.length:=by omega
  simp[t299,n299,z13,z14,hap,hw,y2v,e,f1,f2,h10,hq3,↓z1p hlt]
  simpa using f3

structure Wrs(hp:List Obj)(A B:Nat):Prop where
 a:At hp A (.cells [.nilfn,.fn 298 [],.fn 299 [],.fn 300 [.loc B 0]])
 b:At hp B (.cells [.loc A 0])
theorem Wrs.keep{C:Nat}{hp hp':List Obj}{A B:Nat}(w:Wrs hp A B)(hA:A<C)(hB:B<C)(k:y2g C C hp hp'):Wrs hp' A B:=⟨k.at (by omega) hA w.a,k.at (by omega) hB w.b⟩

def wrF(k:Int):Nat:=if k=1 then 298 else if k=2 then 299 else 300
def wrC(k:Int)(B:Nat):List D:=if k=1 then[] else if k=2 then[] else[.loc B 0]
def y8k(v:CV)(k:Int):Prop:=∀{C A B:Nat} {hp:List Obj} {sp:y13} (l:List UInt8),Wrs hp A B->A<C->B<C->l.length+(enc v).length<=800000000000->y8l C hp sp l.length 1->C<=hp.length ->
 ∃ d hp',y1o E (dL E) (wrF k) (.imm sp (l.map ya)::dV v::wrC k B) hp=some (d,hp')/\y7y C hp l (enc v) d hp'

theorem s300(vs:List CV)(ih:∀ k n s l,CV.mk k n s l ∈ vs->(k=1\/k=2\/k=3)/\y8k (.mk k n s l) k):y8k (.mk 3 0 [] vs) 3:=by
 intro C A B hp sp l W hA hB hl R hC
 have he:enc (.mk 3 0 [] vs)=([3]++num vs.length)++y3x vs:=by rw[enc,if_neg (by decide),if_neg (by decide)];rfl
 rw[he] at hl ⊢
 have hvl:vs.length<=800000000000:=by have:=ze9 vs;simp at hl;omega
 show ∃ d hp',y1o E (dL E) 300 [.imm sp (l.map ya),dV (.mk 3 0 [] vs),.loc B 0] hp=some (d,hp')/\y7y C hp l (([3]++num vs.length)++y3x vs) d hp'
 refine z30 c300 (args:=[.imm sp (l.map ya),dV (.mk 3 0 [] vs),.loc B 0]) (hp:=hp) (R:=y7y C hp l (([3]++num vs.length)++y3x vs)) (by simp) ?_
 conv in t300=>reduce;dsimp[ah]
 have hap:∀ x:D,y2y E 13 (l.map ya) [x]:=fun x=>zt (by simp at hl ⊢;omega)
 have hw:=z8y (n:=vs.length) (by omega)
 rw[z1n]
 obtain⟨h2,e1,k1,l1,R1⟩:=zy2 (l:=l) (m:=9) (k:=2) 3 (.int .u8 3) rfl (by omega) R hC (by simp at hl;omega)
 obtain⟨d,h3,e2,hm,w⟩:=yc6 (C:=C) (hp:=h2) vs.length (l++[3]) (by omega) (by simp at hl ⊢;omega) R1 (by omega)
 have w':=zbx (hp:=hp) k1 (by omega) w
 simp at e1 e2
 simp[t300,n300,z13,hw,y2v,e1,e2,hm]
 refine zr vs.length (fun i env h=>∃(x5 x6 x7 x11 x12 x13:D) (dd:D),env=[dd,.agg [dI 3,dI 0,.str [],.imm .none (vs.map dV)],.loc B 0,.iptr [dI 3,dI 0,.str [],.imm .none (vs.map dV)],.imm .exact [],x5,x6,x7,.imm .none (vs.map dV),dI vs.length,dI i,x11,x12,x13]/\y7y C hp l (([3]++num vs.length)++y3x (vs.take i)) dd h) 0 (by omega) ?_ ?_
 ·exact⟨_,_,_,_,_,_,d,rfl,by simpa[y3x] using w'⟩
 rintro i env h hi ⟨x5,x6,x7,x11,x12,x13,dd,rfl,wi⟩
 by_cases hlt:i<vs.length
 ·obtain⟨tk,rfl,w2,w3,w4,w5⟩:=wi
  obtain⟨k,n,s,l',hv⟩:∃ k n s l',vs[i]=CV.mk k n s l':=by
   cases h:vs[i] with
   |mk k n s l'=>exact⟨k,n,s,l',rfl⟩
  have WA:=W.keep hA hB w4
  obtain⟨hk,hwr⟩:=ih k n s l' (by rw[<- hv];exact aC hlt)
  have a1:=WA.a
  have b1:=WA.b
  have hsp:y3x (vs.take (i+1))=y3x (vs.take i)++enc (.mk k n s l'):=by
   rw[List.take_add_one,ae hlt,hv,z3v];simp[y3x]
  have htk:y3x vs=y3x (vs.take (i+1))++y3x (vs.drop (i+1)):=by rw[<- z3v,bp]
  have hL:(l++([3]++num vs.length++y3x (vs.take i))).length+(enc (.mk k n s l')).length<=800000000000:=by
   rw[htk,hsp] at hl
   simp only[ak] at hl ⊢
   omega
  obtain⟨d',h5,e,w⟩:=hwr (C:=C) (A:=A) (B:=B) (sp:=.tok tk) (hp:=h++[.cells [dI k,dI n,.str s,.imm .none (l'.map dV)],.dead,.dead,.dead,.dead,.dead,.dead,.dead,.dead,.dead,.dead,.dead]) (l++([3]++num vs.length++y3x (vs.take i))) (WA.keep hA hB y2g.app) hA hB hL (.inr ⟨tk,rfl,w2,by rw[dA];exact w3.app⟩) (by simp;omega)
  have hm':=w.imm
  have w':=zbx (hp:=hp) (l:=l) (a:=[3]++num vs.length++y3x (vs.take i)) (w4.trans y2g.app) (by simp;omega) w
  have hf:([3]++num vs.length++y3x (vs.take i))++enc (.mk k n s l')=3::(num vs.length++y3x (vs.take (i+1))):=by rw[hsp];simp
  rw[hf] at w'
  have hup:=zg hlt (by omega)
  rw[z1n] at e
  rcases hk with rfl | rfl | rfl
  ·simp[wrF,wrC] at e
   simp[hlt,hv,z1n,a1.appE,b1.appE,e,hm',hup]
   exact⟨_,_,_,_,_,_,_,⟨rfl,rfl,rfl,rfl,rfl,rfl,rfl⟩,w'⟩
  ·simp[wrF,wrC] at e
   simp[hlt,hv,z1n,a1.appE,b1.appE,e,hm',hup]
   exact⟨_,_,_,_,_,_,_,⟨rfl,rfl,rfl,rfl,rfl,rfl,rfl⟩,w'⟩
  ·simp[wrF,wrC] at e
   simp[hlt,hv,z1n,a1.appE,b1.appE,e,hm',hup]
   exact⟨_,_,_,_,_,_,_,⟨rfl,rfl,rfl,rfl,rfl,rfl,rfl⟩,w'⟩
 ·have:i=vs.length:=by omega
  subst this
  rw[aS] at wi
  simp
  simpa using wi

theorem zb5:∀{l:List CV},yap l->∀ v ∈ l,fmd v
 |[],_,v,h=>by simp at h
 |w::l,hf,v,h=>by
  rw[yap] at hf
  rcases az.1 h with rfl | h
  ·exact hf.1
  ·exact zb5 hf.2 v h
theorem zzr{k n:Int}{s:List UInt8}{l:List CV}(h:fmd (.mk k n s l)):k=1\/k=2\/k=3:=by
 rw[fmd] at h
 rcases h with⟨h,_⟩ | ⟨h,_⟩ | ⟨h,_⟩ <;> simp[h]

theorem yah:∀(m:Nat) (v:CV),sizeOf v<=m->fmd v->∀ k n s l,v=.mk k n s l->y8k v k:=by
 intro m
 induction m with
 |zero=>
  intro v hm
  cases v
  simp at hm
 |succ m ih=>
  intro v hm hf k n s l hv
  subst hv
  have hf':=hf
  rw[fmd] at hf'
  rcases hf' with⟨rfl,hn,rfl,rfl⟩ | ⟨rfl,rfl,rfl⟩ | ⟨rfl,rfl,rfl,hl⟩
  ·intro C A B hp sp l W hA hB hl R hC
   exact s298 l n hn (by omega) R hC
  ·intro C A B hp sp l' W hA hB hl R hC
   have he:enc (.mk 2 0 s [])=2::(num s.length++s):=by rw[enc,if_neg (by decide),if_pos rfl]
   rw[he] at hl
   exact s299 l' s (by simp at hl;omega) R hC
  ·have q:∀ k' n' s' l',CV.mk k' n' s' l' ∈ l->(k'=1\/k'=2\/k'=3)/\y8k (.mk k' n' s' l') k':=fun k' n' s' l' hmem=>⟨zzr (zb5 hl _ hmem),by
    have h1:=eI hmem
    have h2:sizeOf (CV.mk k' n' s' l')<=m:=by
     rw[CV.mk.sizeOf_spec] at hm
     omega
    intro C A B hp sp
    exact ih _ h2 (zb5 hl _ hmem) k' n' s' l' rfl⟩
   intro C A B hp sp
   exact s300 l q

theorem zi1:∀{l:List CV} {v:CV},v ∈ l->dep v<=y63 l
 |[],v,h=>by simp at h
 |w::l,v,h=>by
  rw[y63]
  rcases az.1 h with rfl | h
  ·exact Nat.le_max_left _ _
  ·exact aJ (zi1 h) (Nat.le_max_right _ _)
theorem zv4{hp:List Obj}:∀(m:Nat) (v:CV),fmd v->dep v<=m->∀ n,2*m+2<=n->frz hp n (dV v)=some (dV v):=by
 intro m
 induction m with
 |zero=>
  intro v hf hd n hn
  obtain⟨n,rfl⟩:∃ j,n=j+2:=⟨n - 2,by omega⟩
  obtain⟨k,x,s,l⟩:=v
  rw[fmd] at hf
  rw[dep] at hd
  rcases hf with⟨rfl,_,rfl,rfl⟩ | ⟨rfl,rfl,rfl⟩ | ⟨rfl,_⟩
  ·rw[z1n];rfl
  ·rw[z1n];rfl
  ·simp at hd
 |succ m ih=>
  intro v hf hd n hn
  obtain⟨n,rfl⟩:∃ j,n=j+3:=⟨n - 3,by omega⟩
  obtain⟨k,x,s,l⟩:=v
  rw[fmd] at hf
  rw[dep] at hd
  rcases hf with⟨rfl,_,rfl,rfl⟩ | ⟨rfl,rfl,rfl⟩ | ⟨rfl,rfl,rfl,hl⟩
  ·rw[z1n];rfl
  ·rw[z1n];rfl
  ·rw[if_pos rfl] at hd
   have e:y1p (frz hp (n+1)) (l.map dV)=some (l.map dV):=z1e fun v hv=>ih v (zb5 hl v hv) (by have:=zi1 hv;omega) (n+1) (by omega)
   rw[z1n]
   have hs:frz hp (n+2) (.str [])=some (.str []):=rfl
   simp only[zb2,z4z,z84,hs,z6p,e,aq,zf,z96]

theorem zg8{l:List CV}{i:Nat}(h:i<l.length):y63 (l.take (i+1))=Nat.max (y63 (l.take i)) (dep l[i]):=by
 induction l generalizing i with
 |nil=>simp at h
 |cons v l ih=>
  cases i with
  |zero=>simp[y63]
  |succ i=>
   simp only[aA] at h
   simp only[de,y63,List.getElem_cons_succ]
   rw[ih (by omega)]
   exact(Nat.max_assoc _ _ _).symm

theorem zjw:∀{l:List CV} {v:CV},v ∈ l->(enc v).length<=(y3x l).length
 |[],v,h=>by simp at h
 |w::l,v,h=>by
  rw[y3x,ak]
  rcases az.1 h with rfl | h
  ·omega
  ·have:=zjw h
   omega
structure y4r(v:CV):Prop where
 f:fmd v
 d:dep v<=4
 n:(enc v).length<=800000000000
theorem y4r.len{k n:Int}{s:List UInt8}{l:List CV}(h:y4r (.mk k n s l)):s.length<=800000000000/\l.length<=800000000000:=by
 have hf:=h.f
 have hn:=h.n
 rw[fmd] at hf
 rcases hf with⟨rfl,_,rfl,rfl⟩ | ⟨rfl,rfl,rfl⟩ | ⟨rfl,rfl,rfl,hl⟩
 ·simp
 ·rw[enc,if_neg (by decide),if_pos rfl] at hn
  simp at hn ⊢;omega
 ·rw[enc,if_neg (by decide),if_neg (by decide)] at hn
  have:=ze9 l
  simp at hn ⊢;omega
theorem y4r.sub{n:Int}{s:List UInt8}{l:List CV}(h:y4r (.mk 3 n s l)){v:CV}(hv:v ∈ l):y4r v:=by
 have hf:=h.f
 have hn:=h.n
 have hd:=h.d
 rw[fmd] at hf
 rw[dep,if_pos rfl] at hd
 rcases hf with⟨h3,_⟩ | ⟨h3,_⟩ | ⟨_,rfl,rfl,hl⟩
 ·omega
 ·omega
 ·rw[enc,if_neg (by decide),if_neg (by decide)] at hn
  have:=zjw hv
  have:=zi1 hv
  exact⟨zb5 hl v hv,by omega,by simp at hn;omega⟩
theorem z3u{hp:List Obj}{v:CV}(h:y4r v):frz hp 12 (dV v)=some (dV v):=zv4 4 v h.f h.d 12 (by decide)

theorem r297:∀(m:Nat) (v:CV),sizeOf v<=m->y4r v->yu E (dL E) 297 [dV v]=some (.tup [dI (dep v),.bool true]):=by
 intro m
 induction m with
 |zero=>intro v hm;cases v;simp at hm
 |succ m ih=>
  intro v hm hf
  obtain⟨k,n,s,l⟩:=v
  have hf':=hf.f
  have hz:=z3u (hp:=[]) hf
  refine ze c297 (by simp) ?_
  conv in t297=>reduce;dsimp[ah]
  rw[fmd] at hf'
  rw[z1n]
  rcases hf' with⟨rfl,hn,rfl,rfl⟩ | ⟨rfl,rfl,rfl⟩ | ⟨rfl,rfl,rfl,hl⟩
  ·by_cases h0:n=0 <;> simp[t297,n297,h0,dep]
  ·by_cases h0:s=[] <;> simp[t297,n297,h0,dep]
  ·have hd:y63 l<=3:=by have:=hf.d;rw[dep,if_pos rfl] at this;omega
   have hln:=hf.len.2
   have hdw:aw.wrap ((y63 l:Int)+1)=(y63 l:Int)+1:=z7 ⟨by omega,by omega⟩
   by_cases hb:((l.length:Int) == 0)=true
   all_goals
    simp[t297,n297,dep,hb]
    refine zr l.length (fun i env h=>∃(x0 x1 x3 x4 x5 x6 x7 x8 x9 x10 x14 x15 x16 x17:D) ,env=[x0,x1,dI (y63 (l.take i)),x3,x4,x5,x6,x7,x8,x9,x10,.imm .none (l.map dV),dI l.length,dI i,x14,x15,x16,x17]) 0 (by omega) ?_ ?_
    ·exact⟨_,_,_,_,_,_,_,_,_,_,_,_,_,_,rfl⟩
    rintro i env h hi ⟨x0,x1,x3,x4,x5,x6,x7,x8,x9,x10,x14,x15,x16,x17,rfl⟩
    by_cases hlt:i<l.length
    ·have hv:=hf.sub (aC hlt)
     have e:=ih l[i] (by have:=eI (aC hlt);rw[CV.mk.sizeOf_spec] at hm;omega) hv
     have hz':=z3u (hp:=[]) hv
     have hup:=zg hlt (by omega)
     obtain⟨k,n,s,l',hq⟩:∃ k n s l',l[i]=CV.mk k n s l':=by
      cases h:l[i] with
      |mk k n s l'=>exact⟨k,n,s,l',rfl⟩
     have hdt:=zg8 hlt
     rw[hq] at e hz' hdt
     rw[z1n] at e hz'
     simp[hlt,hq,z1n,e,hz',hup]
     rw[hdt]
     simp only[Nat.max_def]
     split <;> split <;> omega
    ·have:i=l.length:=by omega
     subst this
     simp[hdw]

theorem z4o{E:Env}{cP:Nat->List D->Option D}{cS cY:Nat->List D->List Obj->Option (D × List Obj)}{hp:List Obj}{id:Nat}{g:Opd->D}{f:Opd}:yd E cP cS cY id g hp (.call 4 f [])=(match g f with | .fn k caps=>ob (y1p (frz [] depth) caps) (fun vs=>y6h cS k vs hp) | _=>none):=by
 simp only[yd,DOp.fin,yl]
 cases g f <;> try rfl
 rename_i k caps
 simp only[]
 cases y1p (frz [] depth) caps <;> rfl

theorem s282(hp:List Obj):y1o E (dL E) 282 [] hp=some (.loc hp.length 0,hp++[.cells [.nilfn,.fn 298 [],.fn 299 [],.fn 300 [.loc (hp.length+1) 0]],.cells [.loc hp.length 0]]):=by
 have:∃ d hp',y1o E (dL E) 282 [] hp=some (d,hp')/\(d=.loc hp.length 0/\hp'=hp++[.cells [.nilfn,.fn 298 [],.fn 299 [],.fn 300 [.loc (hp.length+1) 0]],.cells [.loc hp.length 0]]):=by
  refine z30 c282 (args:=[]) (hp:=hp) (R:=fun d hp'=>d=.loc hp.length 0/\hp'=hp++[.cells [.nilfn,.fn 298 [],.fn 299 [],.fn 300 [.loc (hp.length+1) 0]],.cells [.loc hp.length 0]]) (by simp) ?_
  conv in t282=>reduce;dsimp[ah]
  simp[t282,n282]
 obtain⟨d,hp',e,rfl,rfl⟩:=this
 exact e
theorem r281{v:CV}(h:y4r v):yu E (dL E) 281 [dV v]=some (dI 0):=by
 have e:=r297 (sizeOf v) v (ai _) h
 have hz:=z3u (hp:=[]) h
 obtain⟨k,n,s,l⟩:=v
 refine ze c281 (by simp) ?_
 conv in t281=>reduce;dsimp[ah]
 have hd:=h.d
 rw[z1n] at e hz ⊢
 simp[t281,n281,e,hz]
 omega
theorem r264{v:CV}(h:y4r v):yu E (dL E) 264 [dV v]=some (.tup [dBy (enc v),dI 0]):=by
 have e:=r281 h
 have hz:=z3u (hp:=[]) h
 have e2:=s282 (af 11 .dead)
 have hf:=h.f
 have hn:=h.n
 obtain⟨k,n,s,l⟩:=v
 have hk:=zzr hf
 obtain⟨d,h5,e5,w⟩:=yah (sizeOf (CV.mk k n s l)) (.mk k n s l) (ai _) hf k n s l rfl (C:=13) (A:=11) (B:=12) (sp:=.exact) (hp:=af 11 .dead++[.cells [.nilfn,.fn 298 [],.fn 299 [],.fn 300 [.loc 12 0]],.cells [.loc 11 0]]) []
  ⟨by simp[At],by simp[At]⟩ (by omega) (by omega) (by simpa using hn) (.inl rfl) (by simp)
 have hm:=w.imm
 obtain⟨tk,rfl,w2,w3,w4,w5⟩:=w
 rw[bh] at w3 hm e5
 have hfz:∀ l:List UInt8,y1p (frz h5 10) (l.map ya)=some (l.map ya):=fun l=>z1e fun x _=>rfl
 refine ze c264 (by simp) ?_
 conv in t264=>reduce;dsimp[ah]
 rw[z1n] at e hz e5 ⊢
 simp at e2
 rcases hk with rfl | rfl | rfl
 ·simp[wrF,wrC] at e5
  simp[t264,n264,e,hz,z4o,y6h,e2,e5,hfz,y16]
 ·simp[wrF,wrC] at e5
  simp[t264,n264,e,hz,z4o,y6h,e2,e5,hfz,y16]
 ·simp[wrF,wrC] at e5
  simp[t264,n264,e,hz,z4o,y6h,e2,e5,hfz,y16]

end Dv

namespace Dv

structure Ent where
 kind:Int
 idx:Int
 amt:Int
deriving DecidableEq

structure Pst where
 no:Int
 minute:Int
 corrects:Int
 ents:List Ent
 prev:List UInt8
deriving DecidableEq


abbrev y11(e:Ent):D:=.agg [dI e.kind,dI e.idx,dI e.amt]
abbrev y3n(p:Pst):D:=.agg (dI p.no::dI p.minute::dI p.corrects :: .imm .none (p.ents.map y11)::p.prev.map ya)
abbrev yy(l:List Pst):D:=.imm .none (l.map y3n)
abbrev y4w(d:List UInt8):D:=.agg (d.map ya)

def ltA(a b:Ent):Prop:=a.kind<b.kind\/a.kind=b.kind/\a.idx<b.idx
instance(a b:Ent):Decidable (ltA a b):=inferInstanceAs (Decidable (_\/_))
def y51(x:Ent):Prop:=(1<=x.kind/\x.kind<=5)/\(-1<=x.idx/\x.idx<=4095)/\x.amt ≠ 0 /\ -1099511627776<=x.amt/\x.amt<=1099511627776
instance(x:Ent):Decidable (y51 x):=inferInstanceAs (Decidable (_/\_))
def yd5(l:List Ent):Prop:=∀ i,∀ h:i+1<l.length,ltA l[i] l[i+1]
def y4g:List Ent->Int
 |[]=>0
 |x::l=>x.amt+y4g l
theorem zgt(a b:List Ent):y4g (a++b)=y4g a+y4g b:=by
 induction a with
 |nil=>simp[y4g]
 |cons x a ih=>simp only[aO,y4g,ih];omega
structure fmE(l:List Ent):Prop where
 two:2<=l.length
 most:l.length<=4096
 ok:∀ x,x ∈ l->y51 x
 ord:yd5 l
structure fmP(p:Pst):Prop where
 no:0<=p.no/\p.no<65536
 minute:0<=p.minute/\p.minute<1440
 corrects : -1<=p.corrects/\p.corrects<p.no
 ents:fmE p.ents
open Classical in
noncomputable def y4a(p:Pst):Int:=if fmP p then(if y4g p.ents=0 then 0 else 411) else 410
structure gdP(p:Pst):Prop where
 fm:fmP p
 sum:y4g p.ents=0
theorem z1t{p:Pst}:y4a p=0 ↔ gdP p:=by
 unfold y4a
 constructor
 ·intro h
  split at h
  ·rename_i h1
   split at h
   ·rename_i h2;exact⟨h1,h2⟩
   ·simp at h
  ·simp at h
 ·rintro⟨h1,h2⟩
  rw[if_pos h1,if_pos h2]

def cI(n:Int):CV:=.mk 1 n [] []
def cL(l:List CV):CV:=.mk 3 0 [] l
def cT(s:List UInt8):CV:=.mk 2 0 s []
def y5b(x:Ent):CV:=cL [cI x.kind,cI x.idx,cI x.amt]
def y9b(p:Pst):CV:=cL [cI p.no,cI p.minute,cI p.corrects,cL (p.ents.map y5b),cT p.prev]
def y62(p:Pst):List UInt8:=enc (y9b p)

theorem z85{n:Int}(h:i64 n):fmd (cI n):=by unfold cI;rw[fmd];exact .inl ⟨rfl,h,rfl,rfl⟩
theorem ztb{s:List UInt8}:fmd (cT s):=by unfold cT;rw[fmd];exact .inr (.inl ⟨rfl,rfl,rfl⟩)
theorem ze4{l:List CV}(h:yap l):fmd (cL l):=by unfold cL;rw[fmd];exact .inr (.inr ⟨rfl,rfl,rfl,h⟩)
theorem z97:∀{l:List CV},(∀ v,v ∈ l->fmd v)->yap l
 |[],_=>by rw[yap];trivial
 |v::l,h=>by rw[yap];exact⟨h v (by simp),z97 fun w hw=>h w (by simp[hw])⟩
theorem zeb{n:Int}:dep (cI n)=0:=by unfold cI;rw[dep,if_neg (by decide)]
theorem ztp{s:List UInt8}:dep (cT s)=0:=by unfold cT;rw[dep,if_neg (by decide)]
theorem zea{l:List CV}:dep (cL l)=y63 l+1:=by unfold cL;rw[dep,if_pos rfl]
theorem zec{n:Nat}:∀{l:List CV},(∀ v,v ∈ l->dep v<=n)->y63 l<=n
 |[],_=>by rw[y63];omega
 |v::l,h=>by rw[y63];exact Nat.max_le.2 ⟨h v (by simp),zec fun w hw=>h w (by simp[hw])⟩

structure yd8(p:Pst):Prop where
 no:i64 p.no
 minute:i64 p.minute
 corrects:i64 p.corrects
 ents:∀ x,x ∈ p.ents->i64 x.kind/\i64 x.idx/\i64 x.amt

theorem ze0{p:Pst}(h:fmP p):yd8 p:=by
 obtain⟨h1,h2,h3,h4⟩:=h
 refine⟨⟨by omega,by omega⟩,⟨by omega,by omega⟩,⟨by omega,by omega⟩,fun x hx=>?_⟩
 obtain⟨a,b,c,d⟩:=h4.ok x hx
 exact⟨⟨by omega,by omega⟩,⟨by omega,by omega⟩,⟨by omega,by omega⟩⟩

theorem zpv{x:Ent}(h:i64 x.kind/\i64 x.idx/\i64 x.amt):fmd (y5b x):=by
 unfold y5b
 refine ze4 (z97 fun v hv=>?_)
 simp only[az,fg,or_false] at hv
 rcases hv with rfl | rfl | rfl
 ·exact z85 h.1
 ·exact z85 h.2.1
 ·exact z85 h.2.2
theorem zxf{p:Pst}(h:yd8 p):fmd (y9b p):=by
 unfold y9b
 refine ze4 (z97 fun v hv=>?_)
 simp only[az,fg,or_false] at hv
 rcases hv with rfl | rfl | rfl | rfl | rfl
 ·exact z85 h.no
 ·exact z85 h.minute
 ·exact z85 h.corrects
 ·refine ze4 (z97 fun v hv=>?_)
  obtain⟨x,hx,rfl⟩:=aT.1 hv
  exact zpv (h.ents x hx)
 ·exact ztb
theorem zqc{x:Ent}:dep (y5b x)=1:=by
 unfold y5b;rw[zea];simp[y63,zeb]
theorem zxl{p:Pst}:dep (y9b p)<=3:=by
 unfold y9b
 rw[zea]
 have:y63 [cI p.no,cI p.minute,cI p.corrects,cL (p.ents.map y5b),cT p.prev]<=2:=by
  refine zec fun v hv=>?_
  simp only[az,fg,or_false] at hv
  rcases hv with rfl | rfl | rfl | rfl | rfl
  ·rw[zeb];omega
  ·rw[zeb];omega
  ·rw[zeb];omega
  ·rw[zea]
   have:y63 (p.ents.map y5b)<=1:=zec fun v hv=>by
    obtain⟨x,_,rfl⟩:=aT.1 hv
    rw[zqc];omega
   omega
  ·rw[ztp];omega
 omega

theorem zaf{u:Nat}(h:u<18446744073709551616):(num u).length<=11:=by
 have key:∀(k u:Nat),u<2 ^ (7*k)->(num u).length<=k+1:=by
  intro k
  induction k with
  |zero=>intro u h;rw[zae (by omega)];simp
  |succ k ih=>
   intro u h
   by_cases h1:u<128
   ·rw[zae h1];simp
   ·rw[zfm h1]
    have:=ih (u / 128) (by
     rw[jC (by decide),show(128:Nat)=2 ^ 7 from rfl,<- nR]
     rwa [show 7*k+7=7*(k+1) from by omega])
    simp;omega
 have:(18446744073709551616:Nat)<=2 ^ (7*10):=by decide
 exact key 10 u (by omega)
theorem zxj{n:Int}:enc (cI n)=1::num (uns n):=by unfold cI;rw[enc,if_pos rfl]
theorem ztk{s:List UInt8}:enc (cT s)=2::(num s.length++s):=by unfold cT;rw[enc,if_neg (by decide),if_pos rfl]
theorem ze7{l:List CV}:enc (cL l)=3::(num l.length++y3x l):=by unfold cL;rw[enc,if_neg (by decide),if_neg (by decide)]
theorem z63{n:Int}(h:i64 n):(enc (cI n)).length<=12:=by
 rw[zxj]
 have:=zaf (zep h)
 simp;omega
theorem zq9{n:Nat}:∀{l:List CV},(∀ v,v ∈ l->(enc v).length<=n)->(y3x l).length<=l.length*n
 |[],_=>by simp[y3x]
 |v::l,h=>by
  have h1:=h v (by simp)
  have h2:=zq9 (l:=l) fun w hw=>h w (by simp[hw])
  simp only[y3x,ak,aA,bo];omega
theorem ztm{x:Ent}(h:i64 x.kind/\i64 x.idx/\i64 x.amt):(enc (y5b x)).length<=48:=by
 unfold y5b
 rw[ze7]
 have h1:=z63 h.1
 have h2:=z63 h.2.1
 have h3:=z63 h.2.2
 have h4:=zaf (u:=3) (by omega)
 simp[y3x] at h1 h2 h3 h4 ⊢
 omega
theorem ze8{p:Pst}(h:yd8 p)(hn:p.ents.length<=1000000)(hp:p.prev.length<=1000000):(y62 p).length<=48*p.ents.length+p.prev.length+100:=by
 unfold y62 y9b
 rw[ze7]
 have h1:=z63 h.no
 have h2:=z63 h.minute
 have h3:=z63 h.corrects
 have h4:=zaf (u:=5) (by omega)
 have h5:(enc (cL (p.ents.map y5b))).length<=48*p.ents.length+12:=by
  rw[ze7]
  have:=zaf (u:=(p.ents.map y5b).length) (by simp;omega)
  have h6:=zq9 (n:=48) (l:=p.ents.map y5b) fun v hv=>by
   obtain⟨x,hx,rfl⟩:=aT.1 hv
   exact ztm (h.ents x hx)
  simp at this h6 ⊢
  omega
 have h7:(enc (cT p.prev)).length<=p.prev.length+12:=by
  rw[ztk]
  have:=zaf (u:=p.prev.length) (by omega)
  simp;omega
 simp only[aA,ak,y3x,ba,Nat.reduceAdd] at h4 ⊢
 omega


abbrev Tag:=List UInt8->List UInt8->List UInt8
def y4f:List UInt8:=[112,111,115,116,105,110,103,115]
def y2a:List UInt8:=[112,111,115,116,105,110,103]
def yck:List UInt8:=[99,104,97,105,110]
def y3g(tg:Tag):List UInt8:=tg y4f []
def ycj(tg:Tag)(a b:List UInt8):List UInt8:=tg yck (a++b)
def y6z(tg:Tag)(d:List UInt8)(p:Pst):List UInt8:=ycj tg d (tg y2a (y62 p))
def y40(tg:Tag)(l:List Pst):List UInt8:=l.foldl (y6z tg) (y3g tg)
theorem zqb{tg:Tag}{l:List Pst}{p:Pst}:y40 tg (l++[p])=y6z tg (y40 tg l) p:=by simp[y40]
theorem zba{tg:Tag}{l:List Pst}{i:Nat}(h:i<l.length):y40 tg (l.take (i+1))=y6z tg (y40 tg (l.take i)) l[i]:=by
 rw[aH h,zqb]

structure atP(tg:Tag)(l:List Pst)(i:Nat)(p:Pst):Prop where
 no:p.no=i
 prev:p.prev=y40 tg (l.take i)
 minute:∀ j q,j+1=i->l[j]? = some q->q.minute<=p.minute
def vld(tg:Tag)(l:List Pst):Prop:=l.length<=65536/\(∀ p,p ∈ l->gdP p) /\ ∀ i p,l[i]? = some p->atP tg l i p

open Classical in
noncomputable def y2q:List Pst->Int
 |[]=>0
 |p::l=>if y4a p=0 then y2q l else y4a p
open Classical in
noncomputable def rdE(tg:Tag)(l:List Pst):Int:=if 65536<l.length then 2 else if y2q l ≠ 0 then y2q l else if vld tg l then 0 else 410

theorem z2p:∀{l:List Pst},y2q l=0 ↔ ∀ p,p ∈ l->gdP p
 |[]=>by simp[y2q]
 |p::l=>by
  simp only[y2q,az,forall_eq_or_imp]
  split
  ·rename_i h
   rw[z2p]
   exact⟨fun h2=>⟨z1t.1 h,h2⟩,fun h2=>h2.2⟩
  ·rename_i h
   exact⟨fun h2=>absurd h2 h,fun h2=>absurd (z1t.2 h2.1) h⟩
theorem z17{tg:Tag}{l:List Pst}:rdE tg l=0 ↔ vld tg l:=by
 unfold rdE
 constructor
 ·intro h
  split at h
  ·simp at h
  ·split at h
   ·rename_i h2;exact absurd h h2
   ·split at h
    ·assumption
    ·simp at h
 ·intro h
  rw[if_neg (by have:=h.1;omega),if_neg (by simp only[ne_eq,gy];exact z2p.2 h.2.1),if_pos h]

theorem z9o{tg:Tag}:vld tg []:=⟨by simp,by simp,by simp⟩
theorem zrn{tg:Tag}{l:List Pst}{p:Pst}(h:vld tg l)(hl:l.length<65536)(g:gdP p)(hno:p.no=l.length)(hprev:p.prev=y40 tg l)(hm:∀ q,l.getLast? = some q->q.minute<=p.minute):vld tg (l++[p]):=by
 refine⟨by simp;omega,fun q hq=>?_,fun i q hi=>?_⟩
 ·rcases aN.1 hq with hq | hq
  ·exact h.2.1 q hq
  ·simp at hq;subst hq;exact g
 ·rw[List.getElem?_append] at hi
  split at hi
  ·rename_i hlt
   obtain⟨a,b,c⟩:=h.2.2 i q hi
   refine⟨a,?_,fun j r hj hr=>c j r hj ?_⟩
   ·rw[bG (by omega)];exact b
   ·rw[aB (by omega)] at hr;exact hr
  ·rename_i hge
   have hi0:i=l.length:=by
    have:=(ac.1 hi).1
    simp at this;omega
   subst hi0
   simp at hi;subst hi
   refine⟨hno,?_,fun j r hj hr=>hm r ?_⟩
   ·rw[bG (ai _),aS];exact hprev
   ·rw[aB (by omega)] at hr
    rw[dO,<- hr]
    congr 1;omega

structure Stp where
 minute:Int
 corrects:Int
 ents:List Ent
def y72(tg:Tag)(l:List Pst)(s:Stp):Pst:=⟨l.length,s.minute,s.corrects,s.ents,y40 tg l⟩
open Classical in
noncomputable def y2z(tg:Tag)(l:List Pst)(s:Stp):Int:=
 if rdE tg l ≠ 0 then rdE tg l else if l.length=65536 then 2 else if ∃ q,l.getLast? = some q/\s.minute<q.minute then 410 else y4a (y72 tg l s)
theorem zs4{tg:Tag}{l:List Pst}{s:Stp}(h:y2z tg l s=0):vld tg l/\l.length<65536/\vld tg (l++[y72 tg l s])/\(∀ q,l.getLast? = some q->q.minute<=s.minute)/\gdP (y72 tg l s):=by
 unfold y2z at h
 split at h
 ·rename_i h1;exact absurd h h1
 ·rename_i h1
  have v:=z17.1 (gy.1 h1)
  split at h
  ·simp at h
  ·rename_i h2
   have hl:l.length<65536:=by have:=v.1;omega
   split at h
   ·simp at h
   ·rename_i h3
    have hm:∀ q,l.getLast? = some q->q.minute<=s.minute:=fun q hq=>by
     rcases Int.lt_or_le s.minute q.minute with h4 | h4
     ·exact absurd ⟨q,hq,h4⟩ h3
     ·exact h4
    have g:=z1t.1 h
    exact⟨v,hl,zrn v hl g rfl rfl hm,hm,g⟩
theorem zac{tg:Tag}{l:List Pst}{s:Stp}(v:vld tg l)(hl:l.length<65536)(hm:∀ q,l.getLast? = some q->q.minute<=s.minute):y2z tg l s=y4a (y72 tg l s):=by
 unfold y2z
 rw[if_neg (by simp[z17.2 v]),if_neg (by omega),if_neg]
 rintro⟨q,h1,h2⟩
 have:=hm q h1
 omega

def yr(k i:Int):List Ent->Int
 |[]=>0
 |x::l=>(if x.kind=k/\x.idx=i then x.amt else 0)+yr k i l
def y4t(k i m:Int):List Pst->Int
 |[]=>0
 |p::l=>(if p.minute<=m then yr k i p.ents else 0)+y4t k i m l
theorem z44{k i:Int}(a b:List Ent):yr k i (a++b)=yr k i a+yr k i b:=by
 induction a with
 |nil=>simp[yr]
 |cons x a ih=>simp only[aO,yr,ih];omega
end Dv

namespace Dv

theorem zda{A:Type}:∀(l:List A),(l.map fun _=>(0:Int)).sum=0
 |[]=>rfl
 |_::l=>by rw[av,eM,zda l];rfl
theorem ziq:∀(l:List Ent) (A:List (Int × Int)),A.Nodup->(∀ x,x ∈ l->(x.kind,x.idx) ∈ A)->(A.map fun a=>yr a.1 a.2 l).sum=y4g l
 |[],A,_,_=>by
  have:(A.map fun a=>yr a.1 a.2 [])=A.map fun _=>0:=rfl
  rw[this,zda]
  rfl
 |x::l,A,nd,h=>by
  have ih:=ziq l A nd fun y hy=>h y (by simp[hy])
  have key:∀(A:List (Int × Int)),A.Nodup->(A.map fun a=>yr a.1 a.2 (x::l)).sum=(if(x.kind,x.idx) ∈ A then x.amt else 0)+(A.map fun a=>yr a.1 a.2 l).sum:=by
   intro A
   induction A with
   |nil=>intro _;simp
   |cons a A iha=>
    intro nd
    obtain⟨n1,n2⟩:=dS.1 nd
    have i2:=iha n2
    have ha:yr a.1 a.2 (x::l)=(if x.kind=a.1/\x.idx=a.2 then x.amt else 0)+yr a.1 a.2 l:=rfl
    rw[av,eM,i2,av,eM,ha]
    simp only[az]
    by_cases e:x.kind=a.1/\x.idx=a.2
    ·have e2:(x.kind,x.idx)=a:=by rw[e.1,e.2]
     have e3 : ¬ (x.kind,x.idx) ∈ A:=by rw[e2];exact n1
     rw[if_pos e,if_neg e3,if_pos (.inl e2)];omega
    ·have e2 : ¬ (x.kind,x.idx)=a:=fun h=>e (by rw[<- h];exact⟨rfl,rfl⟩)
     rw[if_neg e]
     by_cases e3:(x.kind,x.idx) ∈ A
     ·rw[if_pos e3,if_pos (.inr e3)];omega
     ·rw[if_neg e3,if_neg (by rintro(h | h);exact e2 h;exact e3 h)];omega
  rw[key A nd,if_pos (h x (by simp)),ih]
  rfl

def y76(l:List Pst):List (Int × Int):=l.flatMap fun p=>p.ents.map fun x=>(x.kind,x.idx)

theorem zk2(m:Int):∀(l:List Pst) (A:List (Int × Int)),A.Nodup->(∀ a,a ∈ y76 l->a ∈ A)->(∀ p,p ∈ l->y4g p.ents=0)->(A.map fun a=>y4t a.1 a.2 m l).sum=0
 |[],A,_,_,_=>by
  have:(A.map fun a=>y4t a.1 a.2 m [])=A.map fun _=>0:=rfl
  rw[this,zda]
 |p::l,A,nd,h,hz=>by
  have ih:=zk2 m l A nd (fun a ha=>h a (by simp only[y76,bD,aN];exact .inr ha)) fun q hq=>hz q (by simp[hq])
  have h1:=ziq p.ents A nd fun x hx=>h _ (by simp only[y76,bD,aN];exact .inl (aT.2 ⟨x,hx,rfl⟩))
  rw[hz p (by simp)] at h1
  have h2:∀ A:List (Int × Int),(A.map fun a=>y4t a.1 a.2 m (p::l)).sum=(if p.minute<=m then(A.map fun a=>yr a.1 a.2 p.ents).sum else 0)+(A.map fun a=>y4t a.1 a.2 m l).sum:=by
   intro A
   induction A with
   |nil=>simp
   |cons a A iha=>
    have ha:y4t a.1 a.2 m (p::l)=(if p.minute<=m then yr a.1 a.2 p.ents else 0)+y4t a.1 a.2 m l:=rfl
    rw[av,eM,iha,av,eM,av,eM,ha]
    split <;> omega
  rw[h2,ih,h1]
  split <;> rfl

end Dv

namespace Dv
attribute [local simp] af depth y2x y6l y31 y2f y6k y3b y3p y1y Ret
attribute [local congr] z2r z2v z20 z1l z1d z24 z1c


abbrev xI(n:Int):D:=.agg [dI 1,dI n,.str [],.imm .exact []]
theorem zg9{n:Int}:dV (cI n)=.agg [dI 1,dI n,.str [],.imm .none []]:=by unfold cI;rw[z1n];rfl
theorem zzn{hp:List Obj}{k:Nat}{n:Int}:frz hp (k+2) (xI n)=some (dV (cI n)):=by rw[zg9];rfl
def is4(x:D):Prop:=x.storable=true/\x.cellsL.length=4
theorem zbo{l new:List D}(h:l.length+new.length<=1000000)(hl:∀ x,x ∈ l->is4 x):y2y E 55 l new:=by
 refine⟨?_,?_,?_,?_⟩
 all_goals simp[yg]
 ·omega
 ·unfold y2u
  rw[aD]
  intro x hx
  obtain⟨h1,h2⟩:=hl x hx
  simp[h1,h2]
def Lx(vs:List Int)(i:Nat):List D:=(vs.take i).map xI
theorem zy9{vs:List Int}:Lx vs 0=[]:=rfl
theorem ycu{vs:List Int}:Lx vs vs.length=vs.map xI:=by unfold Lx;rw[aS]
theorem yct{vs:List Int}{i:Nat}(h:i<=vs.length):(Lx vs i).length=i:=by unfold Lx;rw[ao,aI];omega
theorem Lx_s{vs:List Int}{i:Nat}(h:i<vs.length):Lx vs (i+1)=Lx vs i++[xI vs[i]]:=by unfold Lx;rw[aH h,bm];rfl
theorem zv2{l:List Int}:∀ x,x ∈ l.map xI->is4 x:=by
 intro x hx
 obtain⟨n,_,rfl⟩:=aT.1 hx
 exact⟨rfl,rfl⟩

def LstI(hp:List Obj)(vs:List Int)(d:D)(hp':List Obj):Prop:=
 ∃ sp,d=.agg [dI 3,dI 0,.str [],.imm sp (vs.map xI)]/\y8l hp.length hp' sp vs.length 4/\y2g hp.length hp.length hp hp'/\hp.length<=hp'.length

theorem s366(vs:List Int)(sp0:y13)(hp:List Obj)(hv:vs.length<=100000):∃ d hp',y1o E (dL E) 366 [.imm sp0 (vs.map dI)] hp=some (d,hp')/\LstI hp vs d hp':=by
 refine z30 c366 (args:=[.imm sp0 (vs.map dI)]) (hp:=hp) (R:=LstI hp vs) (by simp) ?_
 conv in t366=>reduce;dsimp[ah]
 simp[t366,n366]
 refine zr vs.length (fun i env h=>∃(x3 x7 x8:D) (sp:y13),env=[.imm sp0 (vs.map dI),.loc hp.length 0,.loc (hp.length+1) 0,x3,.imm sp0 (vs.map dI),dI vs.length,dI i,x7,x8] /\
  At h hp.length (.cells [dI 0,dI 0,.str [],.imm .exact []])/\At h (hp.length+1) (.cells [dI 3,dI 0,.str [],.imm sp (Lx vs i)])/\y8l (hp.length+2) h sp i 4/\y2g hp.length hp.length hp h/\hp.length+2<=h.length) 0 (by omega) ?_ ?_
 ·rw[zy9]
  exact⟨_,_,_,.exact,rfl,by simp[At],by simp[At],.inl rfl,y2g.app,by simp⟩
 rintro i env h hi ⟨x3,x7,x8,sp,rfl,a1,a2,R,k,hlen⟩
 have hL:(Lx vs i).length=i:=yct hi
 by_cases hlt:i<vs.length
 ·have hup:=zg hlt (by omega)
  have hap:∀ x:D,y2y E 55 (Lx vs i) [x]:=fun x=>zbo (by rw[hL];simp;omega) zv2
  have hsp:=Lx_s hlt
  have h1:hp.length+1<h.length:=by omega
  rcases R with rfl | ⟨q,rfl,hq,hq2⟩
  ·simp[hlt,hup,a2.eq,a2.appE,z13,zu,hap,hL]
   refine⟨a1.app.ne (by omega),.tok h.length,by rw[hsp];exact At.self (by simp;omega),.inr ⟨h.length,rfl,by omega,?_⟩,(k.trans y2g.app).trans (y2g.set (.inr (by omega))),by omega⟩
   exact At.ne (by simp[At]) (by omega)
  ·have hq3:=hq2.eq
   have a2':=a2.ne (j:=q) (x:=Obj.dead) (by omega)
   have a1':=a1.ne (j:=q) (x:=Obj.dead) (by omega)
   simp[hlt,hup,a2.eq,a2'.appE,z13,z14,hap,hL,hq3]
   refine⟨a1'.app.ne (by omega),.tok h.length,by rw[hsp];exact At.self (by simp;omega),.inr ⟨h.length,rfl,by omega,?_⟩,((k.trans (y2g.set (.inr (by omega)))).trans y2g.app).trans (y2g.set (.inr (by omega))),by omega⟩
   exact At.ne (by simp[At]) (by omega)
 ·have:i=vs.length:=by omega
  subst this
  rw[ycu] at a2
  have h0:hp.length<h.length:=by omega
  have a3:∀ o,(h.set hp.length o)[hp.length]? = some o:=fun o=>At.self h0
  simp[a1.eq,a2.eq,a3]
  refine⟨sp,rfl,?_,k.trans (y2g.set (.inr (by omega))),by simp;omega⟩
  rcases R with rfl | ⟨q,rfl,hq,hq2⟩
  ·exact .inl rfl
  ·exact .inr ⟨q,rfl,by omega,hq2.ne (by omega)⟩

theorem ze3{A:Type}{f:D->Option D}{g g':A->D}:∀{l:List A},(∀ x,x ∈ l->f (g x)=some (g' x))->y1p f (l.map g)=some (l.map g')
 |[],_=>rfl
 |x::l,h=>by
  rw[av,av,z4z,h x (by simp),ze3 fun y hy=>h y (by simp[hy])];rfl
theorem zxm{vs:List Int}:dV (cL (vs.map cI))=.agg [dI 3,dI 0,.str [],.imm .none (vs.map fun n=>dV (cI n))]:=by
 unfold cL;rw[z1n,iZ];rfl
theorem r366(vs:List Int)(hv:vs.length<=100000):yu E (dL E) 366 [.imm .none (vs.map dI)]=some (dV (cL (vs.map cI))):=by
 obtain⟨d,hp',e,sp,rfl,_⟩:=s366 vs .none [] hv
 unfold yu
 have hk:E.keep 366=false:=rfl
 have hz:frz hp' depth (.agg [dI 3,dI 0,.str [],.imm sp (vs.map xI)])=some (dV (cL (vs.map cI))):=by
  have:y1p (frz hp' 10) (vs.map xI)=some (vs.map fun n=>dV (cI n)):=ze3 fun n _=>zzn
  rw[zxm]
  show frz hp' 12 _=_
  have hs:frz hp' 11 (.str [])=some (.str []):=rfl
  simp[this,hs]
 simp[e,hk]
 exact hz

def ybs(a b:Ent):Int:=orI [y54 a.kind b.kind,y54 a.idx b.idx]
theorem r362(a b:Ent):yu E (dL E) 362 [y2j a.kind a.idx,y2j b.kind b.idx]=some (dI (ybs a b)):=by
 have h1:=r74 a.kind b.kind
 have h2:=r74 a.idx b.idx
 have h3:=yd4 [y54 a.kind b.kind,y54 a.idx b.idx] (by simp)
 simp only[y31,av,aQ] at h3
 refine ze c362 (by simp) ?_
 conv in t362=>reduce;dsimp[ah]
 simp[t362,n362,h1,h2,h3]
 try rfl
theorem zqh{a b:Ent}:ybs a b<0 ↔ ltA a b:=by
 unfold ybs ltA y54
 simp only[orI]
 repeat' split
 all_goals omega

theorem zzc{P:Prop}[Decidable P]{b:Bool}:(if P then some (D.bool true) else some (D.bool b))=some (D.bool (decide P || b)):=by
 by_cases h:P <;> simp[h]
theorem zp8{a b:Bool}:ycd (.bool a) (some (.bool true)) (some (.bool b))=some (.bool (a || b)):=by
 cases a <;> rfl

def ybq(l:List Ent)(i:Nat):Prop:=(∀ j,∀ h:j<l.length,j<i->y51 l[j]) /\ ∀ j,∀ h:j+1<l.length,j+1<i->ltA l[j] l[j+1]
theorem zom{l:List Ent}:ybq l 0:=⟨fun _ _ h=>absurd h (by omega),fun _ _ h=>absurd h (by omega)⟩
theorem zsc{l:List Ent}(h:ybq l l.length):(∀ x,x ∈ l->y51 x)/\yd5 l:=by
 refine⟨fun x hx=>?_,fun j hj=>h.2 j hj hj⟩
 obtain⟨j,hj,rfl⟩:=List.mem_iff_getElem.1 hx
 exact h.1 j hj hj
theorem zv1{l:List Ent}{i:Nat}(hi:i<l.length)(h:ybq l i)(hx:y51 l[i])(ho:∀ h:0<i,ltA (l[i - 1]'(by omega)) l[i]):ybq l (i+1):=by
 constructor
 ·intro j hj hji
  by_cases e:j=i
  ·subst e;exact hx
  ·exact h.1 j hj (by omega)
 ·intro j hj hji
  by_cases e:j+1=i
  ·subst e
   exact ho (by omega)
  ·exact h.2 j hj (by omega)
theorem zuu{l:List Ent}{i:Nat}(h:i<l.length):y4g (l.take (i+1))=y4g (l.take i)+l[i].amt:=by
 rw[aH h,zgt];simp[y4g]
theorem zwb{l:List Ent}{i:Nat}(h:ybq l i):i<=l.length -> -(i*1099511627776:Int)<=y4g (l.take i)/\y4g (l.take i)<=(i*1099511627776:Int):=by
 induction i with
 |zero=>intro _;simp[y4g]
 |succ i ih=>
  intro hi
  have h1:=ih ⟨fun j hj hji=>h.1 j hj (by omega),fun j hj hji=>h.2 j hj (by omega)⟩ (by omega)
  have h2:=h.1 i hi (by omega)
  rw[zuu hi]
  obtain⟨_,_,_,h3,h4⟩:=h2
  push_cast
  omega
theorem zdl{p:Pst}(h : ¬ fmP p):y4a p=410:=by unfold y4a;rw[if_neg h]

theorem yfc(p:Pst)(h32:p.prev.length=32)(hl:p.ents.length<=1000000):yu E (dL E) 355 [y3n p]=some (dI (y4a p)):=by
 refine ze c355 (by simp) ?_
 conv in t355=>reduce;dsimp[ah]
 obtain⟨no,minute,corrects,ents,prev⟩:=p
 simp only at h32 hl
 simp[t355,n355,h32,zzc,zp8]
 split
 ·rename_i hb
  rw[zdl]
  rintro⟨h1,h2,h3,⟨h4,h5,h6,h7⟩⟩
  simp only at h1 h2 h3 h4 h5
  omega
 rename_i hg
 refine zr ents.length (fun i env h=>∃(x0 x2 x4 x5 x6 x10 x11 x12 x13 x14:D) ,env=[x0,.iptr (dI no::dI minute::dI corrects :: .imm .none (ents.map y11)::prev.map ya),x2,dI (y4g (ents.take i)),x4,x5,x6,.imm .none (ents.map y11),dI ents.length,dI i,x10,x11,x12,x13,x14]/\ybq ents i) 0 (by omega) ?_ ?_
 ·exact⟨_,_,_,_,_,_,_,_,_,_,rfl,zom⟩
 rintro i env h hi ⟨x0,x2,x4,x5,x6,x10,x11,x12,x13,x14,rfl,ok⟩
 by_cases hlt:i<ents.length
 ·have hup:=zg hlt (by omega)
  have hbad : ¬ y51 ents[i]->y4a { no:=no,minute:=minute,corrects:=corrects,ents:=ents,prev:=prev }=410:=fun hx=>zdl fun f=>hx (f.ents.ok _ (aC hlt))
  have hs:=zuu hlt
  have hsb:=zwb ok hi
  simp[hlt,hup,zzc,zp8]
  split
  ·rename_i hb
   refine(hbad fun hx=>?_).symm
   obtain⟨h1,h2,h3,h4,h5⟩:=hx
   omega
  rename_i hb
  have hx:y51 ents[i]:=⟨by omega,by omega,by omega,by omega,by omega⟩
  have hsw:aw.wrap (y4g (ents.take i)+ents[i].amt)=y4g (ents.take (i+1)):=by
   rw[hs]
   refine z7 ⟨?_,?_⟩ <;> omega
  by_cases h0:i=0
  ·have ok':=zv1 hlt ok hx (fun h=>absurd h (by omega))
   subst h0
   simp at hsw
   have h1:aw.wrap 1=1:=by decide
   simp[hsw,h1,hlt]
   exact ok'
  ·have hw:aw.wrap ((i:Int) - 1)=((i - 1:Nat):Int):=by rw[z7 ⟨by omega,by omega⟩];omega
   have hlt':i - 1<ents.length:=by omega
   have h0':0<i:=by omega
   have hc:=r362 ents[i - 1] ents[i]
   by_cases hq:ltA ents[i - 1] ents[i]
   ·have ok':=zv1 hlt ok hx (fun _=>hq)
    have hn : ¬ 0<=ybs ents[i - 1] ents[i]:=by have:=zqh.2 hq;omega
    simp[h0',hw,hlt',hc,hn,hsw,hup]
    exact ok'
   ·have hn:0<=ybs ents[i - 1] ents[i]:=by
     by_cases h:ybs ents[i - 1] ents[i]<0
     ·exact absurd (zqh.1 h) hq
     ·omega
    simp[h0',hw,hlt',hc,hn]
    refine(zdl fun f=>hq ?_).symm
    have:=f.ents.ord (i - 1) (by simp only;omega)
    simp only[show i - 1+1=i from by omega] at this
    exact this
 ·have:i=ents.length:=by omega
  subst this
  rw[aS]
  obtain⟨o1,o2⟩:=zsc ok
  have hf:fmP { no:=no,minute:=minute,corrects:=corrects,ents:=ents,prev:=prev }:=⟨by simp only;omega,by simp only;omega,by simp only;omega,by simp only;omega,by simp only;omega,o1,o2⟩
  unfold y4a
  rw[if_pos hf]
  by_cases h0:y4g ents=0 <;> simp[h0]

def Le(l:List Ent)(i:Nat):List D:=(l.take i).map fun x=>dV (y5b x)
theorem zya{l:List Ent}:Le l 0=[]:=rfl
theorem ycw{l:List Ent}:Le l l.length=l.map fun x=>dV (y5b x):=by unfold Le;rw[aS]
theorem ycv{l:List Ent}{i:Nat}(h:i<=l.length):(Le l i).length=i:=by unfold Le;rw[ao,aI];omega
theorem Le_s{l:List Ent}{i:Nat}(h:i<l.length):Le l (i+1)=Le l i++[dV (y5b l[i])]:=by unfold Le;rw[aH h,bm];rfl
theorem Le_4{l:List Ent}{i:Nat}:∀ x,x ∈ Le l i->is4 x:=by
 intro x hx
 obtain⟨e,_,rfl⟩:=aT.1 hx
 constructor
 ·rw[y5b,cL,z1n];rfl
 ·rw[y5b,cL,z1n];rfl

theorem At.dif{hp:List Obj}{i j:Nat}{a b:Obj}(h:At hp i a)(h':At hp j b)(hn:a ≠ b):i ≠ j:=by
 rintro rfl
 unfold At at h h'
 rw[h] at h'
 exact hn (co h')
theorem zzp{hp:List Obj}{n:Nat}{l:List Ent}(h:∀ x,x ∈ l->i64 x.kind/\i64 x.idx/\i64 x.amt):y1p (frz hp (n+4)) (Le l l.length)=some (l.map fun x=>dV (y5b x)):=by
 rw[ycw]
 exact z1e fun x hx=>zv4 1 (y5b x) (zpv (h x hx)) (by rw[zqc];omega) (n+4) (by omega)
theorem zva{p:Pst}:dV (y9b p)=.agg [dI 3,dI 0,.str [],.imm .none [dV (cI p.no),dV (cI p.minute),dV (cI p.corrects),.agg [dI 3,dI 0,.str [],.imm .none (p.ents.map fun x=>dV (y5b x))],.agg [dI 2,dI 0,.str p.prev,.imm .none []]]]:=by
 unfold y9b cL cT
 rw[z1n]
 simp only[av,aQ,z1n,iZ]
 rfl
theorem zfz{p:Pst}(h:yd8 p)(hl:p.ents.length<=1000000)(h32:p.prev.length=32):y4r (y9b p):=by
 have:=ze8 h hl (by omega)
 unfold y62 at this
 exact⟨zxf h,by have:=zxl (p:=p);omega,by omega⟩
theorem z4a{l:List UInt8}(h:l.length=32):y15 E 73 (.iptr (l.map ya)) none none none=some (.imm .none (l.map ya)):=by
 unfold y15
 simp[h,bnd]
 rw[bg (by simp[h])]

noncomputable def ybr(p:Pst):D:=if y4a p=0 then .tup [dBy (y62 p),dI 0] else .tup [.imm .none [],dI (y4a p)]

theorem z1x:∀(n k:Nat) (cs:List D),cs.length=k+n->y1x cs k n=some (cs.drop k)
 | 0,k,cs,h=>by rw[y1x,gE (by omega)]
 |n+1,k,cs,h=>by
  have hk:k<cs.length:=by omega
  rw[y1x,z1x n (k+1) cs (by omega),ae hk,bC hk]
theorem zdz{p:Pst}(h32:p.prev.length=32):y5j E 71 (.iptr (dI p.no::dI p.minute::dI p.corrects :: .imm .none (p.ents.map y11)::p.prev.map ya))=some (y3n p):=by
 rw[z6o]
 have e:=z1x 36 0 (dI p.no::dI p.minute::dI p.corrects :: .imm .none (p.ents.map y11)::p.prev.map ya) (by simp[h32])
 rw[show(E.ty 71).size=36 from rfl,e]
 rfl
theorem z8{hp:List Obj}{n:Nat}{l:List UInt8}:y1p (frz hp (n+1)) (l.map ya)=some (l.map ya):=z1e fun x _=>rfl
theorem zq{hp:List Obj}{n:Nat}{l:List Ent}:y1p (frz hp (n+2)) (l.map y11)=some (l.map y11):=z1e fun x _=>rfl
theorem zxd{hp:List Obj}{n:Nat}{p:Pst}:frz hp (n+5) (y3n p)=some (y3n p):=by
 show frz hp (n+5) (.agg _)=_
 rw[zb2]
 simp only[z4z,z84,z6p,zq,aq,zf,z8]

theorem zxk{hp r:List Obj}{k:Nat}{o:Obj}(h:At r k o)(hk:hp.length<=k):At (hp++r.drop hp.length) k o:=by
 unfold At at h ⊢
 rw[aF hk,bX]
 rw[show hp.length+(k - hp.length)=k from by omega]
 exact h
theorem yc8(vs:List Int)(sp0:y13)(hp:List Obj)(hv:vs.length<=100000):∃ d sp r,y6h (y1o E (dL E)) 366 [.imm sp0 (vs.map dI)] hp=some (d,hp++r)/\d=.agg [dI 3,dI 0,.str [],.imm sp (vs.map xI)]/\y8l hp.length (hp++r) sp vs.length 4:=by
 obtain⟨d,h',e,sp,rfl,R,k,hl⟩:=s366 vs sp0 (af hp.length .dead) hv
 rw[df] at R k hl
 refine⟨_,sp,h'.drop hp.length,?_,rfl,?_⟩
 ·unfold y6h
  rw[e]
  rfl
 ·rcases R with rfl | ⟨q,rfl,hq,hq2⟩
  ·exact .inl rfl
  ·exact .inr ⟨q,rfl,hq,zxk hq2 hq⟩

theorem r334(p:Pst)(h32:p.prev.length=32)(hl:p.ents.length<=1000000):yu E (dL E) 334 [y3n p]=some (ybr p):=by
 refine ze c334 (by simp) ?_
 conv in t334=>reduce;dsimp[ah]
 have h355:=yfc p h32 hl
 unfold ybr
 obtain⟨no,minute,corrects,ents,prev⟩:=p
 simp only at h32 hl
 have hil:=zdz (p:={ no:=no,minute:=minute,corrects:=corrects,ents:=ents,prev:=prev }) h32
 simp only at hil
 by_cases hg:y4a { no:=no,minute:=minute,corrects:=corrects,ents:=ents,prev:=prev }=0
 ·rw[if_pos hg]
  rw[hg] at h355
  obtain⟨d1,sp1,r1,e1,rfl,R1⟩:=yc8 [no,minute,corrects] .none [] (by simp)
  obtain⟨d2,sp2,r2,e2,rfl,R2⟩:=yc8 [] .none r1 (by simp)
  have g1:=(z1t.1 hg).fm
  have hln:ents.length<=4096:=g1.ents.most
  rw[bh] at e1 R1
  have S1:∃ G:List Obj,G=r1++r2 /\ ∀ k,sp1=.tok k->At G k (.tok 12 4)/\k<r1.length:=⟨_,rfl,fun k hk=>by
   rcases R1 with rfl | ⟨q,rfl,_,hq⟩
   ·cases hk
   ·cases hk
    exact⟨At.app hq,At.lt hq⟩⟩
  have R1':sp1=.exact \/ ∃ k,sp1=.tok k:=by
   rcases R1 with h | ⟨q,h,_⟩
   ·exact .inl h
   ·exact .inr ⟨q,h⟩
  obtain⟨G,hG,T⟩:=S1
  rw[<- hG] at e2 R2
  have hG1:r1.length<=G.length:=by rw[hG];simp
  clear hG R1
  simp at e1 e2 R2
  have w1:∀ x y:Obj,(G++[x,y])[G.length+1]? = some y:=fun x y=>by simp
  have w2:∀ x y z:Obj,(G++[x,y]).set (G.length+1) z=G++[x,z]:=fun x y z=>by simp
  simp[t334,n334,h32,h355,z6z,↓hil,zq,z8,e1,e2,↓w1,↓w2]
  refine zr ents.length (fun i env h=>∃(x0 x2 x3 x4 x7 x8 x9 x10 x14 x15 x16 x17 x18:D) (sp:y13),env=[x0,.iptr (dI no::dI minute::dI corrects :: .imm .none (ents.map y11)::prev.map ya),x2,x3,x4,.loc G.length 0,.loc (G.length+1) 0,x7,x8,x9,x10,.imm .none (ents.map y11),dI ents.length,dI i,x14,x15,x16,x17,x18] /\
   At h G.length (.cells [dI 3,dI 0,.str [],.imm sp1 [xI no,xI minute,xI corrects]])/\At h (G.length+1) (.cells [dI 3,dI 0,.str [],.imm sp (Le ents i)])/\(∀ k,sp1=.tok k->At h k (.tok 12 4))/\y8l r1.length h sp i 4/\G.length+2<=h.length) 0 (by omega) ?_ ?_
  ·refine⟨_,_,_,_,_,_,_,_,_,_,_,_,_,sp2,rfl,by simp[At],by simp[At,zya],fun k hk=>(T k hk).1.app,?_,by simp⟩
   rcases R2 with h | ⟨q,h,hq,hq2⟩
   ·exact .inl h
   ·exact .inr ⟨q,h,hq,hq2.app⟩
  rintro i env h hi ⟨x0,x2,x3,x4,x7,x8,x9,x10,x14,x15,x16,x17,x18,sp,rfl,a1,a2,T1,T3,hlen⟩
  have hL:(Le ents i).length=i:=ycv hi
  by_cases hlt:i<ents.length
  ·have hup:=zg hlt (by omega)
   have e4:=r366 [ents[i].kind,ents[i].idx,ents[i].amt] (by simp)
   simp only[av,aQ] at e4
   have hap:∀ x:D,y2y E 55 (Le ents i) [x]:=fun x=>zbo (by rw[hL];simp;omega) Le_4
   have hv:dV (cL [cI ents[i].kind,cI ents[i].idx,cI ents[i].amt])=dV (y5b ents[i]):=rfl
   have h4:is4 (dV (y5b ents[i])):=Le_4 (l:=ents) (i:=i+1) _ (by rw[Le_s hlt];simp)
   have hsp:=Le_s hlt
   have nt:∀(i:Nat) (l:List D) (a b:Nat),Obj.tok a b ≠ .cells l:=fun _ _ _ _ e=>by cases e
   have T2:∀ k,sp1=.tok k->k<r1.length:=fun k hk=>(T k hk).2
   have T4:∀ k,sp1=.tok k->k<h.length/\k ≠ G.length/\k ≠ G.length+1:=fun k hk=>⟨(T1 k hk).lt,(T1 k hk).dif a1 (nt 0 _ _ _),(T1 k hk).dif a2 (nt 0 _ _ _)⟩
   rcases T3 with rfl | ⟨q,rfl,hq,hq2⟩
   ·have a3:∀ X o,((h++X).set (h.length+1+13) o)[G.length+1]? = some (.cells [dI 3,dI 0,.str [],.imm .exact (Le ents i)]):=fun X o=>(a2.app (r:=X)).ne (by omega)
    simp[hlt,hup,a2.appE,z13,zu,hap,hL,e4,hv,h4.1,h4.2,↓a3]
    refine⟨((a1.app).ne (by omega)).ne (by omega),.tok (h.length+1+13),by rw[hsp];exact At.self (by simp;omega),fun k hk=>?_,.inr ⟨_,rfl,by omega,?_⟩,by omega⟩
    ·obtain⟨k1,k2,k3⟩:=T4 k hk
     exact(((T1 k hk).app).ne (by omega)).ne (by omega)
    ·exact(At.self (by simp)).ne (by omega)
   ·have q1:q ≠ G.length:=hq2.dif a1 (nt 0 _ _ _)
    have q2:q ≠ G.length+1:=hq2.dif a2 (nt 0 _ _ _)
    have hq3:∀ X,(h++X)[q]? = some (.tok (i*4) 4):=fun X=>hq2.app (r:=X)
    have hql:=hq2.lt
    have a2':At (h.set q .dead) (G.length+1) (.cells [dI 3,dI 0,.str [],.imm (.tok q) (Le ents i)]):=a2.ne (by omega)
    have a1':=a1.ne (j:=q) (x:=.dead) (by omega)
    have a3:∀ X o,((h.set q .dead++X).set (h.length+1+13) o)[G.length+1]? = some (.cells [dI 3,dI 0,.str [],.imm (.tok q) (Le ents i)]):=fun X o=>(a2'.app (r:=X)).ne (by omega)
    have hs:∀ X o,(h++X).set q o=h.set q o++X:=fun X o=>z1p hql
    simp[hlt,hup,a2.appE,z13,z14,hap,hL,e4,hv,h4.1,h4.2,↓a3,hq3,↓hs]
    refine⟨((a1'.app).ne (by omega)).ne (by omega),.tok (h.length+1+13),by rw[hsp];exact At.self (by simp;omega),fun k hk=>?_,.inr ⟨_,rfl,by omega,?_⟩,by omega⟩
    ·obtain⟨k1,k2,k3⟩:=T4 k hk
     have:=T2 k hk
     exact((((T1 k hk).ne (by omega)).app).ne (by omega)).ne (by omega)
    ·exact(At.self (by simp)).ne (by omega)
  ·have:i=ents.length:=by omega
   subst this
   have hap:∀ x y:D,y2y E 55 [xI no,xI minute,xI corrects] [x,y]:=fun x y=>zbo (by simp) fun z hz=>zv2 (l:=[no,minute,corrects]) z hz
   have hsl:=z4a h32
   have hi64:=ze0 g1
   have hz:=zzp (hp:=[]) (n:=4) hi64.ents
   have hst:∀ n s,frz [] (n+1) (.str s)=some (.str s):=fun _ _=>rfl
   have e64:=r264 (zfz hi64 hl h32)
   rw[zva,zg9,zg9,zg9] at e64
   simp only at hz e64
   have hGl:G.length<h.length:=by omega
   have hr:∀(X:List Obj) (o:Obj),((h++X).set G.length o)[G.length]? = some o:=fun X o=>At.self (by simp;omega)
   rcases R1' with rfl | ⟨k1,rfl⟩
   ·simp[a1.appE,a2.appE,hsl,z9d,z13,zu,hap,↓hr,hz,hst,e64,z8]
    rfl
   ·have hk:=(T1 k1 rfl)
    have hk1:k1 ≠ G.length:=hk.dif a1 (fun e=>by cases e)
    have hkl:=hk.lt
    have hk2:∀ X:List Obj,(h++X)[k1]? = some (.tok 12 4):=fun X=>hk.app (r:=X)
    have hs:∀(X:List Obj) (o:Obj),(h++X).set k1 o=h.set k1 o++X:=fun X o=>z1p hkl
    have a1':=a1.ne (j:=k1) (x:=.dead) (by omega)
    have hw:∀ X:List Obj,(h.set k1 .dead++X)[G.length]? = some (.cells [dI 3,dI 0,.str [],.imm (.tok k1) [xI no,xI minute,xI corrects]]):=fun X=>a1'.app (r:=X)
    have hr':∀(X:List Obj) (o:Obj),((h.set k1 .dead++X).set G.length o)[G.length]? = some o:=fun X o=>At.self (by simp;omega)
    simp[a1.appE,a2.appE,hsl,z9d,z13,z14,hap,↓hk2,↓hs,hw,↓hr',hz,hst,e64,z8]
    rfl
 ·rw[if_neg hg]
  simp[t334,n334,h32,h355,hg,↓hil,zq,z8]

abbrev Wd:=BitVec 32
abbrev dW(w:Wd):D:=.int .u32 (w.toNat:Int)
theorem z4l(m:Int):cg.wrap m=m % 4294967296:=by simp[fX,fY,fA]
theorem z56:cg.bits=32:=rfl
theorem zla{w:Wd}:cp 32 (w.toNat:Int)=w:=by simp
theorem zki{a b:Wd}:cg.wrap ((a.toNat:Int)+b.toNat)=((a+b).toNat:Nat):=by
 rw[z4l,ek];omega
theorem yby{w:Wd}:w.toNat<4294967296:=w.isLt
theorem zvt{w:Wd}:((w.toNat:Nat):Int) % 4294967296=w.toNat:=by have:=yby (w:=w);omega
theorem zkf{a b:Wd}:y8c .u32 (a.toNat:Int) b.toNat=((a ^^^ b).toNat:Nat):=by
 unfold y8c
 rw[z4l,show cg.bits=32 from rfl,zla,zla,zvt]
theorem zyk{a b:Wd}:ybe .u32 (a.toNat:Int) b.toNat=((a &&& b).toNat:Nat):=by
 unfold ybe
 rw[z4l,show cg.bits=32 from rfl,zla,zla,zvt]
theorem yai{a b:Wd}:yam .u32 (a.toNat:Int) b.toNat=((a ||| b).toNat:Nat):=by
 unfold yam
 rw[z4l,show cg.bits=32 from rfl,zla,zla,zvt]
theorem zkh{a:Wd}{n:Nat}(h:n<=32):cg.wrap ((a.toNat:Int)*2 ^ (min n 32))=((a <<< n).toNat:Nat):=by
 rw[z4l,ev,Nat.shiftLeft_eq,bq h]
 have e:(a.toNat:Int)*2 ^ n=((a.toNat*2 ^ n:Nat):Int):=by rw[Int.natCast_mul,ic];rfl
 rw[e,show(2:Nat) ^ 32=4294967296 from rfl]
 omega
theorem zkg{a:Wd}{n:Nat}(h:n<=32):(a.toNat:Int).fdiv (2 ^ (min n 32))=((a >>> n).toNat:Nat):=by
 rw[dY,Nat.shiftRight_eq_div_pow,bq h,cX _ (iq (by decide)),i6,ic]
 rfl

def y59(x:Wd)(s:Nat):Wd:=(x <<< s) ||| (x >>> (32 - s))
theorem zyr(k:Int):ybe .u64 (bd.wrap k) 31=k % 32:=by
 unfold ybe
 rw[z1a,z1a,show bd.bits=64 from rfl]
 have:(cp 64 (k % 18446744073709551616) &&& cp 64 31).toNat=(k % 18446744073709551616).toNat % 32:=by
  rw[i8]
  have h1:(cp 64 31).toNat=31:=by decide
  rw[h1]
  have h2:(cp 64 (k % 18446744073709551616)).toNat=(k % 18446744073709551616).toNat:=by
   rw[BitVec.toNat_ofInt]
   show((k % 18446744073709551616) % 18446744073709551616).toNat=_
   omega
  rw[h2]
  exact Nat.and_two_pow_sub_one_eq_mod _ 5
 rw[this]
 omega

theorem yb0(x:Wd)(k:Int)(h:i64 k):yu E (dL E) 406 [dW x,dI k]=some (dW (y59 x (k % 32).toNat)):=by
 refine ze c406 (by simp) ?_
 conv in t406=>reduce;dsimp[ah]
 have e:=zyr k
 obtain⟨s,hs⟩:∃ s:Nat,k % 32=s:=⟨(k % 32).toNat,by omega⟩
 have hs32:s<32:=by omega
 rw[hs] at e ⊢
 have hw:bd.wrap (32 - (s:Int))=((32 - s:Nat):Int):=by rw[z1a];omega
 have e1:=zkh (a:=x) (n:=s) (by omega)
 have e2:=zkg (a:=x) (n:=32 - s) (by omega)
 have e3:=yai (a:=x <<< s) (b:=x >>> (32 - s))
 rw[bq (by omega)] at e1 e2
 have m1:min s 32=s:=bq (by omega)
 have m2:min (32 - s) 32=32 - s:=bq (by omega)
 simp[t406,n406,y2v,z56,e,hw,m1,m2,e1,e2,e3,-ev,-dY,-fu]
 rfl

theorem r407(x:Wd)(a b c:Int)(ha:0<=a/\a<=100)(hb:0<=b/\b<=100)(hc:0<=c/\c<=100) :
  yu E (dL E) 407 [dW x,dI a,dI b,dI c]=some (dW (y59 x (-a % 32).toNat ^^^ y59 x (-b % 32).toNat ^^^ y59 x (-c % 32).toNat)):=by
 refine ze c407 (by simp) ?_
 conv in t407=>reduce;dsimp[ah]
 have e1:=yb0 x (-a) ⟨by omega,by omega⟩
 have e2:=yb0 x (-b) ⟨by omega,by omega⟩
 have e3:=yb0 x (-c) ⟨by omega,by omega⟩
 have h1:aw.wrap (-a) = -a:=z7 ⟨by omega,by omega⟩
 have h2:aw.wrap (-b) = -b:=z7 ⟨by omega,by omega⟩
 have h3:aw.wrap (-c) = -c:=z7 ⟨by omega,by omega⟩
 simp[t407,n407,e1,e2,e3,h1,h2,h3,zkf,-fK]

def y6y(b:List UInt8)(n:Nat):Wd:=(b.take n).foldl (fun w c=>(w <<< 8) ||| cj 32 c.toNat) 0
theorem zyg{b:List UInt8}{n:Nat}(h:n<b.length):y6y b (n+1)=(y6y b n <<< 8) ||| cj 32 b[n].toNat:=by
 unfold y6y
 rw[aH h,gz];rfl

theorem ze1{l:List UInt8}:y53 1 (l.map ya)=true:=by cases l <;> rfl
theorem zis{b:List UInt8}{i:Nat}(h:i<=b.length):y15 E 30 (.imm .none (b.map ya)) none (some (dI i)) none=some (.imm .none ((b.take i).map ya)):=by
 unfold y15
 simp[bnd]
 exact⟨⟨h,ze1⟩,by unfold y1c;simp⟩
theorem z2d{E:Env}{cP:Nat->List D->Option D}{env:List D}{hp:List Obj}{a t:Nat}{d:D}{x:Xp}:xv E cP env hp (.n (.slice t (.t a) none (some (.c d)) none) (.cons a x .nil))=ob (xv E cP env hp x) fun u=>y15 E t u none (some d) none:=by
 simp only[xv,xvs]
 cases xv E cP env hp x <;> try rfl
 simp only[yb,gOf,kv,if_true,zf]
 exact z16

theorem r405(b:List UInt8)(h:4<=b.length):yu E (dL E) 405 [.imm .none (b.map ya)]=some (dW (y6y b 4)):=by
 refine ze c405 (by simp) ?_
 conv in t405=>reduce;dsimp[ah]
 have e:=zis h
 have hl:((b.take 4).map ya).length=4:=by simp;omega
 have e:y15 E 30 (.imm .none (b.map ya)) none (some (.int .i64 4)) none=some (.imm .none ((b.take 4).map ya)):=e
 simp[t405,n405,e,z2d]
 rw[bq h]
 refine zr 4 (fun i env h=>∃(x0 x2 x6:D) ,env=[x0,dW (y6y b i),x2,.imm .none ((b.map ya).take 4),dI 4,dI i,x6]) 0 (by omega) ?_ ?_
 ·exact⟨_,_,_,rfl⟩
 rintro i env hp hi ⟨x0,x2,x6,rfl⟩
 by_cases hlt:i<4
 ·have hup:=zg hlt (by omega)
  have hib:i<b.length:=by omega
  have hs:=zyg hib
  have e1:=zkh (a:=y6y b i) (n:=8) (by omega)
  have hc:b[i].toNat<256:=b[i].toNat_lt
  have e2:cg.wrap (b[i].toNat:Int)=((cj 32 b[i].toNat).toNat:Nat):=by
   rw[z4l,iF];omega
  have e3:=yai (a:=y6y b i <<< 8) (b:=cj 32 b[i].toNat)
  have hi4:(i:Int)<4:=by omega
  rw[bq (by omega)] at e1
  have e1:cg.wrap (((y6y b i).toNat:Int)*256)=((y6y b i <<< 8).toNat:Nat):=e1
  simp[hi4,hlt,hup,y2v,z56,e1,e2,e3,hs,hib,-ev,-fu,-iF]
 ·have:i=4:=by omega
  subst this
  simp

def y5q(m:List UInt8)(off n v:Nat):Nat->List UInt8
 | 0=>m
 |i+1=>(y5q m off n v i).set (off+(n - 1 - i)) (bi (v / 2 ^ (8*i)))
theorem z40{m:List UInt8}{off n v:Nat}:∀{i:Nat},(y5q m off n v i).length=m.length
 | 0=>rfl
 |i+1=>by rw[y5q,bu,z40]
theorem zgs(m:Int):fo.wrap m=m % 256:=by simp[fX,fY,fA]
theorem ziv{v i:Nat}(h:i<8):fo.wrap ((v:Int).fdiv (2 ^ (min (8*i) 64)))=((bi (v / 2 ^ (8*i))).toNat:Nat):=by
 rw[zgs,bq (by omega),cX _ (iq (by decide)),iE]
 have e:(v:Int) / 2 ^ (8*i)=((v / 2 ^ (8*i):Nat):Int):=by rw[i6,ic];rfl
 rw[e]
 omega

theorem z71{hp:List Obj}{id:Nat}{o:Obj}(h:At hp id o):hp.set id o=hp:=by
 apply List.ext_getElem?
 intro j
 by_cases hj:j=id
 ·subst hj
  rw[aW h.lt]
  exact h.symm
 ·rw[bl (by omega)]

def Bys(hp:List Obj)(id:Nat)(m:List UInt8):Prop:=At hp id (.cells (m.map ya))

theorem yd0{hp:List Obj}{id off n:Nat}{gr:Bool}{m:List UInt8}(v:Nat)(hv:v<18446744073709551616)(hn:n<=8)(ho:off+n<=m.length)(B:Bys hp id m) :
  ∃ d hp',y1o E (dL E) 383 [.sl id off n 1 false gr,.int .u64 v] hp=some (d,hp')/\(d=.tup []/\hp'=hp.set id (.cells ((y5q m off n v n).map ya))):=by
 refine z30 c383 (args:=[.sl id off n 1 false gr,.int .u64 v]) (hp:=hp) (R:=fun d hp'=>d=.tup []/\hp'=hp.set id (.cells ((y5q m off n v n).map ya))) (by simp) ?_
 conv in t383=>reduce;dsimp[ah]
 have hid:=At.lt B
 simp[t383,n383]
 refine zr n (fun i env h=>∃(x2 x5:D) ,env=[.sl id off n 1 false gr,.int .u64 v,x2,dI n,dI i,x5]/\h=hp.set id (.cells ((y5q m off n v i).map ya))) 0 (by omega) ?_ ?_
 ·refine⟨_,_,rfl,?_⟩
  rw[y5q]
  exact(z71 B).symm
 rintro i env h hi ⟨x2,x5,rfl,rfl⟩
 have hset:∀ o:Obj,(hp.set id o)[id]? = some o:=fun o=>At.self hid
 by_cases hlt:i<n
 ·have hup:=zg hlt (by omega)
  have hb:=ziv (v:=v) (i:=i) (by omega)
  have h1:aw.wrap ((n:Int) - 1)=(n:Int) - 1:=z7 ⟨by omega,by omega⟩
  have h2:aw.wrap ((n:Int) - 1 - i)=((n - 1 - i:Nat):Int):=by rw[z7 ⟨by omega,by omega⟩];omega
  have h3:aw.wrap (8*(i:Int))=((8*i:Nat):Int):=by rw[z7 ⟨by omega,by omega⟩];omega
  have h4:(n - 1 - i:Nat)<n:=by omega
  have h5:off+(n - 1 - i)+1<=m.length:=by omega
  have h0:(8*(i:Int)).toNat=8*i:=by omega
  have h6:off+(n - 1 - i)<(y5q m off n v i).length:=by rw[z40];omega
  have h8:(0:Int)<=8*(i:Int):=by omega
  simp[hlt,hup,hset,z3c,y2v,h1,h2,h3,h4,h5,hb,h0,h8,z40,y5q]
  have hbe:ya (bi (v / 2 ^ (8*i)))=.int .u8 ((v:Int) / 2 ^ (8*i) % 256):=by
   show D.int .u8 ((bi (v / 2 ^ (8*i))).toNat:Int)=_
   rw[<- hb,zgs,bq (by omega),cX _ (iq (by decide))]
  rw[hbe]
 ·have:i=n:=by omega
  subst this
  simp

def y7z(b:List UInt8):Nat->List Wd
 | 0=>af 64 0
 |i+1=>(y7z b i).set i (y6y (b.drop (4*i)) 4)
theorem z6w{b:List UInt8}:∀{i:Nat},(y7z b i).length=64
 | 0=>by simp[y7z]
 |i+1=>by rw[y7z,bu,z6w]
def sg0(x:Wd):Wd:=y59 x 25 ^^^ y59 x 14 ^^^ (x >>> 3)
def sg1(x:Wd):Wd:=y59 x 15 ^^^ y59 x 13 ^^^ (x >>> 10)
def y35(b:List UInt8):Nat->List Wd
 | 0=>y7z b 16
 |k+1=>(y35 b k).set (k+16) ((y35 b k).getD k 0+sg0 ((y35 b k).getD (k+1) 0)+(y35 b k).getD (k+9) 0+sg1 ((y35 b k).getD (k+14) 0))
theorem z3y{b:List UInt8}:∀{i:Nat},(y35 b i).length=64
 | 0=>z6w
 |i+1=>by rw[y35,bu,z3y]

def Wds(hp:List Obj)(id:Nat)(m:List Wd):Prop:=At hp id (.cells (m.map dW))

def y5i:List Wd:=[1116352408,1899447441,3049323471,3921009573,961987163,1508970993,2453635748,2870763221,3624381080,310598401,607225278,1426881987,1925078388,2162078206,2614888103,3248222580,3835390401,4022224774,264347078,604807628,770255983,1249150122,1555081692,1996064986,2554220882,2821834349,2952996808,3210313671,3336571891,3584528711,113926993,338241895,666307205,773529912,1294757372,1396182291,1695183700,1986661051,2177026350,2456956037,2730485921,2820302411,3259730800,3345764771,3516065817,3600352804,4094571909,275423344,430227734,506948616,659060556,883997877,958139571,1322822218,1537002063,1747873779,1955562222,2024104815,2227730452,2361852424,2428436474,2756734187,3204031479,3329325298]
theorem z95:y5i.length=64:=rfl
theorem zgo{E:Env}{cP:Nat->List D->Option D}{env:List D}{hp:List Obj}{b t:Nat}{d:D}{x:Xp}:xv E cP env hp (.n (.iaddr t (.c d) (.t b)) (.cons b x .nil))=ob (xv E cP env hp x) fun u=>y29 E t d u:=by
 simp only[xv,xvs]
 cases xv E cP env hp x <;> try rfl
 simp only[yb,gOf,kv,if_true,zf]
 exact z16
def yb7(i:Nat):List D:=(y5i.map dW).drop i
theorem yfs{i:Nat}(h:i<64):y29 E 80 (.iptr [.int .u32 1116352408,.int .u32 1899447441,.int .u32 3049323471,.int .u32 3921009573,.int .u32 961987163,.int .u32 1508970993,.int .u32 2453635748,.int .u32 2870763221,.int .u32 3624381080,.int .u32 310598401,.int .u32 607225278,.int .u32 1426881987,.int .u32 1925078388,.int .u32 2162078206,.int .u32 2614888103,.int .u32 3248222580,.int .u32 3835390401,.int .u32 4022224774,.int .u32 264347078,.int .u32 604807628,.int .u32 770255983,.int .u32 1249150122,.int .u32 1555081692,.int .u32 1996064986,.int .u32 2554220882,.int .u32 2821834349,.int .u32 2952996808,.int .u32 3210313671,.int .u32 3336571891,.int .u32 3584528711,.int .u32 113926993,.int .u32 338241895,.int .u32 666307205,.int .u32 773529912,.int .u32 1294757372,.int .u32 1396182291,.int .u32 1695183700,.int .u32 1986661051,.int .u32 2177026350,.int .u32 2456956037,.int .u32 2730485921,.int .u32 2820302411,.int .u32 3259730800,.int .u32 3345764771,.int .u32 3516065817,.int .u32 3600352804,.int .u32 4094571909,.int .u32 275423344,.int .u32 430227734,.int .u32 506948616,.int .u32 659060556,.int .u32 883997877,.int .u32 958139571,.int .u32 1322822218,.int .u32 1537002063,.int .u32 1747873779,.int .u32 1955562222,.int .u32 2024104815,.int .u32 2227730452,.int .u32 2361852424,.int .u32 2428436474,.int .u32 2756734187,.int .u32 3204031479,.int .u32 3329325298]) (.int .i64 (i:Int))=some (.iptr (yb7 i)):=by
 have e:(y5i.map dW)=[.int .u32 1116352408,.int .u32 1899447441,.int .u32 3049323471,.int .u32 3921009573,.int .u32 961987163,.int .u32 1508970993,.int .u32 2453635748,.int .u32 2870763221,.int .u32 3624381080,.int .u32 310598401,.int .u32 607225278,.int .u32 1426881987,.int .u32 1925078388,.int .u32 2162078206,.int .u32 2614888103,.int .u32 3248222580,.int .u32 3835390401,.int .u32 4022224774,.int .u32 264347078,.int .u32 604807628,.int .u32 770255983,.int .u32 1249150122,.int .u32 1555081692,.int .u32 1996064986,.int .u32 2554220882,.int .u32 2821834349,.int .u32 2952996808,.int .u32 3210313671,.int .u32 3336571891,.int .u32 3584528711,.int .u32 113926993,.int .u32 338241895,.int .u32 666307205,.int .u32 773529912,.int .u32 1294757372,.int .u32 1396182291,.int .u32 1695183700,.int .u32 1986661051,.int .u32 2177026350,.int .u32 2456956037,.int .u32 2730485921,.int .u32 2820302411,.int .u32 3259730800,.int .u32 3345764771,.int .u32 3516065817,.int .u32 3600352804,.int .u32 4094571909,.int .u32 275423344,.int .u32 430227734,.int .u32 506948616,.int .u32 659060556,.int .u32 883997877,.int .u32 958139571,.int .u32 1322822218,.int .u32 1537002063,.int .u32 1747873779,.int .u32 1955562222,.int .u32 2024104815,.int .u32 2227730452,.int .u32 2361852424,.int .u32 2428436474,.int .u32 2756734187,.int .u32 3204031479,.int .u32 3329325298]:=rfl
 rw[<- e,zm6 (m:=64) (e:=78) rfl,if_pos ⟨by omega,by omega⟩]
 rw[show(E.ty 78).size=1 from rfl,dA,ci]
 rfl
theorem yfr{i:Nat}{h:List Obj}(hi:i<64):yo E h 78 (.iptr (yb7 i))=some (dW (y5i.getD i 0)):=by
 have hl:i<(y5i.map dW).length:=by rw[ao,z95];exact hi
 unfold yb7
 rw[bC hl,gR,aj,ae (by rw[z95];exact hi)]
 rfl
theorem sl_1{q:Nat}:y15 E 77 (.loc q 0) (some (.int .i64 1)) none none=some (.sl q 1 7 1 false false):=rfl
theorem sl_7{q:Nat}:y15 E 77 (.loc q 0) none (some (.int .i64 7)) none=some (.sl q 0 7 1 false false):=rfl
theorem cp8{H:List Obj}{q:Nat}{d0 d1 d2 d3 d4 d5 d6 d7:Wd}(h:H[q]? = some (.cells [dW d0,dW d1,dW d2,dW d3,dW d4,dW d5,dW d6,dW d7])):y6m E H 81 81 (.sl q 1 7 1 false false) (.sl q 0 7 1 false false)=some (.int .i64 7,H.set q (.cells [dW d0,dW d0,dW d1,dW d2,dW d3,dW d4,dW d5,dW d6])):=by
 unfold y6m
 simp[h,y12,yz,y3a,y1x,yk]
 rfl
def rnd(w:List Wd)(i:Nat)(v:List Wd):List Wd:=match v with
 |[a,b,c,d,e,f,g,h]=>
  let t:=h+(y59 e 26 ^^^ y59 e 21 ^^^ y59 e 7)+(g ^^^ (e &&& (f ^^^ g)))+y5i.getD i 0+w.getD i 0
  [t+((y59 a 30 ^^^ y59 a 19 ^^^ y59 a 10)+((a &&& b) ||| (c &&& (a ||| b)))),a,b,c,d+t,e,f,g]
 |v=>v
def y91(w:List Wd)(v:List Wd):Nat->List Wd
 | 0=>v
 |i+1=>rnd w i (y91 w v i)
theorem y9x{l:List Wd}(h:l.length=8):∃ a b c d e f g k,l=[a,b,c,d,e,f,g,k]:=by
 match l,h with
 |[a,b,c,d,e,f,g,k],_=>exact⟨a,b,c,d,e,f,g,k,rfl⟩
theorem zwk{w:List Wd}{i:Nat}{v:List Wd}(h:v.length=8):(rnd w i v).length=8:=by
 obtain⟨a,b,c,d,e,f,g,k,rfl⟩:=y9x h
 rfl
theorem zdi{w v:List Wd}(h:v.length=8):∀{i:Nat},(y91 w v i).length=8
 | 0=>h
 |i+1=>zwk (zdi h)

theorem y2g.wk{i C:Nat}{hp hp':List Obj}(h:y2g C C hp hp'):y2g i C hp hp':=fun J h1 h2 h3=>h J h1 (fun hp j o hj hk=>h2 hp j o hj (by rcases hk with rfl | hk;exact .inr (ai _);exact .inr hk)) h3
def Blk(st:Nat)(hp:List Obj)(x:D)(b:List UInt8):Prop:=∀ i:Nat,i<16->∃ y,y15 E 30 x (some (dI (4*(i:Int)))) none none=some y /\ ∀ h,y2g st hp.length hp h->frz h 12 y=some (dBy (b.drop (4*i)))
theorem zxe{l:List UInt8}{h:List Obj}:frz h 12 (dBy l)=some (dBy l):=by rw[z6p,z8];rfl

def y7x(s v:List Wd):Nat->List Wd
 | 0=>s
 |i+1=>(y7x s v i).set i ((y7x s v i).getD i 0+v.getD i 0)
theorem z9h{s v:List Wd}:∀{i:Nat},(y7x s v i).length=s.length
 | 0=>rfl
 |i+1=>by rw[y7x,bu,z9h]
def y34(s:List Wd)(b:List UInt8):List Wd:=y7x s (y91 (y35 b 48) s 64) 8

theorem yf3{hp:List Obj}{st:Nat}{x:D}{b:List UInt8}{s:List Wd}(hs:s.length=8)(hb:64<=b.length)(S:Wds hp st s)(hx:Blk st hp x b) :
  ∃ d hp',y1o E (dL E) 404 [.loc st 0,x] hp=some (d,hp')/\(d=.tup []/\Wds hp' st (y34 s b)/\y2g st hp.length hp hp'/\hp.length<=hp'.length):=by
 refine z30 c404 (args:=[.loc st 0,x]) (hp:=hp) (R:=fun d hp'=>d=.tup []/\Wds hp' st (y34 s b)/\y2g st hp.length hp hp'/\hp.length<=hp'.length) (by simp) ?_
 conv in t404=>reduce;dsimp[ah]
 have hid:=At.lt S
 simp[t404,n404]
 refine zr 16 (fun i env h=>∃(x3 x4 x5 x6 x7 x8 x9 x10 x11 x13 x14 x15 x16 x17 x18 x19 x20 x21:D) ,env=[.loc st 0,x,.loc hp.length 0,x3,x4,x5,x6,x7,x8,x9,x10,x11,dI i,x13,x14,x15,x16,x17,x18,x19,x20,x21]/\Wds h hp.length (y7z b i)/\y2g hp.length hp.length hp h) 0 (by omega) ?_ ?_
 ·refine⟨_,_,_,_,_,_,_,_,_,_,_,_,_,_,_,_,_,_,rfl,?_,y2g.app⟩
  unfold Wds y7z
  simp[At]
 rintro i env h hi ⟨x3,x4,x5,x6,x7,x8,x9,x10,x11,x13,x14,x15,x16,x17,x18,x19,x20,x21,rfl,w1,w2⟩
 by_cases hlt:i<16
 ·have hi16:(i:Int)<16:=by omega
  have hup:=zg hlt (by omega)
  obtain⟨y,hy,hf⟩:=hx i hlt
  have hf:=hf h w2.wk
  have hw4:aw.wrap (4*(i:Int))=4*(i:Int):=z7 ⟨by omega,by omega⟩
  have hy:y15 E 30 x (some (.int .i64 (4*(i:Int)))) none none=some y:=hy
  have e:=r405 (b.drop (4*i)) (by simp;omega)
  have hi64:(i:Int)<64:=by omega
  have w1':h[hp.length]? = some (.cells ((y7z b i).map dW)):=w1
  have hl64:i+1<=(y7z b i).length:=by rw[z6w];omega
  have hhl:hp.length<h.length:=w1.lt
  have hst:y7z b (i+1)=(y7z b i).set i (y6y (b.drop (4*i)) 4):=rfl
  generalize hbb:b.drop (4*i)=bb at hf e hst
  have hl63:i<64:=by omega
  have hl65:i+1<=64:=by omega
  simp[hi16,hup,hw4,hy,hf,e,hi64,w1',z6w,hl63,hl65]
  refine⟨hlt,?_,w2.trans (y2g.set (.inr (ai _)))⟩
  unfold Wds
  rw[hst,fh]
  exact At.self hhl
 have:i=16:=by omega
 subst this
 simp
 refine zr 48 (fun k env h=>∃(x3 x5 x6 x7 x8 x9 x10 x11 x12 x13 x14 x15 x16 x17 x18 x19 x20 x21:D) ,env=[.loc st 0,x,.loc hp.length 0,x3,dI ((k:Int)+16),x5,x6,x7,x8,x9,x10,x11,x12,x13,x14,x15,x16,x17,x18,x19,x20,x21]/\Wds h hp.length (y35 b k)/\y2g hp.length hp.length hp h) 0 (by omega) ?_ ?_
 ·exact⟨_,_,_,_,_,_,_,_,_,_,_,_,_,_,_,_,_,_,rfl,w1,w2⟩
 clear hi hlt w1 w2 h
 rintro k env h hi ⟨x3,x5,x6,x7,x8,x9,x10,x11,x12,x13,x14,x15,x16,x17,x18,x19,x20,x21,rfl,w1,w2⟩
 have hhl:hp.length<h.length:=w1.lt
 have w1':h[hp.length]? = some (.cells ((y35 b k).map dW)):=w1
 by_cases hlt:k<48
 ·have hk64:(k:Int)+16<64:=by omega
  have i15:aw.wrap ((k:Int)+16 - 15)=(k:Int)+1:=by rw[z7 ⟨by omega,by omega⟩];omega
  have i2:aw.wrap ((k:Int)+16 - 2)=(k:Int)+14:=by rw[z7 ⟨by omega,by omega⟩];omega
  have i16:aw.wrap ((k:Int)+16 - 16)=(k:Int):=by rw[z7 ⟨by omega,by omega⟩];omega
  have i7:aw.wrap ((k:Int)+16 - 7)=(k:Int)+9:=by rw[z7 ⟨by omega,by omega⟩];omega
  have i1:aw.wrap ((k:Int)+16+1)=(k:Int)+1+16:=by rw[z7 ⟨by omega,by omega⟩];omega
  have hst:y35 b (k+1)=(y35 b k).set (k+16) ((y35 b k).getD k 0+sg0 ((y35 b k).getD (k+1) 0)+(y35 b k).getD (k+9) 0+sg1 ((y35 b k).getD (k+14) 0)):=rfl
  have hgd:∀ j,j<64->(y35 b k)[j]? = some ((y35 b k).getD j 0):=fun j hj=>by rw[aj,ae (by rw[z3y];exact hj)];rfl
  have g0:=hgd k (by omega)
  have g1:=hgd (k+1) (by omega)
  have g9:=hgd (k+9) (by omega)
  have g14:=hgd (k+14) (by omega)
  have hlen:(y35 b k).length=64:=z3y
  clear hgd
  generalize (y35 b k).getD k 0=v0 at g0 hst
  generalize (y35 b k).getD (k+1) 0=v1 at g1 hst
  generalize (y35 b k).getD (k+9) 0=v9 at g9 hst
  generalize (y35 b k).getD (k+14) 0=v14 at g14 hst
  generalize y35 b k=W at g0 g1 g9 g14 hst hlen w1 w1'
  have b1:(0:Int)<=(k:Int)+1:=by omega
  have d1:(k:Int)+1<64:=by omega
  have t1:((k:Int)+1).toNat=k+1:=by omega
  have b14:(0:Int)<=(k:Int)+14:=by omega
  have d14:(k:Int)+14<64:=by omega
  have t14:((k:Int)+14).toNat=k+14:=by omega
  have b9:(0:Int)<=(k:Int)+9:=by omega
  have d9:(k:Int)+9<64:=by omega
  have t9:((k:Int)+9).toNat=k+9:=by omega
  have b16:(0:Int)<=(k:Int)+16:=by omega
  have d16:(k:Int)+16<64:=by omega
  have t16:((k:Int)+16).toNat=k+16:=by omega
  have d0:(k:Int)<64:=by omega
  have n16:k+16<64:=by omega
  have n17:k+16+1<=64:=by omega
  have wA:∀ r:List Obj,(h++r)[hp.length]? = some (.cells (W.map dW)):=fun r=>w1.app (r:=r)
  have r1:=yb0 v1 (-7) ⟨by decide,by decide⟩
  have r2:=yb0 v1 (-18) ⟨by decide,by decide⟩
  have r3:=yb0 v14 (-17) ⟨by decide,by decide⟩
  have r4:=yb0 v14 (-19) ⟨by decide,by decide⟩
  have sh3:∀ x:Wd,(x.toNat:Int).fdiv 8=((x >>> 3).toNat:Nat):=fun x=>zkg (a:=x) (n:=3) (by omega)
  have sh10:∀ x:Wd,(x.toNat:Int).fdiv 1024=((x >>> 10).toNat:Nat):=fun x=>zkg (a:=x) (n:=10) (by omega)
  have i0:aw.wrap (k:Int)=(k:Int):=z7 ⟨by omega,by omega⟩
  simp[hk64,i0,i15,i2,i16,i7,i1,w1',wA,g0,g1,g9,g14,hlen,r1,r2,r3,r4,b1,d1,t1,b14,d14,t14,b9,d9,t9,b16,t16,d0,n16,n17,z56,sh3,sh10,zkf,zki,-fK,-ek,-dY]
  refine⟨hlt,?_,w2.trans (y2g.app.trans (y2g.set (.inr (ai _))))⟩
  unfold Wds
  rw[hst,fh]
  exact At.self (by simp;omega)
 have:k=48:=by omega
 subst this
 have S':Wds h st s:=w2.at (by omega) hid S
 have S2:h[st]? = some (.cells (s.map dW)):=S'
 obtain⟨a0,a1,a2,a3,a4,a5,a6,a7,he⟩:=y9x hs
 rw[he] at S2
 simp at S2
 simp[S2]
 refine zr 64 (fun i env h'=>∃(x3 x4 x5 x6 x8 x9 x10 x11 x12 x13 x14 x15 x16 x18 x19 x20 x21:D) ,env=[.loc st 0,x,.loc hp.length 0,x3,x4,x5,x6,.loc h.length 0,x8,x9,x10,x11,x12,x13,x14,x15,x16,dI i,x18,x19,x20,x21]/\Wds h' hp.length (y35 b 48)/\Wds h' h.length (y91 (y35 b 48) s i)/\y2g hp.length hp.length hp h'/\h.length<h'.length) 0 (by omega) ?_ ?_
 ·refine⟨_,_,_,_,_,_,_,_,_,_,_,_,_,_,_,_,_,rfl,w1.app,?_,w2.trans y2g.app,by simp⟩
  simp[Wds,At,y91,he]
 rintro i env h' hi ⟨x3,x4,x5,x6,x8,x9,x10,x11,x12,x13,x14,x15,x16,x18,x19,x20,x21,rfl,v1,v2,v3,v4⟩
 by_cases hlt':i<64
 ·have hi64:(i:Int)<64:=by omega
  have hup:=zg hlt' (by omega)
  obtain⟨a,b',c,d,e,f,g,g',hr⟩:=y9x (zdi (w:=y35 b 48) (v:=s) (i:=i) hs)
  have hst:y91 (y35 b 48) s (i+1)=rnd (y35 b 48) i (y91 (y35 b 48) s i):=rfl
  rw[hr] at v2 hst
  have v1':∀ r:List Obj,(h'++r)[hp.length]? = some (.cells ((y35 b 48).map dW)):=fun r=>v1.app (r:=r)
  have v2':∀ r:List Obj,(h'++r)[h.length]? = some (.cells (([a,b',c,d,e,f,g,g']:List Wd).map dW)):=fun r=>v2.app (r:=r)
  have hw:(y35 b 48)[i]? = some ((y35 b 48).getD i 0):=by rw[aj,ae (by rw[z3y];exact hlt')];rfl
  have k1:=yfs hlt'
  have k2:=fun h:List Obj=>yfr (h:=h) hlt'
  have hlen:(y35 b 48).length=64:=z3y
  generalize hW:(y35 b 48).getD i 0=wi at hw
  generalize hK:y5i.getD i 0=ki at k2
  have q1:=r407 e 6 11 25 (by decide) (by decide) (by decide)
  have q2:=r407 a 2 13 22 (by decide) (by decide) (by decide)
  simp at v2'
  have hcp:=fun r:List Obj=>cp8 (v2' r)
  have hset:∀(r:List Obj) (o:Obj),((h'++r).set h.length o)[h.length]? = some o:=fun r o=>At.self (by simp;omega)
  simp[hi64,hup,v1',v2',hw,q1,q2,zgo,k1,k2,z2d,sl_1,sl_7,↓hcp,↓hset,hlen,zkf,zki,zyk,yai,-fK,-ek,-i8,-fu]
  refine⟨hlt',v1.app.ne (by omega),?_,v3.trans (y2g.app.trans (y2g.set (.inr (by omega)))),by omega⟩
  unfold Wds
  rw[hst]
  simp only[rnd,hK,hW]
  exact At.self (by simp;omega)
 have:i=64:=by omega
 subst this
 simp
 have hvl:(y91 (y35 b 48) s 64).length=8:=zdi hs
 unfold y34 at *
 generalize y91 (y35 b 48) s 64=V at v2 hvl ⊢
 have v5:Wds h' st s:=v3.at (by omega) hid S
 refine zr 8 (fun i env h2=>∃(x1 x2 x3 x4 x5 x6 x8 x9 x10 x11 x12 x13 x14 x15 x16 x17 x18 x19 x21:D) ,env=[.loc st 0,x1,x2,x3,x4,x5,x6,.loc h.length 0,x8,x9,x10,x11,x12,x13,x14,x15,x16,x17,x18,x19,dI i,x21]/\Wds h2 h.length V/\Wds h2 st (y7x s V i)/\y2g st hp.length hp h2/\hp.length<=h2.length) 0 (by omega) ?_ ?_
 ·exact⟨_,_,_,_,_,_,_,_,_,_,_,_,_,_,_,_,_,_,_,rfl,v2,v5,v3.wk,by omega⟩
 clear hi hlt' v1 v2 v3 v5
 rintro i env h2 hi ⟨x1,x2,x3,x4,x5,x6,x8,x9,x10,x11,x12,x13,x14,x15,x16,x17,x18,x19,x21,rfl,v2,v5,v3,v6⟩
 by_cases hlt':i<8
 ·have hi8:(i:Int)<8:=by omega
  have hup:=zg hlt' (by omega)
  have g1:(y7x s V i)[i]? = some ((y7x s V i).getD i 0):=by rw[aj,ae (by rw[z9h];omega)];rfl
  have g2:V[i]? = some (V.getD i 0):=by rw[aj,ae (by omega)];rfl
  have hst:y7x s V (i+1)=(y7x s V i).set i ((y7x s V i).getD i 0+V.getD i 0):=rfl
  have v2':∀ r:List Obj,(h2++r)[h.length]? = some (.cells (V.map dW)):=fun r=>v2.app (r:=r)
  have v5':∀ r:List Obj,(h2++r)[st]? = some (.cells ((y7x s V i).map dW)):=fun r=>v5.app (r:=r)
  have hal:(y7x s V i).length=8:=by rw[z9h];exact hs
  have hi9:i+1<=8:=by omega
  have hi88:i<8:=hlt'
  have e1:(y7x s V i).getD i 0=(y7x s V i)[i]'(by omega):=by rw[aj,ae (by omega)];rfl
  have e2:V.getD i 0=V[i]'(by omega):=by rw[aj,ae (by omega)];rfl
  rw[e1,e2] at hst
  have v2l:=v2.lt
  have v5l:=v5.lt
  simp[hi8,hup,g1,g2,v2',v5',hal,hvl,hi9,hi88,zki,-ek]
  refine⟨v2.app.ne (by omega),?_,(v3.trans y2g.app).trans (y2g.set (.inl rfl)),by omega⟩
  unfold Wds
  rw[hst,fh]
  exact At.self (by simp;omega)
 ·have:i=8:=by omega
  subst this
  simp
  exact⟨v5,v3,v6⟩

theorem zuz{b:List UInt8}{i:Nat}(h:i<=b.length):y15 E 30 (.imm .none (b.map ya)) (some (dI i)) none none=some (.imm .none ((b.drop i).map ya)):=by
 unfold y15
 simp[bnd]
 exact⟨⟨h,ze1⟩,by unfold y1c;simp,bg (by simp)⟩
theorem zxt{st:Nat}{hp:List Obj}{b:List UInt8}(h:64<=b.length):Blk st hp (.imm .none (b.map ya)) b:=fun i hi=>⟨.imm .none ((b.drop (4*i)).map ya),by
 have:=zuz (b:=b) (i:=4*i) (by omega)
 exact this,fun h _=>zxe⟩
theorem z52:∀(n:Nat) (l:List UInt8),n<=l.length->y3a 1 false n (l.map ya)=some ((l.take n).map ya)
 | 0,l,_=>by simp[y3a]
 |n+1,[],h=>by simp at h
 |n+1,c::l,h=>by
  have e:=z52 n l (by simp at h;omega)
  simp[y3a,y1x,yk,e]
theorem zve{st id off n:Nat}{gr:Bool}{hp:List Obj}{m:List UInt8}(B:Bys hp id m)(hid:id ≠ st)(hn:64<=n)(ho:off+n<=m.length):Blk st hp (.sl id off n 1 false gr) ((m.drop off).take n):=fun i hi=>⟨.sl id (off+4*i) (n - 4*i) 1 false false,by
  unfold y15
  have h0:(0:Int)<=4*(i:Int):=by omega
  have h1:(4*(i:Int)).toNat=4*i:=by omega
  simp[bnd,h0,h1]
  omega,fun h k=>by
  have B':Bys h id m:=k.at hid B.lt B
  have B2:h[id]? = some (.cells (m.map ya)):=B'
  rw[zpo]
  simp only[B2,y9a]
  rw[zf,<- fN,z52 _ _ (by simp;omega),zf,z8,aq,List.drop_take,b6]⟩

def y5t:List Wd:=[1779033703,3144134277,1013904242,2773480762,1359893119,2600822924,528734635,1541459225]
def y3u(b:List UInt8):Nat->List Wd->List Wd
 | 0,s=>s
 |k+1,s=>y34 (y3u b k s) ((b.drop (64*k)).take 64)
theorem zih{s:List Wd}{b:List UInt8}(h:s.length=8):(y34 s b).length=8:=by unfold y34;rw[z9h];exact h
theorem z2i{b:List UInt8}{s:List Wd}(h:s.length=8):∀{k:Nat},(y3u b k s).length=8
 | 0=>h
 |k+1=>zih (z2i h)

theorem znb{E:Env}{cP:Nat->List D->Option D}{env:List D}{hp:List Obj}{t:Nat}{d:D}:xv E cP env hp (.n (.load t (.c d)) .nil)=yo E hp t d:=by
 simp only[xv,xvs]
 simp only[yb,gOf]
 exact z16
theorem zwz{hp:List Obj}:yo E hp 76 (.iptr [.int .u32 1779033703,.int .u32 3144134277,.int .u32 1013904242,.int .u32 2773480762,.int .u32 1359893119,.int .u32 2600822924,.int .u32 528734635,.int .u32 1541459225])=some (.agg (y5t.map dW)):=rfl
theorem zwf{b:List UInt8}(h:64<=b.length):y15 E 30 (.imm .none (b.map ya)) (some (.int .i64 64)) none none=some (.imm .none ((b.drop 64).map ya)):=zuz (i:=64) h
theorem zwg{b:List UInt8}(h:64<=b.length):y15 E 30 (.imm .none (b.map ya)) none (some (.int .i64 64)) none=some (.imm .none ((b.take 64).map ya)):=zis (i:=64) h
def z32:List UInt8:=af 32 0
def y8p:List UInt8:=af 128 0
def tl0(r:List UInt8):List UInt8:=r++af (128 - r.length) 0
theorem zno{r:List UInt8}(h:r.length<=128):(tl0 r).length=128:=by unfold tl0;rw[ak,df];omega
theorem ze6:∀(l:List UInt8),yi (l.map ya)=l.map ya
 |[]=>rfl
 |c::l=>by
  have:=ze6 l
  simp only[av,yi,bD] at this ⊢
  rw[this];rfl
theorem yfm{h:List Obj}:y5h E h 30 (.int .i64 64) (.int .i64 128)=some (.sl h.length 0 64 1 false true,h++[.cells (y8p.map ya)]):=by
 have e:=ze6 y8p
 have e2:y8p.map ya=af 128 (D.int .u8 0):=by unfold y8p;rw[bS];rfl
 rw[e2] at e ⊢
 unfold y5h
 simp only[show(E.ty 30).k=.slice 13 from rfl,show y22 E 13=some (D.int .u8 0) from rfl,show(E.ty 13).size=1 from rfl,show(E.ty 13).ag=false from rfl]
 rw[if_pos (by refine⟨by decide,by decide,by decide⟩)]
 rw[show((128:Int)).toNat=128 from rfl,e]
 rfl
theorem z67{l:List UInt8}:(l.map ya).all (fun d=>d.storable && d.cellsL.length == 1)=true:=z87
theorem yg1{H:List Obj}{id:Nat}{r:List UInt8}(B:Bys H id y8p)(h:r.length<64):y6m E H 30 30 (.sl id 0 64 1 false true) (.imm .none (r.map ya))=some (.int .i64 r.length,H.set id (.cells ((tl0 r).map ya))):=by
 have B2:H[id]? = some (.cells (y8p.map ya)):=B
 have hl:(y8p.map ya).length=128:=rfl
 have hm:Nat.min r.length 64=r.length:=bq (by omega)
 have hs:setCells (y8p.map ya) 0 (yi (r.map ya))=(tl0 r).map ya:=by
  rw[ze6]
  have e:y8p.map ya=(af r.length (0:UInt8)).map ya++(af (128 - r.length) (0:UInt8)).map ya:=by
   rw[<- bm,List.replicate_append_replicate]
   unfold y8p
   congr 2;omega
  rw[e,z1z (by simp),zh (by simp)]
  unfold tl0
  rw[bm]
 have hL:y12 H 1 false (.imm .none (r.map ya))=some (r.map ya):=by
  unfold y12
  simp only[z67,if_true]
 unfold y6m
 simp only[show(E.ty 30).k=.slice 13 from rfl,B2,show(E.ty 13).size=1 from rfl,show(E.ty 13).ag=false from rfl,hL,ao,hm]
 rw[if_pos ⟨trivial,by simp[y8p]⟩,bg (by simp),hs]

def tl1(r:List UInt8):List UInt8:=(tl0 r).set r.length 128
theorem z9u{r:List UInt8}(h:r.length<=128):(tl1 r).length=128:=by unfold tl1;rw[bu,zno h]
theorem rsl{h:List Obj}{r:List UInt8}(hr:r.length<=128):y37 E (h++[.cells ((tl1 r).map ya)]) 30 (.sl h.length 0 64 1 false true) (.int .i64 128)=some (.sl h.length 0 128 1 false true,h++[.cells ((tl1 r).map ya)]):=by
 have e:(h++[Obj.cells ((tl1 r).map ya)])[h.length]? = some (.cells ((tl1 r).map ya)):=by simp
 unfold y37
 simp only[show(E.ty 30).k=.slice 13 from rfl,e,show(E.ty 13).size=1 from rfl,ao,z9u hr]
 rfl
theorem yf0{q:Nat}:y15 E 30 (.sl q 0 64 1 false true) (some (.int .i64 56)) none none=some (.sl q 56 8 1 false false):=rfl
theorem zyx{q:Nat}:y15 E 30 (.sl q 0 128 1 false true) (some (.int .i64 120)) none none=some (.sl q 120 8 1 false false):=rfl
theorem zv0{q o l:Nat}{gr:Bool}(h:64<=l):y15 E 30 (.sl q o l 1 false gr) none (some (.int .i64 64)) none=some (.sl q o 64 1 false false):=by
 unfold y15
 simp[bnd]
 omega
theorem zuy{q o l:Nat}{gr:Bool}(h:64<=l):y15 E 30 (.sl q o l 1 false gr) (some (.int .i64 64)) none none=some (.sl q (o+64) (l - 64) 1 false false):=by
 unfold y15
 simp[bnd]
 omega
def rst(b:List UInt8)(k:Nat):List UInt8:=b.drop (64*k)
theorem yf6{b:List UInt8}{k:Nat}:rst b (k+1)=(rst b k).drop 64:=by unfold rst;rw[b6];rfl
theorem zdg{b:List UInt8}{k:Nat}:(rst b k).length=b.length - 64*k:=by unfold rst;rw[cq]

theorem z4i{E:Env}{cP:Nat->List D->Option D}{env:List D}{hp:List Obj}{t a b c:Nat}{x y z:Xp}(h1:b ≠ a)(h2:c ≠ a)(h3:c ≠ b):xv E cP env hp (.n (.slice t (.t a) (some (.t b)) (some (.t c)) none) (.cons a x (.cons b y (.cons c z .nil))))=ob (xv E cP env hp x) fun u=>ob (xv E cP env hp y) fun v=>ob (xv E cP env hp z) fun w=>y15 E t u (some v) (some w) none:=by
 simp only[xv,xvs]
 cases xv E cP env hp x <;> try rfl
 cases xv E cP env hp y <;> try rfl
 cases xv E cP env hp z <;> try rfl
 simp only[yb,aq,Option.map_none,gOf,kv,zf,if_true,if_neg h1,if_neg h2,if_neg h3]
 exact z16
def y4j(v:List Wd):Nat->List UInt8
 | 0=>z32
 |i+1=>y5q (y4j v i) (4*i) 4 (v.getD i 0).toNat 4
theorem z2g{v:List Wd}:∀{i:Nat},(y4j v i).length=32
 | 0=>rfl
 |i+1=>by rw[y4j,z40,z2g]
def y6b(b:List UInt8):List UInt8:=
 if 55<(rst b (b.length / 64)).length then y4j (y3u (y5q (tl1 (rst b (b.length / 64))) 120 8 (b.length*8) 8) 2 (y3u b (b.length / 64) y5t)) 8
 else y4j (y3u (y5q (tl1 (rst b (b.length / 64))) 56 8 (b.length*8) 8) 1 (y3u b (b.length / 64) y5t)) 8
theorem z34{H:List Obj}{m:List UInt8}(B:Bys H 0 m)(h:m.length=32):yo E H 73 (.loc 0 0)=some (.agg (m.map ya)):=by
 have B2:H[0]? = some (.cells (m.map ya)):=B
 have e:=z1x 32 0 (m.map ya) (by simp[h])
 unfold yo
 simp only[yz,B2,show(E.ty 73).size=32 from rfl,e]
 rfl
theorem zuw{i:Nat}(h:i<8):y15 E 73 (.loc 0 0) (some (.int .i64 (4*(i:Int)))) (some (.int .i64 (4*(i:Int)+4))) none=some (.sl 0 (4*i) 4 1 false false):=by
 have h0:(0:Int)<=4*(i:Int):=by omega
 have h1:(4*(i:Int)).toNat=4*i:=by omega
 have h2:(0:Int)<=4*(i:Int)+4:=by omega
 have h3:(4*(i:Int)+4).toNat=4*i+4:=by omega
 unfold y15
 simp only[show(E.ty 73).k=.arr 32 13 from rfl,bnd,if_pos h0,if_pos h2,h1,h3,show(E.ty 13).size=1 from rfl]
 rw[if_pos ⟨by omega,by omega⟩]
 simp

theorem r364(b:List UInt8)(hb:b.length<=1000000000):yu E (dL E) 364 [dBy b]=some (y4w (y6b b)):=by
 refine ze c364 (by simp) ?_
 conv in t364=>reduce;dsimp[ah]
 have hz:∀ x:List D,(D.agg (y5t.map dW)).cellsL=y5t.map dW:=fun _=>rfl
 simp[t364,n364,znb,zwz]
 refine zr (b.length / 64) (fun k env h=>∃(x5 x6 x7 x8 x9 x10 x11 x12 x13 x14 x15 x16 x17 x18 x19 x20 x21:D) ,env=[dBy b,.loc 0 0,.loc 1 0,.bfn 404 (.loc 1 0),.imm .none ((rst b k).map ya),x5,x6,x7,x8,x9,x10,x11,x12,x13,x14,x15,x16,x17,x18,x19,x20,x21]/\Bys h 0 z32/\Wds h 1 (y3u b k y5t)/\2<=h.length) 0 (by omega) ?_ ?_
 ·refine⟨_,_,_,_,_,_,_,_,_,_,_,_,_,_,_,_,_,rfl,?_,?_,by simp⟩
  ·rfl
  ·rfl
 rintro k env h hi ⟨x5,x6,x7,x8,x9,x10,x11,x12,x13,x14,x15,x16,x17,x18,x19,x20,x21,rfl,B,W,hl⟩
 by_cases hlt:k<b.length / 64
 ·have hrl:64<=(rst b k).length:=by rw[zdg];omega
  have h64:(64:Int)<=(rst b k).length:=by omega
  have e1:=zwf hrl
  have e2:=zwg hrl
  obtain⟨d,h2,e,rfl,w1,k1,l1⟩:=yf3 (st:=1) (hp:=h) (x:=.imm .none (((rst b k).take 64).map ya)) (b:=(rst b k).take 64) (s:=y3u b k y5t) (z2i rfl) (by rw[aI];omega) W (zxt (by rw[aI];omega))
  have hs:rst b (k+1)=(rst b k).drop 64:=yf6
  have hst:y3u b (k+1) y5t=y34 (y3u b k y5t) ((rst b k).take 64):=rfl
  have B2:Bys h2 0 _:=k1.at (by omega) (by omega) B
  rw[<- hst] at w1
  generalize hT:(rst b k).take 64=T at e2 e hst
  generalize hD:(rst b k).drop 64=Dr at e1 hs
  simp[h64,e1,e2,e,z2d,hs]
  exact⟨hlt,B2,w1,by omega⟩
 ·have:k=b.length / 64:=by omega
  subst this
  have h64 : ¬ (64:Int)<=(rst b (b.length / 64)).length:=by rw[zdg];omega
  have hr:(rst b (b.length / 64)).length<64:=by rw[zdg];omega
  have hs1:55<(rst b (b.length / 64)).length->y6b b=y4j (y3u (y5q (tl1 (rst b (b.length / 64))) 120 8 (b.length*8) 8) 2 (y3u b (b.length / 64) y5t)) 8:=fun h=>by unfold y6b;rw[if_pos h]
  have hs2 : ¬ 55<(rst b (b.length / 64)).length->y6b b=y4j (y3u (y5q (tl1 (rst b (b.length / 64))) 56 8 (b.length*8) 8) 1 (y3u b (b.length / 64) y5t)) 8:=fun h=>by unfold y6b;rw[if_neg h]
  generalize hR:rst b (b.length / 64)=r at hr h64 hs1 hs2
  have hS:(y3u b (b.length / 64) y5t).length=8:=z2i rfl
  generalize y3u b (b.length / 64) y5t=S at W hS hs1 hs2
  have c1:=yg1 (H:=h++[Obj.cells (y8p.map ya)]) (id:=h.length) (r:=r) (by simp[Bys,At]) hr
  have c2:∀ o:Obj,(h++[Obj.cells (y8p.map ya)]).set h.length o=h++[o]:=fun o=>by simp
  rw[c2] at c1
  have c3:∀ o:Obj,(h++[o])[h.length]? = some o:=fun o=>by simp
  have c4:∀ o o':Obj,(h++[o]).set h.length o'=h++[o']:=fun o o'=>by simp
  have hr':(r.length:Int)<64:=by omega
  have htl:=zno (r:=r) (by omega)
  have hr1:r.length+1<=128:=by omega
  have c5:(((tl0 r).map ya).set r.length (D.int .u8 128))=(tl1 r).map ya:=by unfold tl1;rw[fh];rfl
  have c6:=fun(h:List Obj)=>rsl (h:=h) (r:=r) (by omega)
  have hL:bd.wrap (b.length:Int)=b.length:=by rw[z1a];omega
  have hL8:bd.wrap ((b.length:Int)*8)=((b.length*8:Nat):Int):=by rw[z1a];omega
  have hL9:bd.wrap ((b.length:Int)*8)=(b.length:Int)*8:=by rw[z1a];omega
  have w56:aw.wrap 56=56:=by decide
  have w120:aw.wrap 120=120:=by decide
  simp[h64,yfm,c1,↓c3,↓c4,hr',htl,hr1,c5]
  have key:∀ n:Nat,n=64\/n=128->True:=fun _ _=>trivial
  split
  ·rename_i h55
   obtain⟨d,h3,e3,rfl,rfl⟩:=yd0 (hp:=h++[Obj.cells ((tl1 r).map ya)]) (id:=h.length) (off:=120) (n:=8) (gr:=false) (m:=tl1 r) (b.length*8) (by omega) (by omega) (by unfold tl1;rw[bu,htl];omega) (by simp[Bys,At])
   rw[c4] at e3
   simp at e3
   simp[c6,zyx,hL,hL8,y2v,e3,z3c,w120]
   have hM:(y5q (tl1 r) 120 8 (b.length*8) 8).length=128:=by rw[z40,z9u (by omega)]
   generalize y5q (tl1 r) 120 8 (b.length*8) 8=M at *
   refine zr 2 (fun j env h'=>∃(x4 x6 x7 x8 x9 x10 x11 x12 x13 x14 x15 x16 x17 x18 x19 x20 x21:D) (gr:Bool),env=[dBy b,.loc 0 0,.loc 1 0,.bfn 404 (.loc 1 0),x4,.sl h.length (64*j) (128 - 64*j) 1 false gr,x6,x7,x8,x9,x10,x11,x12,x13,x14,x15,x16,x17,x18,x19,x20,x21]/\Bys h' 0 z32/\Wds h' 1 (y3u M j S)/\Bys h' h.length M/\h.length<h'.length) 0 (by omega) ?_ ?_
   ·exact⟨_,_,_,_,_,_,_,_,_,_,_,_,_,_,_,_,_,true,rfl,B.app,W.app,by simp[Bys,At],by simp⟩
   rintro j env h' hj ⟨x4,x6,x7,x8,x9,x10,x11,x12,x13,x14,x15,x16,x17,x18,x19,x20,x21,gr,rfl,B1,W1,B2,hl1⟩
   by_cases hlt:j<2
   ·obtain⟨o,ho⟩:∃ o,o=64*j:=⟨_,rfl⟩
    obtain⟨l,hl⟩:∃ l,l=128 - o:=⟨_,rfl⟩
    have hb:y3u M (j+1) S=y34 (y3u M j S) ((M.drop o).take 64):=by rw[ho];rfl
    obtain⟨d,h2,e,rfl,w1,k1,l1⟩:=yf3 (st:=1) (hp:=h') (x:=.sl h.length o 64 1 false false) (b:=(M.drop o).take 64) (s:=y3u M j S) (z2i hS) (by simp;omega) W1 (zve B2 (by omega) (by omega) (by omega))
    rw[<- hb] at w1
    have B1':Bys h2 0 z32:=k1.at (by omega) (by omega) B1
    have B2':Bys h2 h.length M:=k1.at (by omega) hl1 B2
    rw[<- ho,<- hl]
    have e1:=zv0 (q:=h.length) (o:=o) (l:=l) (gr:=gr) (by omega)
    have e2:=zuy (q:=h.length) (o:=o) (l:=l) (gr:=gr) (by omega)
    have hpos:(0:Int)<l:=by omega
    have o1:64*(j+1)=o+64:=by omega
    have hpos':0<l:=by omega
    simp[hpos,hpos',e1,e2,e,z2d]
    exact⟨by omega,⟨by omega,by omega⟩,B1',w1,B2',by omega⟩
   ·have:j=2:=by omega
    subst this
    have hSl:(y3u M 2 S).length=8:=z2i hS
    have hsh:=hs1 (by omega)
    generalize y3u M 2 S=V at W1 hSl hsh
    obtain⟨a0,a1,a2,a3,a4,a5,a6,a7,hV⟩:=y9x hSl
    have W2:h'[1]? = some (.cells (V.map dW)):=W1
    rw[hV] at W2
    simp at W2
    simp[W2]
    rw[hsh]
    refine zr 8 (fun i env h3=>∃(x0 x2 x3 x4 x5 x6 x7 x8 x9 x10 x11 x12 x13 x14 x15 x16 x17 x20 x21:D) ,env=[x0,.loc 0 0,x2,x3,x4,x5,x6,x7,x8,x9,x10,x11,x12,x13,x14,x15,x16,x17,.agg [dW a0,dW a1,dW a2,dW a3,dW a4,dW a5,dW a6,dW a7],dI i,x20,x21]/\Bys h3 0 (y4j V i)) 0 (by omega) ?_ ?_
    ·exact⟨_,_,_,_,_,_,_,_,_,_,_,_,_,_,_,_,_,_,_,rfl,B1⟩
    rintro i env h3 hi ⟨x0,x2,x3,x4,x5,x6,x7,x8,x9,x10,x11,x12,x13,x14,x15,x16,x17,x20,x21,rfl,C⟩
    have hidx:∀ i,i<8->([dW a0,dW a1,dW a2,dW a3,dW a4,dW a5,dW a6,dW a7]:List D)[i]? = some (dW (V.getD i 0)):=fun i hi=>by
     have e:([dW a0,dW a1,dW a2,dW a3,dW a4,dW a5,dW a6,dW a7]:List D)=V.map dW:=by rw[hV];rfl
     rw[e,bK,aj,ae (by omega)];rfl
    by_cases hlt:i<8
    ·have hi8:(i:Int)<8:=by omega
     have hup:=zg hlt (by omega)
     have q1:aw.wrap (4*(i:Int))=4*(i:Int):=z7 ⟨by omega,by omega⟩
     have q2:aw.wrap (4*(i:Int)+4)=4*(i:Int)+4:=z7 ⟨by omega,by omega⟩
     have q3:=zuw hlt
     have q4:bd.wrap ((V.getD i 0).toNat:Int)=(V.getD i 0).toNat:=by have:=yby (w:=V.getD i 0);rw[z1a];omega
     obtain⟨d,h4,e4,rfl,rfl⟩:=yd0 (hp:=h3) (id:=0) (off:=4*i) (n:=4) (gr:=false) (m:=y4j V i) (V.getD i 0).toNat (by have:=yby (w:=V.getD i 0);omega) (by omega) (by rw[z2g];omega) C
     have hid:=hidx i hlt
     have hst:y4j V (i+1)=y5q (y4j V i) (4*i) 4 (V.getD i 0).toNat 4:=rfl
     have hc0:0<h3.length:=At.lt C
     generalize V.getD i 0=w at hid q4 e4 hst
     simp[hi8,hup,hid,q1,q2,q3,q4,e4,y2v,z3c,z4i]
     refine⟨hlt,?_⟩
     rw[hst]
     exact At.self hc0
    ·have:i=8:=by omega
     subst this
     have l1:=z34 C z2g
     have hsc:setCells ((y4j V 8).map ya) 0 ((y4j V 8).map ya)=(y4j V 8).map ya:=zh rfl
     have hss:h3.set 0 (.cells ((y4j V 8).map ya))=h3:=z71 C
     have C2:h3[0]? = some (.cells ((y4j V 8).map ya)):=C
     have hol:(y4j V 8).length=32:=z2g
     simp[l1,z8,C2,hsc,hss,hol]
     try trace_state
  ·rename_i h55
   obtain⟨d,h3,e3,rfl,rfl⟩:=yd0 (hp:=h++[Obj.cells ((tl1 r).map ya)]) (id:=h.length) (off:=56) (n:=8) (gr:=false) (m:=tl1 r) (b.length*8) (by omega) (by omega) (by unfold tl1;rw[bu,htl];omega) (by simp[Bys,At])
   rw[c4] at e3
   simp at e3
   simp[yf0,hL,hL8,y2v,e3,z3c,w56]
   have hM:(y5q (tl1 r) 56 8 (b.length*8) 8).length=128:=by rw[z40,z9u (by omega)]
   generalize y5q (tl1 r) 56 8 (b.length*8) 8=M at *
   refine zr 1 (fun j env h'=>∃(x4 x6 x7 x8 x9 x10 x11 x12 x13 x14 x15 x16 x17 x18 x19 x20 x21:D) (gr:Bool),env=[dBy b,.loc 0 0,.loc 1 0,.bfn 404 (.loc 1 0),x4,.sl h.length (64*j) (64 - 64*j) 1 false gr,x6,x7,x8,x9,x10,x11,x12,x13,x14,x15,x16,x17,x18,x19,x20,x21]/\Bys h' 0 z32/\Wds h' 1 (y3u M j S)/\Bys h' h.length M/\h.length<h'.length) 0 (by omega) ?_ ?_
   ·exact⟨_,_,_,_,_,_,_,_,_,_,_,_,_,_,_,_,_,true,rfl,B.app,W.app,by simp[Bys,At],by simp⟩
   rintro j env h' hj ⟨x4,x6,x7,x8,x9,x10,x11,x12,x13,x14,x15,x16,x17,x18,x19,x20,x21,gr,rfl,B1,W1,B2,hl1⟩
   by_cases hlt:j<1
   ·obtain⟨o,ho⟩:∃ o,o=64*j:=⟨_,rfl⟩
    obtain⟨l,hl⟩:∃ l,l=64 - o:=⟨_,rfl⟩
    have hb:y3u M (j+1) S=y34 (y3u M j S) ((M.drop o).take 64):=by rw[ho];rfl
    obtain⟨d,h2,e,rfl,w1,k1,l1⟩:=yf3 (st:=1) (hp:=h') (x:=.sl h.length o 64 1 false false) (b:=(M.drop o).take 64) (s:=y3u M j S) (z2i hS) (by simp;omega) W1 (zve B2 (by omega) (by omega) (by omega))
    rw[<- hb] at w1
    have B1':Bys h2 0 z32:=k1.at (by omega) (by omega) B1
    have B2':Bys h2 h.length M:=k1.at (by omega) hl1 B2
    rw[<- ho,<- hl]
    have e1:=zv0 (q:=h.length) (o:=o) (l:=l) (gr:=gr) (by omega)
    have e2:=zuy (q:=h.length) (o:=o) (l:=l) (gr:=gr) (by omega)
    have hpos:(0:Int)<l:=by omega
    have o1:64*(j+1)=o+64:=by omega
    have hpos':0<l:=by omega
    simp[hpos,hpos',e1,e2,e,z2d]
    exact⟨by omega,⟨by omega,by omega⟩,B1',w1,B2',by omega⟩
   ·have:j=1:=by omega
    subst this
    have hSl:(y3u M 1 S).length=8:=z2i hS
    have hsh:=hs2 (by omega)
    generalize y3u M 1 S=V at W1 hSl hsh
    obtain⟨a0,a1,a2,a3,a4,a5,a6,a7,hV⟩:=y9x hSl
    have W2:h'[1]? = some (.cells (V.map dW)):=W1
    rw[hV] at W2
    simp at W2
    simp[W2]
    rw[hsh]
    refine zr 8 (fun i env h3=>∃(x0 x2 x3 x4 x5 x6 x7 x8 x9 x10 x11 x12 x13 x14 x15 x16 x17 x20 x21:D) ,env=[x0,.loc 0 0,x2,x3,x4,x5,x6,x7,x8,x9,x10,x11,x12,x13,x14,x15,x16,x17,.agg [dW a0,dW a1,dW a2,dW a3,dW a4,dW a5,dW a6,dW a7],dI i,x20,x21]/\Bys h3 0 (y4j V i)) 0 (by omega) ?_ ?_
    ·exact⟨_,_,_,_,_,_,_,_,_,_,_,_,_,_,_,_,_,_,_,rfl,B1⟩
    rintro i env h3 hi ⟨x0,x2,x3,x4,x5,x6,x7,x8,x9,x10,x11,x12,x13,x14,x15,x16,x17,x20,x21,rfl,C⟩
    have hidx:∀ i,i<8->([dW a0,dW a1,dW a2,dW a3,dW a4,dW a5,dW a6,dW a7]:List D)[i]? = some (dW (V.getD i 0)):=fun i hi=>by
     have e:([dW a0,dW a1,dW a2,dW a3,dW a4,dW a5,dW a6,dW a7]:List D)=V.map dW:=by rw[hV];rfl
     rw[e,bK,aj,ae (by omega)];rfl
    by_cases hlt:i<8
    ·have hi8:(i:Int)<8:=by omega
     have hup:=zg hlt (by omega)
     have q1:aw.wrap (4*(i:Int))=4*(i:Int):=z7 ⟨by omega,by omega⟩
     have q2:aw.wrap (4*(i:Int)+4)=4*(i:Int)+4:=z7 ⟨by omega,by omega⟩
     have q3:=zuw hlt
     have q4:bd.wrap ((V.getD i 0).toNat:Int)=(V.getD i 0).toNat:=by have:=yby (w:=V.getD i 0);rw[z1a];omega
     obtain⟨d,h4,e4,rfl,rfl⟩:=yd0 (hp:=h3) (id:=0) (off:=4*i) (n:=4) (gr:=false) (m:=y4j V i) (V.getD i 0).toNat (by have:=yby (w:=V.getD i 0);omega) (by omega) (by rw[z2g];omega) C
     have hid:=hidx i hlt
     have hst:y4j V (i+1)=y5q (y4j V i) (4*i) 4 (V.getD i 0).toNat 4:=rfl
     have hc0:0<h3.length:=At.lt C
     generalize V.getD i 0=w at hid q4 e4 hst
     simp[hi8,hup,hid,q1,q2,q3,q4,e4,y2v,z3c,z4i]
     refine⟨hlt,?_⟩
     rw[hst]
     exact At.self hc0
    ·have:i=8:=by omega
     subst this
     have l1:=z34 C z2g
     have hsc:setCells ((y4j V 8).map ya) 0 ((y4j V 8).map ya)=(y4j V 8).map ya:=zh rfl
     have hss:h3.set 0 (.cells ((y4j V 8).map ya))=h3:=z71 C
     have C2:h3[0]? = some (.cells ((y4j V 8).map ya)):=C
     have hol:(y4j V 8).length=32:=z2g
     simp[l1,z8,C2,hsc,hss,hol]
     try trace_state

theorem s384(n:Int)(h:0<=n)(h':n<=1000000000)(hp:List Obj):y1o E (dL E) (384) [.imm .exact [],dI n] hp=some (.imm (.tok hp.length) [],hp++[.tok 0 1]):=by
 have e:E.fn (384)=some f384:=rfl
 have e2:E.mp 384=false:=rfl
 have e3 : ¬ n<0:=by omega
 have e4:n*2<=yg:=by unfold yg;omega
 have e5:y2u 1 []=true:=rfl
 unfold y1o
 simp only[e,e2,f384,ym,z8t,z5n,zga,z51,z6d,y2e]
 simp[yf,yd,yj,y25,DOp.fin,yl,yb,yn,gOf,z6d,y1z,y5n,y33,y1s,y32,y2m,y6s,y2l,y12,yh,y1y,z51,z89,yw,e3,e4,e5,h,y2p]

def y7w(ls:List (List UInt8))(i:Nat):List UInt8:=(ls.take i).flatten
theorem zvd{ls:List (List UInt8)}{i:Nat}(h:i<ls.length):y7w ls (i+1)=y7w ls i++ls[i]:=by
 unfold y7w
 rw[aH h,j5];simp
theorem zqm{ls:List (List UInt8)}{i:Nat}:(y7w ls i).length<=(y7w ls ls.length).length:=by
 have h:ls.flatten=(ls.take i).flatten++(ls.drop i).flatten:=by rw[<- j5,bp]
 unfold y7w
 rw[aS,h,ak];omega

theorem r365(ls:List (List UInt8))(h1:(y7w ls ls.length).length<=1000000000)(h2:ls.length<=1000000000):yu E (dL E) 365 [.imm .none (ls.map fun l=>.imm .none (l.map ya))]=some (.imm .none ((y7w ls ls.length).map ya)):=by
 refine ze c365 (by simp) ?_
 conv in t365=>reduce;dsimp[ah]
 simp[t365,n365]
 refine zr ls.length (fun i env h=>∃(x1 x3 x4 x5 x9 x10 x11 x12 x13 x14 x15 x16:D) (m:Nat),env=[.imm .none (ls.map fun l=>.imm .none (l.map ya)),x1,dI m,x3,x4,x5,.imm .none (ls.map fun l=>.imm .none (l.map ya)),dI ls.length,dI i,x9,x10,x11,x12,x13,x14,x15,x16]/\h=[]/\m=(y7w ls i).length) 0 (by omega) ⟨_,_,_,_,_,_,_,_,_,_,_,_,0,rfl,rfl,rfl⟩ ?_
 rintro i env h hi ⟨x1,x3,x4,x5,x9,x10,x11,x12,x13,x14,x15,x16,m,rfl,rfl,hm⟩
 by_cases hlt:i<ls.length
 ·have hs:=zvd hlt
  have hb:=zqm (ls:=ls) (i:=i+1)
  obtain⟨W,hW⟩:∃ W,ls[i]=W:=⟨_,rfl⟩
  rw[hW] at hs
  rw[hs,ak] at hb
  have w:=z7 (n:=(m:Int)+W.length) ⟨by omega,by omega⟩
  have hn : ¬ (m:Int)+W.length<0:=by omega
  rw[hm] at w hn
  simp[hlt,hW,w,hn,zg hlt (by omega),hs,hm]
 ·have:i=ls.length:=by omega
  subst this
  have e:=s384 (m:Int) (by omega) (by omega) []
  have fb:∀ l:List UInt8,((l.map ya).all fun d=>d.storable && d.cellsL.length == 1)=true:=fun l=>z87
  simp[e]
  refine zr ls.length (fun i env h=>∃(x1 x2 x3 x5 x6 x7 x8 x9 x10 x11 x15 x16:D) (k:Nat),env=[.imm .none (ls.map fun l=>.imm .none (l.map ya)),x1,x2,x3,.imm (.tok k) ((y7w ls i).map ya),x5,x6,x7,x8,x9,x10,x11,.imm .none (ls.map fun l=>.imm .none (l.map ya)),dI ls.length,dI i,x15,x16]/\At h k (.tok ((y7w ls i).length*1) 1)) 0 (by omega) ⟨_,_,_,_,_,_,_,_,_,_,_,_,0,rfl,rfl⟩ ?_
  clear hi hm e
  rintro i env h hi ⟨x1,x2,x3,x5,x6,x7,x8,x9,x10,x11,x15,x16,k,rfl,a1⟩
  by_cases hlt:i<ls.length
  ·have hs:=zvd hlt
   have hb:=zqm (ls:=ls) (i:=i+1)
   obtain⟨W,hW⟩:∃ W,ls[i]=W:=⟨_,rfl⟩
   obtain⟨C,hC⟩:∃ C,y7w ls i=C:=⟨_,rfl⟩
   obtain⟨C',hC'⟩:∃ C,y7w ls (i+1)=C:=⟨_,rfl⟩
   rw[hW,hC,hC'] at hs
   rw[hC',hs,ak] at hb
   have hap:=zt (l:=C) (new:=W.map ya) (by rw[ao];omega)
   rw[hC] at a1 ⊢
   have hcat:C.map ya++W.map ya=C'.map ya:=by rw[hs];simp
   have hlen:C'.length=C.length+W.length:=by rw[hs];simp
   simp[hlt,hW,z13,z14,a1.eq,hap,fb,zg hlt (by omega),↓hC']
   have hg:=z61 (hp:=h.set k Obj.dead) (r:=[Obj.tok (C.length+W.length) 1]) (k:=0)
   rw[bu,Nat.add_zero] at hg
   repeat apply Exists.intro
   refine⟨?_,hg.trans (by rw[hlen];rfl)⟩
   and_intros <;> first | rfl | exact hcat
  ·have:i=ls.length:=by omega
   subst this
   simp[z8]



theorem yc2(a b:List UInt8)(h:a.length+b.length<=1000000000):yu E (dL E) 365 [.imm .none [dBy a,dBy b]]=some (dBy (a++b)):=by
 have e:=r365 [a,b] (by simp[y7w];omega) (by simp)
 rw[show y7w [a,b] [a,b].length=a++b from by simp[y7w]] at e
 exact e

theorem z1o{b:List UInt8}:(y6b b).length=32:=by unfold y6b;split <;> exact z2g

def tgB:List UInt8->List UInt8->List UInt8:=fun t b=>y6b (y6b t++b)

theorem zay{H:List Obj}{n:Nat}:∀(l:List UInt8),(l.map ya).flatMap (ids H (n+1))=[]
 |[]=>rfl
 |c::l=>by
  rw[av,bD,zay l];rfl
theorem zx9{A:Obj}{T b:List UInt8}(hl:T.length=32):ids [A,.cells (T.map ya)] 12 (.imm .exact [.sl 1 0 32 1 false false,dBy b])=[1]:=by
 have h1:ids [A,.cells (T.map ya)] 11 (.sl 1 0 32 1 false false)=[1]:=by
  show 1::(((T.map ya).drop 0).take (32*1)).flatMap (ids [A,.cells (T.map ya)] 10)=[1]
  rw[cn,bg (by simp[hl]),zay]
 have h2:ids [A,.cells (T.map ya)] 11 (dBy b)=[]:=by
  show(b.map ya).flatMap (ids [A,.cells (T.map ya)] 10)=[]
  exact zay b
 show[D.sl 1 0 32 1 false false,dBy b].flatMap (ids [A,.cells (T.map ya)] 11)=[1]
 rw[bD,bD,h1,h2];rfl
theorem zt9{A:Obj}{cs:List D}:yv [A,.cells cs] [1]=[A,.frozen cs]:=rfl

theorem yfe(t b:List UInt8)(ht:t.length<=1000)(hb:b.length<=900000000):yu E (dL E) 331 [.str t,dBy b]=some (y4w (tgB t b)):=by
 have e1:=r364 t (by omega)
 have e2:=yc2 (y6b t) b (by rw[z1o];omega)
 have e3:=r364 (y6b t++b) (by rw[ak,z1o];omega)
 have hl:=z1o (b:=t)
 refine ze c331 (by simp) ?_
 conv in t331=>reduce;dsimp[ah]
 have hl3:=z1o (b:=y6b t++b)
 unfold tgB
 generalize y6b t=T at e1 e2 e3 hl hl3 ⊢
 generalize y6b (T++b)=U at e3 hl3 ⊢
 have hsl:y15 E 73 (.loc 1 0) none none none=some (.sl 1 0 32 1 false false):=rfl
 have hsc:setCells (z32.map ya) 0 (T.map ya)=T.map ya:=zh (by rw[ao,ao,hl];rfl)
 have hz:z32.map ya=af 32 (D.int .u8 0):=by unfold z32;rw[bS];rfl
 rw[hz] at hsc
 simp only[af] at hsc
 have hck:y3a 1 false 32 (T.map ya)=some (T.map ya):=by rw[z52 32 T (by omega),bg (by omega)]
 have hsc2:setCells (z32.map ya) 0 (U.map ya)=U.map ya:=zh (by rw[ao,ao,hl3];rfl)
 rw[hz] at hsc2
 simp only[af] at hsc2
 have hfa:y1p (frz [] 11) (T.map ya++b.map ya)=some (T.map ya++b.map ya):=by rw[<- bm];exact z8
 have e3':yu E (dL E) 364 [.imm .none (T.map ya++b.map ya)]=some (y4w U):=by rw[<- bm];exact e3
 have hid:=fun A:Obj=>zx9 (A:=A) (b:=b) hl
 have hld:∀ A:Obj,yo E [.cells (U.map ya),A] 73 (.loc 0 0)=some (.agg (U.map ya)):=fun A=>z34 rfl hl3
 simp[t331,n331,e1,e2,e3',z8,hl,hl3,hsl,↓hsc,↓hsc2,hck,hfa,↓hid,zt9,↓hld]

theorem r335(a b:List UInt8)(ha:a.length=32)(hb:b.length=32):yu E (dL E) 335 [y4w a,y4w b]=some (y4w (tgB [99,104,97,105,110] (a++b))):=by
 have e1:=yc2 a b (by omega)
 have e2:=yfe [99,104,97,105,110] (a++b) (by simp) (by simp;omega)
 have hl:(tgB [99,104,97,105,110] (a++b)).length=32:=z1o
 have s1:=z4a ha
 have s2:=z4a hb
 refine ze c335 (by simp) ?_
 conv in t335=>reduce;dsimp[ah]
 generalize tgB [99,104,97,105,110] (a++b)=U at e2 hl ⊢
 have e2':yu E (dL E) 331 [.str [99,104,97,105,110],.imm .none (a.map ya++b.map ya)]=some (y4w U):=by rw[<- bm];exact e2
 have hfa:y1p (frz [] 11) (a.map ya++b.map ya)=some (a.map ya++b.map ya):=by rw[<- bm];exact z8
 have hsc2:setCells (z32.map ya) 0 (U.map ya)=U.map ya:=zh (by rw[ao,ao,hl];rfl)
 have hz:z32.map ya=af 32 (D.int .u8 0):=by unfold z32;rw[bS];rfl
 rw[hz] at hsc2
 simp only[af] at hsc2
 have hld:∀ r:List Obj,yo E (.cells (U.map ya)::r) 73 (.loc 0 0)=some (.agg (U.map ya)):=fun r=>z34 rfl hl
 have hfz:frz [] 11 (.str [99,104,97,105,110])=some (.str [99,104,97,105,110]):=rfl
 have hfz2:frz [] 12 (.str [99,104,97,105,110])=some (.str [99,104,97,105,110]):=rfl
 simp[t335,n335,e1,e2',z8,ha,hb,hl,s1,s2,↓hsc2,hfa,↓hld,hfz,hfz2]

theorem zyz{x:Wd}{n:Nat}(h:n<=32):(x >>> n) ||| (x <<< (32 - n))=y59 x (32 - n):=by
 unfold y59
 rw[show 32 - (32 - n)=n from by omega,BitVec.or_comm]
theorem y9w(x:Wd)(n:Nat)(h:n<=32):yu E (dL E) 422 [dW x,dI n]=some (dW (y59 x (32 - n))):=by
 refine ze c422 (by simp) ?_
 conv in t422=>reduce;dsimp[ah]
 have hw:aw.wrap (32 - (n:Int))=((32 - n:Nat):Int):=by rw[z7 ⟨by omega,by omega⟩];omega
 have e1:=zkg (a:=x) (n:=n) h
 have e2:=zkh (a:=x) (n:=32 - n) (by omega)
 have e3:=yai (a:=x >>> n) (b:=x <<< (32 - n))
 have m1:min n 32=n:=bq h
 have m2:min (32 - n) 32=32 - n:=bq (by omega)
 rw[m1] at e1
 rw[m2] at e2
 rw[<- zyz h]
 simp[t422,n422,z56,hw,m1,m2,e1,e2,e3,-ev,-dY,-fu]

def yde(a b c d:UInt8):Wd:=(cj 32 a.toNat <<< 24) ||| (cj 32 b.toNat <<< 16) ||| (cj 32 c.toNat <<< 8) ||| cj 32 d.toNat
theorem zvo{a b c d:UInt8}{r:List UInt8}:y6y (a::b::c::d::r) 4=yde a b c d:=by
 unfold y6y yde
 simp only[de,fD,List.foldl_cons,List.foldl_nil]
 generalize cj 32 a.toNat=A
 generalize cj 32 b.toNat=B
 generalize cj 32 c.toNat=C
 generalize cj 32 d.toNat=D'
 have h0:((0:Wd) <<< 8 ||| A)=A:=by simp
 rw[h0]
 simp only[BitVec.shiftLeft_or_distrib,<- BitVec.shiftLeft_add]
theorem r421(b:List UInt8)(h:b.length=4):yu E (dL E) 421 [.imm .none (b.map ya)]=some (dW (y6y b 4)):=by
 match b,h with
 |[a,b,c,d],_=>
  refine ze c421 (by simp) ?_
  conv in t421=>reduce;dsimp[ah]
  have cv:∀ a:UInt8,cg.wrap (a.toNat:Int)=((cj 32 a.toNat).toNat:Nat):=fun a=>by
   have:=a.toNat_lt
   rw[z4l,iF];omega
  rw[zvo]
  unfold yde
  generalize hA:cj 32 a.toNat=A
  generalize hB:cj 32 b.toNat=B
  generalize hC:cj 32 c.toNat=C
  generalize hD:cj 32 d.toNat=D'
  have ca:=cv a
  have cb:=cv b
  have cc:=cv c
  have cd:=cv d
  rw[hA] at ca
  rw[hB] at cb
  rw[hC] at cc
  rw[hD] at cd
  have e1:=zkh (a:=A) (n:=24) (by omega)
  have e2:=zkh (a:=B) (n:=16) (by omega)
  have e3:=zkh (a:=C) (n:=8) (by omega)
  simp only[show min 24 32=24 from rfl,show min 16 32=16 from rfl,show min 8 32=8 from rfl] at e1 e2 e3
  have e1:cg.wrap ((A.toNat:Int)*16777216)=((A <<< 24).toNat:Nat):=e1
  have e2:cg.wrap ((B.toNat:Int)*65536)=((B <<< 16).toNat:Nat):=e2
  have e3:cg.wrap ((C.toNat:Int)*256)=((C <<< 8).toNat:Nat):=e3
  have f1:=yai (a:=A <<< 24) (b:=B <<< 16)
  have f2:=yai (a:=A <<< 24 ||| B <<< 16) (b:=C <<< 8)
  have f3:=yai (a:=A <<< 24 ||| B <<< 16 ||| C <<< 8) (b:=D')
  simp[t421,n421,y2v,z56,ca,cb,cc,cd,e1,e2,e3,f1,f2,f3,-ev,-fu]

end Dv

namespace Dv

def y1b:List (Int × Int)->List (Int × Int)
 |[]=>[]
 |[x]=>[x]
 |x::y::r=>if x=y then y1b (y::r) else x::y1b (y::r)

theorem zbd:∀{l:List (Int × Int)} {a:Int × Int},a ∈ y1b l ↔ a ∈ l
 |[],a=>by simp[y1b]
 |[x],a=>by simp[y1b]
 |x::y::r,a=>by
  have ih:=zbd (l:=y::r) (a:=a)
  unfold y1b
  split
  ·rename_i e
   rw[ih]
   subst e
   simp
  ·rw[az,ih]
   simp
theorem zjz:∀{l:List (Int × Int)},l ≠ []->y1b l ≠ []
 |[],h=>absurd rfl h
 |[x],_=>by simp[y1b]
 |x::y::r,_=>by
  unfold y1b
  split
  ·exact zjz (by simp)
  ·simp
theorem zmo:∀{l:List (Int × Int)},(y1b l).getLast? = l.getLast?
 |[]=>rfl
 |[x]=>rfl
 |x::y::r=>by
  have ih:=zmo (l:=y::r)
  unfold y1b
  split
  ·rw[ih];simp
  ·have hne:=zjz (l:=y::r) (by simp)
   obtain⟨z,zs,hz⟩:=List.exists_cons_of_ne_nil hne
   rw[hz] at ih ⊢
   rw[jb,ih]
   simp
theorem zcv:∀{l:List (Int × Int)} {a:Int × Int},y1b (l++[a])=if l.getLast? = some a then y1b l else y1b l++[a]
 |[],a=>by simp[y1b]
 |[x],a=>by
  simp only[aO,bh,y1b,List.getLast?_singleton,aa]
  split
  ·rename_i e;rw[e]
  ·rfl
 |x::y::r,a=>by
  have ih:=zcv (l:=y::r) (a:=a)
  have e:(x::y::r).getLast? = (y::r).getLast?:=jb
  rw[e]
  simp only[aO] at ih ⊢
  conv=>lhs;unfold y1b
  conv=>rhs;unfold y1b
  rw[ih]
  split
  ·rfl
  ·split <;> rfl
theorem z5o:∀{l:List (Int × Int)},(y1b l).length<=l.length
 |[]=>by simp[y1b]
 |[x]=>by simp[y1b]
 |x::y::r=>by
  have ih:=z5o (l:=y::r)
  unfold y1b
  split
  ·simp at ih ⊢;omega
  ·simp at ih ⊢;omega

theorem z4f{x y z:Int × Int}(h:y2o x y=true)(h':y2o y z=true):y2o x z=true:=by
 unfold y2o at *;simp at *;omega
theorem z3g{x:Int × Int}:y2o x x=false:=by unfold y2o;simp
theorem z3n{x y:Int × Int}(h:y2o y x=false):x=y\/y2o x y=true:=by
 unfold y2o at *
 simp at *
 by_cases e:x=y
 ·exact .inl e
 ·right
  have : ¬ (x.1=y.1/\x.2=y.2):=fun h=>e (kS h.1 h.2)
  omega

theorem z8u:∀{l:List (Int × Int)},l.Pairwise (fun x y=>y2o y x=false)->(y1b l).Pairwise fun x y=>y2o x y=true
 |[],_=>by simp[y1b]
 |[x],_=>by simp[y1b]
 |x::y::r,h=>by
  obtain⟨h1,h2⟩:=bN.1 h
  have ih:=z8u h2
  unfold y1b
  split
  ·exact ih
  ·rename_i hne
   refine bN.2 ⟨fun z hz=>?_,ih⟩
   have hz':=zbd.1 hz
   have hxy:=(z3n (h1 y (by simp))).resolve_left hne
   rcases az.1 hz' with rfl | hz'
   ·exact hxy
   ·rcases z3n ((bN.1 h2).1 z hz') with rfl | h3
    ·exact hxy
    ·exact z4f hxy h3

theorem z4d(l:List (Int × Int)):(y1m l).Perm l:=List.mergeSort_perm l _
theorem zfg{l:List (Int × Int)}{a:Int × Int}:a ∈ y1m l ↔ a ∈ l:=(z4d l).mem_iff
theorem z31(l:List (Int × Int)):(y1m l).length=l.length:=(z4d l).length_eq
theorem z5e(l:List (Int × Int)):(y1m l).Pairwise fun x y=>y2o y x=false:=by
 have h:=List.pairwise_mergeSort (le:=fun x y:Int × Int=>!y2o y x) (fun a b c h1 h2=>by
  unfold y2o at *;simp at *;omega) (fun a b=>by
  unfold y2o;simp;omega) l
 exact h.imp fun h=>by simpa using h

def y6n(l:List Pst):List (Int × Int):=y1b (y1m (y76 l))
theorem zkd{l:List Pst}{a:Int × Int}:a ∈ y6n l ↔ a ∈ y76 l:=by unfold y6n;rw[zbd,zfg]
theorem zbq(l:List Pst):(y6n l).Pairwise fun x y=>y2o x y=true:=z8u (z5e _)
theorem zn4(l:List Pst):(y6n l).Nodup:=(zbq l).imp fun {a b} h e=>by
 subst e;rw[z3g] at h;simp at h
theorem zuo{tg:Tag}{l:List Pst}(v:vld tg l)(m:Int):((y6n l).map fun a=>y4t a.1 a.2 m l).sum=0:=
 zk2 m l _ (zn4 l) (fun _ h=>zkd.2 h) fun p hp=>(v.2.1 p hp).sum
theorem zk6:∀{l:List Ent} {k i:Int},(∀ x,x ∈ l->y51 x) -> -(1099511627776*l.length:Int)<=yr k i l/\yr k i l<=1099511627776*l.length
 |[],k,i,_=>by simp[yr]
 |x::l,k,i,h=>by
  have ih:=zk6 (l:=l) (k:=k) (i:=i) fun y hy=>h y (by simp[hy])
  have hx:=(h x (by simp)).2.2.2
  simp only[yr,aA]
  split <;> omega
def y3t:List Pst->Nat
 |[]=>0
 |p::l=>p.ents.length+y3t l
theorem zhz(a b:List Pst):y3t (a++b)=y3t a+y3t b:=by
 induction a with
 |nil=>simp[y3t]
 |cons x a ih=>simp only[aO,y3t,ih];omega
theorem z9i:∀(l:List Pst),(y76 l).length=y3t l
 |[]=>rfl
 |p::l=>by
  have:=z9i l
  simp only[y76,bD,ak,ao,y3t] at this ⊢
  omega
theorem zqx:∀{l:List Pst} {k i m:Int},(∀ p,p ∈ l->∀ x,x ∈ p.ents->y51 x) -> -(1099511627776*y3t l:Int)<=y4t k i m l/\y4t k i m l<=1099511627776*y3t l
 |[],k,i,m,_=>by simp[y4t,y3t]
 |p::l,k,i,m,h=>by
  have ih:=zqx (l:=l) (k:=k) (i:=i) (m:=m) fun q hq=>h q (by simp[hq])
  have hp:=zk6 (k:=k) (i:=i) (h p (by simp))
  simp only[y4t,y3t]
  split <;> omega

end Dv

namespace Dv

def y7h(x:Ent):Ent:=⟨x.kind,x.idx,-x.amt⟩
def y4o(l:List Ent):List Ent:=l.map y7h
theorem zj0(l:List Ent):(y4o l).length=l.length:=ao _
theorem zrp:∀(l:List Ent),y4g (y4o l) = -y4g l
 |[]=>rfl
 |x::l=>by
  have:=zrp l
  simp only[y4o,av,y4g] at this ⊢
  rw[this];simp[y7h];omega
theorem zbp{k i:Int}:∀(l:List Ent),yr k i (y4o l) = -yr k i l
 |[]=>rfl
 |x::l=>by
  have:=zbp (k:=k) (i:=i) l
  simp only[y4o,av,yr] at this ⊢
  rw[this]
  simp only[y7h]
  split <;> omega
end Dv

namespace Dv

abbrev Key:=Int × Int
abbrev y43:=List (Key × Int)
def y4p(a:Key):y43->Option Int
 |[]=>none
 |e::r=>if a=e.1 then some e.2 else y4p a r
def y2t(a:Key)(m:y43):Int:=(y4p a m).getD 0
def y81(a:Key)(n:Int):y43->y43
 |[]=>[(a,n)]
 |e::r=>if a=e.1 then(a,n)::r else e::y81 a n r
def ybt(a:Key)(n:Int)(m:y43):y43:=y81 a (y2t a m+n) m
def y2i(m:y43):List Key:=m.map fun e=>e.1
def y5s(m:y43):List Key->List Ent
 |[]=>[]
 |a::r=>if y2t a m=0 then y5s m r else⟨a.1,a.2,y2t a m⟩::y5s m r
def y9z(m:y43):List Ent:=y5s m (y1m (y2i m))

theorem zj5{a b:Key}{n:Int}:∀{m:y43},y4p b (y81 a n m)=if b=a then some n else y4p b m
 |[]=>by simp[y81,y4p]
 |e::r=>by
  have ih:=zj5 (a:=a) (b:=b) (n:=n) (m:=r)
  unfold y81
  by_cases h:a=e.1
  ·rw[if_pos h]
   by_cases h2:b=a
   ·simp[y4p,h2]
   ·have : ¬ b=e.1:=fun h3=>h2 (h3.trans h.symm)
    simp[y4p,h2,this]
  ·rw[if_neg h]
   unfold y4p
   rw[ih]
   by_cases h2:b=e.1
   ·have : ¬ b=a:=fun h3=>h (h3.symm.trans h2)
    rw[if_pos h2,if_neg this,if_pos h2]
   ·rw[if_neg h2,if_neg h2]
theorem zli{a b:Key}{n:Int}{m:y43}:y2t b (ybt a n m)=y2t b m+if a=b then n else 0:=by
 unfold ybt y2t
 rw[zj5]
 by_cases h:b=a
 ·subst h;simp
 ·have : ¬ a=b:=fun e=>h e.symm
  simp[h,this]
theorem zdx{a:Key}{n:Int}:∀{m:y43},y2i (y81 a n m)=if a ∈ y2i m then y2i m else y2i m++[a]
 |[]=>rfl
 |e::r=>by
  have ih:=zdx (a:=a) (n:=n) (m:=r)
  unfold y81
  by_cases h:a=e.1
  ·rw[if_pos h,if_pos (by simp[y2i,h])]
   simp[y2i,h]
  ·rw[if_neg h]
   have e2:∀(x:Key × Int) (q:y43),y2i (x::q)=x.1::y2i q:=fun _ _=>rfl
   rw[e2,e2,ih]
   by_cases hm:a ∈ y2i r
   ·rw[if_pos hm,if_pos (bI _ hm)]
   ·rw[if_neg hm,if_neg (by simp[h,hm])];rfl
theorem zon{a:Key}{n:Int}{m:y43}(h:(y2i m).Nodup):(y2i (y81 a n m)).Nodup:=by
 rw[zdx]
 split
 ·exact h
 ·rename_i h2
  rw[List.nodup_append]
  refine⟨h,by simp,fun x hx y hy e=>?_⟩
  simp only[fq] at hy
  subst hy;subst e
  exact h2 hx
theorem zfr{a:Key}:∀{m:y43},a ∉ y2i m->y4p a m=none
 |[],_=>rfl
 |e::r,h=>by
  simp only[y2i,av,az,not_or] at h
  unfold y4p
  rw[if_neg h.1]
  exact zfr h.2
theorem zwx{a:Key}{n:Int}{m:y43}:(y81 a n m).length<=m.length+1:=by
 have h:=congrArg cJ (zdx (a:=a) (n:=n) (m:=m))
 by_cases hm:a ∈ y2i m
 ·rw[if_pos hm] at h
  simp only[y2i,ao] at h
  omega
 ·rw[if_neg hm] at h
  simp only[y2i,ao,ak,aA,ba] at h
  omega

def y3i(x:Ent):Key:=(x.kind,x.idx)
def y3s(l:List Ent):Prop:=(l.map y3i).Pairwise fun a b=>y2o a b=true
theorem z6l{a b:Key}:y2o a b=true ↔ a.1<b.1\/a.1=b.1/\a.2<b.2:=by unfold y2o;simp
theorem za1{l:List Ent}:y3s l ↔ yd5 l:=by
 constructor
 ·intro h i hi
  have:=fW.1 h i (i+1) (by simp;omega) (by simpa using hi) (by omega)
  simp only[gR] at this
  exact z6l.1 this
 ·intro h
  have key:∀(d i:Nat) (hi:i+d+1<l.length),y2o (y3i (l[i]'(by omega))) (y3i l[i+d+1])=true:=by
   intro d
   induction d with
   |zero=>intro i hi;exact z6l.2 (h i hi)
   |succ d ih=>
    intro i hi
    have h1:=ih i (by omega)
    have h2:y2o (y3i (l[i+d+1]'(by omega))) (y3i l[i+d+1+1])=true:=z6l.2 (h (i+d+1) (by omega))
    exact z4f h1 h2
  refine fW.2 fun i j hi hj hij=>?_
  have hj2:j<l.length:=by simpa using hj
  simp only[gR]
  have:=key (j - i - 1) i (by omega)
  have e:i+(j - i - 1)+1=j:=by omega
  simp only[e] at this
  exact this
theorem z9f{k i:Int}:∀{l:List Ent},(k,i) ∉ l.map y3i->yr k i l=0
 |[],_=>rfl
 |x::l,h=>by
  simp only[av,az,not_or] at h
  simp only[yr]
  rw[if_neg fun e=>h.1 (by unfold y3i;rw[e.1,e.2]),z9f h.2];rfl
theorem z2a{x:Ent}{l:List Ent}:y3s (x::l) ↔ (∀ a,a ∈ l.map y3i->y2o (y3i x) a=true)/\y3s l:=by
 unfold y3s;rw[av,bN]
theorem z3h{x:Ent}{l:List Ent}(h:y3s (x::l)):yr x.kind x.idx (x::l)=x.amt:=by
 simp only[yr,and_self,if_true]
 rw[z9f fun hm=>by
  have:=(z2a.1 h).1 _ hm
  rw[show y3i x=(x.kind,x.idx) from rfl,z3g] at this;cases this]
 omega
theorem zq5:∀{l l':List Ent},y3s l->y3s l'->(∀ e,e ∈ l->e.amt ≠ 0)->(∀ e,e ∈ l'->e.amt ≠ 0)->(∀ k i,yr k i l=yr k i l')->l=l'
 |[],[],_,_,_,_,_=>rfl
 |[],e::r,_,o,_,n,h=>by
  have:=h e.kind e.idx
  rw[z3h o] at this
  exact absurd this.symm (n e (by simp))
 |e::r,[],o,_,n,_,h=>by
  have:=h e.kind e.idx
  rw[z3h o] at this
  exact absurd this (n e (by simp))
 |e::r,f::s,o,o',n,n',h=>by
  have low:∀{x:Ent} {t:List Ent} {a:Ent},y3s (x::t)->y2o (y3i a) (y3i x)=true->yr a.kind a.idx (x::t)=0:=fun {x t a} ho hl=>by
   refine z9f fun hm=>?_
   have hm:y3i a ∈ (x::t).map y3i:=hm
   rw[av] at hm
   rcases az.1 hm with he | hy
   ·rw[he,z3g] at hl;cases hl
   ·have:=z4f hl ((z2a.1 ho).1 _ hy)
    rw[z3g] at this;cases this
  have ha:y3i e=y3i f:=by
   by_cases h1:y2o (y3i e) (y3i f)=true
   ·have:=h e.kind e.idx
    rw[z3h o,low o' h1] at this
    exact absurd this (n e (by simp))
   ·rcases z3n (by simpa using h1) with h2 | h2
    ·exact h2.symm
    ·have:=h f.kind f.idx
     rw[z3h o',low o h2] at this
     exact absurd this.symm (n' f (by simp))
  have h1:e.kind=f.kind/\e.idx=f.idx:=by simpa[y3i] using ha
  have hm:e.amt=f.amt:=by
   have:=h e.kind e.idx
   rw[z3h o,h1.1,h1.2,z3h o'] at this
   exact this
  have he:e=f:=by cases e;cases f;simp at h1 hm;simp[h1,hm]
  subst he
  have hr:r=s:=by
   refine zq5 (z2a.1 o).2 (z2a.1 o').2 (fun x hx=>n x (by simp[hx])) (fun x hx=>n' x (by simp[hx])) fun k i=>?_
   have:=h k i
   simp only[yr] at this
   omega
  rw[hr]

theorem zff{l:List Key}(h:l.Nodup):(y1m l).Pairwise fun a b=>y2o a b=true:=by
 have h1:=z5e l
 have h2:(y1m l).Nodup:=(z4d l).nodup_iff.2 h
 refine List.Pairwise.imp₂ (fun a b h3 h4=>?_) h1 h2
 rcases z3n h3 with h5 | h5
 ·exact absurd h5 h4
 ·exact h5
theorem z7r{m:y43}:∀{l:List Key},((y5s m l).map y3i).Sublist l
 |[]=>by simp[y5s]
 |a::r=>by
  have ih:=z7r (m:=m) (l:=r)
  unfold y5s
  split
  ·exact ih.cons a
  ·exact ih.cons_cons a
theorem zq6{m:y43}(h:(y2i m).Nodup):y3s (y9z m):=(zff h).sublist z7r
theorem zi0{m:y43}:∀{l:List Key} {e:Ent},e ∈ y5s m l->e.amt ≠ 0/\e.amt=y2t (y3i e) m
 |[],e,h=>by simp[y5s] at h
 |a::r,e,h=>by
  unfold y5s at h
  split at h
  ·exact zi0 h
  ·rename_i h1
   rcases az.1 h with rfl | h
   ·exact⟨h1,rfl⟩
   ·exact zi0 h
theorem zk4{m:y43}{k i:Int}:∀{l:List Key},l.Nodup->yr k i (y5s m l)=if(k,i) ∈ l then y2t (k,i) m else 0
 |[],_=>rfl
 |a::r,h=>by
  obtain⟨h1,h2⟩:=dS.1 h
  have ih:=zk4 (m:=m) (k:=k) (i:=i) h2
  unfold y5s
  by_cases ha:a=(k,i)
  ·subst ha
   rw[if_neg h1] at ih
   split
   ·rename_i h0;rw[ih,if_pos (by simp),h0]
   ·simp[yr,ih]
  ·have hn : ¬ (a.1=k/\a.2=i):=fun e=>ha (kS e.1 e.2)
   have hn2 : ¬ (k,i)=a:=fun e=>ha e.symm
   have e2:((k,i) ∈ a::r) ↔ ((k,i) ∈ r):=by simp[hn2]
   split
   ·rw[ih];simp[hn2]
   ·simp only[yr]
    rw[if_neg hn,ih];simp[hn2]
theorem zul{m:y43}(h:(y2i m).Nodup){k i:Int}:yr k i (y9z m)=y2t (k,i) m:=by
 unfold y9z
 rw[zk4 ((z4d _).nodup_iff.2 h)]
 split
 ·rfl
 ·rename_i h1
  rw[zfg] at h1
  unfold y2t
  rw[zfr h1];rfl

def y1l(l:List Ent)(m:y43):y43:=l.foldl (fun m x=>ybt (y3i x) x.amt m) m
theorem z9w{x:Ent}{l:List Ent}{m:y43}:y1l (x::l) m=y1l l (ybt (y3i x) x.amt m):=rfl
theorem zd9{a b:List Ent}{m:y43}:y1l (a++b) m=y1l b (y1l a m):=gz
theorem z5b:∀{l:List Ent} {m:y43},(y2i m).Nodup->(y2i (y1l l m)).Nodup
 |[],m,h=>h
 |x::l,m,h=>z5b (l:=l) (zon h)
theorem z6g{k i:Int}:∀{l:List Ent} {m:y43},y2t (k,i) (y1l l m)=y2t (k,i) m+yr k i l
 |[],m=>by simp[y1l,yr]
 |x::l,m=>by
  rw[z9w,z6g,zli]
  simp only[yr,y3i,au]
  omega
theorem z5t:∀{l:List Ent} {m:y43},(y1l l m).length<=m.length+l.length
 |[],m=>by simp[y1l]
 |x::l,m=>by
  rw[z9w]
  have h1:=z5t (l:=l) (m:=ybt (y3i x) x.amt m)
  have h2:(ybt (y3i x) x.amt m).length<=m.length+1:=zwx
  simp only[aA];omega
theorem zk7{k i:Int}:∀{l:List Ent} {B:Int},(∀ x,x ∈ l -> -B<=x.amt/\x.amt<=B)->0<=B -> -(B*l.length)<=yr k i l/\yr k i l<=B*l.length
 |[],B,_,_=>by simp[yr]
 |x::l,B,h,h0=>by
  have ih:=zk7 (k:=k) (i:=i) (l:=l) (fun y hy=>h y (by simp[hy])) h0
  have hx:=h x (by simp)
  have e:B*((x::l).length:Nat)=B*l.length+B:=by rw[aA];push_cast;rw[Int.mul_add];omega
  rw[e]
  simp only[yr]
  split <;> omega

def y7g(l:List Ent):List Ent:=y9z (y1l l [])
theorem zsf{l:List Ent}:y3s (y7g l):=zq6 (z5b (by simp[y2i]))
theorem zz4{l:List Ent}:∀ e,e ∈ y7g l->e.amt ≠ 0:=fun e h=>(zi0 h).1
theorem zhd{l:List Ent}{k i:Int}:yr k i (y7g l)=yr k i l:=by
 unfold y7g
 rw[zul (z5b (by simp[y2i])),z6g]
 simp[y2t,y4p]
theorem zdq{l r:List Ent}(h:y3s r)(hn:∀ e,e ∈ r->e.amt ≠ 0)(ha:∀ k i,yr k i r=yr k i l):y7g l=r:=
 zq5 zsf h zz4 hn fun k i=>by rw[zhd,ha]
theorem zoq{l:List Ent}:y7g l=[] ↔ ∀ k i,yr k i l=0:=by
 constructor
 ·intro h k i
  rw[<- zhd,h];rfl
 ·intro h
  exact zdq (by simp[y3s]) (by simp) fun k i=>by rw[h];rfl
theorem zws{l:List Ent}:(y7g l).length<=l.length:=by
 have h1:=(z7r (m:=y1l l []) (l:=y1m (y2i (y1l l [])))).length_le
 have h2:=z5t (l:=l) (m:=[])
 rw[z31] at h1
 simp only[y2i,ao,ba] at h1 h2
 unfold y7g y9z
 simp only[y2i]
 omega
def y3o(x:Ent):List Ent->List Ent
 |[]=>[x]
 |e::r=>if ltA e x then e::y3o x r else if y3i e=y3i x then⟨e.kind,e.idx,e.amt+x.amt⟩::r else x::e::r
def y3y(l:List Ent):List Ent:=l.filter fun e=>!decide (e.amt=0)
theorem zk5{k i:Int}{x:Ent}:∀{l:List Ent},yr k i (y3o x l)=yr k i l+yr k i [x]
 |[]=>by simp[y3o,yr]
 |e::r=>by
  have ih:=zk5 (k:=k) (i:=i) (x:=x) (l:=r)
  simp only[y3o]
  split
  ·simp only[yr,ih];omega
  ·split
   ·rename_i _ h
    have h:e.kind=x.kind/\e.idx=x.idx:=by simpa[y3i] using h
    simp only[yr,h.1,h.2]
    split <;> omega
   ·simp only[yr];omega
theorem zj2{x:Ent}:∀{l:List Ent} {a:Key},a ∈ (y3o x l).map y3i->a=y3i x\/a ∈ l.map y3i
 |[],a,h=>by
  simp only[y3o,av,aQ,fq] at h
  exact .inl h
 |e::r,a,h=>by
  simp only[y3o] at h
  split at h
  ·rcases az.1 h with h | h
   ·exact .inr (by simp[h])
   ·rcases zj2 h with h | h
    ·exact .inl h
    ·exact .inr (by rw[av];exact bI _ h)
  ·split at h
   ·rcases az.1 h with h | h
    ·exact .inr (by simp[h,y3i])
    ·exact .inr (by rw[av];exact bI _ h)
   ·rcases az.1 h with h | h
    ·exact .inl h
    ·exact .inr h
theorem zf7{x:Ent}:∀{l:List Ent},y3s l->y3s (y3o x l)
 |[],_=>by simp[y3o,y3s]
 |e::r,h=>by
  obtain⟨h1,h2⟩:=z2a.1 h
  simp only[y3o]
  split
  ·rename_i hl
   refine z2a.2 ⟨fun a ha=>?_,zf7 h2⟩
   rcases zj2 ha with rfl | ha
   ·exact z6l.2 hl
   ·exact h1 a ha
  ·rename_i hl
   split
   ·exact z2a.2 ⟨h1,h2⟩
   ·rename_i hk
    have h3:y2o (y3i x) (y3i e)=true:=by
     rcases z3n (x:=y3i x) (y:=y3i e) (by
      rw[Bool.eq_false_iff];exact fun h=>hl (z6l.1 h)) with h4 | h4
     ·exact absurd h4.symm hk
     ·exact h4
    refine z2a.2 ⟨fun a ha=>?_,h⟩
    rw[av] at ha
    rcases az.1 ha with rfl | ha
    ·exact h3
    ·exact z4f h3 (h1 a ha)
theorem zgi{k i:Int}:∀{l:List Ent},yr k i (y3y l)=yr k i l
 |[]=>rfl
 |e::r=>by
  have ih:=zgi (k:=k) (i:=i) (l:=r)
  unfold y3y at ih ⊢
  rw[List.filter_cons]
  split
  ·simp only[yr,ih]
  ·rename_i h
   have:e.amt=0:=by simpa using h
   simp only[yr,ih,this]
   split <;> omega
theorem zkt{l:List Ent}(h:y3s l):y3s (y3y l):=h.sublist ((List.filter_sublist).map _)
theorem zsg{l:List Ent}:∀ e,e ∈ y3y l->e.amt ≠ 0:=fun e h=>by
 have:=(List.mem_filter.1 h).2
 simpa using this
def y87(l:List Ent)(x:List Ent):List Ent:=l.foldl (fun x e=>y3o e x) x
theorem zgj:∀{l x:List Ent},y3s x->y3s (y87 l x)
 |[],x,h=>h
 |e::l,x,h=>zgj (l:=l) (zf7 h)
theorem zk9{k i:Int}:∀{l x:List Ent},yr k i (y87 l x)=yr k i x+yr k i l
 |[],x=>by simp[y87,yr]
 |e::l,x=>by
  show yr k i (y87 l (y3o e x))=_
  rw[zk9,zk5]
  simp only[yr];omega
theorem zwt{l x:List Ent}(h:y3s x):y3y (y87 l x)=y7g (x++l):=by
 refine(zdq (zkt (zgj h)) zsg fun k i=>?_).symm
 rw[zgi,zk9,z44]

end Dv

namespace Dv
attribute [local simp] af depth y2x y6l y31 y2f y6k y3b y3p y1y Ret
attribute [local congr] z2r z2v z20 z1l z1d z24 z1c


abbrev pC(p:Pst):List D:=dI p.no::dI p.minute::dI p.corrects :: .imm .none (p.ents.map y11)::p.prev.map ya
theorem zft{h:List Obj}{p:Pst}(h32:p.prev.length=32):yo E h 71 (.iptr (pC p))=some (y3n p):=zdz h32
theorem zsm{h r:List Obj}{p:Pst}(h32:p.prev.length=32):yo E (h ++ .cells (pC p)::r) 71 (.loc h.length 0)=some (y3n p):=by
 have e:=z1x 36 0 (pC p) (by simp[h32])
 have e2:(h++Obj.cells (pC p)::r)[h.length]? = some (.cells (pC p)):=by simp
 unfold yo
 simp only[e2,show(E.ty 71).size=36 from rfl,e]
 rfl
theorem stP{p:Pst}(h32:p.prev.length=32):setCells (dI p.no::dI p.minute::dI p.corrects :: .imm .none (p.ents.map y11)::af 32 (D.int .u8 0)) 4 (p.prev.map ya)=pC p:=by
 have e:=z10 (a:=[dI p.no,dI p.minute,dI p.corrects,.imm .none (p.ents.map y11)]) (b:=af 32 (D.int .u8 0)) (off:=0) (vs:=p.prev.map ya)
 rw[zh (by simp[h32])] at e
 exact e

def y5m(l:List Pst):Prop:=l.length<=1000000 /\ ∀ p,p ∈ l->p.prev.length=32/\p.ents.length<=1000000
open Classical in
noncomputable def rdD(l:List Pst):D:=.tup [y4w (if rdE tgB l=0 then y40 tgB l else z32),dI (rdE tgB l)]
theorem z88:∀{a b:List Pst},y2q a=0->y2q (a++b)=y2q b
 |[],b,_=>rfl
 |p::a,b,h=>by
  simp only[y2q,aO] at h ⊢
  split at h
  ·rename_i hp
   rw[if_pos hp];exact z88 h
  ·rename_i hp;exact absurd h hp
theorem zg3{l:List Pst}{i:Nat}(h:i<l.length)(h0:y2q (l.take i)=0)(hp:y4a l[i] ≠ 0):y2q l=y4a l[i]:=by
 have e:l=l.take i++l.drop i:=(bp i l).symm
 have e2:y2q l=y2q (l.drop i):=by
  conv=>lhs;rw[e]
  exact z88 h0
 rw[e2,bC h,y2q,if_neg hp]
theorem zjr{l:List Pst}{i:Nat}(h:i<l.length)(h0:y2q (l.take i)=0)(hp:y4a l[i]=0):y2q (l.take (i+1))=0:=by
 rw[aH h,z88 h0,y2q,if_pos hp];rfl

theorem z7y{H:List Obj}{q:Nat}{m:List UInt8}(B:Bys H q m)(h:m.length=32):yo E H 73 (.loc q 0)=some (.agg (m.map ya)):=by
 have B2:H[q]? = some (.cells (m.map ya)):=B
 have e:=z1x 32 0 (m.map ya) (by simp[h])
 unfold yo
 simp only[yz,B2,show(E.ty 73).size=32 from rfl,e]
 rfl
theorem zb9:∀{a b:List UInt8},a.length=b.length->eqL (a.map ya) (b.map ya)=some (decide (a=b))
 |[],[],_=>rfl
 |x::a,y::b,h=>by
  have ih:=zb9 (a:=a) (b:=b) (by simpa using h)
  have e:y20 (ya x) (ya y)=some (((x.toNat:Int)) == (y.toNat:Int)):=by unfold y20 ya;simp
  rw[av,av,eqL,e,ih]
  simp only[aa]
  by_cases hxy:x=y
  ·subst hxy;simp
  ·have : ¬ ((x.toNat:Int))=(y.toNat:Int):=fun h=>hxy (UInt8.toNat_inj.1 (by omega))
   simp[hxy,this]
 |[],_::_,h=>by simp at h
 |_::_,[],h=>by simp at h
theorem z6n:∀{a:List UInt8},y1r (a.map ya) (af a.length (D.int .u8 0))=true
 |[]=>rfl
 |x::a=>by
  rw[av,aA,List.replicate_succ]
  simp only[y1r,ya,decide_true,Bool.true_and]
  exact z6n
theorem zdr{a b:List UInt8}(ha:a.length=32)(hb:b.length=32):y2l E .neq 73 (.agg (a.map ya)) (.agg (b.map ya))=some (.bool (!decide (a=b))):=by
 have h1:(E.ty 73).eqc=true:=rfl
 have h2:(E.ty 73).zero=af a.length (D.int .u8 0):=by rw[ha];rfl
 unfold y2l
 simp only[]
 rw[if_pos ⟨h1,by rw[h2];exact z6n⟩,zb9 (by rw[ha,hb])]
theorem yfo{h r:List Obj}{p:Pst}(h32:p.prev.length=32):yo E (h ++ .cells (pC p)::r) 73 (.loc h.length 4)=some (.agg (p.prev.map ya)):=by
 have e:=z1x 32 4 (pC p) (by simp[h32])
 have e2:(h++Obj.cells (pC p)::r)[h.length]? = some (.cells (pC p)):=by simp
 unfold yo
 simp only[e2,show(E.ty 73).size=32 from rfl,e]
 rfl
theorem y3q:∀{l:List Pst},(y40 tgB l).length=32:=by
 intro l
 unfold y40
 rcases List.eq_nil_or_concat l with e | ⟨a,b,e⟩
 ·rw[e]
  show(tgB y4f []).length=32
  exact z1o
 ·rw[e,List.concat_eq_append,gz];exact(show(y6b _).length=32 from z1o)

theorem r354(l:List Pst)(h:y5m l):yu E (dL E) 354 [yy l]=some (rdD l):=by
 refine ze c354 (by simp) ?_
 conv in t354=>reduce;dsimp[ah]
 obtain⟨hl,hp⟩:=h
 by_cases hlen:65536<l.length
 ·have hE:rdE tgB l=2:=by unfold rdE;rw[if_pos hlen]
  unfold rdD
  rw[hE,if_neg (by decide)]
  have hln:(65536:Int)<l.length:=by omega
  simp[t354,n354,hln]
  rfl
 ·have hln : ¬ (65536:Int)<l.length:=by omega
  simp[t354,n354,hln]
  refine zr l.length (fun i env h=>∃(x2 x3 x4 x5 x6 x7 x8 x9 x13 x14 x15 x16 x17 x18 x19 x20 x21 x22 x23:D) ,env=[yy l,.loc 0 0,x2,x3,x4,x5,x6,x7,x8,x9,yy l,dI l.length,dI i,x13,x14,x15,x16,x17,x18,x19,x20,x21,x22,x23]/\Bys h 0 z32/\y2q (l.take i)=0) 0 (by omega) ?_ ?_
  ·exact⟨_,_,_,_,_,_,_,_,_,_,_,_,_,_,_,_,_,_,_,rfl,rfl,rfl⟩
  rintro i env h hi ⟨x2,x3,x4,x5,x6,x7,x8,x9,x13,x14,x15,x16,x17,x18,x19,x20,x21,x22,x23,rfl,B,F⟩
  by_cases hlt:i<l.length
  ·obtain⟨p,hpi⟩:∃ p,p=l[i]:=⟨_,rfl⟩
   have hp2:=hp p (by rw[hpi];exact aC hlt)
   have h355:=yfc p hp2.1 hp2.2
   have hup:=zg hlt (by omega)
   have hli:l[i]? = some p:=by rw[hpi];simp[hlt]
   have q1:=fun h:List Obj=>zft (h:=h) hp2.1
   have q2:=fun h:List Obj=>zsm (h:=h) (r:=[]) hp2.1
   have q3:=stP hp2.1
   have z1:∀ r:List Obj,yo E (h++r) 73 (.loc 0 0)=some (.agg (z32.map ya)):=fun r=>z34 B.app rfl
   have z2:∀ r:List Obj,(h++r)[0]? = some (.cells (z32.map ya)):=fun r=>B.app
   have z3:setCells (z32.map ya) 0 (z32.map ya)=z32.map ya:=zh rfl
   have z4:∀ r:List Obj,(h++r).set 0 (.cells (z32.map ya))=h++r:=fun r=>z71 B.app
   have z5:z32.length=32:=rfl
   simp only[af] at q3
   simp[hlt,hup,<- hpi,hp2.1,↓q1,↓q2,↓q3,zq,z8,h355,↓z1,↓z2,z3,↓z4,z5]
   by_cases hpc:y4a p=0
   ·rw[if_pos hpc]
    exact⟨B.app,zjr hlt F (by rw[<- hpi];exact hpc)⟩
   ·rw[if_neg hpc]
    have hf:=zg3 hlt F (by rw[<- hpi];exact hpc)
    rw[<- hpi] at hf
    have hE:rdE tgB l=y4a p:=by unfold rdE;rw[if_neg hlen,if_pos (by rw[hf];exact hpc),hf]
    unfold rdD
    rw[hE,if_neg hpc]
  ·have:i=l.length:=by omega
   subst this
   rw[aS] at F
   have z1:∀ r:List Obj,yo E (h++r) 73 (.loc 0 0)=some (.agg (z32.map ya)):=fun r=>z34 B.app rfl
   have e331:=yfe y4f [] (by decide) (by simp)
   have hT:tgB y4f []=y3g tgB:=rfl
   rw[hT] at e331
   have hTl:(y3g tgB).length=32:=y3q (l:=[])
   have hd0:y3g tgB=y40 tgB (l.take 0):=by rw[fD];rfl
   have e331:yu E (dL E) 331 [.str [112,111,115,116,105,110,103,115],.imm .none []]=some (y4w (y3g tgB)):=e331
   generalize y3g tgB=d0 at e331 hTl hd0
   have hsc2:setCells (z32.map ya) 0 (d0.map ya)=d0.map ya:=zh (by rw[ao,ao,hTl];rfl)
   have hz:z32.map ya=af 32 (D.int .u8 0):=by unfold z32;rw[bS];rfl
   rw[hz] at hsc2
   simp only[af] at hsc2
   have hst:∀ n s,frz [] (n+1) (.str s)=some (.str s):=fun _ _=>rfl
   simp[e331,hTl,↓hsc2,hst]
   obtain⟨C,hC⟩:∃ C,C=h.length:=⟨_,rfl⟩
   have hC0:0<C:=by rw[hC];exact At.lt B
   refine zr l.length (fun i env h'=>∃(x2 x3 x4 x6 x7 x8 x9 x10 x11 x12 x13 x14 x15 x19 x20 x21 x22 x23:D) ,env=[yy l,.loc 0 0,x2,x3,x4,.loc C 0,x6,x7,x8,x9,x10,x11,x12,x13,x14,x15,yy l,dI l.length,dI i,x19,x20,x21,x22,x23]/\Bys h' 0 z32/\Bys h' C (y40 tgB (l.take i)) /\ ∀ j p,j<i->l[j]? = some p->atP tgB l j p) 0 (by omega) ?_ ?_
   ·rw[<- hC]
    exact⟨_,_,_,_,_,_,_,_,_,_,_,_,_,_,_,_,_,_,rfl,B.app,by rw[<- hd0,hC];simp[Bys,At],fun j p hj=>absurd hj (by omega)⟩
   rintro i env h' hi ⟨x2,x3,x4,x6,x7,x8,x9,x10,x11,x12,x13,x14,x15,x19,x20,x21,x22,x23,rfl,B0,BC,V⟩
   by_cases hlt:i<l.length
   ·obtain⟨p,hpi⟩:∃ p,p=l[i]:=⟨_,rfl⟩
    have hp2:=hp p (by rw[hpi];exact aC hlt)
    have h334:=r334 p hp2.1 hp2.2
    have hgp:gdP p:=z2p.1 F p (by rw[hpi];exact aC hlt)
    unfold ybr at h334
    rw[if_pos (z1t.2 hgp)] at h334
    have hup:=zg hlt (by omega)
    have hli:l[i]? = some p:=by rw[hpi];simp[hlt]
    have q1:=fun h:List Obj=>zft (h:=h) hp2.1
    have q2:=fun r:List Obj=>zsm (h:=h') (r:=r) hp2.1
    have q3:=stP hp2.1
    have q4:=fun r:List Obj=>yfo (h:=h') (r:=r) hp2.1
    have z1:∀ r:List Obj,yo E (h'++r) 73 (.loc 0 0)=some (.agg (z32.map ya)):=fun r=>z34 B0.app rfl
    have z2:∀ r:List Obj,(h'++r)[0]? = some (.cells (z32.map ya)):=fun r=>B0.app
    have z3:setCells (z32.map ya) 0 (z32.map ya)=z32.map ya:=zh rfl
    have z4:∀ r:List Obj,(h'++r).set 0 (.cells (z32.map ya))=h'++r:=fun r=>z71 B0.app
    have z5:z32.length=32:=rfl
    obtain⟨Z,hZ⟩:∃ Z,Z=y40 tgB (l.take i):=⟨_,rfl⟩
    rw[<- hZ] at BC
    have hZ32:Z.length=32:=by rw[hZ];exact y3q
    have y1:∀ r:List Obj,yo E (h'++r) 73 (.loc C 0)=some (.agg (Z.map ya)):=fun r=>z7y BC.app hZ32
    have y2:∀ r:List Obj,(h'++r)[C]? = some (.cells (Z.map ya)):=fun r=>BC.app
    have y3:=zdr hp2.1 hZ32
    have y1':∀ r r2:List Obj,yo E (h'++r++r2) 73 (.loc C 0)=some (.agg (Z.map ya)):=fun r r2=>by rw[a8];exact y1 _
    have q4':∀ r:List Obj,yo E (h'++[.cells (pC p)]++r) 73 (.loc h'.length 4)=some (.agg (p.prev.map ya)):=fun r=>by rw[a8];exact q4 _
    have q2':∀ r:List Obj,yo E (h'++[.cells (pC p)]++r) 71 (.loc h'.length 0)=some (y3n p):=fun r=>by rw[a8];exact q2 _
    simp only[af] at q3
    have hen:(y62 p).length<=900000000:=by
     have:=ze8 (ze0 hgp.fm) hp2.2 (by omega)
     omega
    have e331p:=yfe y2a (y62 p) (by decide) hen
    have hT32:(tgB y2a (y62 p)).length=32:=z1o
    have e335:=r335 Z (tgB y2a (y62 p)) hZ32 hT32
    have hN:tgB [99,104,97,105,110] (Z++tgB y2a (y62 p))=y40 tgB (l.take (i+1)):=by rw[zba hlt,<- hZ,<- hpi];rfl
    rw[hN] at e335
    have e331p:yu E (dL E) 331 [.str [112,111,115,116,105,110,103],dBy (y62 p)]=some (y4w (tgB y2a (y62 p))):=e331p
    generalize tgB y2a (y62 p)=Tp at e331p e335 hT32 hN
    clear hN
    have hN32:=y3q (l:=l.take (i+1))
    obtain⟨N,hNe⟩:∃ N,N=y40 tgB (l.take (i+1)):=⟨_,rfl⟩
    rw[<- hNe] at e335 hN32
    have y5:setCells (Z.map ya) 0 (N.map ya)=N.map ya:=zh (by rw[ao,ao,hZ32,hN32])
    have y6:∀ r:List Obj,(h'++r).set C (.cells (N.map ya))=h'.set C (.cells (N.map ya))++r:=fun r=>z1p (At.lt BC)
    have fin:∀ r:List Obj,Bys (h'.set C (.cells (N.map ya))++r) 0 z32/\Bys (h'.set C (.cells (N.map ya))++r) C (y40 tgB (l.take (i+1)))/\(p.no=i->p.prev=Z->(∀ q,0<i->l[i - 1]? = some q->q.minute<=p.minute)->∀ j p,j<i+1->l[j]? = some p->atP tgB l j p):=by
     intro r
     refine⟨(At.ne B0 (by omega)).app,by rw[<- hNe];exact(At.self (At.lt BC)).app,fun h1 h2 h3 j p' hj hp'=>?_⟩
     by_cases hji:j<i
     ·exact V j p' hji hp'
     ·have:j=i:=by omega
      subst this
      rw[hli] at hp'
      cases hp'
      exact⟨h1,by rw[h2,hZ],fun k q hk hq=>h3 q (by omega) (by rw[show j - 1=k from by omega];exact hq)⟩
    have bad:(¬ p.no=i\/(∃ q,l[i - 1]? = some q/\0<i/\p.minute<q.minute) \/ ¬ p.prev=Z)->rdD l=.tup [y4w z32,dI 410]:=by
     intro hb
     have hv : ¬ vld tgB l:=by
      intro v
      have a:=v.2.2 i p hli
      rcases hb with h1 | ⟨q,h1,h2,h3⟩ | h1
      ·exact h1 a.no
      ·have:=a.minute (i - 1) q (by omega) h1
       omega
      ·exact h1 (by rw[hZ];exact a.prev)
     have hE:rdE tgB l=410:=by unfold rdE;rw[if_neg hlen,if_neg (by simp[F]),if_neg hv]
     unfold rdD
     rw[hE,if_neg (by decide)]
    by_cases hno:p.no=(i:Int)
    ·have hno':=eq_true hno
     have hst2:(0<i /\ ∃ q,l[i - 1]? = some q/\q.prev.length=32)\/i=0:=by
      rcases bR i with h0 | h0
      ·exact .inr h0
      ·exact .inl ⟨h0,l[i - 1],ae (by omega),(hp _ (aC _)).1⟩
     have hw1:0<i->aw.wrap ((i:Int) - 1)=((i - 1:Nat):Int):=fun h0=>by
      rw[z7 ⟨by omega,by omega⟩];omega
     by_cases hpv:p.prev=Z
     ·have hpv':=eq_true hpv
      rcases hst2 with⟨h0,q,hq,hq32⟩ | h0
      ·by_cases hm:p.minute<q.minute
       ·rw[bad (.inr (.inl ⟨q,hq,h0,hm⟩))]
        simp[hlt,<- hpi,hp2.1,↓q1,↓q3,↓q4,↓q4',↓q2,↓q2',↓y1,↓y1',y3,hno',h0,hw1 h0,hq,hq32,hm,↓z1,↓z2,z3,↓z4,z5,z8]
       ·simp[hlt,<- hpi,hp2.1,↓q1,↓q3,↓q4,↓q4',↓q2,↓q2',↓y1,↓y1',y3,hno',h0,hw1 h0,hq,hq32,hm,hpv',hup,h334,zq,z8,hst,e331p,e335,hT32,hZ32,hN32,y5,↓y2,↓y6]
        exact⟨(fin _).1,(fin _).2.1,(fin []).2.2 hno hpv fun q' _ hq'=>by rw[hq] at hq';cases hq';omega⟩
      ·have h0' : ¬ 0<i:=by omega
       simp[h0',hlt,<- hpi,hp2.1,↓q1,↓q3,↓q4,↓q4',↓q2,↓q2',↓y1,↓y1',y3,hno',hpv',hup,h334,zq,z8,hst,e331p,e335,hT32,hZ32,hN32,y5,↓y2,↓y6]
       exact⟨(fin _).1,(fin _).2.1,(fin []).2.2 hno hpv fun q' h0 _=>absurd h0 h0'⟩
     ·rw[bad (.inr (.inr hpv))]
      rcases hst2 with⟨h0,q,hq,hq32⟩ | h0
      ·by_cases hm:p.minute<q.minute
       ·simp[hlt,<- hpi,hp2.1,↓q1,↓q3,↓q4,↓q4',↓q2,↓q2',↓y1,↓y1',y3,hno',h0,hw1 h0,hq,hq32,hm,↓z1,↓z2,z3,↓z4,z5,z8]
       ·simp[hlt,<- hpi,hp2.1,↓q1,↓q3,↓q4,↓q4',↓q2,↓q2',↓y1,↓y1',y3,hno',h0,hw1 h0,hq,hq32,hm,hpv,↓z1,↓z2,z3,↓z4,z5,z8]
      ·have h0' : ¬ 0<i:=by omega
       simp[h0',hlt,<- hpi,hp2.1,↓q1,↓q3,↓q4,↓q4',↓q2,↓q2',↓y1,↓y1',y3,hno',hpv,↓z1,↓z2,z3,↓z4,z5,z8]
    ·rw[bad (.inl hno)]
     simp[hlt,<- hpi,hp2.1,↓q1,↓q3,↓q4,↓q4',↓q2,↓q2',↓y1,↓y1',y3,hno,↓z1,↓z2,z3,↓z4,z5,z8]
   ·have:i=l.length:=by omega
    subst this
    rw[aS] at BC
    have hv:vld tgB l:=⟨by omega,fun p hp=>z2p.1 F p hp,fun i p hi=>V i p (ac.1 hi).1 hi⟩
    have hE:rdE tgB l=0:=z17.2 hv
    have y1:=z7y BC y3q
    have z2:h'[0]? = some (.cells (z32.map ya)):=B0
    have y4:setCells (z32.map ya) 0 ((y40 tgB l).map ya)=(y40 tgB l).map ya:=zh (by rw[ao,ao,y3q];rfl)
    have hl0:0<h'.length:=At.lt B0
    have y5:Bys (h'.set 0 (.cells ((y40 tgB l).map ya))) 0 (y40 tgB l):=At.self hl0
    have y6:=z34 y5 y3q
    have hD:rdD l=.tup [y4w (y40 tgB l),dI 0]:=by unfold rdD;rw[hE,if_pos rfl]
    have d32:=y3q (l:=l)
    rw[hD]
    have z5:z32.length=32:=rfl
    simp[y1,z2,y4,↓y6,d32,z5,z8]

theorem z6x:∀(a b:List D) (k:Nat) (pre:List D),pre.length=k->y1x (pre++a++b) k a.length=some a
 |[],b,k,pre,h=>rfl
 |x::a,b,k,pre,h=>by
  have ih:=z6x a b (k+1) (pre++[x]) (by simp[h])
  have hx:(pre++(x::a)++b)[k]? = some x:=by
   rw[a8,aF (by omega),h,fc];rfl
  rw[aA,y1x,hx]
  have e:pre++[x]++a++b=pre++x::a++b:=by simp
  rw[e] at ih
  rw[ih]
theorem z8c{sz:Nat}:∀(els:List D),(∀ x,x ∈ els->x.cellsL.length=sz/\yk true x.cellsL=some x)->y3a sz true els.length (yi els)=some els
 |[],_=>rfl
 |x::els,h=>by
  obtain⟨h1,h2⟩:=h x (by simp)
  have ih:=z8c els fun y hy=>h y (by simp[hy])
  have ht:=z6x x.cellsL (yi els) 0 [] rfl
  rw[bh,h1] at ht
  rw[aA,y3a,zy,ht]
  simp only[h2]
  rw[show(x.cellsL++yi els).drop sz=yi els from by rw[<- h1];simp,ih]

theorem zcb{p:Pst}(h:p.prev.length=32):(pC p).length=36:=by simp[h]
theorem zz1{p:Pst}:∀ d,d ∈ pC p->d.atom=true:=by
 intro d hd
 simp only[pC,az,aT] at hd
 rcases hd with rfl | rfl | rfl | rfl | ⟨b,_,rfl⟩ <;> rfl
theorem zuv{p:Pst}:(y3n p).storable=true:=by
 show(pC p).all D.atom=true
 rw[aD];exact zz1
theorem zg2{l:List Pst}(h:∀ p,p ∈ l->p.prev.length=32):y2u 36 (l.map y3n)=true:=by
 unfold y2u
 rw[aD]
 intro x hx
 obtain⟨p,hp,rfl⟩:=aT.1 hx
 have h1:((y3n p).cellsL.length == 36)=true:=by
  show((pC p).length == 36)=true
  rw[zcb (h p hp)];rfl
 rw[zuv,h1];rfl
theorem zaq{hp:List Obj}{sp:y13}{l:List Pst}(h:∀ p,p ∈ l->p.prev.length=32):y12 hp 36 true (.imm sp (l.map y3n))=some (l.map y3n):=by
 have:=zg2 h
 unfold y2u at this
 simp only[y12]
 rw[if_pos this]
def pCs(l:List Pst):List D:=yi (l.map y3n)
theorem zwq{l:List Pst}(h:∀ p,p ∈ l->p.prev.length=32):(pCs l).length=l.length*36:=by
 have:=zcr (zg2 h)
 unfold pCs
 rw[this,ao]
theorem zsa{l:List Pst}{p:Pst}:pCs l++yi [y3n p]=pCs (l++[p]):=by unfold pCs;rw[bm,z19];rfl
theorem zmt{l:List Pst}(h:∀ p,p ∈ l->p.prev.length=32):y3a 36 true l.length (pCs l)=some (l.map y3n):=by
 have:=z8c (sz:=36) (l.map y3n) fun x hx=>by
  obtain⟨p,hp,rfl⟩:=aT.1 hx
  exact⟨zcb (h p hp),rfl⟩
 rw[ao] at this
 exact this
theorem za{hp:List Obj}{n:Nat}{l:List Pst}:y1p (frz hp (n+5)) (l.map y3n)=some (l.map y3n):=z1e fun _ _=>zxd
theorem e70:(E.ty 70).k=.slice 71:=rfl
theorem zr3{hp:List Obj}{id:Nat}{sp:y13}{l:List Pst}(h:∀ p,p ∈ l->p.prev.length=32)(hl:l.length<=1000000)(h0:l ≠ []) :
  y1s E hp id 70 70 (.imm .exact []) (.imm sp (l.map y3n))=some ⟨.sl id 0 l.length 36 true true,some (.cells (pCs l)),none⟩:=by
 have h4 : ¬ l.length=0:=fun h=>h0 (cm h)
 have h5:(0+l.length)*(80+1)<=yg/\80<=65536/\(y22 E 71).isSome=true/\y2u 36 ([]:List D)=true:=⟨by simp[yg];omega,by decide,rfl,rfl⟩
 unfold y1s
 simp only[e70]
 rw[show y12 hp (E.ty 71).size (E.ty 71).ag (.imm sp (l.map y3n))=some (l.map y3n) from zaq h]
 simp only[ao,ba]
 rw[if_neg h4,show(E.ty 71).bytes=80 from rfl,show(E.ty 71).size=36 from rfl,if_pos h5]
 simp only[bA,pCs,yi,List.flatMap_nil,bh]
 rfl

def cpy(n:Nat)(l:List Pst):D:=if l=[] then .imm .exact [] else .sl n 0 l.length 36 true true
def y8w(l:List Pst):List Obj:=if l=[] then[] else[.cells (pCs l)]
theorem s356(l:List Pst)(h:∀ p,p ∈ l->p.prev.length=32)(hl:l.length<=1000000)(hp:List Obj):y1o E (dL E) 356 [yy l] hp=some (cpy hp.length l,hp++y8w l):=by
 have:∃ d hp',y1o E (dL E) 356 [yy l] hp=some (d,hp')/\(d=cpy hp.length l/\hp'=hp++y8w l):=by
  refine z30 c356 (args:=[yy l]) (hp:=hp) (R:=fun d hp'=>d=cpy hp.length l/\hp'=hp++y8w l) (by simp) ?_
  conv in t356=>reduce;dsimp[ah]
  by_cases h0:l=[]
  ·subst h0
   simp[t356,n356,cpy,y8w,y1s,y12,yh]
  ·have ap:=fun hp id=>zr3 (hp:=hp) (id:=id) (sp:=.none) h hl h0
   simp[t356,n356,cpy,y8w,ap,yh,h0]
 obtain⟨d,hp',e,rfl,rfl⟩:=this
 exact e
theorem yfl(l:List Pst)(h:∀ p,p ∈ l->p.prev.length=32)(hl:l.length<=1000000)(hp:List Obj):y6h (y1o E (dL E)) 356 [yy l] hp=some (cpy hp.length l,hp++y8w l):=by
 unfold y6h
 rw[s356 l h hl,df]
 have hm:yw (cpy hp.length l)=false:=by unfold cpy;split <;> rfl
 simp only[y16,hm,Bool.false_eq_true,if_false,aq,aa,au,true_and]
 rw[List.drop_append_of_le_length (by simp),gE (by simp),bh]

theorem yc5(l:List Pst)(h:y5m l):yu E (dL E) 324 [yy l]=some (dI (rdE tgB l)):=by
 refine ze c324 (by simp) ?_
 conv in t324=>reduce;dsimp[ah]
 have e:=r354 l h
 unfold rdD at e
 simp[t324,n324,e,za]

theorem zcj{hp:List Obj}{sp:y13}{p:Pst}(h:p.prev.length=32):y12 hp 36 true (.imm sp [y3n p])=some [y3n p]:=zaq (l:=[p]) (by simp[h])
theorem zuh{pre:List Obj}{l:List Pst}{p:Pst}{sp:y13}(h:∀ p,p ∈ l->p.prev.length=32)(hp:p.prev.length=32)(hl:l.length<=1000000) :
  ∃ m X,y33 E (pre++y8w l) 70 70 (cpy pre.length l) (.imm sp [y3n p])=some (.sl m 0 (l.length+1) 36 true true,X)/\At X m (.cells (pCs (l++[p]))):=by
 by_cases h0:l=[]
 ·subst h0
  refine⟨pre.length,pre++[.cells (pCs [p])],?_,by simp[At]⟩
  have h5:(0+1)*(80+1)<=yg/\80<=65536/\(y22 E 71).isSome=true/\y2u 36 ([]:List D)=true:=⟨by simp[yg],by decide,rfl,rfl⟩
  unfold y33 cpy y8w
  simp only[if_true,List.append_nil,e70]
  rw[show y12 pre (E.ty 71).size (E.ty 71).ag (.imm sp [y3n p])=some [y3n p] from zcj hp]
  simp only[aA,ba]
  rw[if_neg (by simp),show(E.ty 71).bytes=80 from rfl,show(E.ty 71).size=36 from rfl,if_pos h5]
  rfl
 ·have hg:(pre++y8w l)[pre.length]? = some (.cells (pCs l)):=by unfold y8w;rw[if_neg h0];simp
  refine⟨(pre++y8w l).length,(pre++y8w l).set pre.length .dead++[.cells (pCs (l++[p]))],?_,by simp[At]⟩
  have h5:(l.length+1)*(80+1)<=yg/\80<=65536/\(y22 E 71).isSome=true/\(36:Nat)=36/\(pCs l).length=l.length*36:=⟨by simp[yg];omega,by decide,rfl,rfl,zwq h⟩
  unfold y33 cpy
  simp only[if_neg h0,e70]
  rw[show y12 (pre++y8w l) (E.ty 71).size (E.ty 71).ag (.imm sp [y3n p])=some [y3n p] from zcj hp,hg]
  simp only[aA,ba]
  rw[if_neg (by simp),show(E.ty 71).bytes=80 from rfl,show(E.ty 71).size=36 from rfl,if_pos h5,zsa]
  rfl
theorem zsz{X:List Obj}{m n:Nat}{L:List Pst}{gr:Bool}(h:At X m (.cells (pCs L)))(h32:∀ p,p ∈ L->p.prev.length=32):frz X (n+6) (.sl m 0 L.length 36 true gr)=some (yy L):=by
 have hr:yz X m=some (pCs L):=by unfold yz;rw[h.eq]
 show(match yz X m with | some cs=>(match y3a 36 true L.length (cs.drop 0) with | some els=>(y1p (frz X (n+5)) els).map (D.imm .none) | none=>none) | none=>none)=_
 rw[hr]
 simp only[cn]
 rw[zmt h32]
 simp only[]
 rw[za]
 rfl

open Classical in
noncomputable def poD(l:List Pst)(s:Stp):D:=.tup [yy (if y2z tgB l s=0 then l++[y72 tgB l s] else[]),dI (y2z tgB l s)]

theorem r316(l:List Pst)(s:Stp)(h:y5m l)(hs:s.ents.length<=1000000):yu E (dL E) 316 [yy l,dI s.minute,dI s.corrects,.imm .none (s.ents.map y11)]=some (poD l s):=by
 refine ze c316 (by simp) ?_
 conv in t316=>reduce;dsimp[ah]
 have e354:=r354 l h
 unfold rdD at e354
 obtain⟨d,hd⟩:∃ d,d=(if rdE tgB l=0 then y40 tgB l else z32):=⟨_,rfl⟩
 have h32:d.length=32:=by rw[hd];split;exact y3q;rfl
 rw[<- hd] at e354
 have hsc:=zh (a:=af 32 (D.int .u8 0)) (vs:=d.map ya) (by simp[h32])
 simp only[af] at hsc
 by_cases h0:rdE tgB l=0
 ·have v:=z17.1 h0
  have h0':rdE tgB l=0:=h0
  rw[if_pos h0] at hd
  have hl:l.length<=65536:=v.1
  rw[h0] at e354
  by_cases hmax:l.length=65536
  ·have hm:((l.length:Nat):Int)=65536:=by omega
   have hE:y2z tgB l s=2:=by unfold y2z;rw[if_neg (by simp[h0]),if_pos hmax]
   unfold poD
   rw[hE,if_neg (by decide)]
   simp[t316,n316,e354,za,h32,hsc,hm]
  ·have hm : ¬ ((l.length:Nat):Int)=65536:=by omega
   have hlast:(0<l.length /\ ∃ q,l[l.length - 1]? = some q/\q.prev.length=32/\l.getLast? = some q) \/ ¬ 0<l.length:=by
    rcases bR l.length with h1 | h1
    ·exact .inr (by omega)
    ·exact .inl ⟨h1,l[l.length - 1],ae (by omega),(h.2 _ (aC _)).1,by rw[dO,ae (by omega)]⟩
   have hw1:0<l.length->aw.wrap ((l.length:Int) - 1)=((l.length - 1:Nat):Int):=fun h0=>by
    rw[z7 ⟨by omega,by omega⟩];omega
   obtain⟨p,hp⟩:∃ p:Pst,p=y72 tgB l s:=⟨_,rfl⟩
   have hp2:p=⟨l.length,s.minute,s.corrects,s.ents,d⟩:=by rw[hp,hd];rfl
   have p32:p.prev.length=32:=by rw[hp2];exact h32
   have hpE:(∀ q,l.getLast? = some q -> ¬ s.minute<q.minute)->y2z tgB l s=y4a p:=fun hq=>by
    rw[hp];exact zac v (by omega) fun q h=>by have:=hq q h;omega
   have q4:setCells (dI (l.length:Int)::dI s.minute::dI s.corrects :: .imm .none (s.ents.map y11)::af 32 (D.int .u8 0)) 4 (d.map ya)=pC p:=by
    rw[hp2];exact stP (p:=⟨l.length,s.minute,s.corrects,s.ents,d⟩) h32
   have q2:∀(x:Obj) (r:List Obj),yo E (x :: .cells (pC p)::r) 71 (.loc 1 0)=some (y3n p):=fun x r=>zsm (h:=[x]) (r:=r) p32
   have q2':∀(x:Obj) (r r2:List Obj),yo E (x :: .cells (pC p)::r++r2) 71 (.loc 1 0)=some (y3n p):=fun x r r2=>q2 x (r++r2)
   have q3:=stP p32
   simp only[af] at q3 q4
   have hld:∀ r:List Obj,yo E (.cells (d.map ya)::r) 73 (.loc 0 0)=some (.agg (d.map ya)):=fun r=>z34 (m:=d) (by simp[Bys,At]) h32
   have h355:=yfc p p32 (by rw[hp2];exact hs)
   have m356:=yfl l (fun p hp=>(h.2 p hp).1) h.1
   have hst:(pC p).length=36:=zcb p32
   obtain⟨m,X,hG,hX⟩:=zuh (pre:=[.cells (d.map ya),.cells (pC p),.dead,.dead,.dead,.dead,.dead,.dead,.dead]) (sp:=.exact) (fun p hp=>(h.2 p hp).1) p32 h.1
   have hL32:∀ q,q ∈ l++[p]->q.prev.length=32:=fun q hq=>by
    rcases aN.1 hq with hq | hq
    ·exact(h.2 q hq).1
    ·simp at hq;rw[hq];exact p32
   have hfz:=zsz (n:=5) (gr:=true) hX hL32
   have hll:(l++[p]).length=l.length+1:=by simp
   rw[hll] at hfz
   simp only[aO,bh,aA,ba] at hG
   rcases hlast with⟨h1,q,hq,hq32,hql⟩ | h1
   ·by_cases hmn:s.minute<q.minute
    ·have hE:y2z tgB l s=410:=by unfold y2z;rw[if_neg (by simp[h0]),if_neg hmax,if_pos ⟨q,hql,hmn⟩]
     unfold poD
     rw[hE,if_neg (by decide)]
     simp[t316,n316,e354,za,h32,hsc,hm,h1,hw1 h1,hq,hq32,hmn]
    ·have hE:=hpE fun q' h=>by rw[hql] at h;cases h;exact hmn
     simp[t316,n316,e354,za,h32,hsc,hm,h1,hw1 h1,hq,hq32,hmn,-zl,hld,↓q4,p32,q2,↓q3,zq,z8,h355,m356,hG,hfz]
     unfold poD
     rw[hE,<- hp]
     by_cases hc:y4a p=0
     ·simp[hc]
     ·simp[hc]
   ·have hE:=hpE fun q' h=>by
     have:l=[]:=cm (by omega)
     subst this;simp at h
    simp[t316,n316,e354,za,h32,hsc,hm,h1,-zl,hld,↓q4,p32,q2,↓q3,zq,z8,h355,m356,hG,hfz]
    unfold poD
    rw[hE,<- hp]
    by_cases hc:y4a p=0
    ·simp[hc]
    ·simp[hc]
 ·have hE:y2z tgB l s=rdE tgB l:=by unfold y2z;rw[if_pos h0]
  have hne : ¬ rdE tgB l=0:=h0
  unfold poD
  rw[hE,if_neg h0]
  simp[t316,n316,e354,za,h32,hsc,hne]

theorem r359(l:List Pst):yu E (dL E) 359 [yy l]=some (.fn 380 [.iptr [yy l]]):=by
 refine ze c359 (by simp) ?_
 conv in t359=>reduce;dsimp[ah]
 simp[t359,n359,za]

def y4k(l:List Pst):List (Int × Ent):=l.flatMap fun p=>p.ents.map fun x=>(p.minute,x)
theorem zlt:y4k []=[]:=rfl
theorem z4y{p:Pst}{l:List Pst}:y4k (p::l)=(p.ents.map fun x=>(p.minute,x))++y4k l:=rfl

theorem yfp{H:List Obj}{q:Nat}{p:Pst}(B:At H q (.cells (pC p))):yo E H 66 (.loc q 3)=some (.imm .none (p.ents.map y11)):=by
 unfold yo
 simp only[B.eq,show(E.ty 66).size=1 from rfl]
 rfl
theorem ld2{H:List Obj}{q:Nat}{p:Pst}(B:At H q (.cells (pC p))):yo E H 2 (.loc q 1)=some (dI p.minute):=by
 unfold yo
 simp only[B.eq,show(E.ty 2).size=1 from rfl]
 rfl

theorem i380(l:List Pst)(ok:y5m l)(L:Nat)(J:Nat->List (Int × Ent)->List Obj->Prop)(Fin:List Obj->Prop)
  (hext:∀ f rem hp r,J f rem hp->J f rem (hp++r))
  (hown:∀ f rem hp r,J f rem hp->J hp.length rem (hp++r))
  (hy:∀ f x rem hp o,J f (x::rem) hp->At hp f o->∃ t hp',y3m (dL E) L [dI x.1,y11 x.2] hp=some (.bool t,hp')/\(t=true->J f rem hp'/\At hp' f o)/\(t=false->Fin hp'))
  {hp:List Obj} {f0:Nat} (h0:J f0 (y4k l) hp) :
  ∃ d hp',y1o E (dL E) 380 [.yld L,.iptr [yy l]] hp=some (d,hp')/\((∃ f,J f [] hp')\/Fin hp'):=by
 refine z30 c380 (R:=fun _ hp'=>(∃ f,J f [] hp')\/Fin hp') (by simp) ?_
 conv in t380=>reduce;dsimp[ah]
 have hl:=ok.1
 simp[t380,n380]
 refine zr l.length (fun i env hp=>∃(x2 x3 x7 x8 x9 x10 x11 x12 x13 x14 x15:D) ,env=[.yld L,.iptr [yy l],x2,x3,yy l,dI l.length,dI i,x7,x8,x9,x10,x11,x12,x13,x14,x15] /\
  ∃ f,J f (y4k (l.drop i)) hp) 0 (by omega) ⟨_,_,_,_,_,_,_,_,_,_,_,rfl,f0,by simpa using h0⟩ ?_
 rintro i env hp hi ⟨x2,x3,x7,x8,x9,x10,x11,x12,x13,x14,x15,rfl,f,hJ⟩
 by_cases hlt:i<l.length
 rotate_left
 ·have:i=l.length:=by omega
  subst this
  rw[bE,zlt] at hJ
  simp
  exact .inl ⟨f,hJ⟩
 obtain⟨p,hpi⟩:∃ p,p=l[i]:=⟨_,rfl⟩
 have hp2:=ok.2 p (by rw[hpi];exact aC hlt)
 have hup:=zg hlt (by omega)
 rw[zk hlt,<- hpi,z4y] at hJ
 obtain⟨rest,hrest⟩:∃ rest,rest=y4k (l.drop (i+1)):=⟨_,rfl⟩
 rw[<- hrest] at hJ
 have q1:=fun h:List Obj=>zft (h:=h) hp2.1
 have q3:=stP hp2.1
 simp only[af] at q3
 have hJ1:=hown _ _ _ [.cells (pC p)] hJ
 have hA1:At (hp++[.cells (pC p)]) hp.length (.cells (pC p)):=by simp[At]
 have y1:=yfp hA1
 simp[hlt,<- hpi,hp2.1,-zl,q1,↓q3,y1]
 generalize hp++[Obj.cells (pC p)]=H0 at hJ1 hA1
 generalize hp.length=C at hJ1 hA1
 have hel:=hp2.2
 refine zr p.ents.length (fun j env h=>∃(x3 x7 x8 x12 x13 x14 x15:D) ,env=[.yld L,.iptr [yy l],.loc C 0,x3,yy l,dI l.length,dI i,x7,x8,.imm .none (p.ents.map y11),dI p.ents.length,dI j,x12,x13,x14,x15] /\
  J C ((p.ents.drop j).map (fun x=>(p.minute,x))++rest) h/\At h C (.cells (pC p))) 0 (by omega) ⟨_,_,_,_,_,_,_,rfl,by simpa using hJ1,hA1⟩ ?_
 rintro j env h hj ⟨x3,x7,x8,x12,x13,x14,x15,rfl,hJ2,hA2⟩
 by_cases hlt2:j<p.ents.length
 rotate_left
 ·have:j=p.ents.length:=by omega
  subst this
  simp only[bE,aQ,bh] at hJ2
  rw[hrest] at hJ2
  simp[hlt,hup]
  exact⟨C,hJ2⟩
 have hup2:=zg hlt2 (by omega)
 obtain⟨x,hx⟩:∃ x,x=p.ents[j]:=⟨_,rfl⟩
 rw[zk hlt2,av,aO,<- hx] at hJ2
 have y2:=fun r:List Obj=>ld2 (hA2.app (r:=r))
 have y3:yo E (h++[.cells [dI x.kind,dI x.idx,dI x.amt]]) 72 (.loc h.length 0)=some (y11 x):=by
  unfold yo
  simp only[List.getElem?_concat_length]
  rfl
 obtain⟨t,hp2,e1,e2,e3⟩:=hy C (p.minute,x) _ _ _ (hext _ _ _ [.cells [dI x.kind,dI x.idx,dI x.amt]] hJ2) (hA2.app)
 simp only at e1
 cases t with
 |true=>
  obtain⟨hJ3,hA3⟩:=e2 rfl
  rw[fN] at hJ3
  simp[hlt2,<- hx,-zl,y2,y3,e1,hup2]
  exact⟨hJ3,hA3⟩
 |false=>
  have hF:=e3 rfl
  simp[hlt2,<- hx,-zl,y2,y3,e1,hF]

def y4z(k i m:Int):List (Int × Ent)->Int
 |[]=>0
 |x::l=>(if x.1<=m/\x.2.kind=k/\x.2.idx=i then x.2.amt else 0)+y4z k i m l
theorem z8e{k i m:Int}:∀(a b:List (Int × Ent)),y4z k i m (a++b)=y4z k i m a+y4z k i m b
 |[],b=>by simp[y4z]
 |x::a,b=>by simp only[aO,y4z,z8e a b];omega
theorem zc1{k i m n:Int}:∀(l:List Ent),y4z k i m (l.map fun x=>(n,x))=if n<=m then yr k i l else 0
 |[]=>by simp[y4z,yr]
 |x::l=>by
  have ih:=zc1 (k:=k) (i:=i) (m:=m) (n:=n) l
  simp only[av,y4z,ih,yr]
  by_cases h1:n<=m
  ·simp[h1]
  ·simp[h1]
theorem z9x{k i m:Int}:∀(l:List Pst),y4z k i m (y4k l)=y4t k i m l
 |[]=>rfl
 |p::l=>by rw[z4y,z8e,zc1,z9x l];rfl
theorem zco:∀(l:List Pst),(y4k l).length=y3t l
 |[]=>rfl
 |p::l=>by rw[z4y,ak,ao,zco l];rfl
theorem zlu{l:List Pst}{x:Int × Ent}(h:x ∈ y4k l):∃ p,p ∈ l/\x.2 ∈ p.ents:=by
 obtain⟨p,hp,hx⟩:=List.mem_flatMap.1 h
 obtain⟨y,hy,rfl⟩:=aT.1 hx
 exact⟨p,hp,hy⟩

open Classical in
noncomputable def blD(l:List Pst)(k i m:Int):D:=.tup [dI (if rdE tgB l=0 then y4t k i m l else 0),dI (rdE tgB l)]

theorem r318(l:List Pst)(ok:y5m l)(hN:y3t l<=1000000)(k i m:Int):yu E (dL E) 318 [yy l,y2j k i,dI m]=some (blD l k i m):=by
 have e324:=yc5 l ok
 have e359:=r359 l
 refine ze c318 (by simp) ?_
 conv in t318=>reduce;dsimp[ah]
 unfold blD
 by_cases h0:rdE tgB l=0
 ·have v:=z17.1 h0
  rw[h0] at e324 ⊢
  rw[if_pos rfl]
  obtain⟨B,hB⟩:∃ B,B=y4t k i m l:=⟨_,rfl⟩
  rw[<- hB]
  simp[t318,n318,za,e324,e359]
  refine⟨380,_,rfl,?_⟩
  intro L hL hcb
  obtain⟨J,hJ⟩:∃ J:Nat->List (Int × Ent)->List Obj->Prop,J=fun f rem hp'=>2<=f /\ ∃(c:Int),At hp' 0 (.cells [dI c])/\At hp' 1 (L false none)/\c+y4z k i m rem=B/\rem.length<=1000000 /\ -(1099511627776*(1000000 - rem.length):Int)<=c/\c<=1099511627776*(1000000 - rem.length) /\ ∀ x,x ∈ rem->y51 x.2:=⟨_,rfl⟩
  have key:=i380 l ok 1 J (fun _=>False) (by
    rw[hJ]
    rintro f rem hp' r ⟨hf,c,a1,a2,a3⟩
    exact⟨hf,c,a1.app,a2.app,a3⟩) (by
    rw[hJ]
    rintro f rem hp' r ⟨hf,c,a1,a2,a3⟩
    exact⟨by have:=a2.lt;omega,c,a1.app,a2.app,a3⟩) (by
    intro f x rem hp1 o hj ho
    rw[hJ] at hj
    obtain⟨hf,c,a1,a2,a3,a4,a5,a6,a7⟩:=hj
    have l1:=a2.lt
    have⟨ok1,ok2,ok3,ok4,ok5⟩:=a7 x (by simp)
    obtain⟨mi,⟨kd,ix,am⟩⟩:=x
    simp only at ok1 ok2 ok3 ok4 ok5
    simp only[aA] at a4 a5 a6
    simp only[y4z] at a3
    obtain⟨H1,hH1⟩:∃ H1,H1=hp1.set 1 (L true none):=⟨_,rfl⟩
    have b0:At H1 0 (.cells [dI c]):=by rw[hH1];exact a1.ne (by omega)
    have b1:At H1 1 (L true none):=by rw[hH1];exact At.self l1
    have bf:At H1 f o:=by rw[hH1];exact ho.ne (by omega)
    have hw:aw.wrap (c+am)=c+am:=z7 ⟨by omega,by omega⟩
    have l0:=b0.lt
    obtain⟨t,hp2,e1,e2⟩:=hcb [dI mi,y11 ⟨kd,ix,am⟩] hp1 (fun t hp'=>t=true/\J f rem hp'/\At hp' f o) rfl a2 (by
     rw[show[Obj.cells [D.int aw 0]].length=1 from rfl]
     have y2:∀ r:List Obj,(hp1++r)[1]? = some (L false none):=fun r=>a2.app
     have y6:∀ r:List Obj,(hp1++r).set 1 (L true none)=H1++r:=fun r=>by rw[z1p l1,hH1]
     have y7:hp1.length=H1.length:=by rw[hH1,bu]
     have y0:∀ r:List Obj,(H1++r)[0]? = some (.cells [dI c]):=fun r=>b0.app
     have y8:∀(o:Obj) (r:List Obj),(H1++r).set 0 o=H1.set 0 o++r:=fun o r=>z1p l0
     have y9:∀(o:Obj) (r:List Obj),(H1.set 0 o++r)[1]? = some (L true none):=fun o r=>(b1.ne (by omega)).app
     have y10:∀ r:List Obj,(H1++r)[1]? = some (L true none):=fun r=>b1.app
     have fin:∀(c':Int) (G:List Obj),At G 0 (.cells [dI c'])->1<G.length->At G f o->c'+y4z k i m rem=B -> -(1099511627776*(1000000 - rem.length):Int)<=c'->c'<=1099511627776*(1000000 - rem.length)->∀ r:List Obj,J f rem ((G++r).set 1 (L false none))/\At ((G++r).set 1 (L false none)) f o:=by
      intro c' G g0 gl gf g3 g4 g5 r
      have e:(G++r).set 1 (L false none)=G.set 1 (L false none)++r:=z1p gl
      rw[e,hJ]
      exact⟨⟨hf,c',(g0.ne (by omega)).app,(At.self gl).app,g3,by omega,g4,g5,fun x hx=>a7 x (by simp[hx])⟩,(gf.ne (by omega)).app⟩
     by_cases hh:mi<=m/\kd=k/\ix=i
     ·obtain⟨g1,g2,g3⟩:=hh
      subst g2 g3
      simp[y2c,↓y2,↓y6,y7,↓y0,↓y8,↓y9,↓y10,g1,hw]
      rw[if_pos ⟨g1,rfl,rfl⟩] at a3
      exact fin (c+am) _ (At.self l0) (by rw[bu];omega) (bf.ne (by omega)) (by omega) (by omega) (by omega) _
     ·rw[if_neg hh] at a3
      have hF:=fin c H1 b0 (by omega) bf (by omega) (by omega) (by omega)
      by_cases g1:mi<=m
      ·have hbf:(kd == k && ix == i)=false:=by
        rw[Bool.and_eq_false_iff]
        by_cases g2:kd=k
        ·right
         have : ¬ ix=i:=fun g3=>hh ⟨g1,g2,g3⟩
         simpa using this
        ·left;simpa using g2
       simp[y2c,↓y2,↓y6,y7,↓y10,g1,hbf]
       exact hF _
      ·simp[y2c,↓y2,↓y6,y7,↓y10,g1]
       exact hF _)
    exact⟨t,hp2,e1,fun _=>e2.2,fun h=>by rw[e2.1] at h;cases h⟩) (hp:=[.cells [dI 0],L false none]) (f0:=2) (by
    rw[hJ]
    have hlen:=zco l
    refine⟨ai _,0,rfl,rfl,by rw[z9x,Int.zero_add];exact hB.symm,by omega,by omega,by omega,fun x hx=>?_⟩
    obtain⟨p,hp,hx2⟩:=zlu hx
    exact(v.2.1 p hp).fm.ents.ok _ hx2)
  obtain⟨d,hp',h1,h2⟩:=key
  rcases h2 with⟨f,h2⟩ | h2
  ·rw[hJ] at h2
   obtain⟨_,c,a1,a2,a3,_⟩:=h2
   simp only[y4z,Int.add_zero] at a3
   subst a3
   refine⟨d,hp',h1,.inl ⟨a2,?_⟩⟩
   have l0:=a1.lt
   have c0:∀ o,((hp'.set 1 .dead).set 0 o)[0]? = some o:=fun o=>At.self (by simpa using l0)
   simp[a1.eq,↓c0]
  ·exact h2.elim
 ·rw[if_neg h0]
  simp[t318,n318,za,e324,h0]

theorem z5s(p:Int × Int)(l:List (Int × Int)):ye (p::l)=dI p.1::dI p.2::ye l:=rfl
theorem z4k:∀(l:List (Int × Int)),(ye l).length=l.length*2
 |[]=>rfl
 |p::l=>by rw[z5s,aA,aA,z4k l,aA];omega
theorem z9q(a b:List (Int × Int)):ye (a++b)=ye a++ye b:=List.flatMap_append
theorem zfk:∀(l:List (Int × Int)),y4b (ye l)=some l
 |[]=>rfl
 |p::l=>by rw[z5s];simp only[y4b,zfk l]
theorem zd6:∀(l:List (Int × Int)) (k:Nat),(ye l).take (k*2)=ye (l.take k)
 |[],k=>by simp[ye]
 |p::l,0=>rfl
 |p::l,k+1=>by
  rw[z5s,show(k+1)*2=k*2+1+1 from by omega,de,de,zd6 l k];rfl
theorem zvz{l:List (Int × Int)}{k:Nat}(h:k<l.length):y1x (ye l) (k*2) 2=some [dI l[k].1,dI l[k].2]:=by
 have e:ye l=ye (l.take k)++[dI l[k].1,dI l[k].2]++ye (l.drop (k+1)):=by
  conv=>lhs;rw[<- bp k l,bC h,z9q,z5s]
  simp
 rw[e]
 exact z6x [dI l[k].1,dI l[k].2] _ _ _ (by rw[z4k,aI];omega)
theorem zw0{l:List (Int × Int)}{k:Nat}{a:Int × Int}(h:k<l.length):setCells (ye l) (k*2) [dI a.1,dI a.2]=ye (l.set k a):=by
 have e:ye l=ye (l.take k)++(dI l[k].1::dI l[k].2::ye (l.drop (k+1))):=by
  conv=>lhs;rw[<- bp k l,bC h,z9q,z5s]
 have hl:(ye (l.take k)).length=k*2:=by rw[z4k,aI];omega
 have e2:=z10 (a:=ye (l.take k)) (b:=dI l[k].1::dI l[k].2::ye (l.drop (k+1))) (off:=0) (vs:=[dI a.1,dI a.2])
 have e3:k*2+0=k*2:=rfl
 rw[hl,e3] at e2
 rw[e,e2,List.set_eq_take_append_cons_drop,if_pos h,z9q,z5s]
 rfl
theorem yd7{H:List Obj}{q k:Nat}{l:List (Int × Int)}(A:At H q (.cells (ye l)))(h:k<l.length):yo E H 65 (.loc q (k*2))=some (y2j l[k].1 l[k].2):=by
 unfold yo
 simp only[A.eq,show(E.ty 65).size=2 from rfl,zvz h]
 rfl
theorem st65{H:List Obj}{q k:Nat}{l:List (Int × Int)}{a:Int × Int}(A:At H q (.cells (ye l)))(h:k<l.length):y39 E H 65 (.loc q (k*2)) (y2j a.1 a.2)=some (H.set q (.cells (ye (l.set k a)))):=by
 unfold y39
 simp only[A.eq]
 rw[if_pos ⟨rfl,rfl,by rw[z4k,show(E.ty 65).size=2 from rfl];omega⟩]
 rw[<- zw0 h]
 rfl

theorem s361{hp:List Obj}{q:Nat}{xs:List (Int × Int)}{gr ag:Bool}{k:Nat}(hk:k=362\/k=386)(A:At hp q (.cells (ye xs)))(hl:xs.length<=1000000) :
  y1o E (dL E) (361) [.sl q 0 xs.length 2 ag gr,.fn k []] hp=some (.tup [],hp.set q (.cells (ye (y1m xs)))):=by
 have e:E.fn (361)=some f361:=rfl
 have e2:E.mp 361=false:=rfl
 have e3:[362,386].contains k=true:=by rcases hk with rfl | rfl <;> rfl
 have e4:E.prim 0=y70 [362,386]:=rfl
 have e5:y70 [362,386] [.sl q 0 xs.length 2 ag gr,.fn k []] hp=some (.tup [],hp.set q (.cells (ye (y1m xs)))):=by
  unfold y70
  simp only[e3,if_true,A.eq]
  rw[if_pos ⟨z4k xs,by omega⟩,zfk]
 unfold y1o
 simp only[e,e2,f361,ym,z8t,z5n,zga,z51,z6d,y2e]
 simp[yf,yd,yj,y25,DOp.fin,yl,yb,yn,gOf,z6d,y1z,y5n,yh,y1y,z51,z89,yw,e4,e5,y2d]
theorem yf5{hp:List Obj}{k:Nat}(hk:k=362\/k=386):y1o E (dL E) (361) [.imm .exact [],.fn k []] hp=some (.tup [],hp):=by
 have e:E.fn (361)=some f361:=rfl
 have e2:E.mp 361=false:=rfl
 have e3:[362,386].contains k=true:=by rcases hk with rfl | rfl <;> rfl
 have e4:E.prim 0=y70 [362,386]:=rfl
 have e5:y70 [362,386] [.imm .exact [],.fn k []] hp=some (.tup [],hp):=by
  unfold y70
  simp only[e3,if_true]
 unfold y1o
 simp only[e,e2,f361,ym,z8t,z5n,zga,z51,z6d,y2e]
 simp[yf,yd,yj,y25,DOp.fin,yl,yb,yn,gOf,z6d,y1z,y5n,yh,y1y,z51,z89,yw,e4,e5,y2d]

def y7d(xs:List (Int × Int))(m:Nat):List (Int × Int):=y1b (xs.take m)++xs.drop (y1b (xs.take m)).length
theorem zlen{xs:List (Int × Int)}{m:Nat}:(y1b (xs.take m)).length<=m:=aJ z5o (by rw[aI];omega)
theorem z8x{xs:List (Int × Int)}{m:Nat}(h:m<=xs.length):(y7d xs m).length=xs.length:=by
 have:=zlen (xs:=xs) (m:=m)
 unfold y7d
 rw[ak,cq];omega
theorem zii{xs:List (Int × Int)}{m j:Nat}(hj:(y1b (xs.take m)).length<=j)(h:j<xs.length)(hm:m<=xs.length):(y7d xs m)[j]'(by rw[z8x hm];exact h)=xs[j]:=by
 have:(y7d xs m)[j]? = some xs[j]:=by
  unfold y7d
  rw[aF hj,bX,show(y1b (xs.take m)).length+(j - (y1b (xs.take m)).length)=j from by omega,ae h]
 rw[ae (by rw[z8x hm];exact h)] at this
 exact co this
theorem zp1{xs:List (Int × Int)}{m:Nat}(h0:0<m)(h:m<=xs.length):(xs.take m).getLast? = some (xs[m - 1]'(by omega)):=by
 rw[dO,aI,bq h,List.getElem?_take,if_pos (by omega),ae]
theorem zcm{xs:List (Int × Int)}{m:Nat}(h0:0<m)(h:m<xs.length):y1b (xs.take (m+1))=if xs[m - 1]'(by omega)=xs[m] then y1b (xs.take m) else y1b (xs.take m)++[xs[m]]:=by
 rw[aH h,zcv,zp1 h0 (by omega)]
 simp
theorem zvg{xs:List (Int × Int)}{m:Nat}(h0:0<m)(h:m<xs.length)(he:xs[m - 1]'(by omega)=xs[m]):y7d xs (m+1)=y7d xs m:=by
 unfold y7d;rw[zcm h0 h,if_pos he]
theorem zvf{xs:List (Int × Int)}{m:Nat}(h0:0<m)(h:m<xs.length)(he : ¬ xs[m - 1]'(by omega)=xs[m]):y7d xs (m+1)=(y7d xs m).set (y1b (xs.take m)).length xs[m]:=by
 have hz:=zlen (xs:=xs) (m:=m)
 unfold y7d
 rw[zcm h0 h,if_neg he]
 rw[cH _ _ (ai _),fc]
 generalize hc:(y1b (xs.take m)).length=c at hz
 rw[ak,hc,bC (show c<xs.length by omega),List.set_cons_zero]
 simp only[a8,aO,bh]
 rfl

def y5f(q:Nat)(h h':List Obj):Prop:=h.length<=h'.length /\ ∀ j o,j ≠ q->At h j o->At h' j o
theorem y5f.refl{q:Nat}{h:List Obj}:y5f q h h:=⟨ai _,fun _ _ _ a=>a⟩
theorem y5f.app{q:Nat}{h h' r:List Obj}(k:y5f q h h'):y5f q h (h'++r):=⟨by rw[ak];have:=k.1;omega,fun j o hj a=>(k.2 j o hj a).app⟩
theorem y5f.set{q:Nat}{h h':List Obj}{o:Obj}(k:y5f q h h'):y5f q h (h'.set q o):=⟨by rw[bu];exact k.1,fun j o hj a=>(k.2 j o hj a).ne (Ne.symm hj)⟩

theorem z6s{xs:List (Int × Int)}(h:xs.length<2):y1b xs=xs:=by
 match xs,h with
 |[],_=>rfl
 |[x],_=>rfl
def Cp(q:Nat)(hp:List Obj)(xs:List (Int × Int))(d:D)(hp':List Obj):Prop:=
 ∃ cs,d=.sl q 0 (y1b xs).length 2 true true/\At hp' q (.cells cs)/\cs.take ((y1b xs).length*2)=ye (y1b xs)/\y5f q hp hp'

theorem zju{a b:Int × Int}:y2l E .eql 65 (y2j a.1 a.2) (y2j b.1 b.2)=some (.bool (decide (a=b))):=by
 obtain⟨a1,a2⟩:=a
 obtain⟨b1,b2⟩:=b
 have:y2l E .eql 65 (y2j a1 a2) (y2j b1 b2)=some (.bool ((a1 == b1) && ((a2 == b2) && true))):=rfl
 rw[this]
 simp only[aa,D.bool.injEq,au,iJ]
 by_cases h1:a1=b1 <;> by_cases h2:a2=b2 <;> simp[h1,h2]
theorem zz6{a b:Int × Int}:y2l E .neq 65 (y2j a.1 a.2) (y2j b.1 b.2)=some (.bool (!decide (a=b))):=by
 obtain⟨a1,a2⟩:=a
 obtain⟨b1,b2⟩:=b
 have:y2l E .neq 65 (y2j a1 a2) (y2j b1 b2)=some (.bool (!((a1 == b1) && ((a2 == b2) && true)))):=rfl
 rw[this]
 simp only[aa,D.bool.injEq,au,iJ]
 by_cases h1:a1=b1 <;> by_cases h2:a2=b2 <;> simp[h1,h2]

theorem sl67{q n k:Nat}{gr:Bool}(h:k<=n):y15 E 67 (.sl q 0 n 2 true gr) (some (dI k)) none none=some (.sl q (k*2) (n - k) 2 true false):=by
 have hk:(E.ty 67).k=.slice 65:=rfl
 unfold y15
 simp only[hk,bnd,eB,if_true,ci]
 rw[if_pos ⟨h,ai _,rfl⟩,bA]
theorem yf1{H:List Obj}{q n k:Nat}{cs:List D}(A:At H q (.cells cs))(h:k*2<=cs.length):y37 E H 67 (.sl q 0 n 2 true true) (dI k)=some (.sl q 0 k 2 true true,H):=by
 have hk:(E.ty 67).k=.slice 65:=rfl
 have hz:(E.ty 65).size=2:=rfl
 unfold y37
 simp only[hk,hz,A.eq,eB,true_and,ci]
 rw[if_pos ⟨h,by decide⟩]
theorem yg3{H:List Obj}{q kk:Nat}{zs:List (Int × Int)}{gr:Bool}(A:At H q (.cells (ye zs)))(h:kk<=zs.length) :
  ∃ cs,yar E H 67 (.sl q (kk*2) (zs.length - kk) 2 true gr)=some (.undef,H.set q (.cells cs))/\cs.take (kk*2)=ye (zs.take kk):=by
 have hk:(E.ty 67).k=.slice 65:=rfl
 have hz:y22 E 65=some (y2j 0 0):=rfl
 refine⟨setCells (ye zs) (kk*2) (yi (af (zs.length - kk) (y2j 0 0))),?_,?_⟩
 ·unfold yar
  simp only[hk,hz,A.eq]
  rw[if_pos ⟨rfl,by rw[z4k];omega⟩]
 ·have hl:(ye (zs.take kk)).length=kk*2:=by rw[z4k,aI];omega
  have e:ye zs=ye (zs.take kk)++ye (zs.drop kk):=by rw[<- z9q,bp]
  have e2:=z10 (a:=ye (zs.take kk)) (b:=ye (zs.drop kk)) (off:=0) (vs:=yi (af (zs.length - kk) (y2j 0 0)))
  rw[hl] at e2
  have e3:kk*2+0=kk*2:=rfl
  rw[e3] at e2
  rw[e,e2,bG (by omega),bg (by omega)]

theorem s363{hp:List Obj}{q:Nat}{xs:List (Int × Int)}(A:At hp q (.cells (ye xs)))(hl:xs.length<=1000000) :
  ∃ d hp',y1o E (dL E) 363 [.sl q 0 xs.length 2 true true] hp=some (d,hp')/\Cp q hp xs d hp':=by
 refine z30 c363 (args:=[.sl q 0 xs.length 2 true true]) (hp:=hp) (R:=Cp q hp xs) (by simp) ?_
 conv in t363=>reduce;dsimp[ah]
 by_cases h2:xs.length<2
 ·have h2':(xs.length:Int)<2:=by omega
  simp[t363,n363,h2']
  exact⟨_,by rw[z6s h2],A,by rw[z6s h2,zd6,aS],y5f.refl⟩
 have h2' : ¬ (xs.length:Int)<2:=by omega
 simp[t363,n363,h2']
 refine zr xs.length (fun k env h=>∃(x3 x4 x5 x6 x7 x8 x9 x10:D) ,env=[.sl q 0 xs.length 2 true true,.imm .exact [],dI k,x3,x4,x5,x6,x7,x8,x9,x10]/\1<=k/\At h q (.cells (ye xs))/\y5f q hp h/\y1b (xs.take k)=xs.take k) 1 (by omega) ⟨_,_,_,_,_,_,_,_,rfl,ai _,A,y5f.refl,z6s (by rw[aI];omega)⟩ ?_
 rintro k env h hk ⟨x3,x4,x5,x6,x7,x8,x9,x10,rfl,hk1,B,K,hc⟩
 by_cases hlt:k<xs.length
 rotate_left
 ·have:k=xs.length:=by omega
  subst this
  rw[aS] at hc
  simp
  exact⟨_,by rw[hc],B,by rw[hc,zd6,aS],K⟩
 have hup:=zg hlt (by omega)
 have hw1:aw.wrap ((k:Int) - 1)=((k - 1:Nat):Int):=by
  rw[z7 ⟨by omega,by omega⟩];omega
 have y1:∀ r:List Obj,yo E (h++r) 65 (.loc q (k*2))=some (y2j xs[k].1 xs[k].2):=fun r=>yd7 B.app hlt
 have y2:∀ r:List Obj,yo E (h++r) 65 (.loc q ((k - 1)*2))=some (y2j (xs[k - 1]'(by omega)).1 (xs[k - 1]'(by omega)).2):=fun r=>yd7 B.app (by omega)
 have hk1':(k - 1:Nat)<xs.length:=by omega
 have ez:=zju (a:=xs[k]) (b:=xs[k - 1]'(by omega))
 by_cases he:xs[k - 1]'(by omega)=xs[k]
 ·have he':=he.symm
  have hs:=sl67 (q:=q) (gr:=true) (show k<=xs.length by omega)
  have hc1:y1b (xs.take (k+1))=xs.take k:=by rw[zcm hk1 hlt,if_pos he,hc]
  have hz1:y7d xs (k+1)=xs:=by
   unfold y7d
   rw[hc1,aI,bq (by omega),bp]
  have hl1:(y1b (xs.take (k+1))).length=k:=by rw[hc1,aI];omega
  simp[hlt,hup,hw1,hk1',-zl,y1,y2,ez,he',hs]
  refine zr (xs.length - k) (fun j env h=>∃(x5 x6 x7 x8 x9 x10:D) ,env=[.sl q 0 xs.length 2 true true,.imm .exact [],dI (y1b (xs.take (k+j))).length,.sl q (k*2) (xs.length - k) 2 true false,dI j,x5,x6,x7,x8,x9,x10] /\
   1<=j/\(y1b (xs.take (k+j))).length+1<=k+j/\At h q (.cells (ye (y7d xs (k+j))))/\y5f q hp h) 1 (by omega) ⟨_,_,_,_,_,_,by rw[hl1];rfl,ai _,by rw[hl1];omega,by rw[hz1];exact B.app,K.app⟩ ?_
  rintro j env h3 hj ⟨x5,x6,x7,x8,x9,x10,rfl,hj1,hkk,B3,K3⟩
  by_cases hlt2:j<xs.length - k
  rotate_left
  ·have:j=xs.length - k:=by omega
   subst this
   have hkn:k+(xs.length - k)=xs.length:=by omega
   rw[hkn] at hkk B3 ⊢
   rw[aS] at hkk ⊢
   have hzl:=z8x (xs:=xs) (ai _)
   have hzt:(y7d xs xs.length).take (y1b xs).length=y1b xs:=by unfold y7d;rw[aS];simp
   obtain⟨cs,h4,h5⟩:=yg3 (gr:=false) B3 (kk:=(y1b xs).length) (by omega)
   rw[hzl] at h4
   rw[hzt] at h5
   have hs2:=sl67 (q:=q) (gr:=true) (show(y1b xs).length<=xs.length from z5o)
   have hs3:=yf1 (n:=xs.length) (k:=(y1b xs).length) (At.self (o:=.cells cs) B3.lt) (by have:=congrArg cJ h5;rw[z4k,aI] at this;have:=z5o (l:=xs);omega)
   simp[hs2,hs3,h4]
   exact⟨cs,rfl,At.self B3.lt,h5,K3.set⟩
  have hm:k+j<xs.length:=by omega
  have hnx:k+(j+1)=k+j+1:=by omega
  have hzl:=z8x (xs:=xs) (m:=k+j) (by omega)
  have g1:=zii (xs:=xs) (m:=k+j) (j:=k+j) (by omega) hm (by omega)
  have g2:=zii (xs:=xs) (m:=k+j) (j:=k+j - 1) (by omega) (by omega) (by omega)
  have hup2:=zg hlt2 (by omega)
  have hwj:aw.wrap ((j:Int) - 1)=((j - 1:Nat):Int):=by
   rw[z7 ⟨by omega,by omega⟩];omega
  have hj1':j - 1<xs.length - k:=by omega
  have z1:∀ r:List Obj,yo E (h3++r) 65 (.loc q (k*2+j*2))=some (y2j xs[k+j].1 xs[k+j].2):=fun r=>by
   have:=yd7 (k:=k+j) (B3.app (r:=r)) (by omega)
   rw[g1,bo] at this
   exact this
  have z2:∀ r:List Obj,yo E (h3++r) 65 (.loc q (k*2+(j - 1)*2))=some (y2j (xs[k+j - 1]'(by omega)).1 (xs[k+j - 1]'(by omega)).2):=fun r=>by
   have:=yd7 (k:=k+j - 1) (B3.app (r:=r)) (by omega)
   rw[g2,show(k+j - 1)*2=k*2+(j - 1)*2 from by omega] at this
   exact this
  have zn:=zz6 (a:=xs[k+j]) (b:=xs[k+j - 1]'(by omega))
  by_cases he2:xs[k+j - 1]'(by omega)=xs[k+j]
  ·have hz2:=zvg (by omega) hm he2
   have hcm:=zcm (by omega) hm
   rw[if_pos he2] at hcm
   simp[hlt2,-zl,z1,z2,zn,he2.symm,hwj,hj1',hup2]
   rw[hnx,hcm,hz2]
   exact⟨rfl,by omega,B3.app,K3.app⟩
  ·have hz2:=zvf (by omega) hm he2
   have hcm:=zcm (by omega) hm
   rw[if_neg he2] at hcm
   have he3 : ¬ xs[k+j]=xs[k+j - 1]'(by omega):=fun h=>he2 h.symm
   obtain⟨kk,hkke⟩:∃ kk,kk=(y1b (xs.take (k+j))).length:=⟨_,rfl⟩
   have hcl:(y1b (xs.take (k+(j+1)))).length=kk+1:=by rw[hnx,hcm,ak,hkke];rfl
   rw[<- hkke] at hz2 hkk
   have hst:∀ r:List Obj,y39 E (h3++r) 65 (.loc q (kk*2)) (y2j xs[k+j].1 xs[k+j].2)=some ((h3++r).set q (.cells (ye ((y7d xs (k+j)).set kk xs[k+j])))):=fun r=>st65 B3.app (by omega)
   have hkn:kk<xs.length:=by omega
   have hup3:=zg hkn (by omega)
   simp[hlt2,-zl,z1,z2,zn,he3,hwj,hj1',hup2,<- hkke,hst,hkn,hup3,hcl]
   exact⟨by omega,by rw[hnx,hz2];exact At.self (At.lt B3.app),K3.app.set⟩
 ·have he' : ¬ xs[k]=xs[k - 1]'(by omega):=fun h=>he h.symm
  simp[hlt,hup,hw1,hk1',-zl,y1,y2,ez,he']
  exact⟨B.app,K.app,by rw[zcm hk1 hlt,if_neg he,hc,<- aH hlt]⟩

end Dv
