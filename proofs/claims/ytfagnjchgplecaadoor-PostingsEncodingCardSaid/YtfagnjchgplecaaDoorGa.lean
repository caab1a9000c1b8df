/- Texts that a proof of this claim uses, joined: Lw.W199, Lw.W200, Lw.W203, Lw.W204, Lw.W205, Lw.W290, Lw.W291, Lw.W201, Lw.W202, Lw.W206, Lw.W292, Lw.W293, Lw.W215, Lw.W216, Lw.W240, Lw.W207, Lw.W208, Lw.W209, Lw.W210, Lw.W211, Lw.W212, Lw.W213, Lw.W214, Lw.W217, Lw.W218. -/
import Derived.Test.YtfagnjchgplecaaDoorLwa
import Derived.Test.YtfagnjchgplecaaDoorTc
import Derived.Test.YtfagnjchgplecaaDoorWa
import Derived.Test.YtfagnjchgplecaaDoorDva
set_option linter.all false
open BitVec renaming allOnes->lu,ofInt->br,ofNat->iE,toNat_add->gw,toNat_and->iz,toNat_ofInt->j0,toNat_ofNat->j4,toNat_or->gK,toNat_shiftLeft->ga,toNat_ushiftRight->fR,toNat_xor->iD,xor_allOnes->jZ
open Bool renaming false_eq_true->aM
open Decidable renaming not_not->kj
open Go.IntKind renaming bits->cw,i64->ay,signed->ca,u32->dH,u64->bg,u8->gg,wrap->cu
open Int renaming fdiv_eq_ediv_of_nonneg->cF,natCast_ediv->kK,natCast_pow->iP,negSucc_eq->aA,pow_nonneg->jj,toNat_natCast->cK
open List renaming all_eq_true->aC,append_assoc->bA,append_nil->bY,cons_append->aZ,drop_drop->ch,drop_eq_getElem_cons->bG,drop_of_length_le->iX,drop_zero->cX,eq_nil_of_length_eq_zero->cU,ext_getElem?->cB,flatMap_cons->bB,flatMap_eq_nil_iff->iG,flatMap_nil->iA,flatten_append->jJ,foldl_append->kn,getD_eq_getElem?_getD->ah,getElem?_append_left->aw,getElem?_append_right->aD,getElem?_eq_getElem->ae,getElem?_eq_some_iff->ac,getElem?_map->bU,getElem?_set_ne->a8,getElem?_set_self->aQ,getElem_mem->bT,getLast?_cons_cons->iH,getLast?_eq_getElem?->fI,length->dM,length_append->ax,length_cons->aF,length_map->aU,length_nil->bI,length_replicate->eB,length_set->bv,length_take->be,map_append->bZ,map_cons->av,map_map->fP,map_nil->aO,map_replicate->eu,map_set->iF,mem_append->aW,mem_cons->az,mem_map->aV,nil_append->bL,not_mem_nil->gv,replicate->af,sizeOf_lt_of_mem->gB,take_append_drop->bz,take_append_of_le_length->bO,take_length->bp,take_of_length_le->bu,take_succ_eq_append_getElem->bj
open Nat renaming add_mul->aX,div_lt_iff_lt_mul->ji,eq_zero_or_pos->er,le_max_left->dP,le_max_right->cm,le_refl->ai,le_trans->aH,lt_or_ge->bX,min_eq_left->ci,mod_eq_of_lt->eV,mul_comm->jX,mul_le_mul_right->bh,mul_one->dK,pow_add->iV,strongRecOn->df
open Ne renaming symm->dQ
open Option renaming map_some->aj
open Option.some renaming inj->cj,injEq->aa
open Prod.mk renaming injEq->aq
open UInt8 renaming ofNat->bC,toNat_inj->kX,toNat_ofNat'->jY
set_option maxRecDepth 100000
set_option maxHeartbeats 16000000
namespace Dv

theorem zm2{A:Type}{hp r:List A}{i:Nat}{o:A}(h:hp[i]? = some o):(hp++r)[i]? = some o:=by
 rw[aw (ac.1 h).1,h]
theorem zv3{A:Type}{hp:List A}{i:Nat}{o:A}(h:hp[i]? = some o):i<hp.length:=(ac.1 h).1
theorem zva{A:Type}{hp:List A}{i j:Nat}{x o:A}(h:hp[i]? = some o)(hn:j ≠ i):(hp.set j x)[i]? = some o:=by
 rw[a8 hn,h]
theorem zt7{A:Type}{hp:List A}{i:Nat}{x:A}(h:i<hp.length):(hp.set i x)[i]? = some x:=by
 rw[aQ h]
theorem zgr{A:Type}{hp r:List A}{k:Nat}:(hp++r)[hp.length+k]? = r[k]?:=by
 rw[aD (by omega)];congr 1;omega
theorem zga{A:Type}{hp r:List A}{k:Nat}{x:A}:(hp++r).set (hp.length+k) x=hp++r.set k x:=by
 rw[List.set_append_right _ _ (by omega)];congr 2;omega
theorem z1c{A:Type}{hp r:List A}{i:Nat}{x:A}(h:i<hp.length):(hp++r).set i x=hp.set i x++r:=List.set_append_left _ _ h

def At(hp:List Obj)(i:Nat)(o:Obj):Prop:=hp[i]? = some o
theorem At.eq{hp:List Obj}{i:Nat}{o:Obj}(h:At hp i o):hp[i]? = some o:=h
theorem At.app{hp r:List Obj}{i:Nat}{o:Obj}(h:At hp i o):At (hp++r) i o:=zm2 h
theorem At.appE{hp r:List Obj}{i:Nat}{o:Obj}(h:At hp i o):(hp++r)[i]? = some o:=zm2 h
theorem At.ne{hp:List Obj}{i j:Nat}{x o:Obj}(h:At hp i o)(hn:j ≠ i):At (hp.set j x) i o:=zva h hn
theorem At.lt{hp:List Obj}{i:Nat}{o:Obj}(h:At hp i o):i<hp.length:=zv3 h
theorem At.self{hp:List Obj}{i:Nat}{o:Obj}(h:i<hp.length):At (hp.set i o) i o:=zt7 h

def y72(C:Nat)(hp:List Obj)(sp:y1t)(n sz:Nat):Prop:=sp=.exact \/ ∃ k,sp=.tok k/\C<=k/\At hp k (.tok (n*sz) sz)
def y26(i C:Nat)(hp hp':List Obj):Prop:=∀ J:List Obj->Prop,(∀ hp r,J hp->J (hp++r))->(∀ hp j o,J hp->(j=i\/C<=j)->J (hp.set j o))->J hp->J hp'
theorem y26.at{i C:Nat}{hp hp':List Obj}(h:y26 i C hp hp'){j:Nat}{o:Obj}(hj:j ≠ i)(hC:j<C)(g:At hp j o):At hp' j o:=
 h (fun hp=>At hp j o) (fun _ _ h=>h.app) (fun _ k _ h hk=>h.ne (by rcases hk with rfl | hk;exact fun e=>hj e.symm;omega)) g
theorem y26.refl{i C:Nat}{hp:List Obj}:y26 i C hp hp:=fun _ _ _ h=>h
theorem y26.trans{i C:Nat}{hp hp' hp'':List Obj}(h:y26 i C hp hp')(h':y26 i C hp' hp''):y26 i C hp hp'':=fun J h1 h2 h3=>h' J h1 h2 (h J h1 h2 h3)
theorem y26.app{i C:Nat}{hp r:List Obj}:y26 i C hp (hp++r):=fun _ h1 _ h3=>h1 _ _ h3
theorem y26.set{i C j:Nat}{o:Obj}{hp:List Obj}(hj:j=i\/C<=j):y26 i C hp (hp.set j o):=fun _ _ h2 h3=>h2 _ _ _ h3 hj

end Dv

namespace Dv

inductive CV where
 |mk (k n:Int) (s:List UInt8) (l:List CV)

abbrev dBy(l:List UInt8):D:=.imm .none (l.map ya)

mutual
def dV:CV->D
 |.mk k n s l=>.agg [dI k,dI n,.str s,.imm .none (dVs l)]
def dVs:List CV->List D
 |[]=>[]
 |v::l=>dV v::dVs l
end
theorem zmt:∀(l:List CV),dVs l=l.map dV
 |[]=>rfl
 |v::l=>by simp[dVs,zmt l]
theorem z20{k n:Int}{s:List UInt8}{l:List CV}:dV (.mk k n s l)=.agg [dI k,dI n,.str s,.imm .none (l.map dV)]:=by rw[dV,zmt]

def num(u:Nat):List UInt8:=if h:u<128 then[bC u] else bC (u % 128+128)::num (u / 128)
termination_by u
decreasing_by omega
theorem z7t{u:Nat}(h:u<128):num u=[bC u]:=by rw[num,dif_pos h]
theorem zas{u:Nat}(h : ¬ u<128):num u=bC (u % 128+128)::num (u / 128):=by rw[num,dif_neg h]

def uns(n:Int):Nat:=if 0<=n then 2*n.toNat else 2*(-(n+1)).toNat+1
def sgn(u:Nat):Int:=if u % 2=0 then(u / 2:Nat) else -((u / 2:Nat):Int) - 1
theorem zkp(n:Int):sgn (uns n)=n:=by
 unfold sgn uns
 split <;> split <;> omega
theorem zae{n:Int}(h:i64 n):uns n<18446744073709551616:=by
 obtain⟨h1,h2⟩:=h
 unfold uns;split <;> omega
def rdN:Nat->List UInt8->Option (Nat × List UInt8)
 |_,[]=>none
 |i,c::r=>if(i=0\/c ≠ 0)/\(i<9\/c.toNat<=1) then
   (if c.toNat<128 then some (c.toNat,r) else(rdN (i+1) r).map fun p=>(c.toNat - 128+128*p.1,p.2))
  else none

theorem z33{n:Nat}(h:n<256):(bC n).toNat=n:=by
 rw[jY];exact eV h
theorem zqp{c:UInt8}:c ≠ 0 ↔ c.toNat ≠ 0:=by
 constructor
 ·intro h e;exact h (kX.1 (by rw[e];rfl))
 ·intro h e;exact h (by rw[e];rfl)
theorem yc5(c:UInt8):c.toNat<256:=c.toNat_lt

def y93(i:Nat):Nat:=2 ^ (64 - 7*i)

theorem zr2{i:Nat}(h:i<9):y93 i=128*y93 (i+1):=by
 unfold y93
 rw[show(128:Nat)=2 ^ 7 from rfl,<- iV]
 congr 1;omega

theorem zkw:∀(u i:Nat) (r:List UInt8),i<=9->(i=0\/u ≠ 0)->u<y93 i->rdN i (num u++r)=some (u,r):=by
 intro u
 induction u using df with
 |_ u ih=>
  intro i r hi h0 hu
  by_cases h:u<128
  ·rw[z7t h]
   have e:=z33 (n:=u) (by omega)
   have h1:i=0\/bC u ≠ 0:=by rw[zqp,e];exact h0
   have h2:i<9\/(bC u).toNat<=1:=by
    rw[e]
    by_cases h9:i<9
    ·exact .inl h9
    ·have:i=9:=by omega
     subst this
     have:y93 9=2:=rfl
     omega
   simp only[aZ,bL,rdN]
   rw[if_pos ⟨h1,h2⟩,e,if_pos h]
  ·rw[zas h]
   have e:=z33 (n:=u % 128+128) (by omega)
   have h9:i<9:=by
    rcases bX i 9 with h9 | h9
    ·exact h9
    ·have:i=9:=by omega
     subst this
     have:y93 9=2:=rfl
     omega
   have h1:i=0\/bC (u % 128+128) ≠ 0:=by rw[zqp,e];omega
   have hn:=zr2 h9
   have:=ih (u / 128) (by omega) (i+1) r (by omega) (by omega) (by omega)
   simp only[aZ,rdN]
   rw[if_pos ⟨h1,.inl h9⟩,e,if_neg (by omega),this]
   simp only[aj,aa,aq,and_true]
   omega

theorem zuv{u:Nat}:num u ≠ []:=by
 by_cases h:u<128
 ·rw[z7t h];simp
 ·rw[zas h];simp
theorem zf7{u:Nat}:1<=(num u).length:=by
 have:=zuv (u:=u)
 cases h:num u with
 |nil=>exact absurd h this
 |cons _ _=>simp

mutual
def enc:CV->List UInt8
 |.mk k n s l=>if k=1 then 1::num (uns n) else if k=2 then 2::(num s.length++s) else 3::(num l.length++y2x l)
def y2x:List CV->List UInt8
 |[]=>[]
 |v::l=>enc v++y2x l
end

mutual
def fmd:CV->Prop
 |.mk k n s l=>(k=1/\i64 n/\s=[]/\l=[])\/(k=2/\n=0/\l=[])\/(k=3/\n=0/\s=[]/\y8t l)
def y8t:List CV->Prop
 |[]=>True
 |v::l=>fmd v/\y8t l
end
mutual
def dep:CV->Nat
 |.mk k _ _ l=>if k=3 then y58 l+1 else 0
def y58:List CV->Nat
 |[]=>0
 |v::l=>Nat.max (dep v) (y58 l)
end

theorem ztd{v:CV}:1<=(enc v).length:=by
 cases v with
 |mk k n s l=>rw[enc];split <;> (try split) <;> simp
theorem z6o:∀(l:List CV),l.length<=(y2x l).length
 |[]=>by simp
 |v::l=>by
  have:=z6o l
  have:=ztd (v:=v)
  simp only[y2x,aF,ax];omega
theorem z5r:∀(a b:List CV),y2x (a++b)=y2x a++y2x b
 |[],b=>by simp[y2x]
 |v::a,b=>by simp[y2x,z5r a b]

def rdL(f:List UInt8->Option (CV × List UInt8)):Nat->List UInt8->Option (List CV × List UInt8)
 | 0,b=>some ([],b)
 |n+1,b=>match f b with
  |none=>none
  |some p=>match rdL f n p.2 with
   |none=>none
   |some q=>some (p.1::q.1,q.2)

def rdS(b:List UInt8):Option (Nat × List UInt8):=match rdN 0 b with
 |some p=>if p.1<=p.2.length then some p else none
 |none=>none

def rdV:Nat->List UInt8->Option (CV × List UInt8)
 |_,[]=>none
 | 0,c::r=>if c=1 then(rdN 0 r).map fun p=>(.mk 1 (sgn p.1) [] [],p.2)
  else if c=2 then(rdS r).map fun p=>(.mk 2 0 (p.2.take p.1) [],p.2.drop p.1)
  else none
 |d+1,c::r=>if c=1 then(rdN 0 r).map fun p=>(.mk 1 (sgn p.1) [] [],p.2)
  else if c=2 then(rdS r).map fun p=>(.mk 2 0 (p.2.take p.1) [],p.2.drop p.1)
  else if c=3 then(rdS r).bind fun p=>(rdL (rdV d) p.1 p.2).map fun q=>(.mk 3 0 [] q.1,q.2)
  else none

def deco(b:List UInt8):Option CV:=match rdV 16 b with
 |some (v,[])=>some v
 |_=>none

theorem zkv{n:Nat}{b:List UInt8}(h:n<=b.length)(h2:n<18446744073709551616):rdS (num n++b)=some (n,b):=by
 unfold rdS
 rw[zkw n 0 b (by omega) (.inl rfl) h2]
 simp[h]

mutual
theorem zku:∀(v:CV) (d:Nat) (r:List UInt8),fmd v->dep v<=d->(enc v).length<1000000000000->rdV d (enc v++r)=some (v,r)
 |.mk k n s l,d,r,hf,hd,hl=>by
  rw[fmd] at hf
  rcases hf with⟨rfl,hn,rfl,rfl⟩ | ⟨rfl,rfl,rfl⟩ | ⟨rfl,rfl,rfl,hf⟩
  ·rw[enc,if_pos rfl]
   have e:=zkw (uns n) 0 r (by omega) (.inl rfl) (zae hn)
   cases d <;> simp[rdV,e,zkp]
  ·rw[enc,if_neg (by decide),if_pos rfl] at hl ⊢
   have e:=zkv (n:=s.length) (b:=s++r) (by simp) (by simp at hl;omega)
   cases d <;> simp[rdV,e]
  ·rw[enc,if_neg (by decide),if_neg (by decide)] at hl ⊢
   rw[dep,if_pos rfl] at hd
   simp only[aF,ax] at hl
   have h2:=z6o l
   obtain⟨d,rfl⟩:∃ e,d=e+1:=⟨d - 1,by omega⟩
   have e:=zkv (n:=l.length) (b:=y2x l++r) (by simp;omega) (by omega)
   have e2:=zkx l d r hf (by omega) (by omega)
   simp[rdV,e,e2]
theorem zkx:∀(l:List CV) (d:Nat) (r:List UInt8),y8t l->y58 l<=d->(y2x l).length<1000000000000->rdL (rdV d) l.length (y2x l++r)=some (l,r)
 |[],d,r,hf,hd,hl=>by simp[rdL,y2x]
 |v::l,d,r,hf,hd,hl=>by
  rw[y8t] at hf
  rw[y58] at hd
  rw[y2x] at hl ⊢
  simp only[ax] at hl
  have h1:dep v<=d:=aH (dP _ _) hd
  have h2:y58 l<=d:=aH (cm _ _) hd
  have e1:=zku v d (y2x l++r) hf.1 h1 (by omega)
  have e2:=zkx l d r hf.2 h2 (by omega)
  simp only[aF,rdL,bA]
  rw[e1]
  simp only[e2]
end

theorem zh4{v:CV}(h:fmd v)(hd:dep v<=16)(hl:(enc v).length<1000000000000):deco (enc v)=some v:=by
 have:=zku v 16 [] h hd hl
 rw[bY] at this
 unfold deco
 rw[this]
theorem ztf{v w:CV}(h:fmd v)(h':fmd w)(hd:dep v<=16)(hd':dep w<=16)(hl:(enc v).length<1000000000000)(e:enc v=enc w):v=w:=by
 have h1:=zh4 h hd hl
 have h2:=zh4 h' hd' (by rw[<- e];exact hl)
 rw[e,h2] at h1
 simpa using h1.symm

end Dv

namespace Dv
attribute [local simp] af depth y63 y97 y3s y3b y96 y7o y3g y2g Ret
attribute [local congr] z4v z51 z3n z2u z2c z3o z28


theorem z3r{n:Nat}(h:n<18446744073709551616):bg.wrap (n:Int)=n:=by
 simp[cu,cw,ca];omega
theorem zel{n:Nat}:gg.wrap (n:Int)=((n % 256:Nat):Int):=by
 simp[cu,cw,ca]
theorem ydw{n:Nat}(h:n<256):y8r .u8 (n:Int) 128=((n % 128+128:Nat):Int):=by
 have key:∀ m:Fin 256,y8r .u8 ((m.val:Nat):Int) 128=((m.val % 128+128:Nat):Int):=by decide +kernel
 exact key ⟨n,h⟩
theorem z1n:bg.bits=64:=rfl
theorem shr7{n:Nat}:((n:Int).fdiv 128)=((n / 128:Nat):Int):=by
 rw[cF _ (by omega)];omega
theorem mk8{n:Nat}(h:n<256):(D.int .u8 (n:Int))=ya (bC n):=by
 unfold ya
 rw[z33 h]

theorem zc0{u:Nat}(h:u<18446744073709551616):(num u).length<=11:=by
 have key:∀(k u:Nat),u<2 ^ (7*k)->(num u).length<=k+1:=by
  intro k
  induction k with
  |zero=>intro u h;rw[z7t (by omega)];simp
  |succ k ih=>
   intro u h
   by_cases h1:u<128
   ·rw[z7t h1];simp
   ·rw[zas h1]
    have:=ih (u / 128) (by
     rw[ji (by decide),show(128:Nat)=2 ^ 7 from rfl,<- iV]
     rwa [show 7*k+7=7*(k+1) from by omega])
    simp;omega
 have:(18446744073709551616:Nat)<=2 ^ (7*10):=by decide
 exact key 10 u (by omega)
theorem z7c{l:List UInt8}:y30 1 (l.map ya)=true:=by
 unfold y30
 rw[aC]
 intro x hx
 obtain⟨r,_,rfl⟩:=aV.1 hx
 rfl
theorem z1j{l:List UInt8}{new:List D}(h:l.length+new.length<=1000000000000):y32 E 13 (l.map ya) new:=by
 refine⟨?_,?_,?_,z7c⟩ <;> simp[yl]
 omega

theorem s312{C:Nat}:∀(u:Nat) {hp:List Obj} {sp:y1t} (l:List UInt8),u<18446744073709551616->l.length<=900000000000->y72 C hp sp l.length 1->C<=hp.length ->
  ∃ d hp',y16 E (dL E) 312 [.imm sp (l.map ya),.int .u64 u] hp=some (d,hp') /\ ∃ k,d=.imm (.tok k) ((l++num u).map ya)/\C<=k/\At hp' k (.tok (l++num u).length 1)/\y26 C C hp hp'/\hp.length<=hp'.length:=by
 intro u hp sp l hu hl R hC
 refine z31 c312 (args:=[.imm sp (l.map ya),.int .u64 u]) (hp:=hp) (R:=fun d hp'=>∃ k,d=.imm (.tok k) ((l++num u).map ya)/\C<=k/\At hp' k (.tok (l++num u).length 1)/\y26 C C hp hp'/\hp.length<=hp'.length) (by simp) ?_
 conv in t312=>reduce;dsimp[aA]
 simp[t312,n312]
 have hlen:=zc0 hu
 refine⟨fun k env h=>∃(x3 x4 x5:D) (sp':y1t) (l':List UInt8),env=[.imm sp' (l'.map ya),.int .u64 (k:Nat),.imm .exact [],x3,x4,x5]/\k<18446744073709551616/\l'++num k=l++num u/\y72 C h sp' l'.length 1/\y26 C C hp h/\hp.length<=h.length,u,⟨_,_,_,sp,l,rfl,hu,rfl,R,y26.refl,ai _⟩,?_⟩
 rintro k env h ⟨x3,x4,x5,sp',l',rfl,hk,he,R',K',hh⟩
 have htot:l'.length+(num k).length<=900000000000+11:=by
  have:=congrArg dM he
  simp only[ax] at this
  omega
 have hpos:=zf7 (u:=k)
 by_cases h128:128<=k
 ·have hn : ¬ k<128:=by omega
  have hI:(128:Int)<=(k:Int):=by omega
  have hap:∀ x:D,y32 E 13 (l'.map ya) [x]:=fun x=>z1j (by simp;omega)
  have e1:D.int .u8 (y8r .u8 ((k:Int) % 256) 128)=ya (bC (k % 128+128)):=by
   have h1:=ydw (n:=k % 256) (by omega)
   rw[show k % 256 % 128+128=k % 128+128 from by omega,show((k % 256:Nat):Int)=(k:Int) % 256 from by omega] at h1
   rw[h1,mk8 (n:=k % 128+128) (by omega)]
  have e2:(k:Int).fdiv 128=((k / 128:Nat):Int):=shr7
  rw[zas hn] at he
  obtain⟨c,hc⟩:∃ c,c=bC (k % 128+128):=⟨_,rfl⟩
  rw[<- hc] at e1 he
  have he':(l'++[c])++num (k / 128)=l++num u:=by simpa using he
  rcases R' with rfl | ⟨q,rfl,hq,hq2⟩
  ·simp[hI,y2n,zl,z1b,hap,zel,e1,z1n,e2]
   exact⟨k / 128,by omega,_,_,_,_,l'++[c],⟨⟨rfl,by simp⟩,by omega,rfl,rfl,rfl⟩,by omega,he',.inr ⟨h.length,rfl,by omega,by simp[At]⟩,K'.trans y26.app,by omega⟩
  ·simp[hI,y2n,zl,z1o,hap,zel,e1,hq2.eq,z1n,e2]
   exact⟨k / 128,by omega,_,_,_,_,l'++[c],⟨⟨rfl,by simp⟩,by omega,rfl,rfl,rfl⟩,by omega,he',.inr ⟨h.length,rfl,by omega,by simp[At]⟩,(K'.trans (y26.set (.inr hq))).trans y26.app,by omega⟩
 ·have hI : ¬ (128:Int)<=(k:Int):=by omega
  have e0:=zel (n:=k)
  rw[show k % 256=k from by omega] at e0
  have e3:=mk8 (n:=k) (by omega)
  have hap:∀ x:D,y32 E 13 (l'.map ya) [x]:=fun x=>z1j (by simp;omega)
  rw[z7t (by omega)] at he
  obtain⟨c,hc⟩:∃ c,c=bC k:=⟨_,rfl⟩
  rw[<- hc] at e3 he
  have hm:l'.map ya++[ya c]=l.map ya++(num u).map ya:=by
   have:=congrArg (List.map ya) he
   simpa using this
  have hl2:l'.length+1=l.length+(num u).length:=by
   have:=congrArg dM he
   simpa using this
  rcases R' with rfl | ⟨q,rfl,hq,hq2⟩
  ·simp[hI,y2n,zl,z1b,hap,e0,e3]
   exact⟨h.length,⟨rfl,hm⟩,by omega,by simp[At,hl2],K'.trans y26.app,by omega⟩
  ·simp[hI,y2n,zl,z1o,hap,e0,e3,hq2.eq]
   exact⟨h.length,⟨rfl,hm⟩,by omega,by simp[At,hl2],(K'.trans (y26.set (.inr hq))).trans y26.app,by omega⟩

theorem zcq:ay.bits=64:=rfl
theorem z23(m:Int):bg.wrap m=m % 18446744073709551616:=by
 simp[cu,cw,ca]
theorem zns{x:Nat}(h:x<18446744073709551616):y65 .u64 (x:Int) 0=x:=by
 unfold y65
 rw[z23]
 have e:(br bg.bits (x:Int) ^^^ br bg.bits 0).toNat=x:=by
  rw[show bg.bits=64 from rfl]
  simp
  omega
 rw[e];omega
theorem znt{x:Nat}(h:x<18446744073709551616):y65 .u64 (x:Int) 18446744073709551615=((18446744073709551615 - x:Nat):Int):=by
 unfold y65
 rw[z23]
 have e:(br bg.bits (x:Int) ^^^ br bg.bits 18446744073709551615).toNat=18446744073709551615 - x:=by
  rw[show bg.bits=64 from rfl]
  have:(br 64 18446744073709551615)=lu 64:=by decide
  rw[this,jZ]
  simp
  omega
 rw[e];omega
theorem zig{n:Int}(h:i64 n):y65 .u64 (bg.wrap (bg.wrap n*2)) (bg.wrap (n.fdiv 9223372036854775808))=(uns n:Nat):=by
 obtain⟨h1,h2⟩:=h
 have hf:n.fdiv 9223372036854775808=n / 9223372036854775808:=cF _ (by omega)
 rw[hf,z23,z23,z23]
 unfold uns
 by_cases h0:0<=n
 ·rw[if_pos h0,show n / 9223372036854775808 % 18446744073709551616=0 from by omega,show n % 18446744073709551616*2 % 18446744073709551616=((2*n.toNat:Nat):Int) from by omega]
  exact zns (by omega)
 ·rw[if_neg h0,show n / 9223372036854775808 % 18446744073709551616=18446744073709551615 from by omega,show n % 18446744073709551616*2 % 18446744073709551616=((18446744073709551616 - 2*(-n).toNat:Nat):Int) from by omega,znt (by omega)]
  omega

theorem r311{n:Int}(h:i64 n):y1i E (dL E) 311 [dI n]=some (.int .u64 (uns n:Nat)):=by
 refine zx c311 (by simp) ?_
 conv in t311=>reduce;dsimp[aA]
 have e:=zig h
 simp[t311,n311,y2n,z1n,zcq,e]

def y6t(C:Nat)(hp:List Obj)(l e:List UInt8)(d:D)(hp':List Obj):Prop:=
 ∃ k,d=.imm (.tok k) ((l++e).map ya)/\C<=k/\At hp' k (.tok (l++e).length 1)/\y26 C C hp hp'/\hp.length<=hp'.length

theorem zac{C:Nat}{hp h2:List Obj}{l a e:List UInt8}{d:D}{hp':List Obj}(hk:y26 C C hp h2)(hl:hp.length<=h2.length)(w:y6t C h2 (l++a) e d hp'):y6t C hp l (a++e) d hp':=by
 obtain⟨k,w1,w2,w3,w4,w5⟩:=w
 rw[bA] at w1 w3
 exact⟨k,w1,w2,w3,hk.trans w4,aH hl w5⟩
theorem y6t.imm{C:Nat}{hp:List Obj}{l e:List UInt8}{d:D}{hp':List Obj}(w:y6t C hp l e d hp'):yp d=false:=by
 obtain⟨k,rfl,_⟩:=w;rfl
theorem yb0{C:Nat}(u:Nat){hp:List Obj}{sp:y1t}(l:List UInt8)(hu:u<18446744073709551616)(hl:l.length<=900000000000)(R:y72 C hp sp l.length 1)(hC:C<=hp.length) :
  ∃ d hp',y16 E (dL E) 312 [.imm sp (l.map ya),.int .u64 u] hp=some (d,hp')/\yp d=false/\y6t C hp l (num u) d hp':=by
 obtain⟨d,hp',e,w⟩:=s312 u l hu hl R hC
 have w:y6t C hp l (num u) d hp':=w
 exact⟨d,hp',e,w.imm,w⟩
theorem z86{C:Nat}{hp r:List Obj}{n k:Nat}(hC:C<=hp.length)(h:r[k]? = some (.tok n 1)):y72 C (hp++r) (.tok (hp.length+k)) n 1:=
 .inr ⟨hp.length+k,rfl,by omega,by rw[dK];exact zgr.trans h⟩
theorem zbs{C:Nat}{hp r:List Obj}{o:Obj}{n k q:Nat}(hC:C<=hp.length)(h:r[k]? = some (.tok n 1)):y72 C (hp.set q o++r) (.tok (hp.length+k)) n 1:=by
 have:=z86 (C:=C) (hp:=hp.set q o) (r:=r) (k:=k) (n:=n) (by simpa using hC) h
 simpa using this
theorem ztx{C:Nat}{hp:List Obj}{sp:y1t}{l:List UInt8}{m k:Nat}(c:UInt8)(x:D)(hx:x=ya c)(hk:k<m)(R:y72 C hp sp l.length 1)(hC:C<=hp.length)(hl:l.length<=900000000000) :
  ∃ h2,yas E (hp++af m .dead) (hp.length+k) 30 30 (.imm sp (l.map ya)) (.imm .exact [x])=some (.imm (.tok (hp.length+k)) ((l++[c]).map ya),h2)/\y26 C C hp h2/\h2.length=hp.length+m/\y72 C h2 (.tok (hp.length+k)) (l++[c]).length 1:=by
 subst hx
 have hap:∀ x:D,y32 E 13 (l.map ya) [x]:=fun x=>z1j (by simp;omega)
 have hr:(af m Obj.dead).length=m:=by simp
 have hg:((af m Obj.dead).set k (.tok (l.length+1) 1))[k]? = some (.tok (l.length+1) 1):=by simp[hk]
 rcases R with rfl | ⟨q,rfl,hq,hq2⟩
 ·refine⟨hp++(af m Obj.dead).set k (.tok (l.length+1) 1),?_,y26.app,by simp,?_⟩
  ·simp[z1b,hap,hk,↓zga]
  ·have:=z86 (C:=C) hC hg
   simpa using this
 ·have hlt:=hq2.lt
  have hq3:(hp++af m Obj.dead)[q]? = some (.tok (l.length*1) 1):=hq2.appE
  rw[dK] at hq3
  refine⟨hp.set q .dead++(af m Obj.dead).set k (.tok (l.length+1) 1),?_,(y26.set (.inr hq)).trans y26.app,by simp,?_⟩
  ·have e:((hp++af m Obj.dead).set q .dead).set (hp.length+k) (.tok (l.length+1) 1)=hp.set q .dead++(af m Obj.dead).set k (.tok (l.length+1) 1):=by
    rw[z1c hlt]
    have:=zga (hp:=hp.set q Obj.dead) (r:=af m Obj.dead) (k:=k) (x:=.tok (l.length+1) 1)
    rwa [bv] at this
   simp[z1o,hap,hk,hq3]
   exact e
  ·have:=zbs (C:=C) (o:=.dead) (q:=q) hC hg
   simpa using this
theorem z89{l:List UInt8}{c:UInt8}:(l++[c]).map ya=l.map ya++[.int .u8 c.toNat]:=by simp

theorem s298{C:Nat}{hp:List Obj}{sp:y1t}(l:List UInt8)(n:Int)(hn:i64 n)(hl:l.length<=800000000000)(R:y72 C hp sp l.length 1)(hC:C<=hp.length) :
  ∃ d hp',y16 E (dL E) 298 [.imm sp (l.map ya),dV (.mk 1 n [] [])] hp=some (d,hp')/\y6t C hp l (enc (.mk 1 n [] [])) d hp':=by
 refine z31 c298 (args:=[.imm sp (l.map ya),dV (.mk 1 n [] [])]) (hp:=hp) (R:=y6t C hp l (enc (.mk 1 n [] []))) (by simp) ?_
 conv in t298=>reduce;dsimp[aA]
 have h311:=r311 hn
 have hap:∀ x:D,y32 E 13 (l.map ya) [x]:=fun x=>z1j (by simp;omega)
 have he:enc (.mk 1 n [] [])=[1]++num (uns n):=by rw[enc,if_pos rfl];rfl
 rw[z20,he]
 rcases R with rfl | ⟨q,rfl,hq,hq2⟩
 ·obtain⟨d,hp',e,hm,w⟩:=yb0 (C:=C) (hp:=hp++[.dead,.dead,.tok (l.length+1) 1,.dead,.dead,.dead,.dead,.dead]) (sp:=.tok (hp.length+2)) (uns n) (l++[1]) (zae hn) (by simp;omega) (by rw[ax];exact z86 hC rfl) (by simp;omega)
  have w':=zac (hp:=hp) y26.app (by simp) w
  rw[z89] at e
  simp at e
  simp[t298,n298,zl,z1b,hap,h311,e,hm]
  exact w'
 ·obtain⟨d,hp',e,hm,w⟩:=yb0 (C:=C) (hp:=hp.set q .dead++[.dead,.dead,.tok (l.length+1) 1,.dead,.dead,.dead,.dead,.dead]) (sp:=.tok (hp.length+2)) (uns n) (l++[1]) (zae hn) (by simp;omega) (by rw[ax];exact zbs hC rfl) (by simp;omega)
  have w':=zac (hp:=hp) ((y26.set (.inr hq)).trans y26.app) (by simp) w
  rw[z89] at e
  simp at e
  have hq3:(hp++af 8 Obj.dead)[q]? = some (.tok (l.length*1) 1):=hq2.appE
  simp at hq3
  have hlt:=hq2.lt
  simp[t298,n298,zl,z1o,hap,h311,e,hm,hq3,↓z1c hlt]
  exact w'

theorem s299{C:Nat}{hp:List Obj}{sp:y1t}(l s:List UInt8)(hl:l.length+s.length<=800000000000)(R:y72 C hp sp l.length 1)(hC:C<=hp.length) :
  ∃ d hp',y16 E (dL E) 299 [.imm sp (l.map ya),dV (.mk 2 0 s [])] hp=some (d,hp')/\y6t C hp l (enc (.mk 2 0 s [])) d hp':=by
 refine z31 c299 (args:=[.imm sp (l.map ya),dV (.mk 2 0 s [])]) (hp:=hp) (R:=y6t C hp l (enc (.mk 2 0 s []))) (by simp) ?_
 conv in t299=>reduce;dsimp[aA]
 have hap:∀ x:D,y32 E 13 (l.map ya) [x]:=fun x=>z1j (by simp;omega)
 have he:enc (.mk 2 0 s [])=([2]++num s.length)++s:=by rw[enc,if_neg (by decide),if_pos rfl];rfl
 have hw:=z3r (n:=s.length) (by omega)
 have hn:=zc0 (u:=s.length) (by omega)
 rw[z20,he]
 have fin:∀{d:D} {h2:List Obj},hp.length+12<=h2.length->y6t C hp l ([2]++num s.length) d h2->∃ k,d=.imm (.tok k) ((l++([2]++num s.length)).map ya)/\h2[k]? = some (.tok (l++([2]++num s.length)).length 1)/\y32 E 13 ((l++([2]++num s.length)).map ya) (s.map ya) /\
   y6t C hp l (([2]++num s.length)++s) (.imm (.tok (hp.length+10)) ((l++([2]++num s.length)).map ya++s.map ya)) ((h2.set k .dead).set (hp.length+10) (.tok ((l++([2]++num s.length)).length+s.length) 1)):=by
  rintro d h2 hh ⟨k,rfl,w2,w3,w4,w5⟩
  refine⟨k,rfl,w3,z1j (by simp at hn ⊢;omega),hp.length+10,by simp,by omega,?_,(w4.trans (y26.set (.inr w2))).trans (y26.set (.inr (by omega))),by simp;omega⟩
  have:(l++(([2]++num s.length)++s)).length=(l++([2]++num s.length)).length+s.length:=by simp;omega
  rw[this]
  exact At.self (by simp;omega)
 rcases R with rfl | ⟨q,rfl,hq,hq2⟩
 ·obtain⟨d,hp',e,hm,w⟩:=yb0 (C:=C) (hp:=hp++[.dead,.dead,.tok (l.length+1) 1,.dead,.dead,.dead,.dead,.dead,.dead,.dead,.dead,.dead]) (sp:=.tok (hp.length+2)) s.length (l++[2]) (by omega) (by simp;omega) (by rw[ax];exact z86 hC rfl) (by simp;omega)
  have hlen:hp.length+12<=hp'.length:=by have:=w.choose_spec.2.2.2.2;simpa using this
  have w':=zac (hp:=hp) y26.app (by simp) w
  obtain⟨k,rfl,f1,f2,f3⟩:=fin hlen w'
  rw[z89] at e
  simp at e f1 f2 f3
  have h10:hp.length+10<hp'.length:=by omega
  simp[t299,n299,zl,z1b,z1o,hap,hw,y2n,e,f1,f2,h10]
  simpa using f3
 ·obtain⟨d,hp',e,hm,w⟩:=yb0 (C:=C) (hp:=hp.set q .dead++[.dead,.dead,.tok (l.length+1) 1,.dead,.dead,.dead,.dead,.dead,.dead,.dead,.dead,.dead]) (sp:=.tok (hp.length+2)) s.length (l++[2]) (by omega) (by simp;omega) (by rw[ax];exact zbs hC rfl) (by simp;omega)
  have hlen:hp.length+12<=hp'.length:=by have:=w.choose_spec.2.2.2.2;simpa using this
  have w':=zac (hp:=hp) ((y26.set (.inr hq)).trans y26.app) (by simp) w
  obtain⟨k,rfl,f1,f2,f3⟩:=fin hlen w'
  rw[z89] at e
  have hq3:(hp++af 12 Obj.dead)[q]? = some (.tok (l.length*1) 1):=hq2.appE
  simp at e f1 f2 f3 hq3
  have hlt:=hq2.lt
  have h10:hp.length+10<hp'.length:=by omega
  simp[t299,n299,zl,z1o,hap,hw,y2n,e,f1,f2,h10,hq3,↓z1c hlt]
  simpa using f3

structure Wrs(hp:List Obj)(A B:Nat):Prop where
 a:At hp A (.cells [.nilfn,.fn 298 [],.fn 299 [],.fn 300 [.loc B 0]])
 b:At hp B (.cells [.loc A 0])
theorem Wrs.keep{C:Nat}{hp hp':List Obj}{A B:Nat}(w:Wrs hp A B)(hA:A<C)(hB:B<C)(k:y26 C C hp hp'):Wrs hp' A B:=⟨k.at (by omega) hA w.a,k.at (by omega) hB w.b⟩

def wrF(k:Int):Nat:=if k=1 then 298 else if k=2 then 299 else 300
def wrC(k:Int)(B:Nat):List D:=if k=1 then[] else if k=2 then[] else[.loc B 0]
def y7e(v:CV)(k:Int):Prop:=∀{C A B:Nat} {hp:List Obj} {sp:y1t} (l:List UInt8),Wrs hp A B->A<C->B<C->l.length+(enc v).length<=800000000000->y72 C hp sp l.length 1->C<=hp.length ->
 ∃ d hp',y16 E (dL E) (wrF k) (.imm sp (l.map ya)::dV v::wrC k B) hp=some (d,hp')/\y6t C hp l (enc v) d hp'

theorem s300(vs:List CV)(ih:∀ k n s l,CV.mk k n s l ∈ vs->(k=1\/k=2\/k=3)/\y7e (.mk k n s l) k):y7e (.mk 3 0 [] vs) 3:=by
 intro C A B hp sp l W hA hB hl R hC
 have he:enc (.mk 3 0 [] vs)=([3]++num vs.length)++y2x vs:=by rw[enc,if_neg (by decide),if_neg (by decide)];rfl
 rw[he] at hl ⊢
 have hvl:vs.length<=800000000000:=by have:=z6o vs;simp at hl;omega
 show ∃ d hp',y16 E (dL E) 300 [.imm sp (l.map ya),dV (.mk 3 0 [] vs),.loc B 0] hp=some (d,hp')/\y6t C hp l (([3]++num vs.length)++y2x vs) d hp'
 refine z31 c300 (args:=[.imm sp (l.map ya),dV (.mk 3 0 [] vs),.loc B 0]) (hp:=hp) (R:=y6t C hp l (([3]++num vs.length)++y2x vs)) (by simp) ?_
 conv in t300=>reduce;dsimp[aA]
 have hap:∀ x:D,y32 E 13 (l.map ya) [x]:=fun x=>z1j (by simp at hl ⊢;omega)
 have hw:=z3r (n:=vs.length) (by omega)
 rw[z20]
 obtain⟨h2,e1,k1,l1,R1⟩:=ztx (l:=l) (m:=9) (k:=2) 3 (.int .u8 3) rfl (by omega) R hC (by simp at hl;omega)
 obtain⟨d,h3,e2,hm,w⟩:=yb0 (C:=C) (hp:=h2) vs.length (l++[3]) (by omega) (by simp at hl ⊢;omega) R1 (by omega)
 have w':=zac (hp:=hp) k1 (by omega) w
 simp at e1 e2
 simp[t300,n300,zl,hw,y2n,e1,e2,hm]
 refine z21 vs.length (fun i env h=>∃(x5 x6 x7 x11 x12 x13:D) (dd:D),env=[dd,.agg [dI 3,dI 0,.str [],.imm .none (vs.map dV)],.loc B 0,.iptr [dI 3,dI 0,.str [],.imm .none (vs.map dV)],.imm .exact [],x5,x6,x7,.imm .none (vs.map dV),dI vs.length,dI i,x11,x12,x13]/\y6t C hp l (([3]++num vs.length)++y2x (vs.take i)) dd h) 0 (by omega) ?_ ?_
 ·exact⟨_,_,_,_,_,_,d,rfl,by simpa[y2x] using w'⟩
 rintro i env h hi ⟨x5,x6,x7,x11,x12,x13,dd,rfl,wi⟩
 by_cases hlt:i<vs.length
 ·obtain⟨tk,rfl,w2,w3,w4,w5⟩:=wi
  obtain⟨k,n,s,l',hv⟩:∃ k n s l',vs[i]=CV.mk k n s l':=by
   cases h:vs[i] with
   |mk k n s l'=>exact⟨k,n,s,l',rfl⟩
  have WA:=W.keep hA hB w4
  obtain⟨hk,hwr⟩:=ih k n s l' (by rw[<- hv];exact bT hlt)
  have a1:=WA.a
  have b1:=WA.b
  have hsp:y2x (vs.take (i+1))=y2x (vs.take i)++enc (.mk k n s l'):=by
   rw[List.take_add_one,ae hlt,hv,z5r];simp[y2x]
  have htk:y2x vs=y2x (vs.take (i+1))++y2x (vs.drop (i+1)):=by rw[<- z5r,bz]
  have hL:(l++([3]++num vs.length++y2x (vs.take i))).length+(enc (.mk k n s l')).length<=800000000000:=by
   rw[htk,hsp] at hl
   simp only[ax] at hl ⊢
   omega
  obtain⟨d',h5,e,w⟩:=hwr (C:=C) (A:=A) (B:=B) (sp:=.tok tk) (hp:=h++[.cells [dI k,dI n,.str s,.imm .none (l'.map dV)],.dead,.dead,.dead,.dead,.dead,.dead,.dead,.dead,.dead,.dead,.dead]) (l++([3]++num vs.length++y2x (vs.take i))) (WA.keep hA hB y26.app) hA hB hL (.inr ⟨tk,rfl,w2,by rw[dK];exact w3.app⟩) (by simp;omega)
  have hm':=w.imm
  have w':=zac (hp:=hp) (l:=l) (a:=[3]++num vs.length++y2x (vs.take i)) (w4.trans y26.app) (by simp;omega) w
  have hf:([3]++num vs.length++y2x (vs.take i))++enc (.mk k n s l')=3::(num vs.length++y2x (vs.take (i+1))):=by rw[hsp];simp
  rw[hf] at w'
  have hup:=zq hlt (by omega)
  rw[z20] at e
  rcases hk with rfl | rfl | rfl
  ·simp[wrF,wrC] at e
   simp[hlt,hv,z20,a1.appE,b1.appE,e,hm',hup]
   exact⟨_,_,_,_,_,_,_,⟨rfl,rfl,rfl,rfl,rfl,rfl,rfl⟩,w'⟩
  ·simp[wrF,wrC] at e
   simp[hlt,hv,z20,a1.appE,b1.appE,e,hm',hup]
   exact⟨_,_,_,_,_,_,_,⟨rfl,rfl,rfl,rfl,rfl,rfl,rfl⟩,w'⟩
  ·simp[wrF,wrC] at e
   simp[hlt,hv,z20,a1.appE,b1.appE,e,hm',hup]
   exact⟨_,_,_,_,_,_,_,⟨rfl,rfl,rfl,rfl,rfl,rfl,rfl⟩,w'⟩
 ·have:i=vs.length:=by omega
  subst this
  rw[bp] at wi
  simp
  simpa using wi

theorem z5p:∀{l:List CV},y8t l->∀ v ∈ l,fmd v
 |[],_,v,h=>by simp at h
 |w::l,hf,v,h=>by
  rw[y8t] at hf
  rcases az.1 h with rfl | h
  ·exact hf.1
  ·exact z5p hf.2 v h
theorem zvf{k n:Int}{s:List UInt8}{l:List CV}(h:fmd (.mk k n s l)):k=1\/k=2\/k=3:=by
 rw[fmd] at h
 rcases h with⟨h,_⟩ | ⟨h,_⟩ | ⟨h,_⟩ <;> simp[h]

theorem y9e:∀(m:Nat) (v:CV),sizeOf v<=m->fmd v->∀ k n s l,v=.mk k n s l->y7e v k:=by
 intro m
 induction m with
 |zero=>
  intro v hm
  cases v
  simp at hm
 |succ m ih=>
  intro v hm hf k n s l hv
  subst hv
  have hf':=hf
  rw[fmd] at hf'
  rcases hf' with⟨rfl,hn,rfl,rfl⟩ | ⟨rfl,rfl,rfl⟩ | ⟨rfl,rfl,rfl,hl⟩
  ·intro C A B hp sp l W hA hB hl R hC
   exact s298 l n hn (by omega) R hC
  ·intro C A B hp sp l' W hA hB hl R hC
   have he:enc (.mk 2 0 s [])=2::(num s.length++s):=by rw[enc,if_neg (by decide),if_pos rfl]
   rw[he] at hl
   exact s299 l' s (by simp at hl;omega) R hC
  ·have q:∀ k' n' s' l',CV.mk k' n' s' l' ∈ l->(k'=1\/k'=2\/k'=3)/\y7e (.mk k' n' s' l') k':=fun k' n' s' l' hmem=>⟨zvf (z5p hl _ hmem),by
    have h1:=gB hmem
    have h2:sizeOf (CV.mk k' n' s' l')<=m:=by
     rw[CV.mk.sizeOf_spec] at hm
     omega
    intro C A B hp sp
    exact ih _ h2 (z5p hl _ hmem) k' n' s' l' rfl⟩
   intro C A B hp sp
   exact s300 l q

theorem z9t:∀{l:List CV} {v:CV},v ∈ l->dep v<=y58 l
 |[],v,h=>by simp at h
 |w::l,v,h=>by
  rw[y58]
  rcases az.1 h with rfl | h
  ·exact dP _ _
  ·exact aH (z9t h) (cm _ _)
theorem zgt{hp:List Obj}:∀(m:Nat) (v:CV),fmd v->dep v<=m->∀ n,2*m+2<=n->frz hp n (dV v)=some (dV v):=by
 intro m
 induction m with
 |zero=>
  intro v hf hd n hn
  obtain⟨n,rfl⟩:∃ j,n=j+2:=⟨n - 2,by omega⟩
  obtain⟨k,x,s,l⟩:=v
  rw[fmd] at hf
  rw[dep] at hd
  rcases hf with⟨rfl,_,rfl,rfl⟩ | ⟨rfl,rfl,rfl⟩ | ⟨rfl,_⟩
  ·rw[z20];rfl
  ·rw[z20];rfl
  ·simp at hd
 |succ m ih=>
  intro v hf hd n hn
  obtain⟨n,rfl⟩:∃ j,n=j+3:=⟨n - 3,by omega⟩
  obtain⟨k,x,s,l⟩:=v
  rw[fmd] at hf
  rw[dep] at hd
  rcases hf with⟨rfl,_,rfl,rfl⟩ | ⟨rfl,rfl,rfl⟩ | ⟨rfl,rfl,rfl,hl⟩
  ·rw[z20];rfl
  ·rw[z20];rfl
  ·rw[if_pos rfl] at hd
   have e:y1k (frz hp (n+1)) (l.map dV)=some (l.map dV):=z10 fun v hv=>ih v (z5p hl v hv) (by have:=z9t hv;omega) (n+1) (by omega)
   rw[z20]
   have hs:frz hp (n+2) (.str [])=some (.str []):=rfl
   simp only[z9l,z48,z79,hs,z47,e,aj,z7,z8a]

theorem zms{l:List CV}{i:Nat}(h:i<l.length):y58 (l.take (i+1))=Nat.max (y58 (l.take i)) (dep l[i]):=by
 induction l generalizing i with
 |nil=>simp at h
 |cons v l ih=>
  cases i with
  |zero=>simp[y58]
  |succ i=>
   simp only[aF] at h
   simp only[List.take_succ_cons,y58,List.getElem_cons_succ]
   rw[ih (by omega)]
   exact(Nat.max_assoc _ _ _).symm

theorem zh3:∀{l:List CV} {v:CV},v ∈ l->(enc v).length<=(y2x l).length
 |[],v,h=>by simp at h
 |w::l,v,h=>by
  rw[y2x,ax]
  rcases az.1 h with rfl | h
  ·omega
  ·have:=zh3 h
   omega
structure y5j(v:CV):Prop where
 f:fmd v
 d:dep v<=4
 n:(enc v).length<=800000000000
theorem y5j.len{k n:Int}{s:List UInt8}{l:List CV}(h:y5j (.mk k n s l)):s.length<=800000000000/\l.length<=800000000000:=by
 have hf:=h.f
 have hn:=h.n
 rw[fmd] at hf
 rcases hf with⟨rfl,_,rfl,rfl⟩ | ⟨rfl,rfl,rfl⟩ | ⟨rfl,rfl,rfl,hl⟩
 ·simp
 ·rw[enc,if_neg (by decide),if_pos rfl] at hn
  simp at hn ⊢;omega
 ·rw[enc,if_neg (by decide),if_neg (by decide)] at hn
  have:=z6o l
  simp at hn ⊢;omega
theorem y5j.sub{n:Int}{s:List UInt8}{l:List CV}(h:y5j (.mk 3 n s l)){v:CV}(hv:v ∈ l):y5j v:=by
 have hf:=h.f
 have hn:=h.n
 have hd:=h.d
 rw[fmd] at hf
 rw[dep,if_pos rfl] at hd
 rcases hf with⟨h3,_⟩ | ⟨h3,_⟩ | ⟨_,rfl,rfl,hl⟩
 ·omega
 ·omega
 ·rw[enc,if_neg (by decide),if_neg (by decide)] at hn
  have:=zh3 hv
  have:=z9t hv
  exact⟨z5p hl v hv,by omega,by simp at hn;omega⟩
theorem zcb{hp:List Obj}{v:CV}(h:y5j v):frz hp 12 (dV v)=some (dV v):=zgt 4 v h.f h.d 12 (by decide)

theorem r297:∀(m:Nat) (v:CV),sizeOf v<=m->y5j v->y1i E (dL E) 297 [dV v]=some (.tup [dI (dep v),.bool true]):=by
 intro m
 induction m with
 |zero=>intro v hm;cases v;simp at hm
 |succ m ih=>
  intro v hm hf
  obtain⟨k,n,s,l⟩:=v
  have hf':=hf.f
  have hz:=zcb (hp:=[]) hf
  refine zx c297 (by simp) ?_
  conv in t297=>reduce;dsimp[aA]
  rw[fmd] at hf'
  rw[z20]
  rcases hf' with⟨rfl,hn,rfl,rfl⟩ | ⟨rfl,rfl,rfl⟩ | ⟨rfl,rfl,rfl,hl⟩
  ·by_cases h0:n=0 <;> simp[t297,n297,h0,dep]
  ·by_cases h0:s=[] <;> simp[t297,n297,h0,dep]
  ·have hd:y58 l<=3:=by have:=hf.d;rw[dep,if_pos rfl] at this;omega
   have hln:=hf.len.2
   have hdw:ay.wrap ((y58 l:Int)+1)=(y58 l:Int)+1:=zf ⟨by omega,by omega⟩
   by_cases hb:((l.length:Int) == 0)=true
   all_goals
    simp[t297,n297,dep,hb]
    refine z21 l.length (fun i env h=>∃(x0 x1 x3 x4 x5 x6 x7 x8 x9 x10 x14 x15 x16 x17:D) ,env=[x0,x1,dI (y58 (l.take i)),x3,x4,x5,x6,x7,x8,x9,x10,.imm .none (l.map dV),dI l.length,dI i,x14,x15,x16,x17]) 0 (by omega) ?_ ?_
    ·exact⟨_,_,_,_,_,_,_,_,_,_,_,_,_,_,rfl⟩
    rintro i env h hi ⟨x0,x1,x3,x4,x5,x6,x7,x8,x9,x10,x14,x15,x16,x17,rfl⟩
    by_cases hlt:i<l.length
    ·have hv:=hf.sub (bT hlt)
     have e:=ih l[i] (by have:=gB (bT hlt);rw[CV.mk.sizeOf_spec] at hm;omega) hv
     have hz':=zcb (hp:=[]) hv
     have hup:=zq hlt (by omega)
     obtain⟨k,n,s,l',hq⟩:∃ k n s l',l[i]=CV.mk k n s l':=by
      cases h:l[i] with
      |mk k n s l'=>exact⟨k,n,s,l',rfl⟩
     have hdt:=zms hlt
     rw[hq] at e hz' hdt
     rw[z20] at e hz'
     simp[hlt,hq,z20,e,hz',hup]
     rw[hdt]
     simp only[Nat.max_def]
     split <;> split <;> omega
    ·have:i=l.length:=by omega
     subst this
     simp[hdw]

theorem z3v{E:Env}{cP:Nat->List D->Option D}{cS cY:Nat->List D->List Obj->Option (D × List Obj)}{hp:List Obj}{id:Nat}{g:Opd->D}{f:Opd}:yd E cP cS cY id g hp (.call 4 f [])=(match g f with | .fn k caps=>ob (y1k (frz [] depth) caps) (fun vs=>y5g cS k vs hp) | _=>none):=by
 simp only[yd,DOp.fin,yj]
 cases g f <;> try rfl
 rename_i k caps
 simp only[]
 cases y1k (frz [] depth) caps <;> rfl

theorem s282(hp:List Obj):y16 E (dL E) 282 [] hp=some (.loc hp.length 0,hp++[.cells [.nilfn,.fn 298 [],.fn 299 [],.fn 300 [.loc (hp.length+1) 0]],.cells [.loc hp.length 0]]):=by
 have:∃ d hp',y16 E (dL E) 282 [] hp=some (d,hp')/\(d=.loc hp.length 0/\hp'=hp++[.cells [.nilfn,.fn 298 [],.fn 299 [],.fn 300 [.loc (hp.length+1) 0]],.cells [.loc hp.length 0]]):=by
  refine z31 c282 (args:=[]) (hp:=hp) (R:=fun d hp'=>d=.loc hp.length 0/\hp'=hp++[.cells [.nilfn,.fn 298 [],.fn 299 [],.fn 300 [.loc (hp.length+1) 0]],.cells [.loc hp.length 0]]) (by simp) ?_
  conv in t282=>reduce;dsimp[aA]
  simp[t282,n282]
 obtain⟨d,hp',e,rfl,rfl⟩:=this
 exact e
theorem r281{v:CV}(h:y5j v):y1i E (dL E) 281 [dV v]=some (dI 0):=by
 have e:=r297 (sizeOf v) v (ai _) h
 have hz:=zcb (hp:=[]) h
 obtain⟨k,n,s,l⟩:=v
 refine zx c281 (by simp) ?_
 conv in t281=>reduce;dsimp[aA]
 have hd:=h.d
 rw[z20] at e hz ⊢
 simp[t281,n281,e,hz]
 omega
theorem r264{v:CV}(h:y5j v):y1i E (dL E) 264 [dV v]=some (.tup [dBy (enc v),dI 0]):=by
 have e:=r281 h
 have hz:=zcb (hp:=[]) h
 have e2:=s282 (af 11 .dead)
 have hf:=h.f
 have hn:=h.n
 obtain⟨k,n,s,l⟩:=v
 have hk:=zvf hf
 obtain⟨d,h5,e5,w⟩:=y9e (sizeOf (CV.mk k n s l)) (.mk k n s l) (ai _) hf k n s l rfl (C:=13) (A:=11) (B:=12) (sp:=.exact) (hp:=af 11 .dead++[.cells [.nilfn,.fn 298 [],.fn 299 [],.fn 300 [.loc 12 0]],.cells [.loc 11 0]]) []
  ⟨by simp[At],by simp[At]⟩ (by omega) (by omega) (by simpa using hn) (.inl rfl) (by simp)
 have hm:=w.imm
 obtain⟨tk,rfl,w2,w3,w4,w5⟩:=w
 rw[bL] at w3 hm e5
 have hfz:∀ l:List UInt8,y1k (frz h5 10) (l.map ya)=some (l.map ya):=fun l=>z10 fun x _=>rfl
 refine zx c264 (by simp) ?_
 conv in t264=>reduce;dsimp[aA]
 rw[z20] at e hz e5 ⊢
 simp at e2
 rcases hk with rfl | rfl | rfl
 ·simp[wrF,wrC] at e5
  simp[t264,n264,e,hz,z3v,y5g,e2,e5,hfz,y14]
 ·simp[wrF,wrC] at e5
  simp[t264,n264,e,hz,z3v,y5g,e2,e5,hfz,y14]
 ·simp[wrF,wrC] at e5
  simp[t264,n264,e,hz,z3v,y5g,e2,e5,hfz,y14]

@[simp] theorem ybt{a b:Prop}:y6c (.tup []) a b=b:=zc3 rfl
@[simp] theorem ybs{k:Go.IntKind}{n:Int}{a b:Prop}:y6c (.int k n) a b=b:=zc3 rfl
@[simp] theorem ybu{sp:y1t}{l:List D}{a b:Prop}:y6c (.imm sp l) a b=b:=zc3 rfl
theorem yal(a:D)(hp:List Obj):y16 E (dL E) 292 [a,.bool true] hp=some (.tup [],hp):=by
 have:∃ d hp',y16 E (dL E) 292 [a,.bool true] hp=some (d,hp')/\(d=.tup []/\hp'=hp):=by
  refine z8v c292 (by simp) ?_
  conv in t292=>reduce;dsimp[aA]
  simp[t292,n292,y9m]
 obtain⟨d,hp',e,rfl,rfl⟩:=this
 exact e

theorem zv9{l:List UInt8}:y49 1 (l.map ya)=true:=by cases l <;> rfl
theorem ydh{l:List UInt8}{n:Nat}(h:n<=l.length):y13 E 30 (.imm .none (l.map ya)) (some (.int .i64 n)) none none=some (.imm .none ((l.drop n).map ya)):=by
 simp[y13,bnd,h,zv9,y2b]
 exact bu (by simp)
theorem ydg{l:List UInt8}{n:Nat}(h:n<=l.length):y13 E 30 (.imm .none (l.map ya)) none (some (.int .i64 n)) (some (.int .i64 n))=some (.imm .exact ((l.take n).map ya)):=by
 simp[y13,bnd,h,zv9,y2b,List.map_take]

theorem yax{hp:List Obj}{R n:Nat}{l:List UInt8}(a:At hp R (.cells [.imm .none (l.map ya)]))(hn:n<=l.length)(hl:l.length<9223372036854775808) :
  y16 E (dL E) 305 [.loc R 0,.int .i64 n] hp=some (.imm .exact ((l.take n).map ya),hp.set R (.cells [.imm .none ((l.drop n).map ya)])):=by
 have:∃ d hp',y16 E (dL E) 305 [.loc R 0,.int .i64 n] hp=some (d,hp')/\(d=.imm .exact ((l.take n).map ya)/\hp'=hp.set R (.cells [.imm .none ((l.drop n).map ya)])):=by
  refine z8v c305 (by simp) ?_
  conv in t305=>reduce;dsimp[aA]
  have e1:=ydh hn
  have e2:=ydg hn
  simp[t305,n305,y9m,↓a.eq,yal,hn,e1,e2,zef]
 obtain⟨d,hp',e,rfl,rfl⟩:=this
 exact e

theorem ybg{n:Nat}(h:n<256):y7x .u8 (n:Int) 127=((n % 128:Nat):Int):=by
 have key:∀ m:Fin 256,y7x .u8 ((m.val:Nat):Int) 127=((m.val % 128:Nat):Int):=by decide +kernel
 exact key ⟨n,h⟩
theorem shl7{m i:Nat}(hi:i<=9)(h:m*2 ^ (7*i)<18446744073709551616):y2e E .shl 63 (.int .u64 (m:Int)) (.int .i64 ((7*i:Nat):Int))=some (.int .u64 ((m*2 ^ (7*i):Nat):Int)):=by
 have e1:min ((7*i:Nat):Int).toNat bg.bits=7*i:=by
  rw[z1n,cK];omega
 have e2:(m:Int)*2 ^ (7*i)=((m*2 ^ (7*i):Nat):Int):=by simp
 rw[zha,if_pos (by omega),e1,e2,z3r h]
theorem zuu{acc m i:Nat}(h:acc<2 ^ (7*i))(h2:acc+m*2 ^ (7*i)<18446744073709551616):y2e E .or 63 (.int .u64 (acc:Int)) (.int .u64 ((m*2 ^ (7*i):Nat):Int))=some (.int .u64 ((acc+m*2 ^ (7*i):Nat):Int)):=by
 have e1:y8r .u64 (acc:Int) ((m*2 ^ (7*i):Nat):Int)=((acc+m*2 ^ (7*i):Nat):Int):=by
  unfold y8r
  have e2:=Nat.two_pow_add_eq_or_of_lt h m
  rw[jX (2 ^ (7*i)) m] at e2
  generalize m*2 ^ (7*i)=p at *
  rw[z1n]
  have e3:(br 64 (acc:Int) ||| br 64 (p:Int)).toNat=acc+p:=by
   have q1:(acc:Int) % 18446744073709551616=acc:=by omega
   have q2:(p:Int) % 18446744073709551616=p:=by omega
   simp[gK,j0,q1,q2]
   rw[Nat.or_comm,eV (show p<18446744073709551616 by omega),eV (show acc<18446744073709551616 by omega)]
   omega
  rw[e3,z3r h2]
 rw[znb,e1]
theorem z6x{hp:List Obj}{i:Nat}{o:Obj}(a:At hp i o):hp.set i o=hp:=by
 apply cB 
 intro j
 rw[List.getElem?_set]
 split
 ·rename_i h;subst h
  split
  ·exact a.symm
  ·rename_i h;exact absurd a.lt h
 ·rfl
theorem yb3:y93 9=2:=rfl
theorem s306{u:Nat}{r:List UInt8}{hp:List Obj}{R:Nat}(hu:u<18446744073709551616)(a:At hp R (.cells [.imm .none ((num u++r).map ya)]))(hr:r.length<4611686018427387904) :
  y16 E (dL E) 306 [.loc R 0] hp=some (.int .u64 (u:Nat),hp.set R (.cells [.imm .none (r.map ya)])):=by
 have:∃ d hp',y16 E (dL E) 306 [.loc R 0] hp=some (d,hp')/\(d=.int .u64 (u:Nat)/\hp'=hp.set R (.cells [.imm .none (r.map ya)])):=by
  refine z8v c306 (by simp) ?_
  conv in t306=>reduce;dsimp[aA]
  simp[t306,n306]
  refine⟨fun k env h=>∃(x3 x4 x5 x6:D) (acc:Nat) (i:Nat),env=[.loc R 0,.int .u64 (acc:Nat),dI i,x3,x4,x5,x6]/\h=hp.set R (.cells [.imm .none ((num k++r).map ya)])/\acc+k*2 ^ (7*i)=u/\acc<2 ^ (7*i)/\i<=9/\(i=0\/k ≠ 0)/\k<y93 i,u,?_,?_⟩
  ·exact⟨_,_,_,_,(0),0,rfl,(z6x a).symm,by simp,by simp,by simp,.inl rfl,hu⟩
  rintro k env h ⟨x3,x4,x5,x6,acc,i,rfl,rfl,hs,ha,hi,h0,hk⟩
  have al:R<hp.length:=a.lt
  have hnl:=zc0 (u:=k) (by have:y93 i<=18446744073709551616:=Nat.pow_le_pow_right (by decide) (by omega:64 - 7*i<=64);omega)
  obtain⟨c,q,hc,hcn⟩:∃(c:UInt8) (q:List UInt8),num k=c::q/\((k<128/\c.toNat=k/\q=[])\/(128<=k/\c.toNat=k % 128+128/\q=num (k / 128))):=by
   by_cases hlo:k<128
   ·exact⟨_,_,z7t hlo,.inl ⟨hlo,z33 (by omega),rfl⟩⟩
   ·exact⟨_,_,zas hlo,.inr ⟨by omega,z33 (by omega),rfl⟩⟩
  rw[hc] at hnl ⊢
  simp only[aF] at hnl
  have b:At (hp.set R (.cells [.imm .none (((c::q)++r).map ya)])) R (.cells [.imm .none (((c::q)++r).map ya)]):=.self al
  have e1:=yax (n:=1) b (by simp) (by simp;omega)
  simp at e1
  have hcnd:(ob (if i=0 then some (D.bool true) else some (D.bool ((c.toNat:Int) != 0))) fun t=>yao t (if(i:Int)<9 then some (D.bool true) else some (D.bool (decide ((c.toNat:Int)<=1)))) (some (D.bool false)))=some (.bool true):=by
   have q9:i=9->c.toNat<=1:=by
    rintro rfl
    rw[yb3] at hk
    rcases hcn with h | h <;> omega
   have q0:i ≠ 0 -> ¬ c.toNat=0:=by
    intro h
    rcases hcn with h | h <;> omega
   by_cases z:i=0
   ·subst z;simp
   ·have q0:=q0 z
    by_cases n:(i:Int)<9
    ·simp[z,n,q0]
    ·have q9:=q9 (by omega)
     have q9:(c.toNat:Int)<=1:=by omega
     simp[z,n,q0,q9]
  obtain⟨m,hm⟩:∃ m:Nat,m=c.toNat % 128:=⟨_,rfl⟩
  obtain⟨s,hS⟩:∃ s:Nat,s=7*i:=⟨_,rfl⟩
  have hmk:m*2 ^ (7*i)<=k*2 ^ (7*i):=bh _ (by omega)
  obtain⟨p,hp'⟩:∃ p:Nat,p=m*2 ^ (7*i):=⟨_,rfl⟩
  obtain⟨t,ht⟩:∃ t:Nat,t=acc+p:=⟨_,rfl⟩
  have ea:y7x .u8 (c.toNat:Int) 127=(m:Int):=by rw[hm];exact ybg (yc5 c)
  have ew:ay.wrap (7*(i:Int))=(s:Int):=by simp[cu,cw,ca];omega
  have ec:y2n E 13 63 (D.int .u8 (m:Int))=some (.int .u64 (m:Int)):=by
   have:=z3r (n:=m) (by omega)
   simp[y2n,this]
  have es:y2e E .shl 63 (.int .u64 (m:Int)) (.int .i64 (s:Int))=some (.int .u64 (p:Int)):=by rw[hS,hp'];exact shl7 hi (by omega)
  have eo:y2e E .or 63 (.int .u64 (acc:Int)) (.int .u64 (p:Int))=some (.int .u64 (t:Int)):=by rw[ht,hp'];exact zuu ha (by omega)
  clear a
  by_cases hlo:(c.toNat:Int)<128
  ·have hcn:c.toNat=k/\q=[]:=by
    rcases hcn with h | h
    ·exact h.2
    ·omega
   obtain⟨hck,rfl⟩:=hcn
   have htu:t=u:=by rw[ht,hp',hm,<- hs,<- hck,eV (by omega)]
   simp at e1
   simp[e1,yal,hcnd,ea,ew,ec,es,eo,hlo,y9m,htu]
  ·have hcn:128<=k/\m=k % 128/\q=num (k / 128):=by
    rcases hcn with h | h
    ·omega
    ·exact⟨h.1,by omega,h.2.2⟩
   obtain⟨hk1,hmk,rfl⟩:=hcn
   have h9:i<9:=by
    rcases bX i 9 with h9 | h9
    ·exact h9
    ·have:i=9:=by omega
     subst this
     rw[yb3] at hk;omega
   have hn:=zr2 h9
   have hP:2 ^ (7*(i+1))=128*2 ^ (7*i):=by
    rw[show 7*(i+1)=7+7*i from by omega,iV]
   have hw:ay.wrap ((i:Int)+1)=((i+1:Nat):Int):=by simp[cu,cw,ca];omega
   have hk2:k=m+128*(k / 128):=by omega
   simp[e1,yal,hcnd,ea,ew,ec,es,eo,hlo]
   refine⟨k / 128,by omega,_,_,_,_,t,i+1,⟨rfl,hw,rfl,rfl,rfl,rfl⟩,rfl,?_,?_,by omega,.inr (by omega),by omega⟩
   ·rw[ht,hp',hP,<- hs]
    generalize 2 ^ (7*i)=P
    generalize hq:k / 128=q at hk2
    rw[hk2,aX,jX 128 q,Nat.mul_assoc,Nat.add_assoc]
   ·rw[ht,hp',hP]
    have:m*2 ^ (7*i)<=127*2 ^ (7*i):=bh _ (by omega)
    omega
 obtain⟨d,hp',e,rfl,rfl⟩:=this
 exact e

theorem zk7{x:Nat}(h:x<9223372036854775808):y65 .i64 (x:Int) 0=x:=by
 have e:(br 64 (x:Int) ^^^ br 64 0).toNat=x:=by simp;omega
 have w:ay.wrap (x:Int)=(x:Int):=by simp[cu,cw,ca];omega
 unfold y65
 rw[zcq,e,w]
theorem zk8{x:Nat}(h:x<9223372036854775808):y65 .i64 (x:Int) (-1) = -(x:Int) - 1:=by
 have e:(br 64 (x:Int) ^^^ br 64 (-1)).toNat=18446744073709551615 - x:=by
  have:(br 64 (-1))=lu 64:=by decide
  rw[this,jZ]
  simp
  omega
 have w:ay.wrap ((18446744073709551615 - x:Nat):Int) = -(x:Int) - 1:=by simp[cu,cw,ca];omega
 unfold y65
 rw[zcq,e,w]
theorem and1{u:Nat}(h:u<18446744073709551616):y7x .u64 (u:Int) 1=((u % 2:Nat):Int):=by
 have e:(br 64 (u:Int) &&& br 64 1).toNat=u % 2:=by
  simp[iz]
 unfold y7x
 rw[z1n,e,z3r (by omega)]
theorem r307(u:Nat)(hu:u<18446744073709551616):y1i E (dL E) 307 [.int .u64 (u:Int)]=some (dI (sgn u)):=by
 refine zx c307 (by simp) ?_
 conv in t307=>reduce;dsimp[aA]
 have e1:(u:Int).fdiv (2 ^ min 1 bg.bits)=((u / 2:Nat):Int):=by
  rw[z1n,show(2:Int) ^ min 1 64=2 from rfl,cF _ (by omega)];omega
 have e2:=and1 hu
 have w1:ay.wrap ((u / 2:Nat):Int)=((u / 2:Nat):Int):=by simp[cu,cw,ca];omega
 have w3:y65 .i64 ((u / 2:Nat):Int) (ay.wrap (-ay.wrap ((u % 2:Nat):Int)))=sgn u:=by
  unfold sgn
  by_cases h:u % 2=0
  ·rw[if_pos h,h]
   exact zk7 (by omega)
  ·rw[if_neg h,show u % 2=1 from by omega]
   exact zk8 (by omega)
 obtain⟨q,hq⟩:∃ q:Nat,q=u % 2:=⟨_,rfl⟩
 obtain⟨p,hp⟩:∃ p:Nat,p=u / 2:=⟨_,rfl⟩
 obtain⟨z,hz⟩:∃ z:Int,z=sgn u:=⟨_,rfl⟩
 rw[<- hp] at e1 w1 w3
 rw[<- hq] at e2 w3
 rw[<- hz] at w3 ⊢
 simp[t307,n307,y2n,e1,e2,w1,w3]

theorem s308{n:Nat}{r:List UInt8}{hp:List Obj}{R:Nat}(a:At hp R (.cells [.imm .none ((num n++r).map ya)]))(hn:n<=r.length)(hr:r.length<4611686018427387904) :
  y16 E (dL E) 308 [.loc R 0] hp=some (dI n,hp.set R (.cells [.imm .none (r.map ya)])):=by
 have:∃ d hp',y16 E (dL E) 308 [.loc R 0] hp=some (d,hp')/\(d=dI n/\hp'=hp.set R (.cells [.imm .none (r.map ya)])):=by
  refine z8v c308 (by simp) ?_
  conv in t308=>reduce;dsimp[aA]
  have e1:=s306 (by omega) a hr
  have b:At (hp.set R (.cells [.imm .none (r.map ya)])) R (.cells [.imm .none (r.map ya)]):=.self a.lt
  have w1:bg.wrap (r.length:Int)=(r.length:Int):=z3r (by omega)
  have w2:ay.wrap (n:Int)=(n:Int):=by simp[cu,cw,ca];omega
  have hn':(n:Int)<=(r.length:Int):=by omega
  simp[t308,n308,e1,↓b.eq,yal,y2n,w1,w2,hn',y9m]
 obtain⟨d,hp',e,rfl,rfl⟩:=this
 exact e

theorem zv8{hp:List Obj}:∀(n:Nat) (v:CV),ids hp n (dV v)=[]:=by
 intro n
 induction n using df with
 |_ n ih=>
  intro v
  obtain⟨k,x,s,l⟩:=v
  rw[z20]
  match n,ih with
  | 0,_=>rfl
  | 1,_=>simp[ids]
  |n+2,ih=>
   have:(l.map dV).flatMap (ids hp n)=[]:=by
    rw[iG]
    intro d hd
    obtain⟨v,_,rfl⟩:=aV.1 hd
    exact ih n (by omega) v
   simp only[ids,bB,iA,this,bY]

end Dv

namespace Dv

structure Ent where
 kind:Int
 idx:Int
 amt:Int
deriving DecidableEq

structure Pst where
 no:Int
 minute:Int
 corrects:Int
 ents:List Ent
 prev:List UInt8
deriving DecidableEq


abbrev y41(e:Ent):D:=.agg [dI e.kind,dI e.idx,dI e.amt]
abbrev y36(p:Pst):D:=.agg (dI p.no::dI p.minute::dI p.corrects :: .imm .none (p.ents.map y41)::p.prev.map ya)
abbrev y2f(l:List Pst):D:=.imm .none (l.map y36)
abbrev y7c(d:List UInt8):D:=.agg (d.map ya)

def ltA(a b:Ent):Prop:=a.kind<b.kind\/a.kind=b.kind/\a.idx<b.idx
instance(a b:Ent):Decidable (ltA a b):=inferInstanceAs (Decidable (_\/_))
def y5d(x:Ent):Prop:=(1<=x.kind/\x.kind<=5)/\(-1<=x.idx/\x.idx<=4095)/\x.amt ≠ 0 /\ -1099511627776<=x.amt/\x.amt<=1099511627776
instance(x:Ent):Decidable (y5d x):=inferInstanceAs (Decidable (_/\_))
def ordE(l:List Ent):Prop:=∀ i,∀ h:i+1<l.length,ltA l[i] l[i+1]
def y5a:List Ent->Int
 |[]=>0
 |x::l=>x.amt+y5a l
theorem zep(a b:List Ent):y5a (a++b)=y5a a+y5a b:=by
 induction a with
 |nil=>simp[y5a]
 |cons x a ih=>simp only[aZ,y5a,ih];omega
structure fmE(l:List Ent):Prop where
 two:2<=l.length
 most:l.length<=4096
 ok:∀ x,x ∈ l->y5d x
 ord:ordE l
structure fmP(p:Pst):Prop where
 no:0<=p.no/\p.no<65536
 minute:0<=p.minute/\p.minute<1440
 corrects : -1<=p.corrects/\p.corrects<p.no
 ents:fmE p.ents
open Classical in
noncomputable def y3n(p:Pst):Int:=if fmP p then(if y5a p.ents=0 then 0 else 411) else 410
structure gdP(p:Pst):Prop where
 fm:fmP p
 sum:y5a p.ents=0
theorem z1y{p:Pst}:y3n p=0 ↔ gdP p:=by
 unfold y3n
 constructor
 ·intro h
  split at h
  ·rename_i h1
   split at h
   ·rename_i h2;exact⟨h1,h2⟩
   ·simp at h
  ·simp at h
 ·rintro⟨h1,h2⟩
  rw[if_pos h1,if_pos h2]

def cI(n:Int):CV:=.mk 1 n [] []
def cL(l:List CV):CV:=.mk 3 0 [] l
def cT(s:List UInt8):CV:=.mk 2 0 s []
def y4a(x:Ent):CV:=cL [cI x.kind,cI x.idx,cI x.amt]
def y76(p:Pst):CV:=cL [cI p.no,cI p.minute,cI p.corrects,cL (p.ents.map y4a),cT p.prev]
def y4v(p:Pst):List UInt8:=enc (y76 p)

theorem zh2{x y:Ent}(h:y4a x=y4a y):x=y:=by
 obtain⟨a,b,c⟩:=x
 obtain⟨a',b',c'⟩:=y
 simp[y4a,cL,cI] at h
 obtain⟨rfl,rfl,rfl⟩:=h
 rfl
theorem zof{p q:Pst}(h:y76 p=y76 q):p=q:=by
 obtain⟨a,b,c,l,d⟩:=p
 obtain⟨a',b',c',l',d'⟩:=q
 simp only[y76,cL,cI,cT,CV.mk.injEq,List.cons.injEq,true_and,and_true] at h
 obtain⟨rfl,rfl,rfl,h,rfl⟩:=h
 have:l=l':=by
  have hi:Function.Injective y4a:=fun x y h=>zh2 h
  exact(List.map_inj_right fun x y h=>zh2 h).1 h
 rw[this]

theorem z7a{n:Int}(h:i64 n):fmd (cI n):=by unfold cI;rw[fmd];exact .inl ⟨rfl,h,rfl,rfl⟩
theorem zpe{s:List UInt8}:fmd (cT s):=by unfold cT;rw[fmd];exact .inr (.inl ⟨rfl,rfl,rfl⟩)
theorem zcd{l:List CV}(h:y8t l):fmd (cL l):=by unfold cL;rw[fmd];exact .inr (.inr ⟨rfl,rfl,rfl,h⟩)
theorem z8b:∀{l:List CV},(∀ v,v ∈ l->fmd v)->y8t l
 |[],_=>by rw[y8t];trivial
 |v::l,h=>by rw[y8t];exact⟨h v (by simp),z8b fun w hw=>h w (by simp[hw])⟩
theorem zcl{n:Int}:dep (cI n)=0:=by unfold cI;rw[dep,if_neg (by decide)]
theorem zpu{s:List UInt8}:dep (cT s)=0:=by unfold cT;rw[dep,if_neg (by decide)]
theorem zck{l:List CV}:dep (cL l)=y58 l+1:=by unfold cL;rw[dep,if_pos rfl]
theorem zcn{n:Nat}:∀{l:List CV},(∀ v,v ∈ l->dep v<=n)->y58 l<=n
 |[],_=>by rw[y58];omega
 |v::l,h=>by rw[y58];exact Nat.max_le.2 ⟨h v (by simp),zcn fun w hw=>h w (by simp[hw])⟩

structure yap(p:Pst):Prop where
 no:i64 p.no
 minute:i64 p.minute
 corrects:i64 p.corrects
 ents:∀ x,x ∈ p.ents->i64 x.kind/\i64 x.idx/\i64 x.amt

theorem zc9{p:Pst}(h:fmP p):yap p:=by
 obtain⟨h1,h2,h3,h4⟩:=h
 refine⟨⟨by omega,by omega⟩,⟨by omega,by omega⟩,⟨by omega,by omega⟩,fun x hx=>?_⟩
 obtain⟨a,b,c,d⟩:=h4.ok x hx
 exact⟨⟨by omega,by omega⟩,⟨by omega,by omega⟩,⟨by omega,by omega⟩⟩

theorem zmb{x:Ent}(h:i64 x.kind/\i64 x.idx/\i64 x.amt):fmd (y4a x):=by
 unfold y4a
 refine zcd (z8b fun v hv=>?_)
 simp only[az,gv,or_false] at hv
 rcases hv with rfl | rfl | rfl
 ·exact z7a h.1
 ·exact z7a h.2.1
 ·exact z7a h.2.2
theorem zcc{p:Pst}(h:yap p):fmd (y76 p):=by
 unfold y76
 refine zcd (z8b fun v hv=>?_)
 simp only[az,gv,or_false] at hv
 rcases hv with rfl | rfl | rfl | rfl | rfl
 ·exact z7a h.no
 ·exact z7a h.minute
 ·exact z7a h.corrects
 ·refine zcd (z8b fun v hv=>?_)
  obtain⟨x,hx,rfl⟩:=aV.1 hv
  exact zmb (h.ents x hx)
 ·exact zpe
theorem zmr{x:Ent}:dep (y4a x)=1:=by
 unfold y4a;rw[zck];simp[y58,zcl]
theorem zcj{p:Pst}:dep (y76 p)<=3:=by
 unfold y76
 rw[zck]
 have:y58 [cI p.no,cI p.minute,cI p.corrects,cL (p.ents.map y4a),cT p.prev]<=2:=by
  refine zcn fun v hv=>?_
  simp only[az,gv,or_false] at hv
  rcases hv with rfl | rfl | rfl | rfl | rfl
  ·rw[zcl];omega
  ·rw[zcl];omega
  ·rw[zcl];omega
  ·rw[zck]
   have:y58 (p.ents.map y4a)<=1:=zcn fun v hv=>by
    obtain⟨x,_,rfl⟩:=aV.1 hv
    rw[zmr];omega
   omega
  ·rw[zpu];omega
 omega

theorem z93{u:Nat}(h:u<18446744073709551616):(num u).length<=11:=by
 have key:∀(k u:Nat),u<2 ^ (7*k)->(num u).length<=k+1:=by
  intro k
  induction k with
  |zero=>intro u h;rw[z7t (by omega)];simp
  |succ k ih=>
   intro u h
   by_cases h1:u<128
   ·rw[z7t h1];simp
   ·rw[zas h1]
    have:=ih (u / 128) (by
     rw[ji (by decide),show(128:Nat)=2 ^ 7 from rfl,<- iV]
     rwa [show 7*k+7=7*(k+1) from by omega])
    simp;omega
 have:(18446744073709551616:Nat)<=2 ^ (7*10):=by decide
 exact key 10 u (by omega)
theorem zte{n:Int}:enc (cI n)=1::num (uns n):=by unfold cI;rw[enc,if_pos rfl]
theorem zpn{s:List UInt8}:enc (cT s)=2::(num s.length++s):=by unfold cT;rw[enc,if_neg (by decide),if_pos rfl]
theorem zcg{l:List CV}:enc (cL l)=3::(num l.length++y2x l):=by unfold cL;rw[enc,if_neg (by decide),if_neg (by decide)]
theorem z59{n:Int}(h:i64 n):(enc (cI n)).length<=12:=by
 rw[zte]
 have:=z93 (zae h)
 simp;omega
theorem zmn{n:Nat}:∀{l:List CV},(∀ v,v ∈ l->(enc v).length<=n)->(y2x l).length<=l.length*n
 |[],_=>by simp[y2x]
 |v::l,h=>by
  have h1:=h v (by simp)
  have h2:=zmn (l:=l) fun w hw=>h w (by simp[hw])
  simp only[y2x,ax,aF,aX];omega
theorem zpq{x:Ent}(h:i64 x.kind/\i64 x.idx/\i64 x.amt):(enc (y4a x)).length<=48:=by
 unfold y4a
 rw[zcg]
 have h1:=z59 h.1
 have h2:=z59 h.2.1
 have h3:=z59 h.2.2
 have h4:=z93 (u:=3) (by omega)
 simp[y2x] at h1 h2 h3 h4 ⊢
 omega
theorem z8d{p:Pst}(h:yap p)(hn:p.ents.length<=1000000)(hp:p.prev.length<=1000000):(y4v p).length<=48*p.ents.length+p.prev.length+100:=by
 unfold y4v y76
 rw[zcg]
 have h1:=z59 h.no
 have h2:=z59 h.minute
 have h3:=z59 h.corrects
 have h4:=z93 (u:=5) (by omega)
 have h5:(enc (cL (p.ents.map y4a))).length<=48*p.ents.length+12:=by
  rw[zcg]
  have:=z93 (u:=(p.ents.map y4a).length) (by simp;omega)
  have h6:=zmn (n:=48) (l:=p.ents.map y4a) fun v hv=>by
   obtain⟨x,hx,rfl⟩:=aV.1 hv
   exact zpq (h.ents x hx)
  simp at this h6 ⊢
  omega
 have h7:(enc (cT p.prev)).length<=p.prev.length+12:=by
  rw[zpn]
  have:=z93 (u:=p.prev.length) (by omega)
  simp;omega
 simp only[aF,ax,y2x,bI,Nat.reduceAdd] at h4 ⊢
 omega

theorem zpo{p q:Pst}(hp:yap p)(hq:yap q)(hn:p.ents.length<=1000000)(hl:p.prev.length<=1000000)(e:y4v p=y4v q):p=q:=by
 have h1:=zcj (p:=p)
 have h2:=zcj (p:=q)
 have h3:=z8d hp hn hl
 exact zof (ztf (zcc hp) (zcc hq) (by omega) (by omega) (by unfold y4v at h3;omega) e)


abbrev Tag:=List UInt8->List UInt8->List UInt8
def y37:List UInt8:=[112,111,115,116,105,110,103,115]
def y3e:List UInt8:=[112,111,115,116,105,110,103]
def ybf:List UInt8:=[99,104,97,105,110]
def y5p(tg:Tag):List UInt8:=tg y37 []
def ybe(tg:Tag)(a b:List UInt8):List UInt8:=tg ybf (a++b)
def y9p(tg:Tag)(d:List UInt8)(p:Pst):List UInt8:=ybe tg d (tg y3e (y4v p))
def y4j(tg:Tag)(l:List Pst):List UInt8:=l.foldl (y9p tg) (y5p tg)
theorem zmq{tg:Tag}{l:List Pst}{p:Pst}:y4j tg (l++[p])=y9p tg (y4j tg l) p:=by simp[y4j]
theorem zmp{tg:Tag}{l:List Pst}{i:Nat}(h:i<l.length):y4j tg (l.take (i+1))=y9p tg (y4j tg (l.take i)) l[i]:=by
 rw[bj h,zmq]

structure atP(tg:Tag)(l:List Pst)(i:Nat)(p:Pst):Prop where
 no:p.no=i
 prev:p.prev=y4j tg (l.take i)
 minute:∀ j q,j+1=i->l[j]? = some q->q.minute<=p.minute
def vld(tg:Tag)(l:List Pst):Prop:=l.length<=65536/\(∀ p,p ∈ l->gdP p) /\ ∀ i p,l[i]? = some p->atP tg l i p

open Classical in
noncomputable def y2c:List Pst->Int
 |[]=>0
 |p::l=>if y3n p=0 then y2c l else y3n p
open Classical in
noncomputable def rdE(tg:Tag)(l:List Pst):Int:=if 65536<l.length then 2 else if y2c l ≠ 0 then y2c l else if vld tg l then 0 else 410

theorem z38:∀{l:List Pst},y2c l=0 ↔ ∀ p,p ∈ l->gdP p
 |[]=>by simp[y2c]
 |p::l=>by
  simp only[y2c,az,forall_eq_or_imp]
  split
  ·rename_i h
   rw[z38]
   exact⟨fun h2=>⟨z1y.1 h,h2⟩,fun h2=>h2.2⟩
  ·rename_i h
   exact⟨fun h2=>absurd h2 h,fun h2=>absurd (z1y.2 h2.1) h⟩
theorem z2o{tg:Tag}{l:List Pst}:rdE tg l=0 ↔ vld tg l:=by
 unfold rdE
 constructor
 ·intro h
  split at h
  ·simp at h
  ·split at h
   ·rename_i h2;exact absurd h h2
   ·split at h
    ·assumption
    ·simp at h
 ·intro h
  rw[if_neg (by have:=h.1;omega),if_neg (by simp only[ne_eq,kj];exact z38.2 h.2.1),if_pos h]

theorem zbk{tg:Tag}:vld tg []:=⟨by simp,by simp,by simp⟩
theorem znx{tg:Tag}{l:List Pst}{p:Pst}(h:vld tg l)(hl:l.length<65536)(g:gdP p)(hno:p.no=l.length)(hprev:p.prev=y4j tg l)(hm:∀ q,l.getLast? = some q->q.minute<=p.minute):vld tg (l++[p]):=by
 refine⟨by simp;omega,fun q hq=>?_,fun i q hi=>?_⟩
 ·rcases aW.1 hq with hq | hq
  ·exact h.2.1 q hq
  ·simp at hq;subst hq;exact g
 ·rw[List.getElem?_append] at hi
  split at hi
  ·rename_i hlt
   obtain⟨a,b,c⟩:=h.2.2 i q hi
   refine⟨a,?_,fun j r hj hr=>c j r hj ?_⟩
   ·rw[bO (by omega)];exact b
   ·rw[aw (by omega)] at hr;exact hr
  ·rename_i hge
   have hi0:i=l.length:=by
    have:=(ac.1 hi).1
    simp at this;omega
   subst hi0
   simp at hi;subst hi
   refine⟨hno,?_,fun j r hj hr=>hm r ?_⟩
   ·rw[bO (ai _),bp];exact hprev
   ·rw[aw (by omega)] at hr
    rw[fI,<- hr]
    congr 1;omega

structure Stp where
 minute:Int
 corrects:Int
 ents:List Ent
def y4q(tg:Tag)(l:List Pst)(s:Stp):Pst:=⟨l.length,s.minute,s.corrects,s.ents,y4j tg l⟩
open Classical in
noncomputable def y39(tg:Tag)(l:List Pst)(s:Stp):Int:=
 if rdE tg l ≠ 0 then rdE tg l else if l.length=65536 then 2 else if ∃ q,l.getLast? = some q/\s.minute<q.minute then 410 else y3n (y4q tg l s)
theorem zbw{tg:Tag}{l:List Pst}{s:Stp}(h:y39 tg l s=0):vld tg l/\l.length<65536/\vld tg (l++[y4q tg l s])/\(∀ q,l.getLast? = some q->q.minute<=s.minute)/\gdP (y4q tg l s):=by
 unfold y39 at h
 split at h
 ·rename_i h1;exact absurd h h1
 ·rename_i h1
  have v:=z2o.1 (kj.1 h1)
  split at h
  ·simp at h
  ·rename_i h2
   have hl:l.length<65536:=by have:=v.1;omega
   split at h
   ·simp at h
   ·rename_i h3
    have hm:∀ q,l.getLast? = some q->q.minute<=s.minute:=fun q hq=>by
     rcases Int.lt_or_le s.minute q.minute with h4 | h4
     ·exact absurd ⟨q,hq,h4⟩ h3
     ·exact h4
    have g:=z1y.1 h
    exact⟨v,hl,znx v hl g rfl rfl hm,hm,g⟩
theorem z4j{tg:Tag}{l:List Pst}{s:Stp}(v:vld tg l)(hl:l.length<65536)(hm:∀ q,l.getLast? = some q->q.minute<=s.minute):y39 tg l s=y3n (y4q tg l s):=by
 unfold y39
 rw[if_neg (by simp[z2o.2 v]),if_neg (by omega),if_neg]
 rintro⟨q,h1,h2⟩
 have:=hm q h1
 omega

def y6y(k i:Int):List Ent->Int
 |[]=>0
 |x::l=>(if x.kind=k/\x.idx=i then x.amt else 0)+y6y k i l
def y9b(k i m:Int):List Pst->Int
 |[]=>0
 |p::l=>(if p.minute<=m then y6y k i p.ents else 0)+y9b k i m l
end Dv

namespace Dv

def yat(l:List Pst):List (Int × Int):=l.flatMap fun p=>p.ents.map fun x=>(x.kind,x.idx)

end Dv

namespace Dv
attribute [local simp] af depth y63 y97 y3s y3b y96 y7o y3g y2g Ret
attribute [local congr] z4v z51 z3n z2u z2c z3o z28


abbrev xI(n:Int):D:=.agg [dI 1,dI n,.str [],.imm .exact []]
theorem zaa{n:Int}:dV (cI n)=.agg [dI 1,dI n,.str [],.imm .none []]:=by unfold cI;rw[z20];rfl
theorem zvc{hp:List Obj}{k:Nat}{n:Int}:frz hp (k+2) (xI n)=some (dV (cI n)):=by rw[zaa];rfl
def is4(x:D):Prop:=x.storable=true/\x.cellsL.length=4
theorem z6u{l new:List D}(h:l.length+new.length<=1000000)(hl:∀ x,x ∈ l->is4 x):y32 E 55 l new:=by
 refine⟨?_,?_,?_,?_⟩
 all_goals simp[yl]
 ·omega
 ·unfold y30
  rw[aC]
  intro x hx
  obtain⟨h1,h2⟩:=hl x hx
  simp[h1,h2]
def Lx(vs:List Int)(i:Nat):List D:=(vs.take i).map xI
theorem zu0{vs:List Int}:Lx vs 0=[]:=rfl
theorem zvv{vs:List Int}:Lx vs vs.length=vs.map xI:=by unfold Lx;rw[bp]
theorem zvu{vs:List Int}{i:Nat}(h:i<=vs.length):(Lx vs i).length=i:=by unfold Lx;rw[aU,be];omega
theorem Lx_s{vs:List Int}{i:Nat}(h:i<vs.length):Lx vs (i+1)=Lx vs i++[xI vs[i]]:=by unfold Lx;rw[bj h,bZ];rfl
theorem zr3{l:List Int}:∀ x,x ∈ l.map xI->is4 x:=by
 intro x hx
 obtain⟨n,_,rfl⟩:=aV.1 hx
 exact⟨rfl,rfl⟩

def LstI(hp:List Obj)(vs:List Int)(d:D)(hp':List Obj):Prop:=
 ∃ sp,d=.agg [dI 3,dI 0,.str [],.imm sp (vs.map xI)]/\y72 hp.length hp' sp vs.length 4/\y26 hp.length hp.length hp hp'/\hp.length<=hp'.length

theorem s366(vs:List Int)(sp0:y1t)(hp:List Obj)(hv:vs.length<=100000):∃ d hp',y16 E (dL E) 366 [.imm sp0 (vs.map dI)] hp=some (d,hp')/\LstI hp vs d hp':=by
 refine z31 c366 (args:=[.imm sp0 (vs.map dI)]) (hp:=hp) (R:=LstI hp vs) (by simp) ?_
 conv in t366=>reduce;dsimp[aA]
 simp[t366,n366]
 refine z21 vs.length (fun i env h=>∃(x3 x7 x8:D) (sp:y1t),env=[.imm sp0 (vs.map dI),.loc hp.length 0,.loc (hp.length+1) 0,x3,.imm sp0 (vs.map dI),dI vs.length,dI i,x7,x8] /\
  At h hp.length (.cells [dI 0,dI 0,.str [],.imm .exact []])/\At h (hp.length+1) (.cells [dI 3,dI 0,.str [],.imm sp (Lx vs i)])/\y72 (hp.length+2) h sp i 4/\y26 hp.length hp.length hp h/\hp.length+2<=h.length) 0 (by omega) ?_ ?_
 ·rw[zu0]
  exact⟨_,_,_,.exact,rfl,by simp[At],by simp[At],.inl rfl,y26.app,by simp⟩
 rintro i env h hi ⟨x3,x7,x8,sp,rfl,a1,a2,R,k,hlen⟩
 have hL:(Lx vs i).length=i:=zvu hi
 by_cases hlt:i<vs.length
 ·have hup:=zq hlt (by omega)
  have hap:∀ x:D,y32 E 55 (Lx vs i) [x]:=fun x=>z6u (by rw[hL];simp;omega) zr3
  have hsp:=Lx_s hlt
  have h1:hp.length+1<h.length:=by omega
  rcases R with rfl | ⟨q,rfl,hq,hq2⟩
  ·simp[hlt,hup,a2.eq,a2.appE,zl,z1b,hap,hL]
   refine⟨a1.app.ne (by omega),.tok h.length,by rw[hsp];exact At.self (by simp;omega),.inr ⟨h.length,rfl,by omega,?_⟩,(k.trans y26.app).trans (y26.set (.inr (by omega))),by omega⟩
   exact At.ne (by simp[At]) (by omega)
  ·have hq3:=hq2.eq
   have a2':=a2.ne (j:=q) (x:=Obj.dead) (by omega)
   have a1':=a1.ne (j:=q) (x:=Obj.dead) (by omega)
   simp[hlt,hup,a2.eq,a2'.appE,zl,z1o,hap,hL,hq3]
   refine⟨a1'.app.ne (by omega),.tok h.length,by rw[hsp];exact At.self (by simp;omega),.inr ⟨h.length,rfl,by omega,?_⟩,((k.trans (y26.set (.inr (by omega)))).trans y26.app).trans (y26.set (.inr (by omega))),by omega⟩
   exact At.ne (by simp[At]) (by omega)
 ·have:i=vs.length:=by omega
  subst this
  rw[zvv] at a2
  have h0:hp.length<h.length:=by omega
  have a3:∀ o,(h.set hp.length o)[hp.length]? = some o:=fun o=>At.self h0
  simp[a1.eq,a2.eq,a3]
  refine⟨sp,rfl,?_,k.trans (y26.set (.inr (by omega))),by simp;omega⟩
  rcases R with rfl | ⟨q,rfl,hq,hq2⟩
  ·exact .inl rfl
  ·exact .inr ⟨q,rfl,by omega,hq2.ne (by omega)⟩

theorem zgw{A:Type}{f:D->Option D}{g g':A->D}:∀{l:List A},(∀ x,x ∈ l->f (g x)=some (g' x))->y1k f (l.map g)=some (l.map g')
 |[],_=>rfl
 |x::l,h=>by
  rw[av,av,z48,h x (by simp),zgw fun y hy=>h y (by simp[hy])];rfl
theorem zth{vs:List Int}:dV (cL (vs.map cI))=.agg [dI 3,dI 0,.str [],.imm .none (vs.map fun n=>dV (cI n))]:=by
 unfold cL;rw[z20,fP];rfl
theorem r366(vs:List Int)(hv:vs.length<=100000):y1i E (dL E) 366 [.imm .none (vs.map dI)]=some (dV (cL (vs.map cI))):=by
 obtain⟨d,hp',e,sp,rfl,_⟩:=s366 vs .none [] hv
 unfold y1i
 have hk:E.keep 366=false:=rfl
 have hz:frz hp' depth (.agg [dI 3,dI 0,.str [],.imm sp (vs.map xI)])=some (dV (cL (vs.map cI))):=by
  have:y1k (frz hp' 10) (vs.map xI)=some (vs.map fun n=>dV (cI n)):=zgw fun n _=>zvc
  rw[zth]
  show frz hp' 12 _=_
  have hs:frz hp' 11 (.str [])=some (.str []):=rfl
  simp[this,hs]
 simp[e,hk]
 exact hz

def yaq(a b:Ent):Int:=orI [y66 a.kind b.kind,y66 a.idx b.idx]
theorem r362(a b:Ent):y1i E (dL E) 362 [y3q a.kind a.idx,y3q b.kind b.idx]=some (dI (yaq a b)):=by
 have h1:=r74 a.kind b.kind
 have h2:=r74 a.idx b.idx
 have h3:=ydu [y66 a.kind b.kind,y66 a.idx b.idx] (by simp)
 simp only[y3s,av,aO] at h3
 refine zx c362 (by simp) ?_
 conv in t362=>reduce;dsimp[aA]
 simp[t362,n362,h1,h2,h3]
 try rfl
theorem zmy{a b:Ent}:yaq a b<0 ↔ ltA a b:=by
 unfold yaq ltA y66
 simp only[orI]
 repeat' split
 all_goals omega

theorem z61{E:Env}{cP:Nat->List D->Option D}{cS cY:Nat->List D->List Obj->Option (D × List Obj)}{hp:List Obj}{id:Nat}{g:Opd->D}{f x:Opd}{as:List Opd}:yd E cP cS cY id g hp (.call 4 f (x::as))=(match g f with | .fn k caps=>(y5u cS k (g x) (as.map g++caps) hp).map fun r=>(r.1,hp.set r.2.1 r.2.2) | _=>none):=by
 simp only[yd,DOp.fin,yj]
 cases g f <;> rfl

def KpR(R:Nat)(hp h:List Obj):Prop:=∀ j o,j ≠ R->At hp j o->At h j o
theorem KpR.refl{R:Nat}{hp:List Obj}:KpR R hp hp:=fun _ _ _ a=>a
theorem KpR.app{R:Nat}{hp h r:List Obj}(k:KpR R hp h):KpR R hp (h++r):=fun j o hj a=>(k j o hj a).app
theorem KpR.set{R q:Nat}{hp h:List Obj}{x:Obj}(k:KpR R hp h)(hq:q=R\/hp.length<=q):KpR R hp (h.set q x):=fun j o hj a=>(k j o hj a).ne (by have:=a.lt;omega)
def yae(hp:List Obj)(R:Nat)(v:CV)(r:List UInt8)(d:D)(hp':List Obj):Prop:=
 (∃ k n s l sp,v=.mk k n s l/\d=.agg [dI k,dI n,.str s,.imm sp (l.map dV)])/\At hp' R (.cells [.imm .none (r.map ya)])/\hp.length<=hp'.length/\KpR R hp hp'

theorem yb7{v:CV}{r:List UInt8}{h:List Obj}{R j:Nat}{d:D}{o:List Obj}(a:At h R (.cells [.imm .none ((enc v++r).map ya)]))
  (e:y16 E (dL E) 291 [.loc 0 0,dI j] [.cells [.imm .none ((enc v++r).map ya)]]=some (d,o))
  (w:yae [.cells [.imm .none ((enc v++r).map ya)]] 0 v r d o) (hf:fmd v) (hd:dep v<=4) :
  y5u (y16 E (dL E)) 291 (.loc R 0) [dI j] h=some (dV v,R,.cells [.imm .none (r.map ya)]):=by
 obtain⟨⟨k,n,s,l,sp,rfl,rfl⟩,w2,w3,_⟩:=w
 have hz:=zgt (hp:=o) (dep (.mk k n s l)) (.mk k n s l) hf (ai _) 12 (by omega)
 have hz':frz o 12 (.agg [dI k,dI n,.str s,.imm sp (l.map dV)])=some (dV (.mk k n s l)):=by
  rw[<- hz,z20];rfl
 have hi:ids o 12 (.agg [dI k,dI n,.str s,.imm sp (l.map dV)])=[]:=by
  rw[<- zv8 (hp:=o) 12 (.mk k n s l),z20];rfl
 have fb:∀(hp:List Obj) (l:List UInt8) (n:Nat),y1k (frz hp (n+1)) (l.map ya)=some (l.map ya):=fun hp l n=>z10 fun x _=>rfl
 have hb:∀(l:List UInt8),(l.map ya).flatMap (ids o 11)=[]:=by
  intro l
  rw[iG]
  intro d hd
  obtain⟨v,_,rfl⟩:=aV.1 hd
  rfl
 have hh:o.head? = some (.cells [.imm .none (r.map ya)]):=by rw[List.head?_eq_getElem?];exact w2
 unfold y5u
 simp only[a.eq]
 have q1:y1k (frz [] depth) [dI j]=some [dI j]:=rfl
 have q2:y1k (frz [] depth) [.imm .none ((enc (.mk k n s l)++r).map ya)]=some [.imm .none ((enc (.mk k n s l)++r).map ya)]:=by
  simp only[depth,y1k,z47,fb,aj]
 have q3:y1k (frz o depth) [.imm .none (r.map ya)]=some [.imm .none (r.map ya)]:=by
  simp only[depth,y1k,z47,fb,aj]
 have q4:ids o depth (.imm .none (r.map ya))=[]:=by
  show(r.map ya).flatMap (ids o 11)=[]
  exact hb r
 have q5:frz o depth (.agg [dI k,dI n,.str s,.imm sp (l.map dV)])=some (dV (.mk k n s l)):=hz'
 have q6:ids o depth (.agg [dI k,dI n,.str s,.imm sp (l.map dV)])=[]:=hi
 have q7:yp (.agg [dI k,dI n,.str s,.imm sp (l.map dV)])=false:=rfl
 generalize (enc (.mk k n s l)++r).map ya=B at *
 generalize r.map ya=C at *
 generalize D.agg [dI k,dI n,.str s,.imm sp (l.map dV)]=Y at *
 have q8:[D.imm .none B].all (fun d=>d.atom)=true:=rfl
 have q9:[D.imm .none C].all (fun d=>d.atom)=true:=rfl
 have q10:(ids o depth Y++[D.imm .none C].flatMap (ids o depth)).contains 0=false:=by
  simp only[q6,q4,bB,iA,bY,List.contains_nil]
 simp only[q1,q2,q8,e,zk q7,hh,q10,q3,q5,q9,if_true,if_false,↓reduceIte,aM]

def Lv(l:List CV)(i:Nat):List D:=(l.take i).map dV
theorem Lv_s{l:List CV}{i:Nat}(h:i<l.length):Lv l (i+1)=Lv l i++[dV l[i]]:=by unfold Lv;rw[bj h,bZ];rfl
theorem zvw{l:List CV}{i:Nat}(h:i<=l.length):(Lv l i).length=i:=by unfold Lv;simp;omega
theorem zvx{l:List CV}:Lv l l.length=l.map dV:=by unfold Lv;rw[bp]
theorem Lv_4{l:List CV}{i:Nat}:∀ x ∈ Lv l i,is4 x:=by
 intro x hx
 obtain⟨v,_,rfl⟩:=aV.1 hx
 obtain⟨k,n,s,l⟩:=v
 rw[z20]
 exact⟨rfl,rfl⟩
def Rb(l:List CV)(r:List UInt8)(i:Nat):List UInt8:=y2x (l.drop i)++r
theorem Rb_s{l:List CV}{r:List UInt8}{i:Nat}(h:i<l.length):Rb l r i=enc l[i]++Rb l r (i+1):=by
 unfold Rb;rw[bG h,y2x,bA]
theorem zvt{l:List CV}{r:List UInt8}:Rb l r l.length=r:=by unfold Rb;rw[List.drop_length,y2x];rfl
theorem zvs{l:List CV}{r:List UInt8}:∀{i:Nat},i<=l.length->(Rb l r i).length<=(Rb l r 0).length
 | 0,_=>ai _
 |i+1,h=>by
  have:=zvs (l:=l) (r:=r) (i:=i) (by omega)
  rw[Rb_s (by omega),ax] at this
  omega
theorem ztr(s:List UInt8):yaa E 30 53 (.imm .exact (s.map ya))=some (.str s):=by
 rw[z6t];rfl
theorem s291:∀(m:Nat) (v:CV),sizeOf v<=m->fmd v->dep v<=4->∀(r:List UInt8) (hp:List Obj) (R j:Nat),At hp R (.cells [.imm .none ((enc v++r).map ya)])->(enc v++r).length<=900000->dep v+j<=16 ->
  ∃ d hp',y16 E (dL E) 291 [.loc R 0,dI j] hp=some (d,hp')/\yae hp R v r d hp':=by
 intro m
 induction m with
 |zero=>intro v h;cases v;simp at h
 |succ m ih=>
  intro v hm hf hd r hp R j a hlen hj
  refine z8v c291 (args:=[.loc R 0,dI j]) (hp:=hp) (R:=fun d hp'=>yae hp R v r d hp') (by simp) ?_
  conv in t291=>reduce;dsimp[aA]
  obtain⟨k,n,s,l⟩:=v
  have hf':=hf
  rw[fmd] at hf
  have hne:R ≠ hp.length:=fun e=>by have:=a.lt;omega
  rcases hf with⟨rfl,hn,rfl,rfl⟩ | ⟨rfl,rfl,rfl⟩ | ⟨rfl,rfl,rfl,hf⟩
  ·rw[enc,if_pos rfl] at a hlen
   have e1:=yax (n:=1) (hp:=hp++[.cells [dI 0,dI 0,.str [],.imm .exact []]]) a.app (by simp) (by simp at hlen ⊢;omega)
   obtain⟨H,hH⟩:∃ H,H=(hp++[Obj.cells [dI 0,dI 0,.str [],.imm .exact []]]).set R (.cells [.imm .none (((1::num (uns n)++r).drop 1).map ya)]):=⟨_,rfl⟩
   obtain⟨B,hB⟩:∃ B,B=hp.length:=⟨_,rfl⟩
   rw[<- hH] at e1
   have aR:At H R (.cells [.imm .none ((num (uns n)++r).map ya)]):=by rw[hH];exact .self (by simp;have:=a.lt;omega)
   have aB:At H B (.cells [dI 0,dI 0,.str [],.imm .exact []]):=by rw[hH,hB];exact At.ne (by simp[At]) hne
   have hlH:hp.length<=H.length:=by rw[hH];simp
   have c1:y2n E 13 2 (.int .u8 1)=some (dI 1):=rfl
   have aB1:At (H.set B (.cells [dI 1,dI 0,.str [],.imm .exact []])) B (.cells [dI 1,dI 0,.str [],.imm .exact []]):=.self aB.lt
   have aR1:At (H.set B (.cells [dI 1,dI 0,.str [],.imm .exact []])) R (.cells [.imm .none ((num (uns n)++r).map ya)]):=aR.ne (by omega)
   have e2:=s306 (zae hn) aR1 (by simp at hlen;omega)
   have e3:=r307 (uns n) (zae hn)
   rw[zkp] at e3
   obtain⟨H1,hH1⟩:∃ H1,H1=H.set B (.cells [dI 1,dI 0,.str [],.imm .exact []]):=⟨_,rfl⟩
   rw[<- hH1] at aB1 aR1 e2
   obtain⟨H2,hH2⟩:∃ H2,H2=H1.set R (.cells [.imm .none (r.map ya)]):=⟨_,rfl⟩
   rw[<- hH2] at e2
   have aB2:At H2 B (.cells [dI 1,dI 0,.str [],.imm .exact []]):=by rw[hH2];exact aB1.ne (by omega)
   have aR2:At H2 R (.cells [.imm .none (r.map ya)]):=by rw[hH2];exact .self aR1.lt
   have aB3:At (H2.set B (.cells [dI 1,dI n,.str [],.imm .exact []])) B (.cells [dI 1,dI n,.str [],.imm .exact []]):=.self aB2.lt
   have aR3:At (H2.set B (.cells [dI 1,dI n,.str [],.imm .exact []])) R (.cells [.imm .none (r.map ya)]):=aR2.ne (by omega)
   obtain⟨H3,hH3⟩:∃ H3,H3=H2.set B (.cells [dI 1,dI n,.str [],.imm .exact []]):=⟨_,rfl⟩
   rw[<- hH3] at aB3 aR3
   have kH:KpR R hp H:=by rw[hH];exact KpR.refl.app.set (.inl rfl)
   clear hH
   simp at e1 e2
   have hl3:hp.length<=H3.length:=by rw[hH3,hH2,hH1];simpa using hlH
   simp[t291,n291,e1,<- hB,c1,↓aB.eq,<- hH1,↓aB1.eq,e2,e3,↓aB2.eq,<- hH3,↓aB3.eq,y9m,z6x aB3]
   exact⟨⟨1,n,[],[],.exact,rfl,rfl⟩,aR3,hl3,by rw[hH3,hH2,hH1];exact((kH.set (.inr (by omega))).set (.inl rfl)).set (.inr (by omega))⟩
  ·rw[enc,if_neg (by decide),if_pos rfl] at a hlen
   have e1:=yax (n:=1) (hp:=hp++[.cells [dI 0,dI 0,.str [],.imm .exact []]]) a.app (by simp) (by simp at hlen ⊢;omega)
   obtain⟨H,hH⟩:∃ H,H=(hp++[Obj.cells [dI 0,dI 0,.str [],.imm .exact []]]).set R (.cells [.imm .none (((2::(num s.length++s)++r).drop 1).map ya)]):=⟨_,rfl⟩
   obtain⟨B,hB⟩:∃ B,B=hp.length:=⟨_,rfl⟩
   rw[<- hH] at e1
   have aR:At H R (.cells [.imm .none ((num s.length++(s++r)).map ya)]):=by rw[hH,<- bA];exact .self (by simp;have:=a.lt;omega)
   have aB:At H B (.cells [dI 0,dI 0,.str [],.imm .exact []]):=by rw[hH,hB];exact At.ne (by simp[At]) hne
   have hlH:hp.length<=H.length:=by rw[hH];simp
   have c1:y2n E 13 2 (.int .u8 2)=some (dI 2):=rfl
   have aB1:At (H.set B (.cells [dI 2,dI 0,.str [],.imm .exact []])) B (.cells [dI 2,dI 0,.str [],.imm .exact []]):=.self aB.lt
   have aR1:At (H.set B (.cells [dI 2,dI 0,.str [],.imm .exact []])) R (.cells [.imm .none ((num s.length++(s++r)).map ya)]):=aR.ne (by omega)
   simp at hlen
   have e2:=s308 aR1 (by simp) (by simp;omega)
   obtain⟨H1,hH1⟩:∃ H1,H1=H.set B (.cells [dI 2,dI 0,.str [],.imm .exact []]):=⟨_,rfl⟩
   rw[<- hH1] at aB1 aR1 e2
   obtain⟨H2,hH2⟩:∃ H2,H2=H1.set R (.cells [.imm .none ((s++r).map ya)]):=⟨_,rfl⟩
   rw[<- hH2] at e2
   have aB2:At H2 B (.cells [dI 2,dI 0,.str [],.imm .exact []]):=by rw[hH2];exact aB1.ne (by omega)
   have aR2:At H2 R (.cells [.imm .none ((s++r).map ya)]):=by rw[hH2];exact .self aR1.lt
   have e3:=yax (n:=s.length) aR2 (by simp) (by simp;omega)
   rw[List.take_left,List.drop_left] at e3
   obtain⟨H3,hH3⟩:∃ H3,H3=H2.set R (.cells [.imm .none (r.map ya)]):=⟨_,rfl⟩
   rw[<- hH3] at e3
   have aB3:At H3 B (.cells [dI 2,dI 0,.str [],.imm .exact []]):=by rw[hH3];exact aB2.ne (by omega)
   have aR3:At H3 R (.cells [.imm .none (r.map ya)]):=by rw[hH3];exact .self aR2.lt
   have aB4:At (H3.set B (.cells [dI 2,dI 0,.str s,.imm .exact []])) B (.cells [dI 2,dI 0,.str s,.imm .exact []]):=.self aB3.lt
   have aR4:At (H3.set B (.cells [dI 2,dI 0,.str s,.imm .exact []])) R (.cells [.imm .none (r.map ya)]):=aR3.ne (by omega)
   obtain⟨H4,hH4⟩:∃ H4,H4=H3.set B (.cells [dI 2,dI 0,.str s,.imm .exact []]):=⟨_,rfl⟩
   rw[<- hH4] at aB4 aR4
   have hl4:hp.length<=H4.length:=by rw[hH4,hH3,hH2,hH1];simpa using hlH
   have m1:∀ l:List D,yp (.imm .exact l)=false:=fun _=>rfl
   have b1:=ztr s
   have kH:KpR R hp H:=by rw[hH];exact KpR.refl.app.set (.inl rfl)
   clear hH
   simp at e1 e2
   simp[t291,n291,e1,<- hB,c1,↓aB.eq,<- hH1,↓aB1.eq,e2,e3,↓aB2.eq,<- hH4,↓aB3.eq,↓aB4.eq,y9m,z6x aB4,b1]
   exact⟨⟨2,0,s,[],.exact,rfl,rfl⟩,aR4,hl4,by rw[hH4,hH3,hH2,hH1];exact(((kH.set (.inr (by omega))).set (.inl rfl)).set (.inl rfl)).set (.inr (by omega))⟩
  ·rw[enc,if_neg (by decide),if_neg (by decide)] at a hlen
   rw[dep,if_pos rfl] at hd hj
   have e1:=yax (n:=1) (hp:=hp++[.cells [dI 0,dI 0,.str [],.imm .exact []]]) a.app (by simp) (by simp at hlen ⊢;omega)
   obtain⟨H,hH⟩:∃ H,H=(hp++[Obj.cells [dI 0,dI 0,.str [],.imm .exact []]]).set R (.cells [.imm .none (((3::(num l.length++y2x l)++r).drop 1).map ya)]):=⟨_,rfl⟩
   obtain⟨B,hB⟩:∃ B,B=hp.length:=⟨_,rfl⟩
   rw[<- hH] at e1
   have aR:At H R (.cells [.imm .none ((num l.length++(y2x l++r)).map ya)]):=by rw[hH,<- bA];exact .self (by simp;have:=a.lt;omega)
   have aB:At H B (.cells [dI 0,dI 0,.str [],.imm .exact []]):=by rw[hH,hB];exact At.ne (by simp[At]) hne
   have hlH:hp.length<=H.length:=by rw[hH];simp
   have c1:y2n E 13 2 (.int .u8 3)=some (dI 3):=rfl
   have aB1:At (H.set B (.cells [dI 3,dI 0,.str [],.imm .exact []])) B (.cells [dI 3,dI 0,.str [],.imm .exact []]):=.self aB.lt
   have aR1:At (H.set B (.cells [dI 3,dI 0,.str [],.imm .exact []])) R (.cells [.imm .none ((num l.length++(y2x l++r)).map ya)]):=aR.ne (by omega)
   simp at hlen
   have hel:=z6o l
   have e2:=s308 aR1 (by simp;omega) (by simp;omega)
   obtain⟨H1,hH1⟩:∃ H1,H1=H.set B (.cells [dI 3,dI 0,.str [],.imm .exact []]):=⟨_,rfl⟩
   rw[<- hH1] at aB1 aR1 e2
   obtain⟨H2,hH2⟩:∃ H2,H2=H1.set R (.cells [.imm .none ((y2x l++r).map ya)]):=⟨_,rfl⟩
   rw[<- hH2] at e2
   have aB2:At H2 B (.cells [dI 3,dI 0,.str [],.imm .exact []]):=by rw[hH2];exact aB1.ne (by omega)
   have aR2:At H2 R (.cells [.imm .none ((y2x l++r).map ya)]):=by rw[hH2];exact .self aR1.lt
   have hl2:hp.length<=H2.length:=by rw[hH2,hH1];simpa using hlH
   have hj16:(j:Int)<16:=by omega
   have kH:KpR R hp H:=by rw[hH];exact KpR.refl.app.set (.inl rfl)
   clear hH
   simp at e1 e2
   simp[t291,n291,e1,<- hB,c1,↓aB.eq,<- hH1,↓aB1.eq,e2,yal,hj16]
   refine z21 l.length (fun i env h=>∃(x3 x4 x5 x6 x7 x8 x9 x10 x11 x12 x13 x16 x17 x18 x19 x20 x21:D) (sp:y1t),env=[.loc R 0,dI j,.loc B 0,x3,x4,x5,x6,x7,x8,x9,x10,x11,x12,x13,dI l.length,dI i,x16,x17,x18,x19,x20,x21] /\
    At h R (.cells [.imm .none ((Rb l r i).map ya)])/\At h B (.cells [dI 3,dI 0,.str [],.imm sp (Lv l i)])/\y72 hp.length h sp i 4/\hp.length<=h.length/\KpR R hp h) 0 (by omega) ?_ ?_
   ·exact⟨_,_,_,_,_,_,_,_,_,_,_,_,_,_,_,_,_,(.exact),rfl,aR2,aB2,.inl rfl,hl2,by rw[hH2,hH1];exact(kH.set (.inr (by omega))).set (.inl rfl)⟩
   rintro i env h hi ⟨x3,x4,x5,x6,x7,x8,x9,x10,x11,x12,x13,x16,x17,x18,x19,x20,x21,sp,rfl,a1,a2,T3,hlen2,K⟩
   have hL:(Lv l i).length=i:=zvw hi
   by_cases hlt:i<l.length
   ·have hup:=zq hlt (by omega)
    have hjj:ay.wrap ((j:Int)+1)=((j+1:Nat):Int):=by simp[cu,cw,ca];omega
    have hap:∀ x:D,y32 E 55 (Lv l i) [x]:=fun x=>z6u (by rw[hL];simp;omega) Lv_4
    have h4:is4 (dV l[i]):=Lv_4 (l:=l) (i:=i+1) _ (by rw[Lv_s hlt];simp)
    have hsp:=Lv_s hlt
    have hb:=Rb_s (r:=r) hlt
    have hbl:=zvs (r:=r) hi
    rw[hb] at a1 hbl
    have hb0:Rb l r 0=y2x l++r:=rfl
    rw[hb0] at hbl
    have hmem:l[i] ∈ l:=bT hlt
    have hdm:=z9t hmem
    have hsz:sizeOf l[i]<=m:=by
     have:=gB hmem
     simp at hm;omega
    have fm:=z5p hf _ hmem
    obtain⟨d,o,f1,f2⟩:=ih l[i] hsz fm (by omega) (Rb l r (i+1)) [.cells [.imm .none ((enc l[i]++Rb l r (i+1)).map ya)]] 0 (j+1) rfl (by simp at hbl ⊢;omega) (by omega)
    have i4:∀ X,y5u (y16 E (dL E)) 291 (.loc R 0) [.int .i64 ((j+1:Nat):Int)] (h++X)=some (dV l[i],R,.cells [.imm .none ((Rb l r (i+1)).map ya)]):=fun X=>yb7 a1.app f1 f2 fm (by omega)
    obtain⟨j1,hj1⟩:∃ j1:Nat,j1=j+1:=⟨_,rfl⟩
    rw[<- hj1] at hjj i4
    have nRB:R ≠ B:=by omega
    obtain⟨H5,hH5⟩:∃ H5,H5=h.set R (.cells [.imm .none ((Rb l r (i+1)).map ya)]):=⟨_,rfl⟩
    have hsR:∀ X,(h++X).set R (.cells [.imm .none ((Rb l r (i+1)).map ya)])=H5++X:=fun X=>by rw[hH5];exact z1c a1.lt
    have k5:KpR R hp H5:=by rw[hH5];exact K.set (.inl rfl)
    have l5:H5.length=h.length:=by rw[hH5];simp
    have b1:At H5 R (.cells [.imm .none ((Rb l r (i+1)).map ya)]):=by rw[hH5];exact .self a1.lt
    have b2:At H5 B (.cells [dI 3,dI 0,.str [],.imm sp (Lv l i)]):=by rw[hH5];exact a2.ne nRB
    have alR:=b1.lt
    have alB:=b2.lt
    rcases T3 with rfl | ⟨q,rfl,hq,hq2⟩
    ·have a3:∀ X,(H5++X)[B]? = some (.cells [dI 3,dI 0,.str [],.imm .exact (Lv l i)]):=fun X=>b2.app (r:=X)
     have hsB:∀ X o,(H5++X).set B o=H5.set B o++X:=fun X o=>z1c alB
     simp[hlt,hup,hjj,z61,i4,a2.appE,zl,z1b,hap,hL,h4.1,h4.2,↓hsR,l5,↓a3,↓hsB]
     exact⟨by simp[yar,ybd,y6i,did];omega,(b1.ne (dQ nRB)).app,.tok (h.length+7),by rw[hsp];exact(At.self alB).app,.inr ⟨_,rfl,by omega,by simp[At,<- l5]⟩,by omega,(k5.set (.inr (by omega))).app⟩
    ·have q1:q ≠ R:=fun e=>by subst e;have:=a1.symm.trans hq2;simp at this
     have q2:q ≠ B:=fun e=>by subst e;have:=a2.symm.trans hq2;simp at this
     have b3:At H5 q (.tok (i*4) 4):=by rw[hH5];exact hq2.ne (dQ q1)
     have hql:=b3.lt
     have b2':At (H5.set q .dead) B (.cells [dI 3,dI 0,.str [],.imm (.tok q) (Lv l i)]):=b2.ne q2
     have b1':=b1.ne (j:=q) (x:=.dead) q1
     have a3:∀ X,(H5.set q .dead++X)[B]? = some (.cells [dI 3,dI 0,.str [],.imm (.tok q) (Lv l i)]):=fun X=>b2'.app (r:=X)
     have hsB:∀ X o,(H5.set q .dead++X).set B o=(H5.set q .dead).set B o++X:=fun X o=>z1c (by simpa using alB)
     have hs:∀ X o,(H5++X).set q o=H5.set q o++X:=fun X o=>z1c hql
     have hq3:∀ X,(H5++X)[q]? = some (.tok (i*4) 4):=fun X=>b3.app (r:=X)
     simp[hlt,hup,hjj,z61,i4,a2.appE,zl,z1o,hap,hL,h4.1,h4.2,↓hsR,l5,hq3,↓hs,↓a3,↓hsB]
     exact⟨by simp[yar,ybd,y6i,did];omega,(b1'.ne (dQ nRB)).app,.tok (h.length+7),by rw[hsp];exact(At.self b2'.lt).app,.inr ⟨_,rfl,by omega,by simp[At,<- l5]⟩,by omega,((k5.set (.inr hq)).set (.inr (by omega))).app⟩
   ·have:i=l.length:=by omega
    subst this
    rw[zvt] at a1
    rw[zvx] at a2
    simp[a2.eq,z6x a2,y9m]
    exact⟨⟨3,0,[],l,sp,rfl,rfl⟩,a1,hlen2,K⟩

theorem q272{v:CV}(hf:fmd v)(hd:dep v<=4)(hl:(enc v).length<=900000):y1i E (dL E) (272) [.imm .none ((enc v).map ya)]=some (.tup [dV v,dI 0]):=by
 obtain⟨d,H,e1,w⟩:=s291 (sizeOf v) v (ai _) hf hd [] [.cells [dI 0,dI 0,.str [],.imm .exact []],.cells [dI 0],.cells [.imm .none ((enc v).map ya)]] 2 0 (by simp[At]) (by simpa using hl) (by omega)
 obtain⟨⟨k,n,s,l,sp,rfl,rfl⟩,w2,w3,w4⟩:=w
 have a0:At H 0 (.cells [dI 0,dI 0,.str [],.imm .exact []]):=w4 0 _ (by decide) (by simp[At])
 have a1:At H 1 (.cells [dI 0]):=w4 1 _ (by decide) (by simp[At])
 have hz:∀ o,y1k (frz o 9) (l.map dV)=some (l.map dV):=fun o=>by
  rw[fmd] at hf
  rcases hf with⟨_,_,_,rfl⟩ | ⟨_,_,rfl⟩ | ⟨rfl,_,_,hf⟩
  ·rfl
  ·rfl
  ·rw[dep,if_pos rfl] at hd
   exact z10 fun v hv=>zgt (dep v) v (z5p hf v hv) (ai _) 9 (by have:=z9t hv;omega)
 have hst:∀ o,frz o 10 (.str s)=some (.str s):=fun _=>rfl
 have e:E.fn (272)=some f272:=rfl
 have e2:E.mp (272)=false:=rfl
 have e3:E.keep (272)=false:=rfl
 have e4:E.mp 291=true:=rfl
 have e5:E.mp 292=true:=rfl
 obtain⟨Bs,hB⟩:∃ B,B=(enc (.mk k n s l)).map ya:=⟨_,rfl⟩
 rw[<- hB] at e1 ⊢
 have e1:y16 E (dL E) 291 [.loc 2 0,.int .i64 0] [.cells [.int .i64 0,.int .i64 0,.str [],.imm .exact []],.cells [.int .i64 0],.cells [.imm .none Bs]]=some (.agg [dI k,dI n,.str s,.imm sp (l.map dV)],H):=e1
 obtain⟨H1,hH1⟩:∃ H1,H1=H.set 0 (.cells [dI k,dI n,.str s,.imm sp (l.map dV)]):=⟨_,rfl⟩
 have b0:At H1 0 (.cells [dI k,dI n,.str s,.imm sp (l.map dV)]):=by rw[hH1];exact .self a0.lt
 have b1:At H1 1 (.cells [dI 0]):=by rw[hH1];exact a1.ne (by decide)
 have b2:At H1 2 (.cells [.imm .none []]):=by rw[hH1];exact At.ne w2 (by decide)
 have mk:yp (.agg [dI k,dI n,.str s,.imm sp (l.map dV)])=false:=rfl
 unfold y1i y16
 simp only[e,e2,e3,f272,yi,z7y,z4s,ze9,z4t,z5h,y20]
 simp[ye,yd,yh,y1u,DOp.fin,yj,yb,ym,gOf,z5h,y1f,y3y,y2g,yg,e4,e5,e1,yal,hz,hst,z20,mk,↓a0.eq,<- hH1,↓b0.eq,↓b1.eq,↓b2.eq,z6x b0,z6x b1,y95,depth,z16,zai,zb6]

end Dv

namespace Dv

def y1d:List (Int × Int)->List (Int × Int)
 |[]=>[]
 |[x]=>[x]
 |x::y::r=>if x=y then y1d (y::r) else x::y1d (y::r)

theorem zmx:∀{l:List (Int × Int)} {a:Int × Int},a ∈ y1d l ↔ a ∈ l
 |[],a=>by simp[y1d]
 |[x],a=>by simp[y1d]
 |x::y::r,a=>by
  have ih:=zmx (l:=y::r) (a:=a)
  unfold y1d
  split
  ·rename_i e
   rw[ih]
   subst e
   simp
  ·rw[az,ih]
   simp
theorem zh7:∀{l:List (Int × Int)},l ≠ []->y1d l ≠ []
 |[],h=>absurd rfl h
 |[x],_=>by simp[y1d]
 |x::y::r,_=>by
  unfold y1d
  split
  ·exact zh7 (by simp)
  ·simp
theorem zjd:∀{l:List (Int × Int)},(y1d l).getLast? = l.getLast?
 |[]=>rfl
 |[x]=>rfl
 |x::y::r=>by
  have ih:=zjd (l:=y::r)
  unfold y1d
  split
  ·rw[ih];simp
  ·have hne:=zh7 (l:=y::r) (by simp)
   obtain⟨z,zs,hz⟩:=List.exists_cons_of_ne_nil hne
   rw[hz] at ih ⊢
   rw[iH,ih]
   simp
theorem zb9:∀{l:List (Int × Int)} {a:Int × Int},y1d (l++[a])=if l.getLast? = some a then y1d l else y1d l++[a]
 |[],a=>by simp[y1d]
 |[x],a=>by
  simp only[aZ,bL,y1d,List.getLast?_singleton,aa]
  split
  ·rename_i e;rw[e]
  ·rfl
 |x::y::r,a=>by
  have ih:=zb9 (l:=y::r) (a:=a)
  have e:(x::y::r).getLast? = (y::r).getLast?:=iH
  rw[e]
  simp only[aZ] at ih ⊢
  conv=>lhs;unfold y1d
  conv=>rhs;unfold y1d
  rw[ih]
  split
  ·rfl
  ·split <;> rfl
theorem z6s:∀{l:List (Int × Int)},(y1d l).length<=l.length
 |[]=>by simp[y1d]
 |[x]=>by simp[y1d]
 |x::y::r=>by
  have ih:=z6s (l:=y::r)
  unfold y1d
  split
  ·simp at ih ⊢;omega
  ·simp at ih ⊢;omega

theorem zl3{x y:Int × Int}(h:y4p y x=false):x=y\/y4p x y=true:=by
 unfold y4p at *
 simp at *
 by_cases e:x=y
 ·exact .inl e
 ·right
  have : ¬ (x.1=y.1/\x.2=y.2):=fun h=>e (Prod.ext h.1 h.2)
  omega

theorem zaq(l:List (Int × Int)):(y1q l).Perm l:=List.mergeSort_perm l _
theorem z7q(l:List (Int × Int)):(y1q l).length=l.length:=(zaq l).length_eq
theorem zdl(l:List (Int × Int)):(y1q l).Pairwise fun x y=>y4p y x=false:=by
 have h:=List.pairwise_mergeSort (le:=fun x y:Int × Int=>!y4p y x) (fun a b c h1 h2=>by
  unfold y4p at *;simp at *;omega) (fun a b=>by
  unfold y4p;simp;omega) l
 exact h.imp fun h=>by simpa using h

def yau(l:List Pst):List (Int × Int):=y1d (y1q (yat l))
def entN:List Pst->Nat
 |[]=>0
 |p::l=>p.ents.length+entN l
theorem zhe:∀(l:List Pst),(yat l).length=entN l
 |[]=>rfl
 |p::l=>by
  have:=zhe l
  simp only[yat,bB,ax,aU,entN] at this ⊢
  omega
end Dv

namespace Dv
attribute [local simp] af depth y63 y97 y3s y3b y96 y7o y3g y2g Ret
attribute [local congr] z4v z51 z3n z2u z2c z3o z28


theorem zv7{P:Prop}[Decidable P]{b:Bool}:(if P then some (D.bool true) else some (D.bool b))=some (D.bool (decide P || b)):=by
 by_cases h:P <;> simp[h]
theorem zlp{a b:Bool}:yao (.bool a) (some (.bool true)) (some (.bool b))=some (.bool (a || b)):=by
 cases a <;> rfl

def yan(l:List Ent)(i:Nat):Prop:=(∀ j,∀ h:j<l.length,j<i->y5d l[j]) /\ ∀ j,∀ h:j+1<l.length,j+1<i->ltA l[j] l[j+1]
theorem zl5{l:List Ent}:yan l 0:=⟨fun _ _ h=>absurd h (by omega),fun _ _ h=>absurd h (by omega)⟩
theorem zol{l:List Ent}(h:yan l l.length):(∀ x,x ∈ l->y5d x)/\ordE l:=by
 refine⟨fun x hx=>?_,fun j hj=>h.2 j hj hj⟩
 obtain⟨j,hj,rfl⟩:=List.mem_iff_getElem.1 hx
 exact h.1 j hj hj
theorem zr1{l:List Ent}{i:Nat}(hi:i<l.length)(h:yan l i)(hx:y5d l[i])(ho:∀ h:0<i,ltA (l[i - 1]'(by omega)) l[i]):yan l (i+1):=by
 constructor
 ·intro j hj hji
  by_cases e:j=i
  ·subst e;exact hx
  ·exact h.1 j hj (by omega)
 ·intro j hj hji
  by_cases e:j+1=i
  ·subst e
   exact ho (by omega)
  ·exact h.2 j hj (by omega)
theorem zqs{l:List Ent}{i:Nat}(h:i<l.length):y5a (l.take (i+1))=y5a (l.take i)+l[i].amt:=by
 rw[bj h,zep];simp[y5a]
theorem zse{l:List Ent}{i:Nat}(h:yan l i):i<=l.length -> -(i*1099511627776:Int)<=y5a (l.take i)/\y5a (l.take i)<=(i*1099511627776:Int):=by
 induction i with
 |zero=>intro _;simp[y5a]
 |succ i ih=>
  intro hi
  have h1:=ih ⟨fun j hj hji=>h.1 j hj (by omega),fun j hj hji=>h.2 j hj (by omega)⟩ (by omega)
  have h2:=h.1 i hi (by omega)
  rw[zqs hi]
  obtain⟨_,_,_,h3,h4⟩:=h2
  push_cast
  omega
theorem zbx{p:Pst}(h : ¬ fmP p):y3n p=410:=by unfold y3n;rw[if_neg h]

theorem ydq(p:Pst)(h32:p.prev.length=32)(hl:p.ents.length<=1000000):y1i E (dL E) 355 [y36 p]=some (dI (y3n p)):=by
 refine zx c355 (by simp) ?_
 conv in t355=>reduce;dsimp[aA]
 obtain⟨no,minute,corrects,ents,prev⟩:=p
 simp only at h32 hl
 simp[t355,n355,h32,zv7,zlp]
 split
 ·rename_i hb
  rw[zbx]
  rintro⟨h1,h2,h3,⟨h4,h5,h6,h7⟩⟩
  simp only at h1 h2 h3 h4 h5
  omega
 rename_i hg
 refine z21 ents.length (fun i env h=>∃(x0 x2 x4 x5 x6 x10 x11 x12 x13 x14:D) ,env=[x0,.iptr (dI no::dI minute::dI corrects :: .imm .none (ents.map y41)::prev.map ya),x2,dI (y5a (ents.take i)),x4,x5,x6,.imm .none (ents.map y41),dI ents.length,dI i,x10,x11,x12,x13,x14]/\yan ents i) 0 (by omega) ?_ ?_
 ·exact⟨_,_,_,_,_,_,_,_,_,_,rfl,zl5⟩
 rintro i env h hi ⟨x0,x2,x4,x5,x6,x10,x11,x12,x13,x14,rfl,ok⟩
 by_cases hlt:i<ents.length
 ·have hup:=zq hlt (by omega)
  have hbad : ¬ y5d ents[i]->y3n { no:=no,minute:=minute,corrects:=corrects,ents:=ents,prev:=prev }=410:=fun hx=>zbx fun f=>hx (f.ents.ok _ (bT hlt))
  have hs:=zqs hlt
  have hsb:=zse ok hi
  simp[hlt,hup,zv7,zlp]
  split
  ·rename_i hb
   refine(hbad fun hx=>?_).symm
   obtain⟨h1,h2,h3,h4,h5⟩:=hx
   omega
  rename_i hb
  have hx:y5d ents[i]:=⟨by omega,by omega,by omega,by omega,by omega⟩
  have hsw:ay.wrap (y5a (ents.take i)+ents[i].amt)=y5a (ents.take (i+1)):=by
   rw[hs]
   refine zf ⟨?_,?_⟩ <;> omega
  by_cases h0:i=0
  ·have ok':=zr1 hlt ok hx (fun h=>absurd h (by omega))
   subst h0
   simp at hsw
   have h1:ay.wrap 1=1:=by decide
   simp[hsw,h1,hlt]
   exact ok'
  ·have hw:ay.wrap ((i:Int) - 1)=((i - 1:Nat):Int):=by rw[zf ⟨by omega,by omega⟩];omega
   have hlt':i - 1<ents.length:=by omega
   have h0':0<i:=by omega
   have hc:=r362 ents[i - 1] ents[i]
   by_cases hq:ltA ents[i - 1] ents[i]
   ·have ok':=zr1 hlt ok hx (fun _=>hq)
    have hn : ¬ 0<=yaq ents[i - 1] ents[i]:=by have:=zmy.2 hq;omega
    simp[h0',hw,hlt',hc,hn,hsw,hup]
    exact ok'
   ·have hn:0<=yaq ents[i - 1] ents[i]:=by
     by_cases h:yaq ents[i - 1] ents[i]<0
     ·exact absurd (zmy.1 h) hq
     ·omega
    simp[h0',hw,hlt',hc,hn]
    refine(zbx fun f=>hq ?_).symm
    have:=f.ents.ord (i - 1) (by simp only;omega)
    simp only[show i - 1+1=i from by omega] at this
    exact this
 ·have:i=ents.length:=by omega
  subst this
  rw[bp]
  obtain⟨o1,o2⟩:=zol ok
  have hf:fmP { no:=no,minute:=minute,corrects:=corrects,ents:=ents,prev:=prev }:=⟨by simp only;omega,by simp only;omega,by simp only;omega,by simp only;omega,by simp only;omega,o1,o2⟩
  unfold y3n
  rw[if_pos hf]
  by_cases h0:y5a ents=0 <;> simp[h0]

def Le(l:List Ent)(i:Nat):List D:=(l.take i).map fun x=>dV (y4a x)
theorem zu1{l:List Ent}:Le l 0=[]:=rfl
theorem zvz{l:List Ent}:Le l l.length=l.map fun x=>dV (y4a x):=by unfold Le;rw[bp]
theorem zvy{l:List Ent}{i:Nat}(h:i<=l.length):(Le l i).length=i:=by unfold Le;rw[aU,be];omega
theorem Le_s{l:List Ent}{i:Nat}(h:i<l.length):Le l (i+1)=Le l i++[dV (y4a l[i])]:=by unfold Le;rw[bj h,bZ];rfl
theorem Le_4{l:List Ent}{i:Nat}:∀ x,x ∈ Le l i->is4 x:=by
 intro x hx
 obtain⟨e,_,rfl⟩:=aV.1 hx
 constructor
 ·rw[y4a,cL,z20];rfl
 ·rw[y4a,cL,z20];rfl

theorem At.dif{hp:List Obj}{i j:Nat}{a b:Obj}(h:At hp i a)(h':At hp j b)(hn:a ≠ b):i ≠ j:=by
 rintro rfl
 unfold At at h h'
 rw[h] at h'
 exact hn (cj h')
theorem zve{hp:List Obj}{n:Nat}{l:List Ent}(h:∀ x,x ∈ l->i64 x.kind/\i64 x.idx/\i64 x.amt):y1k (frz hp (n+4)) (Le l l.length)=some (l.map fun x=>dV (y4a x)):=by
 rw[zvz]
 exact z10 fun x hx=>zgt 1 (y4a x) (zmb (h x hx)) (by rw[zmr];omega) (n+4) (by omega)
theorem zr7{p:Pst}:dV (y76 p)=.agg [dI 3,dI 0,.str [],.imm .none [dV (cI p.no),dV (cI p.minute),dV (cI p.corrects),.agg [dI 3,dI 0,.str [],.imm .none (p.ents.map fun x=>dV (y4a x))],.agg [dI 2,dI 0,.str p.prev,.imm .none []]]]:=by
 unfold y76 cL cT
 rw[z20]
 simp only[av,aO,z20,fP]
 rfl
theorem zmc{p:Pst}(h:yap p)(hl:p.ents.length<=1000000)(h32:p.prev.length=32):y5j (y76 p):=by
 have:=z8d h hl (by omega)
 unfold y4v at this
 exact⟨zcc h,by have:=zcj (p:=p);omega,by omega⟩
theorem z62{l:List UInt8}(h:l.length=32):y13 E 73 (.iptr (l.map ya)) none none none=some (.imm .none (l.map ya)):=by
 unfold y13
 simp[h,bnd]
 rw[bu (by simp[h])]

noncomputable def y9h(p:Pst):D:=if y3n p=0 then .tup [dBy (y4v p),dI 0] else .tup [.imm .none [],dI (y3n p)]

theorem z1r:∀(n k:Nat) (cs:List D),cs.length=k+n->y1x cs k n=some (cs.drop k)
 | 0,k,cs,h=>by rw[y1x,iX (by omega)]
 |n+1,k,cs,h=>by
  have hk:k<cs.length:=by omega
  rw[y1x,z1r n (k+1) cs (by omega),ae hk,bG hk]
theorem zc8{p:Pst}(h32:p.prev.length=32):y48 E 71 (.iptr (dI p.no::dI p.minute::dI p.corrects :: .imm .none (p.ents.map y41)::p.prev.map ya))=some (y36 p):=by
 rw[z1q]
 have e:=z1r 36 0 (dI p.no::dI p.minute::dI p.corrects :: .imm .none (p.ents.map y41)::p.prev.map ya) (by simp[h32])
 rw[show(E.ty 71).size=36 from rfl,e]
 rfl
theorem zb{hp:List Obj}{n:Nat}{l:List UInt8}:y1k (frz hp (n+1)) (l.map ya)=some (l.map ya):=z10 fun x _=>rfl
theorem zy{hp:List Obj}{n:Nat}{l:List Ent}:y1k (frz hp (n+2)) (l.map y41)=some (l.map y41):=z10 fun x _=>rfl
theorem zt9{hp:List Obj}{n:Nat}{p:Pst}:frz hp (n+5) (y36 p)=some (y36 p):=by
 show frz hp (n+5) (.agg _)=_
 rw[z9l]
 simp only[z48,z79,z47,zy,aj,z7,zb]

theorem ztg{hp r:List Obj}{k:Nat}{o:Obj}(h:At r k o)(hk:hp.length<=k):At (hp++r.drop hp.length) k o:=by
 unfold At at h ⊢
 rw[aD hk,List.getElem?_drop]
 rw[show hp.length+(k - hp.length)=k from by omega]
 exact h
theorem yb4(vs:List Int)(sp0:y1t)(hp:List Obj)(hv:vs.length<=100000):∃ d sp r,y5g (y16 E (dL E)) 366 [.imm sp0 (vs.map dI)] hp=some (d,hp++r)/\d=.agg [dI 3,dI 0,.str [],.imm sp (vs.map xI)]/\y72 hp.length (hp++r) sp vs.length 4:=by
 obtain⟨d,h',e,sp,rfl,R,k,hl⟩:=s366 vs sp0 (af hp.length .dead) hv
 rw[eB] at R k hl
 refine⟨_,sp,h'.drop hp.length,?_,rfl,?_⟩
 ·unfold y5g
  rw[e]
  rfl
 ·rcases R with rfl | ⟨q,rfl,hq,hq2⟩
  ·exact .inl rfl
  ·exact .inr ⟨q,rfl,hq,ztg hq2 hq⟩

theorem ybn(p:Pst)(h32:p.prev.length=32)(hl:p.ents.length<=1000000):y1i E (dL E) 334 [y36 p]=some (y9h p):=by
 refine zx c334 (by simp) ?_
 conv in t334=>reduce;dsimp[aA]
 have h355:=ydq p h32 hl
 unfold y9h
 obtain⟨no,minute,corrects,ents,prev⟩:=p
 simp only at h32 hl
 have hil:=zc8 (p:={ no:=no,minute:=minute,corrects:=corrects,ents:=ents,prev:=prev }) h32
 simp only at hil
 by_cases hg:y3n { no:=no,minute:=minute,corrects:=corrects,ents:=ents,prev:=prev }=0
 ·rw[if_pos hg]
  rw[hg] at h355
  obtain⟨d1,sp1,r1,e1,rfl,R1⟩:=yb4 [no,minute,corrects] .none [] (by simp)
  obtain⟨d2,sp2,r2,e2,rfl,R2⟩:=yb4 [] .none r1 (by simp)
  have g1:=(z1y.1 hg).fm
  have hln:ents.length<=4096:=g1.ents.most
  rw[bL] at e1 R1
  have S1:∃ G:List Obj,G=r1++r2 /\ ∀ k,sp1=.tok k->At G k (.tok 12 4)/\k<r1.length:=⟨_,rfl,fun k hk=>by
   rcases R1 with rfl | ⟨q,rfl,_,hq⟩
   ·cases hk
   ·cases hk
    exact⟨At.app hq,At.lt hq⟩⟩
  have R1':sp1=.exact \/ ∃ k,sp1=.tok k:=by
   rcases R1 with h | ⟨q,h,_⟩
   ·exact .inl h
   ·exact .inr ⟨q,h⟩
  obtain⟨G,hG,T⟩:=S1
  rw[<- hG] at e2 R2
  have hG1:r1.length<=G.length:=by rw[hG];simp
  clear hG R1
  simp at e1 e2 R2
  have w1:∀ x y:Obj,(G++[x,y])[G.length+1]? = some y:=fun x y=>by simp
  have w2:∀ x y z:Obj,(G++[x,y]).set (G.length+1) z=G++[x,z]:=fun x y z=>by simp
  simp[t334,n334,h32,h355,z60,↓hil,zy,zb,e1,e2,↓w1,↓w2]
  refine z21 ents.length (fun i env h=>∃(x0 x2 x3 x4 x7 x8 x9 x10 x14 x15 x16 x17 x18:D) (sp:y1t),env=[x0,.iptr (dI no::dI minute::dI corrects :: .imm .none (ents.map y41)::prev.map ya),x2,x3,x4,.loc G.length 0,.loc (G.length+1) 0,x7,x8,x9,x10,.imm .none (ents.map y41),dI ents.length,dI i,x14,x15,x16,x17,x18] /\
   At h G.length (.cells [dI 3,dI 0,.str [],.imm sp1 [xI no,xI minute,xI corrects]])/\At h (G.length+1) (.cells [dI 3,dI 0,.str [],.imm sp (Le ents i)])/\(∀ k,sp1=.tok k->At h k (.tok 12 4))/\y72 r1.length h sp i 4/\G.length+2<=h.length) 0 (by omega) ?_ ?_
  ·refine⟨_,_,_,_,_,_,_,_,_,_,_,_,_,sp2,rfl,by simp[At],by simp[At,zu1],fun k hk=>(T k hk).1.app,?_,by simp⟩
   rcases R2 with h | ⟨q,h,hq,hq2⟩
   ·exact .inl h
   ·exact .inr ⟨q,h,hq,hq2.app⟩
  rintro i env h hi ⟨x0,x2,x3,x4,x7,x8,x9,x10,x14,x15,x16,x17,x18,sp,rfl,a1,a2,T1,T3,hlen⟩
  have hL:(Le ents i).length=i:=zvy hi
  by_cases hlt:i<ents.length
  ·have hup:=zq hlt (by omega)
   have e4:=r366 [ents[i].kind,ents[i].idx,ents[i].amt] (by simp)
   simp only[av,aO] at e4
   have hap:∀ x:D,y32 E 55 (Le ents i) [x]:=fun x=>z6u (by rw[hL];simp;omega) Le_4
   have hv:dV (cL [cI ents[i].kind,cI ents[i].idx,cI ents[i].amt])=dV (y4a ents[i]):=rfl
   have h4:is4 (dV (y4a ents[i])):=Le_4 (l:=ents) (i:=i+1) _ (by rw[Le_s hlt];simp)
   have hsp:=Le_s hlt
   have nt:∀(i:Nat) (l:List D) (a b:Nat),Obj.tok a b ≠ .cells l:=fun _ _ _ _ e=>by cases e
   have T2:∀ k,sp1=.tok k->k<r1.length:=fun k hk=>(T k hk).2
   have T4:∀ k,sp1=.tok k->k<h.length/\k ≠ G.length/\k ≠ G.length+1:=fun k hk=>⟨(T1 k hk).lt,(T1 k hk).dif a1 (nt 0 _ _ _),(T1 k hk).dif a2 (nt 0 _ _ _)⟩
   rcases T3 with rfl | ⟨q,rfl,hq,hq2⟩
   ·have a3:∀ X o,((h++X).set (h.length+1+13) o)[G.length+1]? = some (.cells [dI 3,dI 0,.str [],.imm .exact (Le ents i)]):=fun X o=>(a2.app (r:=X)).ne (by omega)
    simp[hlt,hup,a2.appE,zl,z1b,hap,hL,e4,hv,h4.1,h4.2,↓a3]
    refine⟨((a1.app).ne (by omega)).ne (by omega),.tok (h.length+1+13),by rw[hsp];exact At.self (by simp;omega),fun k hk=>?_,.inr ⟨_,rfl,by omega,?_⟩,by omega⟩
    ·obtain⟨k1,k2,k3⟩:=T4 k hk
     exact(((T1 k hk).app).ne (by omega)).ne (by omega)
    ·exact(At.self (by simp)).ne (by omega)
   ·have q1:q ≠ G.length:=hq2.dif a1 (nt 0 _ _ _)
    have q2:q ≠ G.length+1:=hq2.dif a2 (nt 0 _ _ _)
    have hq3:∀ X,(h++X)[q]? = some (.tok (i*4) 4):=fun X=>hq2.app (r:=X)
    have hql:=hq2.lt
    have a2':At (h.set q .dead) (G.length+1) (.cells [dI 3,dI 0,.str [],.imm (.tok q) (Le ents i)]):=a2.ne (by omega)
    have a1':=a1.ne (j:=q) (x:=.dead) (by omega)
    have a3:∀ X o,((h.set q .dead++X).set (h.length+1+13) o)[G.length+1]? = some (.cells [dI 3,dI 0,.str [],.imm (.tok q) (Le ents i)]):=fun X o=>(a2'.app (r:=X)).ne (by omega)
    have hs:∀ X o,(h++X).set q o=h.set q o++X:=fun X o=>z1c hql
    simp[hlt,hup,a2.appE,zl,z1o,hap,hL,e4,hv,h4.1,h4.2,↓a3,hq3,↓hs]
    refine⟨((a1'.app).ne (by omega)).ne (by omega),.tok (h.length+1+13),by rw[hsp];exact At.self (by simp;omega),fun k hk=>?_,.inr ⟨_,rfl,by omega,?_⟩,by omega⟩
    ·obtain⟨k1,k2,k3⟩:=T4 k hk
     have:=T2 k hk
     exact((((T1 k hk).ne (by omega)).app).ne (by omega)).ne (by omega)
    ·exact(At.self (by simp)).ne (by omega)
  ·have:i=ents.length:=by omega
   subst this
   have hap:∀ x y:D,y32 E 55 [xI no,xI minute,xI corrects] [x,y]:=fun x y=>z6u (by simp) fun z hz=>zr3 (l:=[no,minute,corrects]) z hz
   have hsl:=z62 h32
   have hi64:=zc9 g1
   have hz:=zve (hp:=[]) (n:=4) hi64.ents
   have hst:∀ n s,frz [] (n+1) (.str s)=some (.str s):=fun _ _=>rfl
   have e64:=r264 (zmc hi64 hl h32)
   rw[zr7,zaa,zaa,zaa] at e64
   simp only at hz e64
   have hGl:G.length<h.length:=by omega
   have hr:∀(X:List Obj) (o:Obj),((h++X).set G.length o)[G.length]? = some o:=fun X o=>At.self (by simp;omega)
   rcases R1' with rfl | ⟨k1,rfl⟩
   ·simp[a1.appE,a2.appE,hsl,z6t,zl,z1b,hap,↓hr,hz,hst,e64,zb]
    rfl
   ·have hk:=(T1 k1 rfl)
    have hk1:k1 ≠ G.length:=hk.dif a1 (fun e=>by cases e)
    have hkl:=hk.lt
    have hk2:∀ X:List Obj,(h++X)[k1]? = some (.tok 12 4):=fun X=>hk.app (r:=X)
    have hs:∀(X:List Obj) (o:Obj),(h++X).set k1 o=h.set k1 o++X:=fun X o=>z1c hkl
    have a1':=a1.ne (j:=k1) (x:=.dead) (by omega)
    have hw:∀ X:List Obj,(h.set k1 .dead++X)[G.length]? = some (.cells [dI 3,dI 0,.str [],.imm (.tok k1) [xI no,xI minute,xI corrects]]):=fun X=>a1'.app (r:=X)
    have hr':∀(X:List Obj) (o:Obj),((h.set k1 .dead++X).set G.length o)[G.length]? = some o:=fun X o=>At.self (by simp;omega)
    simp[a1.appE,a2.appE,hsl,z6t,zl,z1o,hap,↓hk2,↓hs,hw,↓hr',hz,hst,e64,zb]
    rfl
 ·rw[if_neg hg]
  simp[t334,n334,h32,h355,hg,↓hil,zy,zb]

abbrev Wd:=BitVec 32
abbrev dW(w:Wd):D:=.int .u32 (w.toNat:Int)
theorem z4x(m:Int):dH.wrap m=m % 4294967296:=by simp[cu,cw,ca]
theorem zcp:dH.bits=32:=rfl
theorem zi1{w:Wd}:br 32 (w.toNat:Int)=w:=by simp
theorem zru{a b:Wd}:dH.wrap ((a.toNat:Int)+b.toNat)=((a+b).toNat:Nat):=by
 rw[z4x,gw];omega
theorem yav{w:Wd}:w.toNat<4294967296:=w.isLt
theorem zrt{w:Wd}:((w.toNat:Nat):Int) % 4294967296=w.toNat:=by have:=yav (w:=w);omega
theorem zrr{a b:Wd}:y65 .u32 (a.toNat:Int) b.toNat=((a ^^^ b).toNat:Nat):=by
 unfold y65
 rw[z4x,show dH.bits=32 from rfl,zi1,zi1,zrt]
theorem yc4{a b:Wd}:y7x .u32 (a.toNat:Int) b.toNat=((a &&& b).toNat:Nat):=by
 unfold y7x
 rw[z4x,show dH.bits=32 from rfl,zi1,zi1,zrt]
theorem yc3{a b:Wd}:y8r .u32 (a.toNat:Int) b.toNat=((a ||| b).toNat:Nat):=by
 unfold y8r
 rw[z4x,show dH.bits=32 from rfl,zi1,zi1,zrt]
theorem zud{a:Wd}{n:Nat}(h:n<=32):dH.wrap ((a.toNat:Int)*2 ^ (min n 32))=((a <<< n).toNat:Nat):=by
 rw[z4x,ga,Nat.shiftLeft_eq,ci h]
 have e:(a.toNat:Int)*2 ^ n=((a.toNat*2 ^ n:Nat):Int):=by rw[Int.natCast_mul,iP];rfl
 rw[e,show(2:Nat) ^ 32=4294967296 from rfl]
 omega
theorem zrs{a:Wd}{n:Nat}(h:n<=32):(a.toNat:Int).fdiv (2 ^ (min n 32))=((a >>> n).toNat:Nat):=by
 rw[fR,Nat.shiftRight_eq_div_pow,ci h,cF _ (jj (by decide)),kK,iP]
 rfl

def y75(x:Wd)(s:Nat):Wd:=(x <<< s) ||| (x >>> (32 - s))
theorem zuj(k:Int):y7x .u64 (bg.wrap k) 31=k % 32:=by
 unfold y7x
 rw[z23,z23,show bg.bits=64 from rfl]
 have:(br 64 (k % 18446744073709551616) &&& br 64 31).toNat=(k % 18446744073709551616).toNat % 32:=by
  rw[iz]
  have h1:(br 64 31).toNat=31:=by decide
  rw[h1]
  have h2:(br 64 (k % 18446744073709551616)).toNat=(k % 18446744073709551616).toNat:=by
   rw[j0]
   show((k % 18446744073709551616) % 18446744073709551616).toNat=_
   omega
  rw[h2]
  exact Nat.and_two_pow_sub_one_eq_mod _ 5
 rw[this]
 omega

theorem y9u(x:Wd)(k:Int)(h:i64 k):y1i E (dL E) 406 [dW x,dI k]=some (dW (y75 x (k % 32).toNat)):=by
 refine zx c406 (by simp) ?_
 conv in t406=>reduce;dsimp[aA]
 have e:=zuj k
 obtain⟨s,hs⟩:∃ s:Nat,k % 32=s:=⟨(k % 32).toNat,by omega⟩
 have hs32:s<32:=by omega
 rw[hs] at e ⊢
 have hw:bg.wrap (32 - (s:Int))=((32 - s:Nat):Int):=by rw[z23];omega
 have e1:=zud (a:=x) (n:=s) (by omega)
 have e2:=zrs (a:=x) (n:=32 - s) (by omega)
 have e3:=yc3 (a:=x <<< s) (b:=x >>> (32 - s))
 rw[ci (by omega)] at e1 e2
 have m1:min s 32=s:=ci (by omega)
 have m2:min (32 - s) 32=32 - s:=ci (by omega)
 simp[t406,n406,y2n,zcp,e,hw,m1,m2,e1,e2,e3,-ga,-fR,-gK]
 rfl

theorem r407(x:Wd)(a b c:Int)(ha:0<=a/\a<=100)(hb:0<=b/\b<=100)(hc:0<=c/\c<=100) :
  y1i E (dL E) 407 [dW x,dI a,dI b,dI c]=some (dW (y75 x (-a % 32).toNat ^^^ y75 x (-b % 32).toNat ^^^ y75 x (-c % 32).toNat)):=by
 refine zx c407 (by simp) ?_
 conv in t407=>reduce;dsimp[aA]
 have e1:=y9u x (-a) ⟨by omega,by omega⟩
 have e2:=y9u x (-b) ⟨by omega,by omega⟩
 have e3:=y9u x (-c) ⟨by omega,by omega⟩
 have h1:ay.wrap (-a) = -a:=zf ⟨by omega,by omega⟩
 have h2:ay.wrap (-b) = -b:=zf ⟨by omega,by omega⟩
 have h3:ay.wrap (-c) = -c:=zf ⟨by omega,by omega⟩
 simp[t407,n407,e1,e2,e3,h1,h2,h3,zrr,-iD]

def y7z(b:List UInt8)(n:Nat):Wd:=(b.take n).foldl (fun w c=>(w <<< 8) ||| iE 32 c.toNat) 0
theorem zu9{b:List UInt8}{n:Nat}(h:n<b.length):y7z b (n+1)=(y7z b n <<< 8) ||| iE 32 b[n].toNat:=by
 unfold y7z
 rw[bj h,kn];rfl

theorem zgp{l:List UInt8}:y49 1 (l.map ya)=true:=by cases l <;> rfl
theorem zg9{b:List UInt8}{i:Nat}(h:i<=b.length):y13 E 30 (.imm .none (b.map ya)) none (some (dI i)) none=some (.imm .none ((b.take i).map ya)):=by
 unfold y13
 simp[bnd]
 exact⟨⟨h,zgp⟩,by unfold y2b;simp⟩
theorem z1v{E:Env}{cP:Nat->List D->Option D}{env:List D}{hp:List Obj}{a t:Nat}{d:D}{x:Xp}:xv E cP env hp (.n (.slice t (.t a) none (some (.c d)) none) (.cons a x .nil))=ob (xv E cP env hp x) fun u=>y13 E t u none (some d) none:=by
 simp only[xv,xvs]
 cases xv E cP env hp x <;> try rfl
 simp only[yb,gOf,kv,if_true,z7]
 exact zp

theorem r405(b:List UInt8)(h:4<=b.length):y1i E (dL E) 405 [.imm .none (b.map ya)]=some (dW (y7z b 4)):=by
 refine zx c405 (by simp) ?_
 conv in t405=>reduce;dsimp[aA]
 have e:=zg9 h
 have hl:((b.take 4).map ya).length=4:=by simp;omega
 have e:y13 E 30 (.imm .none (b.map ya)) none (some (.int .i64 4)) none=some (.imm .none ((b.take 4).map ya)):=e
 simp[t405,n405,e,z1v]
 rw[ci h]
 refine z21 4 (fun i env h=>∃(x0 x2 x6:D) ,env=[x0,dW (y7z b i),x2,.imm .none ((b.map ya).take 4),dI 4,dI i,x6]) 0 (by omega) ?_ ?_
 ·exact⟨_,_,_,rfl⟩
 rintro i env hp hi ⟨x0,x2,x6,rfl⟩
 by_cases hlt:i<4
 ·have hup:=zq hlt (by omega)
  have hib:i<b.length:=by omega
  have hs:=zu9 hib
  have e1:=zud (a:=y7z b i) (n:=8) (by omega)
  have hc:b[i].toNat<256:=b[i].toNat_lt
  have e2:dH.wrap (b[i].toNat:Int)=((iE 32 b[i].toNat).toNat:Nat):=by
   rw[z4x,j4];omega
  have e3:=yc3 (a:=y7z b i <<< 8) (b:=iE 32 b[i].toNat)
  have hi4:(i:Int)<4:=by omega
  rw[ci (by omega)] at e1
  have e1:dH.wrap (((y7z b i).toNat:Int)*256)=((y7z b i <<< 8).toNat:Nat):=e1
  simp[hi4,hlt,hup,y2n,zcp,e1,e2,e3,hs,hib,-ga,-gK,-j4]
 ·have:i=4:=by omega
  subst this
  simp

def y5r(m:List UInt8)(off n v:Nat):Nat->List UInt8
 | 0=>m
 |i+1=>(y5r m off n v i).set (off+(n - 1 - i)) (bC (v / 2 ^ (8*i)))
theorem z4y{m:List UInt8}{off n v:Nat}:∀{i:Nat},(y5r m off n v i).length=m.length
 | 0=>rfl
 |i+1=>by rw[y5r,bv,z4y]
theorem zkb(m:Int):gg.wrap m=m % 256:=by simp[cu,cw,ca]
theorem zoe{v i:Nat}(h:i<8):gg.wrap ((v:Int).fdiv (2 ^ (min (8*i) 64)))=((bC (v / 2 ^ (8*i))).toNat:Nat):=by
 rw[zkb,ci (by omega),cF _ (jj (by decide)),jY]
 have e:(v:Int) / 2 ^ (8*i)=((v / 2 ^ (8*i):Nat):Int):=by rw[kK,iP];rfl
 rw[e]
 omega

theorem z63{hp:List Obj}{id:Nat}{o:Obj}(h:At hp id o):hp.set id o=hp:=by
 apply cB
 intro j
 by_cases hj:j=id
 ·subst hj
  rw[aQ h.lt]
  exact h.symm
 ·rw[a8 (by omega)]

def Bys(hp:List Obj)(id:Nat)(m:List UInt8):Prop:=At hp id (.cells (m.map ya))

theorem ybm{hp:List Obj}{id off n:Nat}{gr:Bool}{m:List UInt8}(v:Nat)(hv:v<18446744073709551616)(hn:n<=8)(ho:off+n<=m.length)(B:Bys hp id m) :
  ∃ d hp',y16 E (dL E) 383 [.sl id off n 1 false gr,.int .u64 v] hp=some (d,hp')/\(d=.tup []/\hp'=hp.set id (.cells ((y5r m off n v n).map ya))):=by
 refine z31 c383 (args:=[.sl id off n 1 false gr,.int .u64 v]) (hp:=hp) (R:=fun d hp'=>d=.tup []/\hp'=hp.set id (.cells ((y5r m off n v n).map ya))) (by simp) ?_
 conv in t383=>reduce;dsimp[aA]
 have hid:=At.lt B
 simp[t383,n383]
 refine z21 n (fun i env h=>∃(x2 x5:D) ,env=[.sl id off n 1 false gr,.int .u64 v,x2,dI n,dI i,x5]/\h=hp.set id (.cells ((y5r m off n v i).map ya))) 0 (by omega) ?_ ?_
 ·refine⟨_,_,rfl,?_⟩
  rw[y5r]
  exact(z63 B).symm
 rintro i env h hi ⟨x2,x5,rfl,rfl⟩
 have hset:∀ o:Obj,(hp.set id o)[id]? = some o:=fun o=>At.self hid
 by_cases hlt:i<n
 ·have hup:=zq hlt (by omega)
  have hb:=zoe (v:=v) (i:=i) (by omega)
  have h1:ay.wrap ((n:Int) - 1)=(n:Int) - 1:=zf ⟨by omega,by omega⟩
  have h2:ay.wrap ((n:Int) - 1 - i)=((n - 1 - i:Nat):Int):=by rw[zf ⟨by omega,by omega⟩];omega
  have h3:ay.wrap (8*(i:Int))=((8*i:Nat):Int):=by rw[zf ⟨by omega,by omega⟩];omega
  have h4:(n - 1 - i:Nat)<n:=by omega
  have h5:off+(n - 1 - i)+1<=m.length:=by omega
  have h0:(8*(i:Int)).toNat=8*i:=by omega
  have h6:off+(n - 1 - i)<(y5r m off n v i).length:=by rw[z4y];omega
  have h8:(0:Int)<=8*(i:Int):=by omega
  simp[hlt,hup,hset,z1n,y2n,h1,h2,h3,h4,h5,hb,h0,h8,z4y,y5r]
  have hbe:ya (bC (v / 2 ^ (8*i)))=.int .u8 ((v:Int) / 2 ^ (8*i) % 256):=by
   show D.int .u8 ((bC (v / 2 ^ (8*i))).toNat:Int)=_
   rw[<- hb,zkb,ci (by omega),cF _ (jj (by decide))]
  rw[hbe]
 ·have:i=n:=by omega
  subst this
  simp

def y80(b:List UInt8):Nat->List Wd
 | 0=>af 64 0
 |i+1=>(y80 b i).set i (y7z (b.drop (4*i)) 4)
theorem z83{b:List UInt8}:∀{i:Nat},(y80 b i).length=64
 | 0=>by simp[y80]
 |i+1=>by rw[y80,bv,z83]
def sg0(x:Wd):Wd:=y75 x 25 ^^^ y75 x 14 ^^^ (x >>> 3)
def sg1(x:Wd):Wd:=y75 x 15 ^^^ y75 x 13 ^^^ (x >>> 10)
def y3j(b:List UInt8):Nat->List Wd
 | 0=>y80 b 16
 |k+1=>(y3j b k).set (k+16) ((y3j b k).getD k 0+sg0 ((y3j b k).getD (k+1) 0)+(y3j b k).getD (k+9) 0+sg1 ((y3j b k).getD (k+14) 0))
theorem z5x{b:List UInt8}:∀{i:Nat},(y3j b i).length=64
 | 0=>z83
 |i+1=>by rw[y3j,bv,z5x]

def Wds(hp:List Obj)(id:Nat)(m:List Wd):Prop:=At hp id (.cells (m.map dW))

def ya1:List Wd:=[1116352408,1899447441,3049323471,3921009573,961987163,1508970993,2453635748,2870763221,3624381080,310598401,607225278,1426881987,1925078388,2162078206,2614888103,3248222580,3835390401,4022224774,264347078,604807628,770255983,1249150122,1555081692,1996064986,2554220882,2821834349,2952996808,3210313671,3336571891,3584528711,113926993,338241895,666307205,773529912,1294757372,1396182291,1695183700,1986661051,2177026350,2456956037,2730485921,2820302411,3259730800,3345764771,3516065817,3600352804,4094571909,275423344,430227734,506948616,659060556,883997877,958139571,1322822218,1537002063,1747873779,1955562222,2024104815,2227730452,2361852424,2428436474,2756734187,3204031479,3329325298]
theorem zgm:ya1.length=64:=rfl
theorem zek{E:Env}{cP:Nat->List D->Option D}{env:List D}{hp:List Obj}{b t:Nat}{d:D}{x:Xp}:xv E cP env hp (.n (.iaddr t (.c d) (.t b)) (.cons b x .nil))=ob (xv E cP env hp x) fun u=>y2z E t d u:=by
 simp only[xv,xvs]
 cases xv E cP env hp x <;> try rfl
 simp only[yb,gOf,kv,if_true,z7]
 exact zp
def ya2(i:Nat):List D:=(ya1.map dW).drop i
theorem ye4{i:Nat}(h:i<64):y2z E 80 (.iptr [.int .u32 1116352408,.int .u32 1899447441,.int .u32 3049323471,.int .u32 3921009573,.int .u32 961987163,.int .u32 1508970993,.int .u32 2453635748,.int .u32 2870763221,.int .u32 3624381080,.int .u32 310598401,.int .u32 607225278,.int .u32 1426881987,.int .u32 1925078388,.int .u32 2162078206,.int .u32 2614888103,.int .u32 3248222580,.int .u32 3835390401,.int .u32 4022224774,.int .u32 264347078,.int .u32 604807628,.int .u32 770255983,.int .u32 1249150122,.int .u32 1555081692,.int .u32 1996064986,.int .u32 2554220882,.int .u32 2821834349,.int .u32 2952996808,.int .u32 3210313671,.int .u32 3336571891,.int .u32 3584528711,.int .u32 113926993,.int .u32 338241895,.int .u32 666307205,.int .u32 773529912,.int .u32 1294757372,.int .u32 1396182291,.int .u32 1695183700,.int .u32 1986661051,.int .u32 2177026350,.int .u32 2456956037,.int .u32 2730485921,.int .u32 2820302411,.int .u32 3259730800,.int .u32 3345764771,.int .u32 3516065817,.int .u32 3600352804,.int .u32 4094571909,.int .u32 275423344,.int .u32 430227734,.int .u32 506948616,.int .u32 659060556,.int .u32 883997877,.int .u32 958139571,.int .u32 1322822218,.int .u32 1537002063,.int .u32 1747873779,.int .u32 1955562222,.int .u32 2024104815,.int .u32 2227730452,.int .u32 2361852424,.int .u32 2428436474,.int .u32 2756734187,.int .u32 3204031479,.int .u32 3329325298]) (.int .i64 (i:Int))=some (.iptr (ya2 i)):=by
 have e:(ya1.map dW)=[.int .u32 1116352408,.int .u32 1899447441,.int .u32 3049323471,.int .u32 3921009573,.int .u32 961987163,.int .u32 1508970993,.int .u32 2453635748,.int .u32 2870763221,.int .u32 3624381080,.int .u32 310598401,.int .u32 607225278,.int .u32 1426881987,.int .u32 1925078388,.int .u32 2162078206,.int .u32 2614888103,.int .u32 3248222580,.int .u32 3835390401,.int .u32 4022224774,.int .u32 264347078,.int .u32 604807628,.int .u32 770255983,.int .u32 1249150122,.int .u32 1555081692,.int .u32 1996064986,.int .u32 2554220882,.int .u32 2821834349,.int .u32 2952996808,.int .u32 3210313671,.int .u32 3336571891,.int .u32 3584528711,.int .u32 113926993,.int .u32 338241895,.int .u32 666307205,.int .u32 773529912,.int .u32 1294757372,.int .u32 1396182291,.int .u32 1695183700,.int .u32 1986661051,.int .u32 2177026350,.int .u32 2456956037,.int .u32 2730485921,.int .u32 2820302411,.int .u32 3259730800,.int .u32 3345764771,.int .u32 3516065817,.int .u32 3600352804,.int .u32 4094571909,.int .u32 275423344,.int .u32 430227734,.int .u32 506948616,.int .u32 659060556,.int .u32 883997877,.int .u32 958139571,.int .u32 1322822218,.int .u32 1537002063,.int .u32 1747873779,.int .u32 1955562222,.int .u32 2024104815,.int .u32 2227730452,.int .u32 2361852424,.int .u32 2428436474,.int .u32 2756734187,.int .u32 3204031479,.int .u32 3329325298]:=rfl
 rw[<- e,ziw (m:=64) (e:=78) rfl,if_pos ⟨by omega,by omega⟩]
 rw[show(E.ty 78).size=1 from rfl,dK,cK]
 rfl
theorem ye3{i:Nat}{h:List Obj}(hi:i<64):y11 E h 78 (.iptr (ya2 i))=some (dW (ya1.getD i 0)):=by
 have hl:i<(ya1.map dW).length:=by rw[aU,zgm];exact hi
 unfold ya2
 rw[bG hl,List.getElem_map,ah,ae (by rw[zgm];exact hi)]
 rfl
theorem sl_1{q:Nat}:y13 E 77 (.loc q 0) (some (.int .i64 1)) none none=some (.sl q 1 7 1 false false):=rfl
theorem sl_7{q:Nat}:y13 E 77 (.loc q 0) none (some (.int .i64 7)) none=some (.sl q 0 7 1 false false):=rfl
theorem cp8{H:List Obj}{q:Nat}{d0 d1 d2 d3 d4 d5 d6 d7:Wd}(h:H[q]? = some (.cells [dW d0,dW d1,dW d2,dW d3,dW d4,dW d5,dW d6,dW d7])):y5k E H 81 81 (.sl q 1 7 1 false false) (.sl q 0 7 1 false false)=some (.int .i64 7,H.set q (.cells [dW d0,dW d0,dW d1,dW d2,dW d3,dW d4,dW d5,dW d6])):=by
 unfold y5k
 simp[h,y15,yw,y2o,y1x,yk]
 rfl
def rnd(w:List Wd)(i:Nat)(v:List Wd):List Wd:=match v with
 |[a,b,c,d,e,f,g,h]=>
  let t:=h+(y75 e 26 ^^^ y75 e 21 ^^^ y75 e 7)+(g ^^^ (e &&& (f ^^^ g)))+ya1.getD i 0+w.getD i 0
  [t+((y75 a 30 ^^^ y75 a 19 ^^^ y75 a 10)+((a &&& b) ||| (c &&& (a ||| b)))),a,b,c,d+t,e,f,g]
 |v=>v
def y8y(w:List Wd)(v:List Wd):Nat->List Wd
 | 0=>v
 |i+1=>rnd w i (y8y w v i)
theorem yb5{l:List Wd}(h:l.length=8):∃ a b c d e f g k,l=[a,b,c,d,e,f,g,k]:=by
 match l,h with
 |[a,b,c,d,e,f,g,k],_=>exact⟨a,b,c,d,e,f,g,k,rfl⟩
theorem zsl{w:List Wd}{i:Nat}{v:List Wd}(h:v.length=8):(rnd w i v).length=8:=by
 obtain⟨a,b,c,d,e,f,g,k,rfl⟩:=yb5 h
 rfl
theorem zbt{w v:List Wd}(h:v.length=8):∀{i:Nat},(y8y w v i).length=8
 | 0=>h
 |i+1=>zsl (zbt h)

theorem y26.wk{i C:Nat}{hp hp':List Obj}(h:y26 C C hp hp'):y26 i C hp hp':=fun J h1 h2 h3=>h J h1 (fun hp j o hj hk=>h2 hp j o hj (by rcases hk with rfl | hk;exact .inr (ai _);exact .inr hk)) h3
def Blk(st:Nat)(hp:List Obj)(x:D)(b:List UInt8):Prop:=∀ i:Nat,i<16->∃ y,y13 E 30 x (some (dI (4*(i:Int)))) none none=some y /\ ∀ h,y26 st hp.length hp h->frz h 12 y=some (dBy (b.drop (4*i)))
theorem zta{l:List UInt8}{h:List Obj}:frz h 12 (dBy l)=some (dBy l):=by rw[z47,zb];rfl

def y6z(s v:List Wd):Nat->List Wd
 | 0=>s
 |i+1=>(y6z s v i).set i ((y6z s v i).getD i 0+v.getD i 0)
theorem z8h{s v:List Wd}:∀{i:Nat},(y6z s v i).length=s.length
 | 0=>rfl
 |i+1=>by rw[y6z,bv,z8h]
def y3f(s:List Wd)(b:List UInt8):List Wd:=y6z s (y8y (y3j b 48) s 64) 8

theorem ydk{hp:List Obj}{st:Nat}{x:D}{b:List UInt8}{s:List Wd}(hs:s.length=8)(hb:64<=b.length)(S:Wds hp st s)(hx:Blk st hp x b) :
  ∃ d hp',y16 E (dL E) 404 [.loc st 0,x] hp=some (d,hp')/\(d=.tup []/\Wds hp' st (y3f s b)/\y26 st hp.length hp hp'/\hp.length<=hp'.length):=by
 refine z31 c404 (args:=[.loc st 0,x]) (hp:=hp) (R:=fun d hp'=>d=.tup []/\Wds hp' st (y3f s b)/\y26 st hp.length hp hp'/\hp.length<=hp'.length) (by simp) ?_
 conv in t404=>reduce;dsimp[aA]
 have hid:=At.lt S
 simp[t404,n404]
 refine z21 16 (fun i env h=>∃(x3 x4 x5 x6 x7 x8 x9 x10 x11 x13 x14 x15 x16 x17 x18 x19 x20 x21:D) ,env=[.loc st 0,x,.loc hp.length 0,x3,x4,x5,x6,x7,x8,x9,x10,x11,dI i,x13,x14,x15,x16,x17,x18,x19,x20,x21]/\Wds h hp.length (y80 b i)/\y26 hp.length hp.length hp h) 0 (by omega) ?_ ?_
 ·refine⟨_,_,_,_,_,_,_,_,_,_,_,_,_,_,_,_,_,_,rfl,?_,y26.app⟩
  unfold Wds y80
  simp[At]
 rintro i env h hi ⟨x3,x4,x5,x6,x7,x8,x9,x10,x11,x13,x14,x15,x16,x17,x18,x19,x20,x21,rfl,w1,w2⟩
 by_cases hlt:i<16
 ·have hi16:(i:Int)<16:=by omega
  have hup:=zq hlt (by omega)
  obtain⟨y,hy,hf⟩:=hx i hlt
  have hf:=hf h w2.wk
  have hw4:ay.wrap (4*(i:Int))=4*(i:Int):=zf ⟨by omega,by omega⟩
  have hy:y13 E 30 x (some (.int .i64 (4*(i:Int)))) none none=some y:=hy
  have e:=r405 (b.drop (4*i)) (by simp;omega)
  have hi64:(i:Int)<64:=by omega
  have w1':h[hp.length]? = some (.cells ((y80 b i).map dW)):=w1
  have hl64:i+1<=(y80 b i).length:=by rw[z83];omega
  have hhl:hp.length<h.length:=w1.lt
  have hst:y80 b (i+1)=(y80 b i).set i (y7z (b.drop (4*i)) 4):=rfl
  generalize hbb:b.drop (4*i)=bb at hf e hst
  have hl63:i<64:=by omega
  have hl65:i+1<=64:=by omega
  simp[hi16,hup,hw4,hy,hf,e,hi64,w1',z83,hl63,hl65]
  refine⟨hlt,?_,w2.trans (y26.set (.inr (ai _)))⟩
  unfold Wds
  rw[hst,iF]
  exact At.self hhl
 have:i=16:=by omega
 subst this
 simp
 refine z21 48 (fun k env h=>∃(x3 x5 x6 x7 x8 x9 x10 x11 x12 x13 x14 x15 x16 x17 x18 x19 x20 x21:D) ,env=[.loc st 0,x,.loc hp.length 0,x3,dI ((k:Int)+16),x5,x6,x7,x8,x9,x10,x11,x12,x13,x14,x15,x16,x17,x18,x19,x20,x21]/\Wds h hp.length (y3j b k)/\y26 hp.length hp.length hp h) 0 (by omega) ?_ ?_
 ·exact⟨_,_,_,_,_,_,_,_,_,_,_,_,_,_,_,_,_,_,rfl,w1,w2⟩
 clear hi hlt w1 w2 h
 rintro k env h hi ⟨x3,x5,x6,x7,x8,x9,x10,x11,x12,x13,x14,x15,x16,x17,x18,x19,x20,x21,rfl,w1,w2⟩
 have hhl:hp.length<h.length:=w1.lt
 have w1':h[hp.length]? = some (.cells ((y3j b k).map dW)):=w1
 by_cases hlt:k<48
 ·have hk64:(k:Int)+16<64:=by omega
  have i15:ay.wrap ((k:Int)+16 - 15)=(k:Int)+1:=by rw[zf ⟨by omega,by omega⟩];omega
  have i2:ay.wrap ((k:Int)+16 - 2)=(k:Int)+14:=by rw[zf ⟨by omega,by omega⟩];omega
  have i16:ay.wrap ((k:Int)+16 - 16)=(k:Int):=by rw[zf ⟨by omega,by omega⟩];omega
  have i7:ay.wrap ((k:Int)+16 - 7)=(k:Int)+9:=by rw[zf ⟨by omega,by omega⟩];omega
  have i1:ay.wrap ((k:Int)+16+1)=(k:Int)+1+16:=by rw[zf ⟨by omega,by omega⟩];omega
  have hst:y3j b (k+1)=(y3j b k).set (k+16) ((y3j b k).getD k 0+sg0 ((y3j b k).getD (k+1) 0)+(y3j b k).getD (k+9) 0+sg1 ((y3j b k).getD (k+14) 0)):=rfl
  have hgd:∀ j,j<64->(y3j b k)[j]? = some ((y3j b k).getD j 0):=fun j hj=>by rw[ah,ae (by rw[z5x];exact hj)];rfl
  have g0:=hgd k (by omega)
  have g1:=hgd (k+1) (by omega)
  have g9:=hgd (k+9) (by omega)
  have g14:=hgd (k+14) (by omega)
  have hlen:(y3j b k).length=64:=z5x
  clear hgd
  generalize (y3j b k).getD k 0=v0 at g0 hst
  generalize (y3j b k).getD (k+1) 0=v1 at g1 hst
  generalize (y3j b k).getD (k+9) 0=v9 at g9 hst
  generalize (y3j b k).getD (k+14) 0=v14 at g14 hst
  generalize y3j b k=W at g0 g1 g9 g14 hst hlen w1 w1'
  have b1:(0:Int)<=(k:Int)+1:=by omega
  have d1:(k:Int)+1<64:=by omega
  have t1:((k:Int)+1).toNat=k+1:=by omega
  have b14:(0:Int)<=(k:Int)+14:=by omega
  have d14:(k:Int)+14<64:=by omega
  have t14:((k:Int)+14).toNat=k+14:=by omega
  have b9:(0:Int)<=(k:Int)+9:=by omega
  have d9:(k:Int)+9<64:=by omega
  have t9:((k:Int)+9).toNat=k+9:=by omega
  have b16:(0:Int)<=(k:Int)+16:=by omega
  have d16:(k:Int)+16<64:=by omega
  have t16:((k:Int)+16).toNat=k+16:=by omega
  have d0:(k:Int)<64:=by omega
  have n16:k+16<64:=by omega
  have n17:k+16+1<=64:=by omega
  have wA:∀ r:List Obj,(h++r)[hp.length]? = some (.cells (W.map dW)):=fun r=>w1.app (r:=r)
  have r1:=y9u v1 (-7) ⟨by decide,by decide⟩
  have r2:=y9u v1 (-18) ⟨by decide,by decide⟩
  have r3:=y9u v14 (-17) ⟨by decide,by decide⟩
  have r4:=y9u v14 (-19) ⟨by decide,by decide⟩
  have sh3:∀ x:Wd,(x.toNat:Int).fdiv 8=((x >>> 3).toNat:Nat):=fun x=>zrs (a:=x) (n:=3) (by omega)
  have sh10:∀ x:Wd,(x.toNat:Int).fdiv 1024=((x >>> 10).toNat:Nat):=fun x=>zrs (a:=x) (n:=10) (by omega)
  have i0:ay.wrap (k:Int)=(k:Int):=zf ⟨by omega,by omega⟩
  simp[hk64,i0,i15,i2,i16,i7,i1,w1',wA,g0,g1,g9,g14,hlen,r1,r2,r3,r4,b1,d1,t1,b14,d14,t14,b9,d9,t9,b16,t16,d0,n16,n17,zcp,sh3,sh10,zrr,zru,-iD,-gw,-fR]
  refine⟨hlt,?_,w2.trans (y26.app.trans (y26.set (.inr (ai _))))⟩
  unfold Wds
  rw[hst,iF]
  exact At.self (by simp;omega)
 have:k=48:=by omega
 subst this
 have S':Wds h st s:=w2.at (by omega) hid S
 have S2:h[st]? = some (.cells (s.map dW)):=S'
 obtain⟨a0,a1,a2,a3,a4,a5,a6,a7,he⟩:=yb5 hs
 rw[he] at S2
 simp at S2
 simp[S2]
 refine z21 64 (fun i env h'=>∃(x3 x4 x5 x6 x8 x9 x10 x11 x12 x13 x14 x15 x16 x18 x19 x20 x21:D) ,env=[.loc st 0,x,.loc hp.length 0,x3,x4,x5,x6,.loc h.length 0,x8,x9,x10,x11,x12,x13,x14,x15,x16,dI i,x18,x19,x20,x21]/\Wds h' hp.length (y3j b 48)/\Wds h' h.length (y8y (y3j b 48) s i)/\y26 hp.length hp.length hp h'/\h.length<h'.length) 0 (by omega) ?_ ?_
 ·refine⟨_,_,_,_,_,_,_,_,_,_,_,_,_,_,_,_,_,rfl,w1.app,?_,w2.trans y26.app,by simp⟩
  simp[Wds,At,y8y,he]
 rintro i env h' hi ⟨x3,x4,x5,x6,x8,x9,x10,x11,x12,x13,x14,x15,x16,x18,x19,x20,x21,rfl,v1,v2,v3,v4⟩
 by_cases hlt':i<64
 ·have hi64:(i:Int)<64:=by omega
  have hup:=zq hlt' (by omega)
  obtain⟨a,b',c,d,e,f,g,g',hr⟩:=yb5 (zbt (w:=y3j b 48) (v:=s) (i:=i) hs)
  have hst:y8y (y3j b 48) s (i+1)=rnd (y3j b 48) i (y8y (y3j b 48) s i):=rfl
  rw[hr] at v2 hst
  have v1':∀ r:List Obj,(h'++r)[hp.length]? = some (.cells ((y3j b 48).map dW)):=fun r=>v1.app (r:=r)
  have v2':∀ r:List Obj,(h'++r)[h.length]? = some (.cells (([a,b',c,d,e,f,g,g']:List Wd).map dW)):=fun r=>v2.app (r:=r)
  have hw:(y3j b 48)[i]? = some ((y3j b 48).getD i 0):=by rw[ah,ae (by rw[z5x];exact hlt')];rfl
  have k1:=ye4 hlt'
  have k2:=fun h:List Obj=>ye3 (h:=h) hlt'
  have hlen:(y3j b 48).length=64:=z5x
  generalize hW:(y3j b 48).getD i 0=wi at hw
  generalize hK:ya1.getD i 0=ki at k2
  have q1:=r407 e 6 11 25 (by decide) (by decide) (by decide)
  have q2:=r407 a 2 13 22 (by decide) (by decide) (by decide)
  simp at v2'
  have hcp:=fun r:List Obj=>cp8 (v2' r)
  have hset:∀(r:List Obj) (o:Obj),((h'++r).set h.length o)[h.length]? = some o:=fun r o=>At.self (by simp;omega)
  simp[hi64,hup,v1',v2',hw,q1,q2,zek,k1,k2,z1v,sl_1,sl_7,↓hcp,↓hset,hlen,zrr,zru,yc4,yc3,-iD,-gw,-iz,-gK]
  refine⟨hlt',v1.app.ne (by omega),?_,v3.trans (y26.app.trans (y26.set (.inr (by omega)))),by omega⟩
  unfold Wds
  rw[hst]
  simp only[rnd,hK,hW]
  exact At.self (by simp;omega)
 have:i=64:=by omega
 subst this
 simp
 have hvl:(y8y (y3j b 48) s 64).length=8:=zbt hs
 unfold y3f at *
 generalize y8y (y3j b 48) s 64=V at v2 hvl ⊢
 have v5:Wds h' st s:=v3.at (by omega) hid S
 refine z21 8 (fun i env h2=>∃(x1 x2 x3 x4 x5 x6 x8 x9 x10 x11 x12 x13 x14 x15 x16 x17 x18 x19 x21:D) ,env=[.loc st 0,x1,x2,x3,x4,x5,x6,.loc h.length 0,x8,x9,x10,x11,x12,x13,x14,x15,x16,x17,x18,x19,dI i,x21]/\Wds h2 h.length V/\Wds h2 st (y6z s V i)/\y26 st hp.length hp h2/\hp.length<=h2.length) 0 (by omega) ?_ ?_
 ·exact⟨_,_,_,_,_,_,_,_,_,_,_,_,_,_,_,_,_,_,_,rfl,v2,v5,v3.wk,by omega⟩
 clear hi hlt' v1 v2 v3 v5
 rintro i env h2 hi ⟨x1,x2,x3,x4,x5,x6,x8,x9,x10,x11,x12,x13,x14,x15,x16,x17,x18,x19,x21,rfl,v2,v5,v3,v6⟩
 by_cases hlt':i<8
 ·have hi8:(i:Int)<8:=by omega
  have hup:=zq hlt' (by omega)
  have g1:(y6z s V i)[i]? = some ((y6z s V i).getD i 0):=by rw[ah,ae (by rw[z8h];omega)];rfl
  have g2:V[i]? = some (V.getD i 0):=by rw[ah,ae (by omega)];rfl
  have hst:y6z s V (i+1)=(y6z s V i).set i ((y6z s V i).getD i 0+V.getD i 0):=rfl
  have v2':∀ r:List Obj,(h2++r)[h.length]? = some (.cells (V.map dW)):=fun r=>v2.app (r:=r)
  have v5':∀ r:List Obj,(h2++r)[st]? = some (.cells ((y6z s V i).map dW)):=fun r=>v5.app (r:=r)
  have hal:(y6z s V i).length=8:=by rw[z8h];exact hs
  have hi9:i+1<=8:=by omega
  have hi88:i<8:=hlt'
  have e1:(y6z s V i).getD i 0=(y6z s V i)[i]'(by omega):=by rw[ah,ae (by omega)];rfl
  have e2:V.getD i 0=V[i]'(by omega):=by rw[ah,ae (by omega)];rfl
  rw[e1,e2] at hst
  have v2l:=v2.lt
  have v5l:=v5.lt
  simp[hi8,hup,g1,g2,v2',v5',hal,hvl,hi9,hi88,zru,-gw]
  refine⟨v2.app.ne (by omega),?_,(v3.trans y26.app).trans (y26.set (.inl rfl)),by omega⟩
  unfold Wds
  rw[hst,iF]
  exact At.self (by simp;omega)
 ·have:i=8:=by omega
  subst this
  simp
  exact⟨v5,v3,v6⟩

theorem zqw{b:List UInt8}{i:Nat}(h:i<=b.length):y13 E 30 (.imm .none (b.map ya)) (some (dI i)) none none=some (.imm .none ((b.drop i).map ya)):=by
 unfold y13
 simp[bnd]
 exact⟨⟨h,zgp⟩,by unfold y2b;simp,bu (by simp)⟩
theorem ztp{st:Nat}{hp:List Obj}{b:List UInt8}(h:64<=b.length):Blk st hp (.imm .none (b.map ya)) b:=fun i hi=>⟨.imm .none ((b.drop (4*i)).map ya),by
 have:=zqw (b:=b) (i:=4*i) (by omega)
 exact this,fun h _=>zta⟩
theorem z5t:∀(n:Nat) (l:List UInt8),n<=l.length->y2o 1 false n (l.map ya)=some ((l.take n).map ya)
 | 0,l,_=>by simp[y2o]
 |n+1,[],h=>by simp at h
 |n+1,c::l,h=>by
  have e:=z5t n l (by simp at h;omega)
  simp[y2o,y1x,yk,e]
theorem zrd{st id off n:Nat}{gr:Bool}{hp:List Obj}{m:List UInt8}(B:Bys hp id m)(hid:id ≠ st)(hn:64<=n)(ho:off+n<=m.length):Blk st hp (.sl id off n 1 false gr) ((m.drop off).take n):=fun i hi=>⟨.sl id (off+4*i) (n - 4*i) 1 false false,by
  unfold y13
  have h0:(0:Int)<=4*(i:Int):=by omega
  have h1:(4*(i:Int)).toNat=4*i:=by omega
  simp[bnd,h0,h1]
  omega,fun h k=>by
  have B':Bys h id m:=k.at hid B.lt B
  have B2:h[id]? = some (.cells (m.map ya)):=B'
  rw[zr5]
  simp only[B2,y84]
  rw[z7,<- List.map_drop,z5t _ _ (by simp;omega),z7,zb,aj,List.drop_take,ch]⟩

def y7i:List Wd:=[1779033703,3144134277,1013904242,2773480762,1359893119,2600822924,528734635,1541459225]
def y4f(b:List UInt8):Nat->List Wd->List Wd
 | 0,s=>s
 |k+1,s=>y3f (y4f b k s) ((b.drop (64*k)).take 64)
theorem zg4{s:List Wd}{b:List UInt8}(h:s.length=8):(y3f s b).length=8:=by unfold y3f;rw[z8h];exact h
theorem z4a{b:List UInt8}{s:List Wd}(h:s.length=8):∀{k:Nat},(y4f b k s).length=8
 | 0=>h
 |k+1=>zg4 (z4a h)

theorem zk0{E:Env}{cP:Nat->List D->Option D}{env:List D}{hp:List Obj}{t:Nat}{d:D}:xv E cP env hp (.n (.load t (.c d)) .nil)=y11 E hp t d:=by
 simp only[xv,xvs]
 simp only[yb,gOf]
 exact zp
theorem zsw{hp:List Obj}:y11 E hp 76 (.iptr [.int .u32 1779033703,.int .u32 3144134277,.int .u32 1013904242,.int .u32 2773480762,.int .u32 1359893119,.int .u32 2600822924,.int .u32 528734635,.int .u32 1541459225])=some (.agg (y7i.map dW)):=rfl
theorem zsh{b:List UInt8}(h:64<=b.length):y13 E 30 (.imm .none (b.map ya)) (some (.int .i64 64)) none none=some (.imm .none ((b.drop 64).map ya)):=zqw (i:=64) h
theorem zsi{b:List UInt8}(h:64<=b.length):y13 E 30 (.imm .none (b.map ya)) none (some (.int .i64 64)) none=some (.imm .none ((b.take 64).map ya)):=zg9 (i:=64) h
def z32:List UInt8:=af 32 0
def y7g:List UInt8:=af 128 0
def tl0(r:List UInt8):List UInt8:=r++af (128 - r.length) 0
theorem zkd{r:List UInt8}(h:r.length<=128):(tl0 r).length=128:=by unfold tl0;rw[ax,eB];omega
theorem zcf:∀(l:List UInt8),yn (l.map ya)=l.map ya
 |[]=>rfl
 |c::l=>by
  have:=zcf l
  simp only[av,yn,bB] at this ⊢
  rw[this];rfl
theorem ydz{h:List Obj}:y4r E h 30 (.int .i64 64) (.int .i64 128)=some (.sl h.length 0 64 1 false true,h++[.cells (y7g.map ya)]):=by
 have e:=zcf y7g
 have e2:y7g.map ya=af 128 (D.int .u8 0):=by unfold y7g;rw[eu];rfl
 rw[e2] at e ⊢
 unfold y4r
 simp only[show(E.ty 30).k=.slice 13 from rfl,show y1s E 13=some (D.int .u8 0) from rfl,show(E.ty 13).size=1 from rfl,show(E.ty 13).ag=false from rfl]
 rw[if_pos (by refine⟨by decide,by decide,by decide⟩)]
 rw[show((128:Int)).toNat=128 from rfl,e]
 rfl
theorem zqm{l:List UInt8}:(l.map ya).all (fun d=>d.storable && d.cellsL.length == 1)=true:=z7c
theorem ye9{H:List Obj}{id:Nat}{r:List UInt8}(B:Bys H id y7g)(h:r.length<64):y5k E H 30 30 (.sl id 0 64 1 false true) (.imm .none (r.map ya))=some (.int .i64 r.length,H.set id (.cells ((tl0 r).map ya))):=by
 have B2:H[id]? = some (.cells (y7g.map ya)):=B
 have hl:(y7g.map ya).length=128:=rfl
 have hm:Nat.min r.length 64=r.length:=ci (by omega)
 have hs:setCells (y7g.map ya) 0 (yn (r.map ya))=(tl0 r).map ya:=by
  rw[zcf]
  have e:y7g.map ya=(af r.length (0:UInt8)).map ya++(af (128 - r.length) (0:UInt8)).map ya:=by
   rw[<- bZ,List.replicate_append_replicate]
   unfold y7g
   congr 2;omega
  rw[e,z1l (by simp),ze (by simp)]
  unfold tl0
  rw[bZ]
 have hL:y15 H 1 false (.imm .none (r.map ya))=some (r.map ya):=by
  unfold y15
  simp only[zqm,if_true]
 unfold y5k
 simp only[show(E.ty 30).k=.slice 13 from rfl,B2,show(E.ty 13).size=1 from rfl,show(E.ty 13).ag=false from rfl,hL,aU,hm]
 rw[if_pos ⟨trivial,by simp[y7g]⟩,bu (by simp),hs]

def tl1(r:List UInt8):List UInt8:=(tl0 r).set r.length 128
theorem zeo{r:List UInt8}(h:r.length<=128):(tl1 r).length=128:=by unfold tl1;rw[bv,zkd h]
theorem rsl{h:List Obj}{r:List UInt8}(hr:r.length<=128):y2l E (h++[.cells ((tl1 r).map ya)]) 30 (.sl h.length 0 64 1 false true) (.int .i64 128)=some (.sl h.length 0 128 1 false true,h++[.cells ((tl1 r).map ya)]):=by
 have e:(h++[Obj.cells ((tl1 r).map ya)])[h.length]? = some (.cells ((tl1 r).map ya)):=by simp
 unfold y2l
 simp only[show(E.ty 30).k=.slice 13 from rfl,e,show(E.ty 13).size=1 from rfl,aU,zeo hr]
 rfl
theorem ydi{q:Nat}:y13 E 30 (.sl q 0 64 1 false true) (some (.int .i64 56)) none none=some (.sl q 56 8 1 false false):=rfl
theorem zus{q:Nat}:y13 E 30 (.sl q 0 128 1 false true) (some (.int .i64 120)) none none=some (.sl q 120 8 1 false false):=rfl
theorem zqx{q o l:Nat}{gr:Bool}(h:64<=l):y13 E 30 (.sl q o l 1 false gr) none (some (.int .i64 64)) none=some (.sl q o 64 1 false false):=by
 unfold y13
 simp[bnd]
 omega
theorem zqv{q o l:Nat}{gr:Bool}(h:64<=l):y13 E 30 (.sl q o l 1 false gr) (some (.int .i64 64)) none none=some (.sl q (o+64) (l - 64) 1 false false):=by
 unfold y13
 simp[bnd]
 omega
def rst(b:List UInt8)(k:Nat):List UInt8:=b.drop (64*k)
theorem ydn{b:List UInt8}{k:Nat}:rst b (k+1)=(rst b k).drop 64:=by unfold rst;rw[ch];rfl
theorem zey{b:List UInt8}{k:Nat}:(rst b k).length=b.length - 64*k:=by unfold rst;rw[List.length_drop]

theorem z8i{E:Env}{cP:Nat->List D->Option D}{env:List D}{hp:List Obj}{t a b c:Nat}{x y z:Xp}(h1:b ≠ a)(h2:c ≠ a)(h3:c ≠ b):xv E cP env hp (.n (.slice t (.t a) (some (.t b)) (some (.t c)) none) (.cons a x (.cons b y (.cons c z .nil))))=ob (xv E cP env hp x) fun u=>ob (xv E cP env hp y) fun v=>ob (xv E cP env hp z) fun w=>y13 E t u (some v) (some w) none:=by
 simp only[xv,xvs]
 cases xv E cP env hp x <;> try rfl
 cases xv E cP env hp y <;> try rfl
 cases xv E cP env hp z <;> try rfl
 simp only[yb,aj,Option.map_none,gOf,kv,z7,if_true,if_neg h1,if_neg h2,if_neg h3]
 exact zp
def y4h(v:List Wd):Nat->List UInt8
 | 0=>z32
 |i+1=>y5r (y4h v i) (4*i) 4 (v.getD i 0).toNat 4
theorem z3d{v:List Wd}:∀{i:Nat},(y4h v i).length=32
 | 0=>rfl
 |i+1=>by rw[y4h,z4y,z3d]
def y6u(b:List UInt8):List UInt8:=
 if 55<(rst b (b.length / 64)).length then y4h (y4f (y5r (tl1 (rst b (b.length / 64))) 120 8 (b.length*8) 8) 2 (y4f b (b.length / 64) y7i)) 8
 else y4h (y4f (y5r (tl1 (rst b (b.length / 64))) 56 8 (b.length*8) 8) 1 (y4f b (b.length / 64) y7i)) 8
theorem z5f{H:List Obj}{m:List UInt8}(B:Bys H 0 m)(h:m.length=32):y11 E H 73 (.loc 0 0)=some (.agg (m.map ya)):=by
 have B2:H[0]? = some (.cells (m.map ya)):=B
 have e:=z1r 32 0 (m.map ya) (by simp[h])
 unfold y11
 simp only[yw,B2,show(E.ty 73).size=32 from rfl,e]
 rfl
theorem zqu{i:Nat}(h:i<8):y13 E 73 (.loc 0 0) (some (.int .i64 (4*(i:Int)))) (some (.int .i64 (4*(i:Int)+4))) none=some (.sl 0 (4*i) 4 1 false false):=by
 have h0:(0:Int)<=4*(i:Int):=by omega
 have h1:(4*(i:Int)).toNat=4*i:=by omega
 have h2:(0:Int)<=4*(i:Int)+4:=by omega
 have h3:(4*(i:Int)+4).toNat=4*i+4:=by omega
 unfold y13
 simp only[show(E.ty 73).k=.arr 32 13 from rfl,bnd,if_pos h0,if_pos h2,h1,h3,show(E.ty 13).size=1 from rfl]
 rw[if_pos ⟨by omega,by omega⟩]
 simp

theorem r364(b:List UInt8)(hb:b.length<=1000000000):y1i E (dL E) 364 [dBy b]=some (y7c (y6u b)):=by
 refine zx c364 (by simp) ?_
 conv in t364=>reduce;dsimp[aA]
 have hz:∀ x:List D,(D.agg (y7i.map dW)).cellsL=y7i.map dW:=fun _=>rfl
 simp[t364,n364,zk0,zsw]
 refine z21 (b.length / 64) (fun k env h=>∃(x5 x6 x7 x8 x9 x10 x11 x12 x13 x14 x15 x16 x17 x18 x19 x20 x21:D) ,env=[dBy b,.loc 0 0,.loc 1 0,.bfn 404 (.loc 1 0),.imm .none ((rst b k).map ya),x5,x6,x7,x8,x9,x10,x11,x12,x13,x14,x15,x16,x17,x18,x19,x20,x21]/\Bys h 0 z32/\Wds h 1 (y4f b k y7i)/\2<=h.length) 0 (by omega) ?_ ?_
 ·refine⟨_,_,_,_,_,_,_,_,_,_,_,_,_,_,_,_,_,rfl,?_,?_,by simp⟩
  ·rfl
  ·rfl
 rintro k env h hi ⟨x5,x6,x7,x8,x9,x10,x11,x12,x13,x14,x15,x16,x17,x18,x19,x20,x21,rfl,B,W,hl⟩
 by_cases hlt:k<b.length / 64
 ·have hrl:64<=(rst b k).length:=by rw[zey];omega
  have h64:(64:Int)<=(rst b k).length:=by omega
  have e1:=zsh hrl
  have e2:=zsi hrl
  obtain⟨d,h2,e,rfl,w1,k1,l1⟩:=ydk (st:=1) (hp:=h) (x:=.imm .none (((rst b k).take 64).map ya)) (b:=(rst b k).take 64) (s:=y4f b k y7i) (z4a rfl) (by rw[be];omega) W (ztp (by rw[be];omega))
  have hs:rst b (k+1)=(rst b k).drop 64:=ydn
  have hst:y4f b (k+1) y7i=y3f (y4f b k y7i) ((rst b k).take 64):=rfl
  have B2:Bys h2 0 _:=k1.at (by omega) (by omega) B
  rw[<- hst] at w1
  generalize hT:(rst b k).take 64=T at e2 e hst
  generalize hD:(rst b k).drop 64=Dr at e1 hs
  simp[h64,e1,e2,e,z1v,hs]
  exact⟨hlt,B2,w1,by omega⟩
 ·have:k=b.length / 64:=by omega
  subst this
  have h64 : ¬ (64:Int)<=(rst b (b.length / 64)).length:=by rw[zey];omega
  have hr:(rst b (b.length / 64)).length<64:=by rw[zey];omega
  have hs1:55<(rst b (b.length / 64)).length->y6u b=y4h (y4f (y5r (tl1 (rst b (b.length / 64))) 120 8 (b.length*8) 8) 2 (y4f b (b.length / 64) y7i)) 8:=fun h=>by unfold y6u;rw[if_pos h]
  have hs2 : ¬ 55<(rst b (b.length / 64)).length->y6u b=y4h (y4f (y5r (tl1 (rst b (b.length / 64))) 56 8 (b.length*8) 8) 1 (y4f b (b.length / 64) y7i)) 8:=fun h=>by unfold y6u;rw[if_neg h]
  generalize hR:rst b (b.length / 64)=r at hr h64 hs1 hs2
  have hS:(y4f b (b.length / 64) y7i).length=8:=z4a rfl
  generalize y4f b (b.length / 64) y7i=S at W hS hs1 hs2
  have c1:=ye9 (H:=h++[Obj.cells (y7g.map ya)]) (id:=h.length) (r:=r) (by simp[Bys,At]) hr
  have c2:∀ o:Obj,(h++[Obj.cells (y7g.map ya)]).set h.length o=h++[o]:=fun o=>by simp
  rw[c2] at c1
  have c3:∀ o:Obj,(h++[o])[h.length]? = some o:=fun o=>by simp
  have c4:∀ o o':Obj,(h++[o]).set h.length o'=h++[o']:=fun o o'=>by simp
  have hr':(r.length:Int)<64:=by omega
  have htl:=zkd (r:=r) (by omega)
  have hr1:r.length+1<=128:=by omega
  have c5:(((tl0 r).map ya).set r.length (D.int .u8 128))=(tl1 r).map ya:=by unfold tl1;rw[iF];rfl
  have c6:=fun(h:List Obj)=>rsl (h:=h) (r:=r) (by omega)
  have hL:bg.wrap (b.length:Int)=b.length:=by rw[z23];omega
  have hL8:bg.wrap ((b.length:Int)*8)=((b.length*8:Nat):Int):=by rw[z23];omega
  have hL9:bg.wrap ((b.length:Int)*8)=(b.length:Int)*8:=by rw[z23];omega
  have w56:ay.wrap 56=56:=by decide
  have w120:ay.wrap 120=120:=by decide
  simp[h64,ydz,c1,↓c3,↓c4,hr',htl,hr1,c5]
  have key:∀ n:Nat,n=64\/n=128->True:=fun _ _=>trivial
  split
  ·rename_i h55
   obtain⟨d,h3,e3,rfl,rfl⟩:=ybm (hp:=h++[Obj.cells ((tl1 r).map ya)]) (id:=h.length) (off:=120) (n:=8) (gr:=false) (m:=tl1 r) (b.length*8) (by omega) (by omega) (by unfold tl1;rw[bv,htl];omega) (by simp[Bys,At])
   rw[c4] at e3
   simp at e3
   simp[c6,zus,hL,hL8,y2n,e3,z1n,w120]
   have hM:(y5r (tl1 r) 120 8 (b.length*8) 8).length=128:=by rw[z4y,zeo (by omega)]
   generalize y5r (tl1 r) 120 8 (b.length*8) 8=M at *
   refine z21 2 (fun j env h'=>∃(x4 x6 x7 x8 x9 x10 x11 x12 x13 x14 x15 x16 x17 x18 x19 x20 x21:D) (gr:Bool),env=[dBy b,.loc 0 0,.loc 1 0,.bfn 404 (.loc 1 0),x4,.sl h.length (64*j) (128 - 64*j) 1 false gr,x6,x7,x8,x9,x10,x11,x12,x13,x14,x15,x16,x17,x18,x19,x20,x21]/\Bys h' 0 z32/\Wds h' 1 (y4f M j S)/\Bys h' h.length M/\h.length<h'.length) 0 (by omega) ?_ ?_
   ·exact⟨_,_,_,_,_,_,_,_,_,_,_,_,_,_,_,_,_,true,rfl,B.app,W.app,by simp[Bys,At],by simp⟩
   rintro j env h' hj ⟨x4,x6,x7,x8,x9,x10,x11,x12,x13,x14,x15,x16,x17,x18,x19,x20,x21,gr,rfl,B1,W1,B2,hl1⟩
   by_cases hlt:j<2
   ·obtain⟨o,ho⟩:∃ o,o=64*j:=⟨_,rfl⟩
    obtain⟨l,hl⟩:∃ l,l=128 - o:=⟨_,rfl⟩
    have hb:y4f M (j+1) S=y3f (y4f M j S) ((M.drop o).take 64):=by rw[ho];rfl
    obtain⟨d,h2,e,rfl,w1,k1,l1⟩:=ydk (st:=1) (hp:=h') (x:=.sl h.length o 64 1 false false) (b:=(M.drop o).take 64) (s:=y4f M j S) (z4a hS) (by simp;omega) W1 (zrd B2 (by omega) (by omega) (by omega))
    rw[<- hb] at w1
    have B1':Bys h2 0 z32:=k1.at (by omega) (by omega) B1
    have B2':Bys h2 h.length M:=k1.at (by omega) hl1 B2
    rw[<- ho,<- hl]
    have e1:=zqx (q:=h.length) (o:=o) (l:=l) (gr:=gr) (by omega)
    have e2:=zqv (q:=h.length) (o:=o) (l:=l) (gr:=gr) (by omega)
    have hpos:(0:Int)<l:=by omega
    have o1:64*(j+1)=o+64:=by omega
    have hpos':0<l:=by omega
    simp[hpos,hpos',e1,e2,e,z1v]
    exact⟨by omega,⟨by omega,by omega⟩,B1',w1,B2',by omega⟩
   ·have:j=2:=by omega
    subst this
    have hSl:(y4f M 2 S).length=8:=z4a hS
    have hsh:=hs1 (by omega)
    generalize y4f M 2 S=V at W1 hSl hsh
    obtain⟨a0,a1,a2,a3,a4,a5,a6,a7,hV⟩:=yb5 hSl
    have W2:h'[1]? = some (.cells (V.map dW)):=W1
    rw[hV] at W2
    simp at W2
    simp[W2]
    rw[hsh]
    refine z21 8 (fun i env h3=>∃(x0 x2 x3 x4 x5 x6 x7 x8 x9 x10 x11 x12 x13 x14 x15 x16 x17 x20 x21:D) ,env=[x0,.loc 0 0,x2,x3,x4,x5,x6,x7,x8,x9,x10,x11,x12,x13,x14,x15,x16,x17,.agg [dW a0,dW a1,dW a2,dW a3,dW a4,dW a5,dW a6,dW a7],dI i,x20,x21]/\Bys h3 0 (y4h V i)) 0 (by omega) ?_ ?_
    ·exact⟨_,_,_,_,_,_,_,_,_,_,_,_,_,_,_,_,_,_,_,rfl,B1⟩
    rintro i env h3 hi ⟨x0,x2,x3,x4,x5,x6,x7,x8,x9,x10,x11,x12,x13,x14,x15,x16,x17,x20,x21,rfl,C⟩
    have hidx:∀ i,i<8->([dW a0,dW a1,dW a2,dW a3,dW a4,dW a5,dW a6,dW a7]:List D)[i]? = some (dW (V.getD i 0)):=fun i hi=>by
     have e:([dW a0,dW a1,dW a2,dW a3,dW a4,dW a5,dW a6,dW a7]:List D)=V.map dW:=by rw[hV];rfl
     rw[e,bU,ah,ae (by omega)];rfl
    by_cases hlt:i<8
    ·have hi8:(i:Int)<8:=by omega
     have hup:=zq hlt (by omega)
     have q1:ay.wrap (4*(i:Int))=4*(i:Int):=zf ⟨by omega,by omega⟩
     have q2:ay.wrap (4*(i:Int)+4)=4*(i:Int)+4:=zf ⟨by omega,by omega⟩
     have q3:=zqu hlt
     have q4:bg.wrap ((V.getD i 0).toNat:Int)=(V.getD i 0).toNat:=by have:=yav (w:=V.getD i 0);rw[z23];omega
     obtain⟨d,h4,e4,rfl,rfl⟩:=ybm (hp:=h3) (id:=0) (off:=4*i) (n:=4) (gr:=false) (m:=y4h V i) (V.getD i 0).toNat (by have:=yav (w:=V.getD i 0);omega) (by omega) (by rw[z3d];omega) C
     have hid:=hidx i hlt
     have hst:y4h V (i+1)=y5r (y4h V i) (4*i) 4 (V.getD i 0).toNat 4:=rfl
     have hc0:0<h3.length:=At.lt C
     generalize V.getD i 0=w at hid q4 e4 hst
     simp[hi8,hup,hid,q1,q2,q3,q4,e4,y2n,z1n,z8i]
     refine⟨hlt,?_⟩
     rw[hst]
     exact At.self hc0
    ·have:i=8:=by omega
     subst this
     have l1:=z5f C z3d
     have hsc:setCells ((y4h V 8).map ya) 0 ((y4h V 8).map ya)=(y4h V 8).map ya:=ze rfl
     have hss:h3.set 0 (.cells ((y4h V 8).map ya))=h3:=z63 C
     have C2:h3[0]? = some (.cells ((y4h V 8).map ya)):=C
     have hol:(y4h V 8).length=32:=z3d
     simp[l1,zb,C2,hsc,hss,hol]
     try trace_state
  ·rename_i h55
   obtain⟨d,h3,e3,rfl,rfl⟩:=ybm (hp:=h++[Obj.cells ((tl1 r).map ya)]) (id:=h.length) (off:=56) (n:=8) (gr:=false) (m:=tl1 r) (b.length*8) (by omega) (by omega) (by unfold tl1;rw[bv,htl];omega) (by simp[Bys,At])
   rw[c4] at e3
   simp at e3
   simp[ydi,hL,hL8,y2n,e3,z1n,w56]
   have hM:(y5r (tl1 r) 56 8 (b.length*8) 8).length=128:=by rw[z4y,zeo (by omega)]
   generalize y5r (tl1 r) 56 8 (b.length*8) 8=M at *
   refine z21 1 (fun j env h'=>∃(x4 x6 x7 x8 x9 x10 x11 x12 x13 x14 x15 x16 x17 x18 x19 x20 x21:D) (gr:Bool),env=[dBy b,.loc 0 0,.loc 1 0,.bfn 404 (.loc 1 0),x4,.sl h.length (64*j) (64 - 64*j) 1 false gr,x6,x7,x8,x9,x10,x11,x12,x13,x14,x15,x16,x17,x18,x19,x20,x21]/\Bys h' 0 z32/\Wds h' 1 (y4f M j S)/\Bys h' h.length M/\h.length<h'.length) 0 (by omega) ?_ ?_
   ·exact⟨_,_,_,_,_,_,_,_,_,_,_,_,_,_,_,_,_,true,rfl,B.app,W.app,by simp[Bys,At],by simp⟩
   rintro j env h' hj ⟨x4,x6,x7,x8,x9,x10,x11,x12,x13,x14,x15,x16,x17,x18,x19,x20,x21,gr,rfl,B1,W1,B2,hl1⟩
   by_cases hlt:j<1
   ·obtain⟨o,ho⟩:∃ o,o=64*j:=⟨_,rfl⟩
    obtain⟨l,hl⟩:∃ l,l=64 - o:=⟨_,rfl⟩
    have hb:y4f M (j+1) S=y3f (y4f M j S) ((M.drop o).take 64):=by rw[ho];rfl
    obtain⟨d,h2,e,rfl,w1,k1,l1⟩:=ydk (st:=1) (hp:=h') (x:=.sl h.length o 64 1 false false) (b:=(M.drop o).take 64) (s:=y4f M j S) (z4a hS) (by simp;omega) W1 (zrd B2 (by omega) (by omega) (by omega))
    rw[<- hb] at w1
    have B1':Bys h2 0 z32:=k1.at (by omega) (by omega) B1
    have B2':Bys h2 h.length M:=k1.at (by omega) hl1 B2
    rw[<- ho,<- hl]
    have e1:=zqx (q:=h.length) (o:=o) (l:=l) (gr:=gr) (by omega)
    have e2:=zqv (q:=h.length) (o:=o) (l:=l) (gr:=gr) (by omega)
    have hpos:(0:Int)<l:=by omega
    have o1:64*(j+1)=o+64:=by omega
    have hpos':0<l:=by omega
    simp[hpos,hpos',e1,e2,e,z1v]
    exact⟨by omega,⟨by omega,by omega⟩,B1',w1,B2',by omega⟩
   ·have:j=1:=by omega
    subst this
    have hSl:(y4f M 1 S).length=8:=z4a hS
    have hsh:=hs2 (by omega)
    generalize y4f M 1 S=V at W1 hSl hsh
    obtain⟨a0,a1,a2,a3,a4,a5,a6,a7,hV⟩:=yb5 hSl
    have W2:h'[1]? = some (.cells (V.map dW)):=W1
    rw[hV] at W2
    simp at W2
    simp[W2]
    rw[hsh]
    refine z21 8 (fun i env h3=>∃(x0 x2 x3 x4 x5 x6 x7 x8 x9 x10 x11 x12 x13 x14 x15 x16 x17 x20 x21:D) ,env=[x0,.loc 0 0,x2,x3,x4,x5,x6,x7,x8,x9,x10,x11,x12,x13,x14,x15,x16,x17,.agg [dW a0,dW a1,dW a2,dW a3,dW a4,dW a5,dW a6,dW a7],dI i,x20,x21]/\Bys h3 0 (y4h V i)) 0 (by omega) ?_ ?_
    ·exact⟨_,_,_,_,_,_,_,_,_,_,_,_,_,_,_,_,_,_,_,rfl,B1⟩
    rintro i env h3 hi ⟨x0,x2,x3,x4,x5,x6,x7,x8,x9,x10,x11,x12,x13,x14,x15,x16,x17,x20,x21,rfl,C⟩
    have hidx:∀ i,i<8->([dW a0,dW a1,dW a2,dW a3,dW a4,dW a5,dW a6,dW a7]:List D)[i]? = some (dW (V.getD i 0)):=fun i hi=>by
     have e:([dW a0,dW a1,dW a2,dW a3,dW a4,dW a5,dW a6,dW a7]:List D)=V.map dW:=by rw[hV];rfl
     rw[e,bU,ah,ae (by omega)];rfl
    by_cases hlt:i<8
    ·have hi8:(i:Int)<8:=by omega
     have hup:=zq hlt (by omega)
     have q1:ay.wrap (4*(i:Int))=4*(i:Int):=zf ⟨by omega,by omega⟩
     have q2:ay.wrap (4*(i:Int)+4)=4*(i:Int)+4:=zf ⟨by omega,by omega⟩
     have q3:=zqu hlt
     have q4:bg.wrap ((V.getD i 0).toNat:Int)=(V.getD i 0).toNat:=by have:=yav (w:=V.getD i 0);rw[z23];omega
     obtain⟨d,h4,e4,rfl,rfl⟩:=ybm (hp:=h3) (id:=0) (off:=4*i) (n:=4) (gr:=false) (m:=y4h V i) (V.getD i 0).toNat (by have:=yav (w:=V.getD i 0);omega) (by omega) (by rw[z3d];omega) C
     have hid:=hidx i hlt
     have hst:y4h V (i+1)=y5r (y4h V i) (4*i) 4 (V.getD i 0).toNat 4:=rfl
     have hc0:0<h3.length:=At.lt C
     generalize V.getD i 0=w at hid q4 e4 hst
     simp[hi8,hup,hid,q1,q2,q3,q4,e4,y2n,z1n,z8i]
     refine⟨hlt,?_⟩
     rw[hst]
     exact At.self hc0
    ·have:i=8:=by omega
     subst this
     have l1:=z5f C z3d
     have hsc:setCells ((y4h V 8).map ya) 0 ((y4h V 8).map ya)=(y4h V 8).map ya:=ze rfl
     have hss:h3.set 0 (.cells ((y4h V 8).map ya))=h3:=z63 C
     have C2:h3[0]? = some (.cells ((y4h V 8).map ya)):=C
     have hol:(y4h V 8).length=32:=z3d
     simp[l1,zb,C2,hsc,hss,hol]
     try trace_state

theorem s384(n:Int)(h:0<=n)(h':n<=1000000000)(hp:List Obj):y16 E (dL E) (384) [.imm .exact [],dI n] hp=some (.imm (.tok hp.length) [],hp++[.tok 0 1]):=by
 have e:E.fn (384)=some f384:=rfl
 have e2:E.mp 384=false:=rfl
 have e3 : ¬ n<0:=by omega
 have e4:n*2<=yl:=by unfold yl;omega
 have e5:y30 1 []=true:=rfl
 unfold y16
 simp only[e,e2,f384,yi,z7y,z4s,ze9,z4t,z5h,y20]
 simp[ye,yd,yh,y1u,DOp.fin,yj,yb,ym,gOf,z5h,y1f,y3y,y2k,y1p,y2j,y2a,y5t,y2e,y15,yg,y2g,z4t,z9v,yp,e3,e4,e5,h,y2h]

def y6s(ls:List (List UInt8))(i:Nat):List UInt8:=(ls.take i).flatten
theorem zrc{ls:List (List UInt8)}{i:Nat}(h:i<ls.length):y6s ls (i+1)=y6s ls i++ls[i]:=by
 unfold y6s
 rw[bj h,jJ];simp
theorem zn3{ls:List (List UInt8)}{i:Nat}:(y6s ls i).length<=(y6s ls ls.length).length:=by
 have h:ls.flatten=(ls.take i).flatten++(ls.drop i).flatten:=by rw[<- jJ,bz]
 unfold y6s
 rw[bp,h,ax];omega

theorem r365(ls:List (List UInt8))(h1:(y6s ls ls.length).length<=1000000000)(h2:ls.length<=1000000000):y1i E (dL E) 365 [.imm .none (ls.map fun l=>.imm .none (l.map ya))]=some (.imm .none ((y6s ls ls.length).map ya)):=by
 refine zx c365 (by simp) ?_
 conv in t365=>reduce;dsimp[aA]
 simp[t365,n365]
 refine z21 ls.length (fun i env h=>∃(x1 x3 x4 x5 x9 x10 x11 x12 x13 x14 x15 x16:D) (m:Nat),env=[.imm .none (ls.map fun l=>.imm .none (l.map ya)),x1,dI m,x3,x4,x5,.imm .none (ls.map fun l=>.imm .none (l.map ya)),dI ls.length,dI i,x9,x10,x11,x12,x13,x14,x15,x16]/\h=[]/\m=(y6s ls i).length) 0 (by omega) ⟨_,_,_,_,_,_,_,_,_,_,_,_,0,rfl,rfl,rfl⟩ ?_
 rintro i env h hi ⟨x1,x3,x4,x5,x9,x10,x11,x12,x13,x14,x15,x16,m,rfl,rfl,hm⟩
 by_cases hlt:i<ls.length
 ·have hs:=zrc hlt
  have hb:=zn3 (ls:=ls) (i:=i+1)
  obtain⟨W,hW⟩:∃ W,ls[i]=W:=⟨_,rfl⟩
  rw[hW] at hs
  rw[hs,ax] at hb
  have w:=zf (n:=(m:Int)+W.length) ⟨by omega,by omega⟩
  have hn : ¬ (m:Int)+W.length<0:=by omega
  rw[hm] at w hn
  simp[hlt,hW,w,hn,zq hlt (by omega),hs,hm]
 ·have:i=ls.length:=by omega
  subst this
  have e:=s384 (m:Int) (by omega) (by omega) []
  have fb:∀ l:List UInt8,((l.map ya).all fun d=>d.storable && d.cellsL.length == 1)=true:=fun l=>z7c
  simp[e]
  refine z21 ls.length (fun i env h=>∃(x1 x2 x3 x5 x6 x7 x8 x9 x10 x11 x15 x16:D) (k:Nat),env=[.imm .none (ls.map fun l=>.imm .none (l.map ya)),x1,x2,x3,.imm (.tok k) ((y6s ls i).map ya),x5,x6,x7,x8,x9,x10,x11,.imm .none (ls.map fun l=>.imm .none (l.map ya)),dI ls.length,dI i,x15,x16]/\At h k (.tok ((y6s ls i).length*1) 1)) 0 (by omega) ⟨_,_,_,_,_,_,_,_,_,_,_,_,0,rfl,rfl⟩ ?_
  clear hi hm e
  rintro i env h hi ⟨x1,x2,x3,x5,x6,x7,x8,x9,x10,x11,x15,x16,k,rfl,a1⟩
  by_cases hlt:i<ls.length
  ·have hs:=zrc hlt
   have hb:=zn3 (ls:=ls) (i:=i+1)
   obtain⟨W,hW⟩:∃ W,ls[i]=W:=⟨_,rfl⟩
   obtain⟨C,hC⟩:∃ C,y6s ls i=C:=⟨_,rfl⟩
   obtain⟨C',hC'⟩:∃ C,y6s ls (i+1)=C:=⟨_,rfl⟩
   rw[hW,hC,hC'] at hs
   rw[hC',hs,ax] at hb
   have hap:=z1j (l:=C) (new:=W.map ya) (by rw[aU];omega)
   rw[hC] at a1 ⊢
   have hcat:C.map ya++W.map ya=C'.map ya:=by rw[hs];simp
   have hlen:C'.length=C.length+W.length:=by rw[hs];simp
   simp[hlt,hW,zl,z1o,a1.eq,hap,fb,zq hlt (by omega),↓hC']
   have hg:=zgr (hp:=h.set k Obj.dead) (r:=[Obj.tok (C.length+W.length) 1]) (k:=0)
   rw[bv,Nat.add_zero] at hg
   repeat apply Exists.intro
   refine⟨?_,hg.trans (by rw[hlen];rfl)⟩
   and_intros <;> first | rfl | exact hcat
  ·have:i=ls.length:=by omega
   subst this
   simp[zb]



theorem yay(a b:List UInt8)(h:a.length+b.length<=1000000000):y1i E (dL E) 365 [.imm .none [dBy a,dBy b]]=some (dBy (a++b)):=by
 have e:=r365 [a,b] (by simp[y6s];omega) (by simp)
 rw[show y6s [a,b] [a,b].length=a++b from by simp[y6s]] at e
 exact e

theorem z3a{b:List UInt8}:(y6u b).length=32:=by unfold y6u;split <;> exact z3d

def tgB:List UInt8->List UInt8->List UInt8:=fun t b=>y6u (y6u t++b)

theorem z9h{H:List Obj}{n:Nat}:∀(l:List UInt8),(l.map ya).flatMap (ids H (n+1))=[]
 |[]=>rfl
 |c::l=>by
  rw[av,bB,z9h l];rfl
theorem zt5{A:Obj}{T b:List UInt8}(hl:T.length=32):ids [A,.cells (T.map ya)] 12 (.imm .exact [.sl 1 0 32 1 false false,dBy b])=[1]:=by
 have h1:ids [A,.cells (T.map ya)] 11 (.sl 1 0 32 1 false false)=[1]:=by
  show 1::(((T.map ya).drop 0).take (32*1)).flatMap (ids [A,.cells (T.map ya)] 10)=[1]
  rw[cX,bu (by simp[hl]),z9h]
 have h2:ids [A,.cells (T.map ya)] 11 (dBy b)=[]:=by
  show(b.map ya).flatMap (ids [A,.cells (T.map ya)] 10)=[]
  exact z9h b
 show[D.sl 1 0 32 1 false false,dBy b].flatMap (ids [A,.cells (T.map ya)] 11)=[1]
 rw[bB,bB,h1,h2];rfl
theorem zpc{A:Obj}{cs:List D}:yt [A,.cells cs] [1]=[A,.frozen cs]:=rfl

theorem ybo(t b:List UInt8)(ht:t.length<=1000)(hb:b.length<=900000000):y1i E (dL E) 331 [.str t,dBy b]=some (y7c (tgB t b)):=by
 have e1:=r364 t (by omega)
 have e2:=yay (y6u t) b (by rw[z3a];omega)
 have e3:=r364 (y6u t++b) (by rw[ax,z3a];omega)
 have hl:=z3a (b:=t)
 refine zx c331 (by simp) ?_
 conv in t331=>reduce;dsimp[aA]
 have hl3:=z3a (b:=y6u t++b)
 unfold tgB
 generalize y6u t=T at e1 e2 e3 hl hl3 ⊢
 generalize y6u (T++b)=U at e3 hl3 ⊢
 have hsl:y13 E 73 (.loc 1 0) none none none=some (.sl 1 0 32 1 false false):=rfl
 have hsc:setCells (z32.map ya) 0 (T.map ya)=T.map ya:=ze (by rw[aU,aU,hl];rfl)
 have hz:z32.map ya=af 32 (D.int .u8 0):=by unfold z32;rw[eu];rfl
 rw[hz] at hsc
 simp only[af] at hsc
 have hck:y2o 1 false 32 (T.map ya)=some (T.map ya):=by rw[z5t 32 T (by omega),bu (by omega)]
 have hsc2:setCells (z32.map ya) 0 (U.map ya)=U.map ya:=ze (by rw[aU,aU,hl3];rfl)
 rw[hz] at hsc2
 simp only[af] at hsc2
 have hfa:y1k (frz [] 11) (T.map ya++b.map ya)=some (T.map ya++b.map ya):=by rw[<- bZ];exact zb
 have e3':y1i E (dL E) 364 [.imm .none (T.map ya++b.map ya)]=some (y7c U):=by rw[<- bZ];exact e3
 have hid:=fun A:Obj=>zt5 (A:=A) (b:=b) hl
 have hld:∀ A:Obj,y11 E [.cells (U.map ya),A] 73 (.loc 0 0)=some (.agg (U.map ya)):=fun A=>z5f rfl hl3
 simp[t331,n331,e1,e2,e3',zb,hl,hl3,hsl,↓hsc,↓hsc2,hck,hfa,↓hid,zpc,↓hld]

theorem r335(a b:List UInt8)(ha:a.length=32)(hb:b.length=32):y1i E (dL E) 335 [y7c a,y7c b]=some (y7c (tgB [99,104,97,105,110] (a++b))):=by
 have e1:=yay a b (by omega)
 have e2:=ybo [99,104,97,105,110] (a++b) (by simp) (by simp;omega)
 have hl:(tgB [99,104,97,105,110] (a++b)).length=32:=z3a
 have s1:=z62 ha
 have s2:=z62 hb
 refine zx c335 (by simp) ?_
 conv in t335=>reduce;dsimp[aA]
 generalize tgB [99,104,97,105,110] (a++b)=U at e2 hl ⊢
 have e2':y1i E (dL E) 331 [.str [99,104,97,105,110],.imm .none (a.map ya++b.map ya)]=some (y7c U):=by rw[<- bZ];exact e2
 have hfa:y1k (frz [] 11) (a.map ya++b.map ya)=some (a.map ya++b.map ya):=by rw[<- bZ];exact zb
 have hsc2:setCells (z32.map ya) 0 (U.map ya)=U.map ya:=ze (by rw[aU,aU,hl];rfl)
 have hz:z32.map ya=af 32 (D.int .u8 0):=by unfold z32;rw[eu];rfl
 rw[hz] at hsc2
 simp only[af] at hsc2
 have hld:∀ r:List Obj,y11 E (.cells (U.map ya)::r) 73 (.loc 0 0)=some (.agg (U.map ya)):=fun r=>z5f rfl hl
 have hfz:frz [] 11 (.str [99,104,97,105,110])=some (.str [99,104,97,105,110]):=rfl
 have hfz2:frz [] 12 (.str [99,104,97,105,110])=some (.str [99,104,97,105,110]):=rfl
 simp[t335,n335,e1,e2',zb,ha,hb,hl,s1,s2,↓hsc2,hfa,↓hld,hfz,hfz2]

abbrev pC(p:Pst):List D:=dI p.no::dI p.minute::dI p.corrects :: .imm .none (p.ents.map y41)::p.prev.map ya
theorem zsy{h:List Obj}{p:Pst}(h32:p.prev.length=32):y11 E h 71 (.iptr (pC p))=some (y36 p):=zc8 h32
theorem zsx{h r:List Obj}{p:Pst}(h32:p.prev.length=32):y11 E (h ++ .cells (pC p)::r) 71 (.loc h.length 0)=some (y36 p):=by
 have e:=z1r 36 0 (pC p) (by simp[h32])
 have e2:(h++Obj.cells (pC p)::r)[h.length]? = some (.cells (pC p)):=by simp
 unfold y11
 simp only[e2,show(E.ty 71).size=36 from rfl,e]
 rfl
theorem stP{p:Pst}(h32:p.prev.length=32):setCells (dI p.no::dI p.minute::dI p.corrects :: .imm .none (p.ents.map y41)::af 32 (D.int .u8 0)) 4 (p.prev.map ya)=pC p:=by
 have e:=zm (a:=[dI p.no,dI p.minute,dI p.corrects,.imm .none (p.ents.map y41)]) (b:=af 32 (D.int .u8 0)) (off:=0) (vs:=p.prev.map ya)
 rw[ze (by simp[h32])] at e
 exact e

def y8k(l:List Pst):Prop:=l.length<=1000000 /\ ∀ p,p ∈ l->p.prev.length=32/\p.ents.length<=1000000
open Classical in
noncomputable def rdD(l:List Pst):D:=.tup [y7c (if rdE tgB l=0 then y4j tgB l else z32),dI (rdE tgB l)]
theorem z7d:∀{a b:List Pst},y2c a=0->y2c (a++b)=y2c b
 |[],b,_=>rfl
 |p::a,b,h=>by
  simp only[y2c,aZ] at h ⊢
  split at h
  ·rename_i hp
   rw[if_pos hp];exact z7d h
  ·rename_i hp;exact absurd h hp
theorem zmi{l:List Pst}{i:Nat}(h:i<l.length)(h0:y2c (l.take i)=0)(hp:y3n l[i] ≠ 0):y2c l=y3n l[i]:=by
 have e:l=l.take i++l.drop i:=(bz i l).symm
 have e2:y2c l=y2c (l.drop i):=by
  conv=>lhs;rw[e]
  exact z7d h0
 rw[e2,bG h,y2c,if_neg hp]
theorem zpg{l:List Pst}{i:Nat}(h:i<l.length)(h0:y2c (l.take i)=0)(hp:y3n l[i]=0):y2c (l.take (i+1))=0:=by
 rw[bj h,z7d h0,y2c,if_pos hp];rfl

theorem zc6{H:List Obj}{q:Nat}{m:List UInt8}(B:Bys H q m)(h:m.length=32):y11 E H 73 (.loc q 0)=some (.agg (m.map ya)):=by
 have B2:H[q]? = some (.cells (m.map ya)):=B
 have e:=z1r 32 0 (m.map ya) (by simp[h])
 unfold y11
 simp only[yw,B2,show(E.ty 73).size=32 from rfl,e]
 rfl
theorem z9r:∀{a b:List UInt8},a.length=b.length->eqL (a.map ya) (b.map ya)=some (decide (a=b))
 |[],[],_=>rfl
 |x::a,y::b,h=>by
  have ih:=z9r (a:=a) (b:=b) (by simpa using h)
  have e:y1w (ya x) (ya y)=some (((x.toNat:Int)) == (y.toNat:Int)):=by unfold y1w ya;simp
  rw[av,av,eqL,e,ih]
  simp only[aa]
  by_cases hxy:x=y
  ·subst hxy;simp
  ·have : ¬ ((x.toNat:Int))=(y.toNat:Int):=fun h=>hxy (kX.1 (by omega))
   simp[hxy,this]
 |[],_::_,h=>by simp at h
 |_::_,[],h=>by simp at h
theorem z5o:∀{a:List UInt8},y1j (a.map ya) (af a.length (D.int .u8 0))=true
 |[]=>rfl
 |x::a=>by
  rw[av,aF,List.replicate_succ]
  simp only[y1j,ya,decide_true,Bool.true_and]
  exact z5o
theorem zsr{a b:List UInt8}(ha:a.length=32)(hb:b.length=32):y2e E .neq 73 (.agg (a.map ya)) (.agg (b.map ya))=some (.bool (!decide (a=b))):=by
 have h1:(E.ty 73).eqc=true:=rfl
 have h2:(E.ty 73).zero=af a.length (D.int .u8 0):=by rw[ha];rfl
 unfold y2e
 simp only[]
 rw[if_pos ⟨h1,by rw[h2];exact z5o⟩,z9r (by rw[ha,hb])]
theorem ye1{h r:List Obj}{p:Pst}(h32:p.prev.length=32):y11 E (h ++ .cells (pC p)::r) 73 (.loc h.length 4)=some (.agg (p.prev.map ya)):=by
 have e:=z1r 32 4 (pC p) (by simp[h32])
 have e2:(h++Obj.cells (pC p)::r)[h.length]? = some (.cells (pC p)):=by simp
 unfold y11
 simp only[e2,show(E.ty 73).size=32 from rfl,e]
 rfl
theorem y40:∀{l:List Pst},(y4j tgB l).length=32:=by
 intro l
 unfold y4j
 rcases List.eq_nil_or_concat l with e | ⟨a,b,e⟩
 ·rw[e]
  show(tgB y37 []).length=32
  exact z3a
 ·rw[e,List.concat_eq_append,kn];exact(show(y6u _).length=32 from z3a)

theorem ydr(l:List Pst)(h:y8k l):y1i E (dL E) 354 [y2f l]=some (rdD l):=by
 refine zx c354 (by simp) ?_
 conv in t354=>reduce;dsimp[aA]
 obtain⟨hl,hp⟩:=h
 by_cases hlen:65536<l.length
 ·have hE:rdE tgB l=2:=by unfold rdE;rw[if_pos hlen]
  unfold rdD
  rw[hE,if_neg (by decide)]
  have hln:(65536:Int)<l.length:=by omega
  simp[t354,n354,hln]
  rfl
 ·have hln : ¬ (65536:Int)<l.length:=by omega
  simp[t354,n354,hln]
  refine z21 l.length (fun i env h=>∃(x2 x3 x4 x5 x6 x7 x8 x9 x13 x14 x15 x16 x17 x18 x19 x20 x21 x22 x23:D) ,env=[y2f l,.loc 0 0,x2,x3,x4,x5,x6,x7,x8,x9,y2f l,dI l.length,dI i,x13,x14,x15,x16,x17,x18,x19,x20,x21,x22,x23]/\Bys h 0 z32/\y2c (l.take i)=0) 0 (by omega) ?_ ?_
  ·exact⟨_,_,_,_,_,_,_,_,_,_,_,_,_,_,_,_,_,_,_,rfl,rfl,rfl⟩
  rintro i env h hi ⟨x2,x3,x4,x5,x6,x7,x8,x9,x13,x14,x15,x16,x17,x18,x19,x20,x21,x22,x23,rfl,B,F⟩
  by_cases hlt:i<l.length
  ·obtain⟨p,hpi⟩:∃ p,p=l[i]:=⟨_,rfl⟩
   have hp2:=hp p (by rw[hpi];exact bT hlt)
   have h355:=ydq p hp2.1 hp2.2
   have hup:=zq hlt (by omega)
   have hli:l[i]? = some p:=by rw[hpi];simp[hlt]
   have q1:=fun h:List Obj=>zsy (h:=h) hp2.1
   have q2:=fun h:List Obj=>zsx (h:=h) (r:=[]) hp2.1
   have q3:=stP hp2.1
   have z1:∀ r:List Obj,y11 E (h++r) 73 (.loc 0 0)=some (.agg (z32.map ya)):=fun r=>z5f B.app rfl
   have z2:∀ r:List Obj,(h++r)[0]? = some (.cells (z32.map ya)):=fun r=>B.app
   have z3:setCells (z32.map ya) 0 (z32.map ya)=z32.map ya:=ze rfl
   have z4:∀ r:List Obj,(h++r).set 0 (.cells (z32.map ya))=h++r:=fun r=>z63 B.app
   have z5:z32.length=32:=rfl
   simp only[af] at q3
   simp[hlt,hup,<- hpi,hp2.1,↓q1,↓q2,↓q3,zy,zb,h355,↓z1,↓z2,z3,↓z4,z5]
   by_cases hpc:y3n p=0
   ·rw[if_pos hpc]
    exact⟨B.app,zpg hlt F (by rw[<- hpi];exact hpc)⟩
   ·rw[if_neg hpc]
    have hf:=zmi hlt F (by rw[<- hpi];exact hpc)
    rw[<- hpi] at hf
    have hE:rdE tgB l=y3n p:=by unfold rdE;rw[if_neg hlen,if_pos (by rw[hf];exact hpc),hf]
    unfold rdD
    rw[hE,if_neg hpc]
  ·have:i=l.length:=by omega
   subst this
   rw[bp] at F
   have z1:∀ r:List Obj,y11 E (h++r) 73 (.loc 0 0)=some (.agg (z32.map ya)):=fun r=>z5f B.app rfl
   have e331:=ybo y37 [] (by decide) (by simp)
   have hT:tgB y37 []=y5p tgB:=rfl
   rw[hT] at e331
   have hTl:(y5p tgB).length=32:=y40 (l:=[])
   have hd0:y5p tgB=y4j tgB (l.take 0):=by rw[List.take_zero];rfl
   have e331:y1i E (dL E) 331 [.str [112,111,115,116,105,110,103,115],.imm .none []]=some (y7c (y5p tgB)):=e331
   generalize y5p tgB=d0 at e331 hTl hd0
   have hsc2:setCells (z32.map ya) 0 (d0.map ya)=d0.map ya:=ze (by rw[aU,aU,hTl];rfl)
   have hz:z32.map ya=af 32 (D.int .u8 0):=by unfold z32;rw[eu];rfl
   rw[hz] at hsc2
   simp only[af] at hsc2
   have hst:∀ n s,frz [] (n+1) (.str s)=some (.str s):=fun _ _=>rfl
   simp[e331,hTl,↓hsc2,hst]
   obtain⟨C,hC⟩:∃ C,C=h.length:=⟨_,rfl⟩
   have hC0:0<C:=by rw[hC];exact At.lt B
   refine z21 l.length (fun i env h'=>∃(x2 x3 x4 x6 x7 x8 x9 x10 x11 x12 x13 x14 x15 x19 x20 x21 x22 x23:D) ,env=[y2f l,.loc 0 0,x2,x3,x4,.loc C 0,x6,x7,x8,x9,x10,x11,x12,x13,x14,x15,y2f l,dI l.length,dI i,x19,x20,x21,x22,x23]/\Bys h' 0 z32/\Bys h' C (y4j tgB (l.take i)) /\ ∀ j p,j<i->l[j]? = some p->atP tgB l j p) 0 (by omega) ?_ ?_
   ·rw[<- hC]
    exact⟨_,_,_,_,_,_,_,_,_,_,_,_,_,_,_,_,_,_,rfl,B.app,by rw[<- hd0,hC];simp[Bys,At],fun j p hj=>absurd hj (by omega)⟩
   rintro i env h' hi ⟨x2,x3,x4,x6,x7,x8,x9,x10,x11,x12,x13,x14,x15,x19,x20,x21,x22,x23,rfl,B0,BC,V⟩
   by_cases hlt:i<l.length
   ·obtain⟨p,hpi⟩:∃ p,p=l[i]:=⟨_,rfl⟩
    have hp2:=hp p (by rw[hpi];exact bT hlt)
    have h334:=ybn p hp2.1 hp2.2
    have hgp:gdP p:=z38.1 F p (by rw[hpi];exact bT hlt)
    unfold y9h at h334
    rw[if_pos (z1y.2 hgp)] at h334
    have hup:=zq hlt (by omega)
    have hli:l[i]? = some p:=by rw[hpi];simp[hlt]
    have q1:=fun h:List Obj=>zsy (h:=h) hp2.1
    have q2:=fun r:List Obj=>zsx (h:=h') (r:=r) hp2.1
    have q3:=stP hp2.1
    have q4:=fun r:List Obj=>ye1 (h:=h') (r:=r) hp2.1
    have z1:∀ r:List Obj,y11 E (h'++r) 73 (.loc 0 0)=some (.agg (z32.map ya)):=fun r=>z5f B0.app rfl
    have z2:∀ r:List Obj,(h'++r)[0]? = some (.cells (z32.map ya)):=fun r=>B0.app
    have z3:setCells (z32.map ya) 0 (z32.map ya)=z32.map ya:=ze rfl
    have z4:∀ r:List Obj,(h'++r).set 0 (.cells (z32.map ya))=h'++r:=fun r=>z63 B0.app
    have z5:z32.length=32:=rfl
    obtain⟨Z,hZ⟩:∃ Z,Z=y4j tgB (l.take i):=⟨_,rfl⟩
    rw[<- hZ] at BC
    have hZ32:Z.length=32:=by rw[hZ];exact y40
    have y1:∀ r:List Obj,y11 E (h'++r) 73 (.loc C 0)=some (.agg (Z.map ya)):=fun r=>zc6 BC.app hZ32
    have y2:∀ r:List Obj,(h'++r)[C]? = some (.cells (Z.map ya)):=fun r=>BC.app
    have y3:=zsr hp2.1 hZ32
    have y1':∀ r r2:List Obj,y11 E (h'++r++r2) 73 (.loc C 0)=some (.agg (Z.map ya)):=fun r r2=>by rw[bA];exact y1 _
    have q4':∀ r:List Obj,y11 E (h'++[.cells (pC p)]++r) 73 (.loc h'.length 4)=some (.agg (p.prev.map ya)):=fun r=>by rw[bA];exact q4 _
    have q2':∀ r:List Obj,y11 E (h'++[.cells (pC p)]++r) 71 (.loc h'.length 0)=some (y36 p):=fun r=>by rw[bA];exact q2 _
    simp only[af] at q3
    have hen:(y4v p).length<=900000000:=by
     have:=z8d (zc9 hgp.fm) hp2.2 (by omega)
     omega
    have e331p:=ybo y3e (y4v p) (by decide) hen
    have hT32:(tgB y3e (y4v p)).length=32:=z3a
    have e335:=r335 Z (tgB y3e (y4v p)) hZ32 hT32
    have hN:tgB [99,104,97,105,110] (Z++tgB y3e (y4v p))=y4j tgB (l.take (i+1)):=by rw[zmp hlt,<- hZ,<- hpi];rfl
    rw[hN] at e335
    have e331p:y1i E (dL E) 331 [.str [112,111,115,116,105,110,103],dBy (y4v p)]=some (y7c (tgB y3e (y4v p))):=e331p
    generalize tgB y3e (y4v p)=Tp at e331p e335 hT32 hN
    clear hN
    have hN32:=y40 (l:=l.take (i+1))
    obtain⟨N,hNe⟩:∃ N,N=y4j tgB (l.take (i+1)):=⟨_,rfl⟩
    rw[<- hNe] at e335 hN32
    have y5:setCells (Z.map ya) 0 (N.map ya)=N.map ya:=ze (by rw[aU,aU,hZ32,hN32])
    have y6:∀ r:List Obj,(h'++r).set C (.cells (N.map ya))=h'.set C (.cells (N.map ya))++r:=fun r=>z1c (At.lt BC)
    have fin:∀ r:List Obj,Bys (h'.set C (.cells (N.map ya))++r) 0 z32/\Bys (h'.set C (.cells (N.map ya))++r) C (y4j tgB (l.take (i+1)))/\(p.no=i->p.prev=Z->(∀ q,0<i->l[i - 1]? = some q->q.minute<=p.minute)->∀ j p,j<i+1->l[j]? = some p->atP tgB l j p):=by
     intro r
     refine⟨(At.ne B0 (by omega)).app,by rw[<- hNe];exact(At.self (At.lt BC)).app,fun h1 h2 h3 j p' hj hp'=>?_⟩
     by_cases hji:j<i
     ·exact V j p' hji hp'
     ·have:j=i:=by omega
      subst this
      rw[hli] at hp'
      cases hp'
      exact⟨h1,by rw[h2,hZ],fun k q hk hq=>h3 q (by omega) (by rw[show j - 1=k from by omega];exact hq)⟩
    have bad:(¬ p.no=i\/(∃ q,l[i - 1]? = some q/\0<i/\p.minute<q.minute) \/ ¬ p.prev=Z)->rdD l=.tup [y7c z32,dI 410]:=by
     intro hb
     have hv : ¬ vld tgB l:=by
      intro v
      have a:=v.2.2 i p hli
      rcases hb with h1 | ⟨q,h1,h2,h3⟩ | h1
      ·exact h1 a.no
      ·have:=a.minute (i - 1) q (by omega) h1
       omega
      ·exact h1 (by rw[hZ];exact a.prev)
     have hE:rdE tgB l=410:=by unfold rdE;rw[if_neg hlen,if_neg (by simp[F]),if_neg hv]
     unfold rdD
     rw[hE,if_neg (by decide)]
    by_cases hno:p.no=(i:Int)
    ·have hno':=eq_true hno
     have hst2:(0<i /\ ∃ q,l[i - 1]? = some q/\q.prev.length=32)\/i=0:=by
      rcases er i with h0 | h0
      ·exact .inr h0
      ·exact .inl ⟨h0,l[i - 1],ae (by omega),(hp _ (bT _)).1⟩
     have hw1:0<i->ay.wrap ((i:Int) - 1)=((i - 1:Nat):Int):=fun h0=>by
      rw[zf ⟨by omega,by omega⟩];omega
     by_cases hpv:p.prev=Z
     ·have hpv':=eq_true hpv
      rcases hst2 with⟨h0,q,hq,hq32⟩ | h0
      ·by_cases hm:p.minute<q.minute
       ·rw[bad (.inr (.inl ⟨q,hq,h0,hm⟩))]
        simp[hlt,<- hpi,hp2.1,↓q1,↓q3,↓q4,↓q4',↓q2,↓q2',↓y1,↓y1',y3,hno',h0,hw1 h0,hq,hq32,hm,↓z1,↓z2,z3,↓z4,z5,zb]
       ·simp[hlt,<- hpi,hp2.1,↓q1,↓q3,↓q4,↓q4',↓q2,↓q2',↓y1,↓y1',y3,hno',h0,hw1 h0,hq,hq32,hm,hpv',hup,h334,zy,zb,hst,e331p,e335,hT32,hZ32,hN32,y5,↓y2,↓y6]
        exact⟨(fin _).1,(fin _).2.1,(fin []).2.2 hno hpv fun q' _ hq'=>by rw[hq] at hq';cases hq';omega⟩
      ·have h0' : ¬ 0<i:=by omega
       simp[h0',hlt,<- hpi,hp2.1,↓q1,↓q3,↓q4,↓q4',↓q2,↓q2',↓y1,↓y1',y3,hno',hpv',hup,h334,zy,zb,hst,e331p,e335,hT32,hZ32,hN32,y5,↓y2,↓y6]
       exact⟨(fin _).1,(fin _).2.1,(fin []).2.2 hno hpv fun q' h0 _=>absurd h0 h0'⟩
     ·rw[bad (.inr (.inr hpv))]
      rcases hst2 with⟨h0,q,hq,hq32⟩ | h0
      ·by_cases hm:p.minute<q.minute
       ·simp[hlt,<- hpi,hp2.1,↓q1,↓q3,↓q4,↓q4',↓q2,↓q2',↓y1,↓y1',y3,hno',h0,hw1 h0,hq,hq32,hm,↓z1,↓z2,z3,↓z4,z5,zb]
       ·simp[hlt,<- hpi,hp2.1,↓q1,↓q3,↓q4,↓q4',↓q2,↓q2',↓y1,↓y1',y3,hno',h0,hw1 h0,hq,hq32,hm,hpv,↓z1,↓z2,z3,↓z4,z5,zb]
      ·have h0' : ¬ 0<i:=by omega
       simp[h0',hlt,<- hpi,hp2.1,↓q1,↓q3,↓q4,↓q4',↓q2,↓q2',↓y1,↓y1',y3,hno',hpv,↓z1,↓z2,z3,↓z4,z5,zb]
    ·rw[bad (.inl hno)]
     simp[hlt,<- hpi,hp2.1,↓q1,↓q3,↓q4,↓q4',↓q2,↓q2',↓y1,↓y1',y3,hno,↓z1,↓z2,z3,↓z4,z5,zb]
   ·have:i=l.length:=by omega
    subst this
    rw[bp] at BC
    have hv:vld tgB l:=⟨by omega,fun p hp=>z38.1 F p hp,fun i p hi=>V i p (ac.1 hi).1 hi⟩
    have hE:rdE tgB l=0:=z2o.2 hv
    have y1:=zc6 BC y40
    have z2:h'[0]? = some (.cells (z32.map ya)):=B0
    have y4:setCells (z32.map ya) 0 ((y4j tgB l).map ya)=(y4j tgB l).map ya:=ze (by rw[aU,aU,y40];rfl)
    have hl0:0<h'.length:=At.lt B0
    have y5:Bys (h'.set 0 (.cells ((y4j tgB l).map ya))) 0 (y4j tgB l):=At.self hl0
    have y6:=z5f y5 y40
    have hD:rdD l=.tup [y7c (y4j tgB l),dI 0]:=by unfold rdD;rw[hE,if_pos rfl]
    have d32:=y40 (l:=l)
    rw[hD]
    have z5:z32.length=32:=rfl
    simp[y1,z2,y4,↓y6,d32,z5,zb]

theorem z5y:∀(a b:List D) (k:Nat) (pre:List D),pre.length=k->y1x (pre++a++b) k a.length=some a
 |[],b,k,pre,h=>rfl
 |x::a,b,k,pre,h=>by
  have ih:=z5y a b (k+1) (pre++[x]) (by simp[h])
  have hx:(pre++(x::a)++b)[k]? = some x:=by
   rw[bA,aD (by omega),h,Nat.sub_self];rfl
  rw[aF,y1x,hx]
  have e:pre++[x]++a++b=pre++x::a++b:=by simp
  rw[e] at ih
  rw[ih]
theorem zba{sz:Nat}:∀(els:List D),(∀ x,x ∈ els->x.cellsL.length=sz/\yk true x.cellsL=some x)->y2o sz true els.length (yn els)=some els
 |[],_=>rfl
 |x::els,h=>by
  obtain⟨h1,h2⟩:=h x (by simp)
  have ih:=zba els fun y hy=>h y (by simp[hy])
  have ht:=z5y x.cellsL (yn els) 0 [] rfl
  rw[bL,h1] at ht
  rw[aF,y2o,z13,ht]
  simp only[h2]
  rw[show(x.cellsL++yn els).drop sz=yn els from by rw[<- h1];simp,ih]

theorem zgg{p:Pst}(h:p.prev.length=32):(pC p).length=36:=by simp[h]
theorem ydv{p:Pst}:∀ d,d ∈ pC p->d.atom=true:=by
 intro d hd
 simp only[pC,az,aV] at hd
 rcases hd with rfl | rfl | rfl | rfl | ⟨b,_,rfl⟩ <;> rfl
theorem zur{p:Pst}:(y36 p).storable=true:=by
 show(pC p).all D.atom=true
 rw[aC];exact ydv
theorem ze5{l:List Pst}(h:∀ p,p ∈ l->p.prev.length=32):y30 36 (l.map y36)=true:=by
 unfold y30
 rw[aC]
 intro x hx
 obtain⟨p,hp,rfl⟩:=aV.1 hx
 have h1:((y36 p).cellsL.length == 36)=true:=by
  show((pC p).length == 36)=true
  rw[zgg (h p hp)];rfl
 rw[zur,h1];rfl
theorem z9b{hp:List Obj}{sp:y1t}{l:List Pst}(h:∀ p,p ∈ l->p.prev.length=32):y15 hp 36 true (.imm sp (l.map y36))=some (l.map y36):=by
 have:=ze5 h
 unfold y30 at this
 simp only[y15]
 rw[if_pos this]
def pCs(l:List Pst):List D:=yn (l.map y36)
theorem zsq{l:List Pst}(h:∀ p,p ∈ l->p.prev.length=32):(pCs l).length=l.length*36:=by
 have:=zb5 (ze5 h)
 unfold pCs
 rw[this,aU]
theorem zok{l:List Pst}{p:Pst}:pCs l++yn [y36 p]=pCs (l++[p]):=by unfold pCs;rw[bZ,z1h];rfl
theorem zji{l:List Pst}(h:∀ p,p ∈ l->p.prev.length=32):y2o 36 true l.length (pCs l)=some (l.map y36):=by
 have:=zba (sz:=36) (l.map y36) fun x hx=>by
  obtain⟨p,hp,rfl⟩:=aV.1 hx
  exact⟨zgg (h p hp),rfl⟩
 rw[aU] at this
 exact this
theorem z17{hp:List Obj}{n:Nat}{l:List Pst}:y1k (frz hp (n+5)) (l.map y36)=some (l.map y36):=z10 fun _ _=>zt9
theorem e70:(E.ty 70).k=.slice 71:=rfl
theorem zni{hp:List Obj}{id:Nat}{sp:y1t}{l:List Pst}(h:∀ p,p ∈ l->p.prev.length=32)(hl:l.length<=1000000)(h0:l ≠ []) :
  y1p E hp id 70 70 (.imm .exact []) (.imm sp (l.map y36))=some ⟨.sl id 0 l.length 36 true true,some (.cells (pCs l)),none⟩:=by
 have h4 : ¬ l.length=0:=fun h=>h0 (cU h)
 have h5:(0+l.length)*(80+1)<=yl/\80<=65536/\(y1s E 71).isSome=true/\y30 36 ([]:List D)=true:=⟨by simp[yl];omega,by decide,rfl,rfl⟩
 unfold y1p
 simp only[e70]
 rw[show y15 hp (E.ty 71).size (E.ty 71).ag (.imm sp (l.map y36))=some (l.map y36) from z9b h]
 simp only[aU,bI]
 rw[if_neg h4,show(E.ty 71).bytes=80 from rfl,show(E.ty 71).size=36 from rfl,if_pos h5]
 simp only[Nat.zero_add,pCs,yn,iA,bL]
 rfl

def cpy(n:Nat)(l:List Pst):D:=if l=[] then .imm .exact [] else .sl n 0 l.length 36 true true
def y7p(l:List Pst):List Obj:=if l=[] then[] else[.cells (pCs l)]
theorem s356(l:List Pst)(h:∀ p,p ∈ l->p.prev.length=32)(hl:l.length<=1000000)(hp:List Obj):y16 E (dL E) 356 [y2f l] hp=some (cpy hp.length l,hp++y7p l):=by
 have:∃ d hp',y16 E (dL E) 356 [y2f l] hp=some (d,hp')/\(d=cpy hp.length l/\hp'=hp++y7p l):=by
  refine z31 c356 (args:=[y2f l]) (hp:=hp) (R:=fun d hp'=>d=cpy hp.length l/\hp'=hp++y7p l) (by simp) ?_
  conv in t356=>reduce;dsimp[aA]
  by_cases h0:l=[]
  ·subst h0
   simp[t356,n356,cpy,y7p,y1p,y15,yg]
  ·have ap:=fun hp id=>zni (hp:=hp) (id:=id) (sp:=.none) h hl h0
   simp[t356,n356,cpy,y7p,ap,yg,h0]
 obtain⟨d,hp',e,rfl,rfl⟩:=this
 exact e
theorem ydy(l:List Pst)(h:∀ p,p ∈ l->p.prev.length=32)(hl:l.length<=1000000)(hp:List Obj):y5g (y16 E (dL E)) 356 [y2f l] hp=some (cpy hp.length l,hp++y7p l):=by
 unfold y5g
 rw[s356 l h hl,eB]
 have hm:yp (cpy hp.length l)=false:=by unfold cpy;split <;> rfl
 simp only[y14,hm,aM,if_false,aj,aa,aq,true_and]
 rw[List.drop_append_of_le_length (by simp),iX (by simp),bL]

theorem ybp(l:List Pst)(h:y8k l):y1i E (dL E) 324 [y2f l]=some (dI (rdE tgB l)):=by
 refine zx c324 (by simp) ?_
 conv in t324=>reduce;dsimp[aA]
 have e:=ydr l h
 unfold rdD at e
 simp[t324,n324,e,z17]
theorem r329(l:List Pst)(h:y8k l):y1i E (dL E) 329 [y2f l]=some (rdD l):=by
 refine zx c329 (by simp) ?_
 conv in t329=>reduce;dsimp[aA]
 have e:=ydr l h
 unfold rdD at e ⊢
 obtain⟨d,hd⟩:∃ d,d=(if rdE tgB l=0 then y4j tgB l else z32):=⟨_,rfl⟩
 have h32:d.length=32:=by rw[hd];split;exact y40;rfl
 rw[<- hd] at e ⊢
 have hsc:=ze (a:=af 32 (D.int .u8 0)) (vs:=d.map ya) (by simp[h32])
 have hld:∀ r:List Obj,y11 E (.cells (d.map ya)::r) 73 (.loc 0 0)=some (.agg (d.map ya)):=fun r=>z5f (m:=d) (by simp[Bys,At]) h32
 simp only[af] at hsc
 simp[t329,n329,e,z17,h32,hsc,↓hld,zb]

theorem zaz{hp:List Obj}{sp:y1t}{p:Pst}(h:p.prev.length=32):y15 hp 36 true (.imm sp [y36 p])=some [y36 p]:=z9b (l:=[p]) (by simp[h])
theorem zqi{pre:List Obj}{l:List Pst}{p:Pst}{sp:y1t}(h:∀ p,p ∈ l->p.prev.length=32)(hp:p.prev.length=32)(hl:l.length<=1000000) :
  ∃ m X,y2k E (pre++y7p l) 70 70 (cpy pre.length l) (.imm sp [y36 p])=some (.sl m 0 (l.length+1) 36 true true,X)/\At X m (.cells (pCs (l++[p]))):=by
 by_cases h0:l=[]
 ·subst h0
  refine⟨pre.length,pre++[.cells (pCs [p])],?_,by simp[At]⟩
  have h5:(0+1)*(80+1)<=yl/\80<=65536/\(y1s E 71).isSome=true/\y30 36 ([]:List D)=true:=⟨by simp[yl],by decide,rfl,rfl⟩
  unfold y2k cpy y7p
  simp only[if_true,bY,e70]
  rw[show y15 pre (E.ty 71).size (E.ty 71).ag (.imm sp [y36 p])=some [y36 p] from zaz hp]
  simp only[aF,bI]
  rw[if_neg (by simp),show(E.ty 71).bytes=80 from rfl,show(E.ty 71).size=36 from rfl,if_pos h5]
  rfl
 ·have hg:(pre++y7p l)[pre.length]? = some (.cells (pCs l)):=by unfold y7p;rw[if_neg h0];simp
  refine⟨(pre++y7p l).length,(pre++y7p l).set pre.length .dead++[.cells (pCs (l++[p]))],?_,by simp[At]⟩
  have h5:(l.length+1)*(80+1)<=yl/\80<=65536/\(y1s E 71).isSome=true/\(36:Nat)=36/\(pCs l).length=l.length*36:=⟨by simp[yl];omega,by decide,rfl,rfl,zsq h⟩
  unfold y2k cpy
  simp only[if_neg h0,e70]
  rw[show y15 (pre++y7p l) (E.ty 71).size (E.ty 71).ag (.imm sp [y36 p])=some [y36 p] from zaz hp,hg]
  simp only[aF,bI]
  rw[if_neg (by simp),show(E.ty 71).bytes=80 from rfl,show(E.ty 71).size=36 from rfl,if_pos h5,zok]
  rfl
theorem zp3{X:List Obj}{m n:Nat}{L:List Pst}{gr:Bool}(h:At X m (.cells (pCs L)))(h32:∀ p,p ∈ L->p.prev.length=32):frz X (n+6) (.sl m 0 L.length 36 true gr)=some (y2f L):=by
 have hr:yw X m=some (pCs L):=by unfold yw;rw[h.eq]
 show(match yw X m with | some cs=>(match y2o 36 true L.length (cs.drop 0) with | some els=>(y1k (frz X (n+5)) els).map (D.imm .none) | none=>none) | none=>none)=_
 rw[hr]
 simp only[cX]
 rw[zji h32]
 simp only[]
 rw[z17]
 rfl

open Classical in
noncomputable def poD(l:List Pst)(s:Stp):D:=.tup [y2f (if y39 tgB l s=0 then l++[y4q tgB l s] else[]),dI (y39 tgB l s)]

theorem yaz(l:List Pst)(s:Stp)(h:y8k l)(hs:s.ents.length<=1000000):y1i E (dL E) 316 [y2f l,dI s.minute,dI s.corrects,.imm .none (s.ents.map y41)]=some (poD l s):=by
 refine zx c316 (by simp) ?_
 conv in t316=>reduce;dsimp[aA]
 have e354:=ydr l h
 unfold rdD at e354
 obtain⟨d,hd⟩:∃ d,d=(if rdE tgB l=0 then y4j tgB l else z32):=⟨_,rfl⟩
 have h32:d.length=32:=by rw[hd];split;exact y40;rfl
 rw[<- hd] at e354
 have hsc:=ze (a:=af 32 (D.int .u8 0)) (vs:=d.map ya) (by simp[h32])
 simp only[af] at hsc
 by_cases h0:rdE tgB l=0
 ·have v:=z2o.1 h0
  have h0':rdE tgB l=0:=h0
  rw[if_pos h0] at hd
  have hl:l.length<=65536:=v.1
  rw[h0] at e354
  by_cases hmax:l.length=65536
  ·have hm:((l.length:Nat):Int)=65536:=by omega
   have hE:y39 tgB l s=2:=by unfold y39;rw[if_neg (by simp[h0]),if_pos hmax]
   unfold poD
   rw[hE,if_neg (by decide)]
   simp[t316,n316,e354,z17,h32,hsc,hm]
  ·have hm : ¬ ((l.length:Nat):Int)=65536:=by omega
   have hlast:(0<l.length /\ ∃ q,l[l.length - 1]? = some q/\q.prev.length=32/\l.getLast? = some q) \/ ¬ 0<l.length:=by
    rcases er l.length with h1 | h1
    ·exact .inr (by omega)
    ·exact .inl ⟨h1,l[l.length - 1],ae (by omega),(h.2 _ (bT _)).1,by rw[fI,ae (by omega)]⟩
   have hw1:0<l.length->ay.wrap ((l.length:Int) - 1)=((l.length - 1:Nat):Int):=fun h0=>by
    rw[zf ⟨by omega,by omega⟩];omega
   obtain⟨p,hp⟩:∃ p:Pst,p=y4q tgB l s:=⟨_,rfl⟩
   have hp2:p=⟨l.length,s.minute,s.corrects,s.ents,d⟩:=by rw[hp,hd];rfl
   have p32:p.prev.length=32:=by rw[hp2];exact h32
   have hpE:(∀ q,l.getLast? = some q -> ¬ s.minute<q.minute)->y39 tgB l s=y3n p:=fun hq=>by
    rw[hp];exact z4j v (by omega) fun q h=>by have:=hq q h;omega
   have q4:setCells (dI (l.length:Int)::dI s.minute::dI s.corrects :: .imm .none (s.ents.map y41)::af 32 (D.int .u8 0)) 4 (d.map ya)=pC p:=by
    rw[hp2];exact stP (p:=⟨l.length,s.minute,s.corrects,s.ents,d⟩) h32
   have q2:∀(x:Obj) (r:List Obj),y11 E (x :: .cells (pC p)::r) 71 (.loc 1 0)=some (y36 p):=fun x r=>zsx (h:=[x]) (r:=r) p32
   have q2':∀(x:Obj) (r r2:List Obj),y11 E (x :: .cells (pC p)::r++r2) 71 (.loc 1 0)=some (y36 p):=fun x r r2=>q2 x (r++r2)
   have q3:=stP p32
   simp only[af] at q3 q4
   have hld:∀ r:List Obj,y11 E (.cells (d.map ya)::r) 73 (.loc 0 0)=some (.agg (d.map ya)):=fun r=>z5f (m:=d) (by simp[Bys,At]) h32
   have h355:=ydq p p32 (by rw[hp2];exact hs)
   have m356:=ydy l (fun p hp=>(h.2 p hp).1) h.1
   have hst:(pC p).length=36:=zgg p32
   obtain⟨m,X,hG,hX⟩:=zqi (pre:=[.cells (d.map ya),.cells (pC p),.dead,.dead,.dead,.dead,.dead,.dead,.dead]) (sp:=.exact) (fun p hp=>(h.2 p hp).1) p32 h.1
   have hL32:∀ q,q ∈ l++[p]->q.prev.length=32:=fun q hq=>by
    rcases aW.1 hq with hq | hq
    ·exact(h.2 q hq).1
    ·simp at hq;rw[hq];exact p32
   have hfz:=zp3 (n:=5) (gr:=true) hX hL32
   have hll:(l++[p]).length=l.length+1:=by simp
   rw[hll] at hfz
   simp only[aZ,bL,aF,bI] at hG
   rcases hlast with⟨h1,q,hq,hq32,hql⟩ | h1
   ·by_cases hmn:s.minute<q.minute
    ·have hE:y39 tgB l s=410:=by unfold y39;rw[if_neg (by simp[h0]),if_neg hmax,if_pos ⟨q,hql,hmn⟩]
     unfold poD
     rw[hE,if_neg (by decide)]
     simp[t316,n316,e354,z17,h32,hsc,hm,h1,hw1 h1,hq,hq32,hmn]
    ·have hE:=hpE fun q' h=>by rw[hql] at h;cases h;exact hmn
     simp[t316,n316,e354,z17,h32,hsc,hm,h1,hw1 h1,hq,hq32,hmn,-z16,hld,↓q4,p32,q2,↓q3,zy,zb,h355,m356,hG,hfz]
     unfold poD
     rw[hE,<- hp]
     by_cases hc:y3n p=0
     ·simp[hc]
     ·simp[hc]
   ·have hE:=hpE fun q' h=>by
     have:l=[]:=cU (by omega)
     subst this;simp at h
    simp[t316,n316,e354,z17,h32,hsc,hm,h1,-z16,hld,↓q4,p32,q2,↓q3,zy,zb,h355,m356,hG,hfz]
    unfold poD
    rw[hE,<- hp]
    by_cases hc:y3n p=0
    ·simp[hc]
    ·simp[hc]
 ·have hE:y39 tgB l s=rdE tgB l:=by unfold y39;rw[if_pos h0]
  have hne : ¬ rdE tgB l=0:=h0
  unfold poD
  rw[hE,if_neg h0]
  simp[t316,n316,e354,z17,h32,hsc,hne]

end Dv
