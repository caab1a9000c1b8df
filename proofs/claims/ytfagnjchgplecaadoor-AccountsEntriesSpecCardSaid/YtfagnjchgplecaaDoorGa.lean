/- Texts that a proof of this claim uses, joined: Lw.W199, Lw.W200, Lw.W201, Lw.W202, Lw.W215, Lw.W216, Lw.W240, Lw.W203, Lw.W204, Lw.W205, Lw.W206, Lw.W207, Lw.W208, Lw.W209, Lw.W210, Lw.W211, Lw.W212, Lw.W213, Lw.W214, Lw.W217, Lw.W218, Lw.W219, Lw.W220, Lw.W221, Lw.W222. -/
import Derived.Test.YtfagnjchgplecaaDoorLwa
import Derived.Test.YtfagnjchgplecaaDoorTc
import Derived.Test.YtfagnjchgplecaaDoorWa
import Derived.Test.YtfagnjchgplecaaDoorDva
set_option linter.all false
open BitVec renaming ofInt->cg,ofNat->iZ,toNat_add->gT,toNat_and->kY,toNat_ofNat->ku,toNat_or->jh,toNat_shiftLeft->gC,toNat_ushiftRight->f9,toNat_xor->iY
open Bool renaming and_true->iG
open Decidable renaming not_not->gw
open Go.IntKind renaming bits->fT,i64->aC,signed->fh,u32->dF,u64->bv,u8->jV,wrap->fS
open Int renaming fdiv_eq_ediv_of_nonneg->dt,natCast_ediv->kX,natCast_nonneg->ga,natCast_pow->jg,pow_nonneg->jE,toNat_natCast->cz
open List renaming all_eq_true->ax,append_assoc->bC,cons_append->aR,drop_drop->cb,drop_eq_getElem_cons->bH,drop_length->cu,drop_of_length_le->jo,drop_zero->cF,eq_nil_of_length_eq_zero->b6,flatMap_cons->bN,flatten_append->j8,foldl_append->gx,getD_eq_getElem?_getD->aj,getElem?_append_left->ay,getElem?_append_right->aD,getElem?_drop->ca,getElem?_eq_getElem->ae,getElem?_eq_some_iff->ac,getElem?_map->bM,getElem?_set_ne->a8,getElem?_set_self->aT,getElem_map->gQ,getElem_mem->aF,getLast?_cons_cons->ja,getLast?_eq_getElem?->fQ,length->cG,length_append->ar,length_cons->az,length_drop->du,length_map->aH,length_nil->be,length_replicate->ep,length_set->bl,length_take->aS,map_append->bR,map_cons->au,map_drop->jW,map_map->f7,map_nil->aO,map_replicate->ej,map_set->ia,mem_append->aQ,mem_cons->aw,mem_cons_of_mem->bz,mem_map->aV,mem_singleton->fa,nil_append->bh,not_mem_nil->eU,pairwise_iff_getElem->fO,replicate->ah,set_append_right->dw,sizeOf_lt_of_mem->jD,take_append_drop->bj,take_append_of_le_length->bP,take_length->aY,take_of_length_le->bq,take_succ_cons->fJ,take_succ_eq_append_getElem->aM
open List.Pairwise renaming imp->r9
open Nat renaming add_mul->bg,div_lt_iff_lt_mul->jC,eq_zero_or_pos->dz,le_refl->af,le_trans->aG,min_eq_left->bI,mul_one->d8,pow_add->nX,sub_self->fW,zero_add->bw
open Option renaming map_some->ao
open Option.some renaming inj->ce,injEq->aa
open Prod renaming ext->kW
open Prod.mk renaming injEq->al
open UInt8 renaming ofNat->b8,toNat_ofNat'->kr
set_option maxHeartbeats 16000000
namespace Dv

theorem zo2{A:Type}{hp r:List A}{i:Nat}{o:A}(h:hp[i]? = some o):(hp++r)[i]? = some o:=by
 rw[ay (ac.1 h).1,h]
theorem zxr{A:Type}{hp:List A}{i:Nat}{o:A}(h:hp[i]? = some o):i<hp.length:=(ac.1 h).1
theorem zxy{A:Type}{hp:List A}{i j:Nat}{x o:A}(h:hp[i]? = some o)(hn:j ≠ i):(hp.set j x)[i]? = some o:=by
 rw[a8 hn,h]
theorem zvn{A:Type}{hp:List A}{i:Nat}{x:A}(h:i<hp.length):(hp.set i x)[i]? = some x:=by
 rw[aT h]
theorem z5u{A:Type}{hp r:List A}{k:Nat}:(hp++r)[hp.length+k]? = r[k]?:=by
 rw[aD (by omega)];congr 1;omega
theorem z8v{A:Type}{hp r:List A}{k:Nat}{x:A}:(hp++r).set (hp.length+k) x=hp++r.set k x:=by
 rw[dw _ _ (by omega)];congr 2;omega
theorem z1s{A:Type}{hp r:List A}{i:Nat}{x:A}(h:i<hp.length):(hp++r).set i x=hp.set i x++r:=List.set_append_left _ _ h

def At(hp:List Obj)(i:Nat)(o:Obj):Prop:=hp[i]? = some o
theorem At.eq{hp:List Obj}{i:Nat}{o:Obj}(h:At hp i o):hp[i]? = some o:=h
theorem At.app{hp r:List Obj}{i:Nat}{o:Obj}(h:At hp i o):At (hp++r) i o:=zo2 h
theorem At.appE{hp r:List Obj}{i:Nat}{o:Obj}(h:At hp i o):(hp++r)[i]? = some o:=zo2 h
theorem At.ne{hp:List Obj}{i j:Nat}{x o:Obj}(h:At hp i o)(hn:j ≠ i):At (hp.set j x) i o:=zxy h hn
theorem At.lt{hp:List Obj}{i:Nat}{o:Obj}(h:At hp i o):i<hp.length:=zxr h
theorem At.self{hp:List Obj}{i:Nat}{o:Obj}(h:i<hp.length):At (hp.set i o) i o:=zvn h

def y8h(C:Nat)(hp:List Obj)(sp:y1a)(n sz:Nat):Prop:=sp=.exact \/ ∃ k,sp=.tok k/\C<=k/\At hp k (.tok (n*sz) sz)
def y2h(i C:Nat)(hp hp':List Obj):Prop:=∀ J:List Obj->Prop,(∀ hp r,J hp->J (hp++r))->(∀ hp j o,J hp->(j=i\/C<=j)->J (hp.set j o))->J hp->J hp'
theorem y2h.at{i C:Nat}{hp hp':List Obj}(h:y2h i C hp hp'){j:Nat}{o:Obj}(hj:j ≠ i)(hC:j<C)(g:At hp j o):At hp' j o:=
 h (fun hp=>At hp j o) (fun _ _ h=>h.app) (fun _ k _ h hk=>h.ne (by rcases hk with rfl | hk;exact fun e=>hj e.symm;omega)) g
theorem y2h.refl{i C:Nat}{hp:List Obj}:y2h i C hp hp:=fun _ _ _ h=>h
theorem y2h.trans{i C:Nat}{hp hp' hp'':List Obj}(h:y2h i C hp hp')(h':y2h i C hp' hp''):y2h i C hp hp'':=fun J h1 h2 h3=>h' J h1 h2 (h J h1 h2 h3)
theorem y2h.app{i C:Nat}{hp r:List Obj}:y2h i C hp (hp++r):=fun _ h1 _ h3=>h1 _ _ h3
theorem y2h.set{i C j:Nat}{o:Obj}{hp:List Obj}(hj:j=i\/C<=j):y2h i C hp (hp.set j o):=fun _ _ h2 h3=>h2 _ _ _ h3 hj

end Dv

namespace Dv

inductive CV where
 |mk (k n:Int) (s:List UInt8) (l:List CV)

abbrev dBy(l:List UInt8):D:=.imm .none (l.map yc)

mutual
def dV:CV->D
 |.mk k n s l=>.agg [dI k,dI n,.str s,.imm .none (dVs l)]
def dVs:List CV->List D
 |[]=>[]
 |v::l=>dV v::dVs l
end
theorem zoy:∀(l:List CV),dVs l=l.map dV
 |[]=>rfl
 |v::l=>by simp[dVs,zoy l]
theorem z3i{k n:Int}{s:List UInt8}{l:List CV}:dV (.mk k n s l)=.agg [dI k,dI n,.str s,.imm .none (l.map dV)]:=by rw[dV,zoy]

def num(u:Nat):List UInt8:=if h:u<128 then[b8 u] else b8 (u % 128+128)::num (u / 128)
termination_by u
decreasing_by omega
theorem zbm{u:Nat}(h:u<128):num u=[b8 u]:=by rw[num,dif_pos h]
theorem zhu{u:Nat}(h : ¬ u<128):num u=b8 (u % 128+128)::num (u / 128):=by rw[num,dif_neg h]

def uns(n:Int):Nat:=if 0<=n then 2*n.toNat else 2*(-(n+1)).toNat+1
def sgn(u:Nat):Int:=if u % 2=0 then(u / 2:Nat) else -((u / 2:Nat):Int) - 1
theorem zm0{n:Int}(h:i64 n):uns n<18446744073709551616:=by
 obtain⟨h1,h2⟩:=h
 unfold uns;split <;> omega
def rdN:Nat->List UInt8->Option (Nat × List UInt8)
 |_,[]=>none
 |i,c::r=>if(i=0\/c ≠ 0)/\(i<9\/c.toNat<=1) then
   (if c.toNat<128 then some (c.toNat,r) else(rdN (i+1) r).map fun p=>(c.toNat - 128+128*p.1,p.2))
  else none

theorem zg4{n:Nat}(h:n<256):(b8 n).toNat=n:=by
 rw[kr];exact Nat.mod_eq_of_lt h
theorem zxi{u:Nat}:num u ≠ []:=by
 by_cases h:u<128
 ·rw[zbm h];simp
 ·rw[zhu h];simp
theorem zg8{u:Nat}:1<=(num u).length:=by
 have:=zxi (u:=u)
 cases h:num u with
 |nil=>exact absurd h this
 |cons _ _=>simp

mutual
def enc:CV->List UInt8
 |.mk k n s l=>if k=1 then 1::num (uns n) else if k=2 then 2::(num s.length++s) else 3::(num l.length++y46 l)
def y46:List CV->List UInt8
 |[]=>[]
 |v::l=>enc v++y46 l
end

mutual
def fmd:CV->Prop
 |.mk k n s l=>(k=1/\i64 n/\s=[]/\l=[])\/(k=2/\n=0/\l=[])\/(k=3/\n=0/\s=[]/\yam l)
def yam:List CV->Prop
 |[]=>True
 |v::l=>fmd v/\yam l
end
mutual
def dep:CV->Nat
 |.mk k _ _ l=>if k=3 then y6v l+1 else 0
def y6v:List CV->Nat
 |[]=>0
 |v::l=>Nat.max (dep v) (y6v l)
end

theorem zvu{v:CV}:1<=(enc v).length:=by
 cases v with
 |mk k n s l=>rw[enc];split <;> (try split) <;> simp
theorem zda:∀(l:List CV),l.length<=(y46 l).length
 |[]=>by simp
 |v::l=>by
  have:=zda l
  have:=zvu (v:=v)
  simp only[y46,az,ar];omega
theorem z6f:∀(a b:List CV),y46 (a++b)=y46 a++y46 b
 |[],b=>by simp[y46]
 |v::a,b=>by simp[y46,z6f a b]

def rdL(f:List UInt8->Option (CV × List UInt8)):Nat->List UInt8->Option (List CV × List UInt8)
 | 0,b=>some ([],b)
 |n+1,b=>match f b with
  |none=>none
  |some p=>match rdL f n p.2 with
   |none=>none
   |some q=>some (p.1::q.1,q.2)

def rdS(b:List UInt8):Option (Nat × List UInt8):=match rdN 0 b with
 |some p=>if p.1<=p.2.length then some p else none
 |none=>none

def rdV:Nat->List UInt8->Option (CV × List UInt8)
 |_,[]=>none
 | 0,c::r=>if c=1 then(rdN 0 r).map fun p=>(.mk 1 (sgn p.1) [] [],p.2)
  else if c=2 then(rdS r).map fun p=>(.mk 2 0 (p.2.take p.1) [],p.2.drop p.1)
  else none
 |d+1,c::r=>if c=1 then(rdN 0 r).map fun p=>(.mk 1 (sgn p.1) [] [],p.2)
  else if c=2 then(rdS r).map fun p=>(.mk 2 0 (p.2.take p.1) [],p.2.drop p.1)
  else if c=3 then(rdS r).bind fun p=>(rdL (rdV d) p.1 p.2).map fun q=>(.mk 3 0 [] q.1,q.2)
  else none


end Dv

namespace Dv

structure Ent where
 kind:Int
 idx:Int
 amt:Int
deriving DecidableEq

structure Pst where
 no:Int
 minute:Int
 corrects:Int
 ents:List Ent
 prev:List UInt8
deriving DecidableEq


abbrev y18(e:Ent):D:=.agg [dI e.kind,dI e.idx,dI e.amt]
abbrev y4b(p:Pst):D:=.agg (dI p.no::dI p.minute::dI p.corrects :: .imm .none (p.ents.map y18)::p.prev.map yc)
abbrev y1r(l:List Pst):D:=.imm .none (l.map y4b)
abbrev y7i(d:List UInt8):D:=.agg (d.map yc)

def ltA(a b:Ent):Prop:=a.kind<b.kind\/a.kind=b.kind/\a.idx<b.idx
instance(a b:Ent):Decidable (ltA a b):=inferInstanceAs (Decidable (_\/_))
def y6s(x:Ent):Prop:=(1<=x.kind/\x.kind<=5)/\(-1<=x.idx/\x.idx<=4095)/\x.amt ≠ 0 /\ -1099511627776<=x.amt/\x.amt<=1099511627776
instance(x:Ent):Decidable (y6s x):=inferInstanceAs (Decidable (_/\_))
def yd2(l:List Ent):Prop:=∀ i,∀ h:i+1<l.length,ltA l[i] l[i+1]
def y5a:List Ent->Int
 |[]=>0
 |x::l=>x.amt+y5a l
theorem zfp(a b:List Ent):y5a (a++b)=y5a a+y5a b:=by
 induction a with
 |nil=>simp[y5a]
 |cons x a ih=>simp only[aR,y5a,ih];omega
structure fmE(l:List Ent):Prop where
 two:2<=l.length
 most:l.length<=4096
 ok:∀ x,x ∈ l->y6s x
 ord:yd2 l
structure fmP(p:Pst):Prop where
 no:0<=p.no/\p.no<65536
 minute:0<=p.minute/\p.minute<1440
 corrects : -1<=p.corrects/\p.corrects<p.no
 ents:fmE p.ents
open Classical in
noncomputable def y5w(p:Pst):Int:=if fmP p then(if y5a p.ents=0 then 0 else 411) else 410
structure gdP(p:Pst):Prop where
 fm:fmP p
 sum:y5a p.ents=0
theorem z44{p:Pst}:y5w p=0 ↔ gdP p:=by
 unfold y5w
 constructor
 ·intro h
  split at h
  ·rename_i h1
   split at h
   ·rename_i h2;exact⟨h1,h2⟩
   ·simp at h
  ·simp at h
 ·rintro⟨h1,h2⟩
  rw[if_pos h1,if_pos h2]

def cI(n:Int):CV:=.mk 1 n [] []
def cL(l:List CV):CV:=.mk 3 0 [] l
def cT(s:List UInt8):CV:=.mk 2 0 s []
def y5y(x:Ent):CV:=cL [cI x.kind,cI x.idx,cI x.amt]
def ya4(p:Pst):CV:=cL [cI p.no,cI p.minute,cI p.corrects,cL (p.ents.map y5y),cT p.prev]
def y8t(p:Pst):List UInt8:=enc (ya4 p)

theorem z7x{n:Int}(h:i64 n):fmd (cI n):=by unfold cI;rw[fmd];exact .inl ⟨rfl,h,rfl,rfl⟩
theorem zrp{s:List UInt8}:fmd (cT s):=by unfold cT;rw[fmd];exact .inr (.inl ⟨rfl,rfl,rfl⟩)
theorem zd6{l:List CV}(h:yam l):fmd (cL l):=by unfold cL;rw[fmd];exact .inr (.inr ⟨rfl,rfl,rfl,h⟩)
theorem z91:∀{l:List CV},(∀ v,v ∈ l->fmd v)->yam l
 |[],_=>by rw[yam];trivial
 |v::l,h=>by rw[yam];exact⟨h v (by simp),z91 fun w hw=>h w (by simp[hw])⟩
theorem zdc{n:Int}:dep (cI n)=0:=by unfold cI;rw[dep,if_neg (by decide)]
theorem zs6{s:List UInt8}:dep (cT s)=0:=by unfold cT;rw[dep,if_neg (by decide)]
theorem zdb{l:List CV}:dep (cL l)=y6v l+1:=by unfold cL;rw[dep,if_pos rfl]
theorem zdd{n:Nat}:∀{l:List CV},(∀ v,v ∈ l->dep v<=n)->y6v l<=n
 |[],_=>by rw[y6v];omega
 |v::l,h=>by rw[y6v];exact Nat.max_le.2 ⟨h v (by simp),zdd fun w hw=>h w (by simp[hw])⟩

structure yd5(p:Pst):Prop where
 no:i64 p.no
 minute:i64 p.minute
 corrects:i64 p.corrects
 ents:∀ x,x ∈ p.ents->i64 x.kind/\i64 x.idx/\i64 x.amt

theorem znw{p:Pst}(h:fmP p):yd5 p:=by
 obtain⟨h1,h2,h3,h4⟩:=h
 refine⟨⟨by omega,by omega⟩,⟨by omega,by omega⟩,⟨by omega,by omega⟩,fun x hx=>?_⟩
 obtain⟨a,b,c,d⟩:=h4.ok x hx
 exact⟨⟨by omega,by omega⟩,⟨by omega,by omega⟩,⟨by omega,by omega⟩⟩

theorem zod{x:Ent}(h:i64 x.kind/\i64 x.idx/\i64 x.amt):fmd (y5y x):=by
 unfold y5y
 refine zd6 (z91 fun v hv=>?_)
 simp only[aw,eU,or_false] at hv
 rcases hv with rfl | rfl | rfl
 ·exact z7x h.1
 ·exact z7x h.2.1
 ·exact z7x h.2.2
theorem zvr{p:Pst}(h:yd5 p):fmd (ya4 p):=by
 unfold ya4
 refine zd6 (z91 fun v hv=>?_)
 simp only[aw,eU,or_false] at hv
 rcases hv with rfl | rfl | rfl | rfl | rfl
 ·exact z7x h.no
 ·exact z7x h.minute
 ·exact z7x h.corrects
 ·refine zd6 (z91 fun v hv=>?_)
  obtain⟨x,hx,rfl⟩:=aV.1 hv
  exact zod (h.ents x hx)
 ·exact zrp
theorem zow{x:Ent}:dep (y5y x)=1:=by
 unfold y5y;rw[zdb];simp[y6v,zdc]
theorem zvx{p:Pst}:dep (ya4 p)<=3:=by
 unfold ya4
 rw[zdb]
 have:y6v [cI p.no,cI p.minute,cI p.corrects,cL (p.ents.map y5y),cT p.prev]<=2:=by
  refine zdd fun v hv=>?_
  simp only[aw,eU,or_false] at hv
  rcases hv with rfl | rfl | rfl | rfl | rfl
  ·rw[zdc];omega
  ·rw[zdc];omega
  ·rw[zdc];omega
  ·rw[zdb]
   have:y6v (p.ents.map y5y)<=1:=zdd fun v hv=>by
    obtain⟨x,_,rfl⟩:=aV.1 hv
    rw[zow];omega
   omega
  ·rw[zs6];omega
 omega

theorem z9z{u:Nat}(h:u<18446744073709551616):(num u).length<=11:=by
 have key:∀(k u:Nat),u<2 ^ (7*k)->(num u).length<=k+1:=by
  intro k
  induction k with
  |zero=>intro u h;rw[zbm (by omega)];simp
  |succ k ih=>
   intro u h
   by_cases h1:u<128
   ·rw[zbm h1];simp
   ·rw[zhu h1]
    have:=ih (u / 128) (by
     rw[jC (by decide),show(128:Nat)=2 ^ 7 from rfl,<- nX]
     rwa [show 7*k+7=7*(k+1) from by omega])
    simp;omega
 have:(18446744073709551616:Nat)<=2 ^ (7*10):=by decide
 exact key 10 u (by omega)
theorem zvv{n:Int}:enc (cI n)=1::num (uns n):=by unfold cI;rw[enc,if_pos rfl]
theorem zs0{s:List UInt8}:enc (cT s)=2::(num s.length++s):=by unfold cT;rw[enc,if_neg (by decide),if_pos rfl]
theorem zd9{l:List CV}:enc (cL l)=3::(num l.length++y46 l):=by unfold cL;rw[enc,if_neg (by decide),if_neg (by decide)]
theorem z5w{n:Int}(h:i64 n):(enc (cI n)).length<=12:=by
 rw[zvv]
 have:=z9z (zm0 h)
 simp;omega
theorem zos{n:Nat}:∀{l:List CV},(∀ v,v ∈ l->(enc v).length<=n)->(y46 l).length<=l.length*n
 |[],_=>by simp[y46]
 |v::l,h=>by
  have h1:=h v (by simp)
  have h2:=zos (l:=l) fun w hw=>h w (by simp[hw])
  simp only[y46,ar,az,bg];omega
theorem zs2{x:Ent}(h:i64 x.kind/\i64 x.idx/\i64 x.amt):(enc (y5y x)).length<=48:=by
 unfold y5y
 rw[zd9]
 have h1:=z5w h.1
 have h2:=z5w h.2.1
 have h3:=z5w h.2.2
 have h4:=z9z (u:=3) (by omega)
 simp[y46] at h1 h2 h3 h4 ⊢
 omega
theorem zik{p:Pst}(h:yd5 p)(hn:p.ents.length<=1000000)(hp:p.prev.length<=1000000):(y8t p).length<=48*p.ents.length+p.prev.length+100:=by
 unfold y8t ya4
 rw[zd9]
 have h1:=z5w h.no
 have h2:=z5w h.minute
 have h3:=z5w h.corrects
 have h4:=z9z (u:=5) (by omega)
 have h5:(enc (cL (p.ents.map y5y))).length<=48*p.ents.length+12:=by
  rw[zd9]
  have:=z9z (u:=(p.ents.map y5y).length) (by simp;omega)
  have h6:=zos (n:=48) (l:=p.ents.map y5y) fun v hv=>by
   obtain⟨x,hx,rfl⟩:=aV.1 hv
   exact zs2 (h.ents x hx)
  simp at this h6 ⊢
  omega
 have h7:(enc (cT p.prev)).length<=p.prev.length+12:=by
  rw[zs0]
  have:=z9z (u:=p.prev.length) (by omega)
  simp;omega
 simp only[az,ar,y46,be,Nat.reduceAdd] at h4 ⊢
 omega


abbrev Tag:=List UInt8->List UInt8->List UInt8
def y4r:List UInt8:=[112,111,115,116,105,110,103,115]
def y3r:List UInt8:=[112,111,115,116,105,110,103]
def ycs:List UInt8:=[99,104,97,105,110]
def y6f(tg:Tag):List UInt8:=tg y4r []
def ycr(tg:Tag)(a b:List UInt8):List UInt8:=tg ycs (a++b)
def yax(tg:Tag)(d:List UInt8)(p:Pst):List UInt8:=ycr tg d (tg y3r (y8t p))
def y5q(tg:Tag)(l:List Pst):List UInt8:=l.foldl (yax tg) (y6f tg)
theorem zov{tg:Tag}{l:List Pst}{p:Pst}:y5q tg (l++[p])=yax tg (y5q tg l) p:=by simp[y5q]
theorem zou{tg:Tag}{l:List Pst}{i:Nat}(h:i<l.length):y5q tg (l.take (i+1))=yax tg (y5q tg (l.take i)) l[i]:=by
 rw[aM h,zov]

structure atP(tg:Tag)(l:List Pst)(i:Nat)(p:Pst):Prop where
 no:p.no=i
 prev:p.prev=y5q tg (l.take i)
 minute:∀ j q,j+1=i->l[j]? = some q->q.minute<=p.minute
def vld(tg:Tag)(l:List Pst):Prop:=l.length<=65536/\(∀ p,p ∈ l->gdP p) /\ ∀ i p,l[i]? = some p->atP tg l i p

open Classical in
noncomputable def y2r:List Pst->Int
 |[]=>0
 |p::l=>if y5w p=0 then y2r l else y5w p
open Classical in
noncomputable def rdE(tg:Tag)(l:List Pst):Int:=if 65536<l.length then 2 else if y2r l ≠ 0 then y2r l else if vld tg l then 0 else 410

theorem z4r:∀{l:List Pst},y2r l=0 ↔ ∀ p,p ∈ l->gdP p
 |[]=>by simp[y2r]
 |p::l=>by
  simp only[y2r,aw,forall_eq_or_imp]
  split
  ·rename_i h
   rw[z4r]
   exact⟨fun h2=>⟨z44.1 h,h2⟩,fun h2=>h2.2⟩
  ·rename_i h
   exact⟨fun h2=>absurd h2 h,fun h2=>absurd (z44.2 h2.1) h⟩
theorem z1q{tg:Tag}{l:List Pst}:rdE tg l=0 ↔ vld tg l:=by
 unfold rdE
 constructor
 ·intro h
  split at h
  ·simp at h
  ·split at h
   ·rename_i h2;exact absurd h h2
   ·split at h
    ·assumption
    ·simp at h
 ·intro h
  rw[if_neg (by have:=h.1;omega),if_neg (by simp only[ne_eq,gw];exact z4r.2 h.2.1),if_pos h]

theorem z9c{tg:Tag}:vld tg []:=⟨by simp,by simp,by simp⟩
theorem zq1{tg:Tag}{l:List Pst}{p:Pst}(h:vld tg l)(hl:l.length<65536)(g:gdP p)(hno:p.no=l.length)(hprev:p.prev=y5q tg l)(hm:∀ q,l.getLast? = some q->q.minute<=p.minute):vld tg (l++[p]):=by
 refine⟨by simp;omega,fun q hq=>?_,fun i q hi=>?_⟩
 ·rcases aQ.1 hq with hq | hq
  ·exact h.2.1 q hq
  ·simp at hq;subst hq;exact g
 ·rw[List.getElem?_append] at hi
  split at hi
  ·rename_i hlt
   obtain⟨a,b,c⟩:=h.2.2 i q hi
   refine⟨a,?_,fun j r hj hr=>c j r hj ?_⟩
   ·rw[bP (by omega)];exact b
   ·rw[ay (by omega)] at hr;exact hr
  ·rename_i hge
   have hi0:i=l.length:=by
    have:=(ac.1 hi).1
    simp at this;omega
   subst hi0
   simp at hi;subst hi
   refine⟨hno,?_,fun j r hj hr=>hm r ?_⟩
   ·rw[bP (af _),aY];exact hprev
   ·rw[ay (by omega)] at hr
    rw[fQ,<- hr]
    congr 1;omega

structure Stp where
 minute:Int
 corrects:Int
 ents:List Ent
def y7x(tg:Tag)(l:List Pst)(s:Stp):Pst:=⟨l.length,s.minute,s.corrects,s.ents,y5q tg l⟩
open Classical in
noncomputable def y3x(tg:Tag)(l:List Pst)(s:Stp):Int:=
 if rdE tg l ≠ 0 then rdE tg l else if l.length=65536 then 2 else if ∃ q,l.getLast? = some q/\s.minute<q.minute then 410 else y5w (y7x tg l s)
theorem zqk{tg:Tag}{l:List Pst}{s:Stp}(h:y3x tg l s=0):vld tg l/\l.length<65536/\vld tg (l++[y7x tg l s])/\(∀ q,l.getLast? = some q->q.minute<=s.minute)/\gdP (y7x tg l s):=by
 unfold y3x at h
 split at h
 ·rename_i h1;exact absurd h h1
 ·rename_i h1
  have v:=z1q.1 (gw.1 h1)
  split at h
  ·simp at h
  ·rename_i h2
   have hl:l.length<65536:=by have:=v.1;omega
   split at h
   ·simp at h
   ·rename_i h3
    have hm:∀ q,l.getLast? = some q->q.minute<=s.minute:=fun q hq=>by
     rcases Int.lt_or_le s.minute q.minute with h4 | h4
     ·exact absurd ⟨q,hq,h4⟩ h3
     ·exact h4
    have g:=z44.1 h
    exact⟨v,hl,zq1 v hl g rfl rfl hm,hm,g⟩
theorem zej{tg:Tag}{l:List Pst}{s:Stp}(v:vld tg l)(hl:l.length<65536)(hm:∀ q,l.getLast? = some q->q.minute<=s.minute):y3x tg l s=y5w (y7x tg l s):=by
 unfold y3x
 rw[if_neg (by simp[z1q.2 v]),if_neg (by omega),if_neg]
 rintro⟨q,h1,h2⟩
 have:=hm q h1
 omega

def yz(k i:Int):List Ent->Int
 |[]=>0
 |x::l=>(if x.kind=k/\x.idx=i then x.amt else 0)+yz k i l
def ybj(k i m:Int):List Pst->Int
 |[]=>0
 |p::l=>(if p.minute<=m then yz k i p.ents else 0)+ybj k i m l
theorem z3s{k i:Int}(a b:List Ent):yz k i (a++b)=yz k i a+yz k i b:=by
 induction a with
 |nil=>simp[yz]
 |cons x a ih=>simp only[aR,yz,ih];omega
end Dv

namespace Dv

def yc2(l:List Pst):List (Int × Int):=l.flatMap fun p=>p.ents.map fun x=>(x.kind,x.idx)

end Dv

namespace Dv

def y1h:List (Int × Int)->List (Int × Int)
 |[]=>[]
 |[x]=>[x]
 |x::y::r=>if x=y then y1h (y::r) else x::y1h (y::r)

theorem zp2:∀{l:List (Int × Int)} {a:Int × Int},a ∈ y1h l ↔ a ∈ l
 |[],a=>by simp[y1h]
 |[x],a=>by simp[y1h]
 |x::y::r,a=>by
  have ih:=zp2 (l:=y::r) (a:=a)
  unfold y1h
  split
  ·rename_i e
   rw[ih]
   subst e
   simp
  ·rw[aw,ih]
   simp
theorem zin:∀{l:List (Int × Int)},l ≠ []->y1h l ≠ []
 |[],h=>absurd rfl h
 |[x],_=>by simp[y1h]
 |x::y::r,_=>by
  unfold y1h
  split
  ·exact zin (by simp)
  ·simp
theorem zl5:∀{l:List (Int × Int)},(y1h l).getLast? = l.getLast?
 |[]=>rfl
 |[x]=>rfl
 |x::y::r=>by
  have ih:=zl5 (l:=y::r)
  unfold y1h
  split
  ·rw[ih];simp
  ·have hne:=zin (l:=y::r) (by simp)
   obtain⟨z,zs,hz⟩:=List.exists_cons_of_ne_nil hne
   rw[hz] at ih ⊢
   rw[ja,ih]
   simp
theorem zc3:∀{l:List (Int × Int)} {a:Int × Int},y1h (l++[a])=if l.getLast? = some a then y1h l else y1h l++[a]
 |[],a=>by simp[y1h]
 |[x],a=>by
  simp only[aR,bh,y1h,List.getLast?_singleton,aa]
  split
  ·rename_i e;rw[e]
  ·rfl
 |x::y::r,a=>by
  have ih:=zc3 (l:=y::r) (a:=a)
  have e:(x::y::r).getLast? = (y::r).getLast?:=ja
  rw[e]
  simp only[aR] at ih ⊢
  conv=>lhs;unfold y1h
  conv=>rhs;unfold y1h
  rw[ih]
  split
  ·rfl
  ·split <;> rfl
theorem z5j:∀{l:List (Int × Int)},(y1h l).length<=l.length
 |[]=>by simp[y1h]
 |[x]=>by simp[y1h]
 |x::y::r=>by
  have ih:=z5j (l:=y::r)
  unfold y1h
  split
  ·simp at ih ⊢;omega
  ·simp at ih ⊢;omega

theorem z9w{x y z:Int × Int}(h:y3k x y=true)(h':y3k y z=true):y3k x z=true:=by
 unfold y3k at *;simp at *;omega
theorem z7q{x:Int × Int}:y3k x x=false:=by unfold y3k;simp
theorem z6u{x y:Int × Int}(h:y3k y x=false):x=y\/y3k x y=true:=by
 unfold y3k at *
 simp at *
 by_cases e:x=y
 ·exact .inl e
 ·right
  have : ¬ (x.1=y.1/\x.2=y.2):=fun h=>e (kW h.1 h.2)
  omega

theorem z42(l:List (Int × Int)):(y1l l).Perm l:=List.mergeSort_perm l _
theorem zmr{l:List (Int × Int)}{a:Int × Int}:a ∈ y1l l ↔ a ∈ l:=(z42 l).mem_iff
theorem z2r(l:List (Int × Int)):(y1l l).length=l.length:=(z42 l).length_eq
theorem z8g(l:List (Int × Int)):(y1l l).Pairwise fun x y=>y3k y x=false:=by
 have h:=List.pairwise_mergeSort (le:=fun x y:Int × Int=>!y3k y x) (fun a b c h1 h2=>by
  unfold y3k at *;simp at *;omega) (fun a b=>by
  unfold y3k;simp;omega) l
 exact h.imp fun h=>by simpa using h

def ya0(l:List Pst):List (Int × Int):=y1h (y1l (yc2 l))
def y7z:List Pst->Nat
 |[]=>0
 |p::l=>p.ents.length+y7z l
theorem zdl:∀(l:List Pst),(yc2 l).length=y7z l
 |[]=>rfl
 |p::l=>by
  have:=zdl l
  simp only[yc2,bN,ar,aH,y7z] at this ⊢
  omega
end Dv

namespace Dv

def yb6(x:Ent):Ent:=⟨x.kind,x.idx,-x.amt⟩
def y5x(l:List Ent):List Ent:=l.map yb6
theorem zhv(l:List Ent):(y5x l).length=l.length:=aH _
theorem zq3:∀(l:List Ent),y5a (y5x l) = -y5a l
 |[]=>rfl
 |x::l=>by
  have:=zq3 l
  simp only[y5x,au,y5a] at this ⊢
  rw[this];simp[yb6];omega
theorem zb2{k i:Int}:∀(l:List Ent),yz k i (y5x l) = -yz k i l
 |[]=>rfl
 |x::l=>by
  have:=zb2 (k:=k) (i:=i) l
  simp only[y5x,au,yz] at this ⊢
  rw[this]
  simp only[yb6]
  split <;> omega
end Dv

namespace Dv

abbrev Key:=Int × Int
abbrev y3u:=List (Key × Int)
def y4f(a:Key):y3u->Option Int
 |[]=>none
 |e::r=>if a=e.1 then some e.2 else y4f a r
def y2p(a:Key)(m:y3u):Int:=(y4f a m).getD 0
def y7w(a:Key)(n:Int):y3u->y3u
 |[]=>[(a,n)]
 |e::r=>if a=e.1 then(a,n)::r else e::y7w a n r
def yc0(a:Key)(n:Int)(m:y3u):y3u:=y7w a (y2p a m+n) m
def y2j(m:y3u):List Key:=m.map fun e=>e.1
def y5i(m:y3u):List Key->List Ent
 |[]=>[]
 |a::r=>if y2p a m=0 then y5i m r else⟨a.1,a.2,y2p a m⟩::y5i m r
def y9x(m:y3u):List Ent:=y5i m (y1l (y2j m))

theorem zhz{a b:Key}{n:Int}:∀{m:y3u},y4f b (y7w a n m)=if b=a then some n else y4f b m
 |[]=>by simp[y7w,y4f]
 |e::r=>by
  have ih:=zhz (a:=a) (b:=b) (n:=n) (m:=r)
  unfold y7w
  by_cases h:a=e.1
  ·rw[if_pos h]
   by_cases h2:b=a
   ·simp[y4f,h2]
   ·have : ¬ b=e.1:=fun h3=>h2 (h3.trans h.symm)
    simp[y4f,h2,this]
  ·rw[if_neg h]
   unfold y4f
   rw[ih]
   by_cases h2:b=e.1
   ·have : ¬ b=a:=fun h3=>h (h3.symm.trans h2)
    rw[if_pos h2,if_neg this,if_pos h2]
   ·rw[if_neg h2,if_neg h2]
theorem zjz{a b:Key}{n:Int}{m:y3u}:y2p b (yc0 a n m)=y2p b m+if a=b then n else 0:=by
 unfold yc0 y2p
 rw[zhz]
 by_cases h:b=a
 ·subst h;simp
 ·have : ¬ a=b:=fun e=>h e.symm
  simp[h,this]
theorem zd3{a:Key}{n:Int}:∀{m:y3u},y2j (y7w a n m)=if a ∈ y2j m then y2j m else y2j m++[a]
 |[]=>rfl
 |e::r=>by
  have ih:=zd3 (a:=a) (n:=n) (m:=r)
  unfold y7w
  by_cases h:a=e.1
  ·rw[if_pos h,if_pos (by simp[y2j,h])]
   simp[y2j,h]
  ·rw[if_neg h]
   have e2:∀(x:Key × Int) (q:y3u),y2j (x::q)=x.1::y2j q:=fun _ _=>rfl
   rw[e2,e2,ih]
   by_cases hm:a ∈ y2j r
   ·rw[if_pos hm,if_pos (bz _ hm)]
   ·rw[if_neg hm,if_neg (by simp[h,hm])];rfl
theorem zmz{a:Key}{n:Int}{m:y3u}(h:(y2j m).Nodup):(y2j (y7w a n m)).Nodup:=by
 rw[zd3]
 split
 ·exact h
 ·rename_i h2
  rw[List.nodup_append]
  refine⟨h,by simp,fun x hx y hy e=>?_⟩
  simp only[fa] at hy
  subst hy;subst e
  exact h2 hx
theorem zeq{a:Key}:∀{m:y3u},a ∉ y2j m->y4f a m=none
 |[],_=>rfl
 |e::r,h=>by
  simp only[y2j,au,aw,not_or] at h
  unfold y4f
  rw[if_neg h.1]
  exact zeq h.2
theorem zvb{a:Key}{n:Int}{m:y3u}:(y7w a n m).length<=m.length+1:=by
 have h:=congrArg cG (zd3 (a:=a) (n:=n) (m:=m))
 by_cases hm:a ∈ y2j m
 ·rw[if_pos hm] at h
  simp only[y2j,aH] at h
  omega
 ·rw[if_neg hm] at h
  simp only[y2j,aH,ar,az,be] at h
  omega

def y3i(x:Ent):Key:=(x.kind,x.idx)
def y3c(l:List Ent):Prop:=(l.map y3i).Pairwise fun a b=>y3k a b=true
theorem z9x{a b:Key}:y3k a b=true ↔ a.1<b.1\/a.1=b.1/\a.2<b.2:=by unfold y3k;simp
theorem ze8{l:List Ent}:y3c l ↔ yd2 l:=by
 constructor
 ·intro h i hi
  have:=fO.1 h i (i+1) (by simp;omega) (by simpa using hi) (by omega)
  simp only[gQ] at this
  exact z9x.1 this
 ·intro h
  have key:∀(d i:Nat) (hi:i+d+1<l.length),y3k (y3i (l[i]'(by omega))) (y3i l[i+d+1])=true:=by
   intro d
   induction d with
   |zero=>intro i hi;exact z9x.2 (h i hi)
   |succ d ih=>
    intro i hi
    have h1:=ih i (by omega)
    have h2:y3k (y3i (l[i+d+1]'(by omega))) (y3i l[i+d+1+1])=true:=z9x.2 (h (i+d+1) (by omega))
    exact z9w h1 h2
  refine fO.2 fun i j hi hj hij=>?_
  have hj2:j<l.length:=by simpa using hj
  simp only[gQ]
  have:=key (j - i - 1) i (by omega)
  have e:i+(j - i - 1)+1=j:=by omega
  simp only[e] at this
  exact this
theorem z95{k i:Int}:∀{l:List Ent},(k,i) ∉ l.map y3i->yz k i l=0
 |[],_=>rfl
 |x::l,h=>by
  simp only[au,aw,not_or] at h
  simp only[yz]
  rw[if_neg fun e=>h.1 (by unfold y3i;rw[e.1,e.2]),z95 h.2];rfl
theorem z1y{x:Ent}{l:List Ent}:y3c (x::l) ↔ (∀ a,a ∈ l.map y3i->y3k (y3i x) a=true)/\y3c l:=by
 unfold y3c;rw[au,List.pairwise_cons]
theorem z31{x:Ent}{l:List Ent}(h:y3c (x::l)):yz x.kind x.idx (x::l)=x.amt:=by
 simp only[yz,and_self,if_true]
 rw[z95 fun hm=>by
  have:=(z1y.1 h).1 _ hm
  rw[show y3i x=(x.kind,x.idx) from rfl,z7q] at this;cases this]
 omega
theorem zoo:∀{l l':List Ent},y3c l->y3c l'->(∀ e,e ∈ l->e.amt ≠ 0)->(∀ e,e ∈ l'->e.amt ≠ 0)->(∀ k i,yz k i l=yz k i l')->l=l'
 |[],[],_,_,_,_,_=>rfl
 |[],e::r,_,o,_,n,h=>by
  have:=h e.kind e.idx
  rw[z31 o] at this
  exact absurd this.symm (n e (by simp))
 |e::r,[],o,_,n,_,h=>by
  have:=h e.kind e.idx
  rw[z31 o] at this
  exact absurd this (n e (by simp))
 |e::r,f::s,o,o',n,n',h=>by
  have low:∀{x:Ent} {t:List Ent} {a:Ent},y3c (x::t)->y3k (y3i a) (y3i x)=true->yz a.kind a.idx (x::t)=0:=fun {x t a} ho hl=>by
   refine z95 fun hm=>?_
   have hm:y3i a ∈ (x::t).map y3i:=hm
   rw[au] at hm
   rcases aw.1 hm with he | hy
   ·rw[he,z7q] at hl;cases hl
   ·have:=z9w hl ((z1y.1 ho).1 _ hy)
    rw[z7q] at this;cases this
  have ha:y3i e=y3i f:=by
   by_cases h1:y3k (y3i e) (y3i f)=true
   ·have:=h e.kind e.idx
    rw[z31 o,low o' h1] at this
    exact absurd this (n e (by simp))
   ·rcases z6u (by simpa using h1) with h2 | h2
    ·exact h2.symm
    ·have:=h f.kind f.idx
     rw[z31 o',low o h2] at this
     exact absurd this.symm (n' f (by simp))
  have h1:e.kind=f.kind/\e.idx=f.idx:=by simpa[y3i] using ha
  have hm:e.amt=f.amt:=by
   have:=h e.kind e.idx
   rw[z31 o,h1.1,h1.2,z31 o'] at this
   exact this
  have he:e=f:=by cases e;cases f;simp at h1 hm;simp[h1,hm]
  subst he
  have hr:r=s:=by
   refine zoo (z1y.1 o).2 (z1y.1 o').2 (fun x hx=>n x (by simp[hx])) (fun x hx=>n' x (by simp[hx])) fun k i=>?_
   have:=h k i
   simp only[yz] at this
   omega
  rw[hr]

theorem zeg{l:List Key}(h:l.Nodup):(y1l l).Pairwise fun a b=>y3k a b=true:=by
 have h1:=z8g l
 have h2:(y1l l).Nodup:=(z42 l).nodup_iff.2 h
 refine List.Pairwise.imp₂ (fun a b h3 h4=>?_) h1 h2
 rcases z6u h3 with h5 | h5
 ·exact absurd h5 h4
 ·exact h5
theorem z7e{m:y3u}:∀{l:List Key},((y5i m l).map y3i).Sublist l
 |[]=>by simp[y5i]
 |a::r=>by
  have ih:=z7e (m:=m) (l:=r)
  unfold y5i
  split
  ·exact ih.cons a
  ·exact ih.cons_cons a
theorem zop{m:y3u}(h:(y2j m).Nodup):y3c (y9x m):=(zeg h).sublist z7e
theorem zgy{m:y3u}:∀{l:List Key} {e:Ent},e ∈ y5i m l->e.amt ≠ 0/\e.amt=y2p (y3i e) m
 |[],e,h=>by simp[y5i] at h
 |a::r,e,h=>by
  unfold y5i at h
  split at h
  ·exact zgy h
  ·rename_i h1
   rcases aw.1 h with rfl | h
   ·exact⟨h1,rfl⟩
   ·exact zgy h
theorem zis{m:y3u}{k i:Int}:∀{l:List Key},l.Nodup->yz k i (y5i m l)=if(k,i) ∈ l then y2p (k,i) m else 0
 |[],_=>rfl
 |a::r,h=>by
  obtain⟨h1,h2⟩:=List.nodup_cons.1 h
  have ih:=zis (m:=m) (k:=k) (i:=i) h2
  unfold y5i
  by_cases ha:a=(k,i)
  ·subst ha
   rw[if_neg h1] at ih
   split
   ·rename_i h0;rw[ih,if_pos (by simp),h0]
   ·simp[yz,ih]
  ·have hn : ¬ (a.1=k/\a.2=i):=fun e=>ha (kW e.1 e.2)
   have hn2 : ¬ (k,i)=a:=fun e=>ha e.symm
   have e2:((k,i) ∈ a::r) ↔ ((k,i) ∈ r):=by simp[hn2]
   split
   ·rw[ih];simp[hn2]
   ·simp only[yz]
    rw[if_neg hn,ih];simp[hn2]
theorem zt3{m:y3u}(h:(y2j m).Nodup){k i:Int}:yz k i (y9x m)=y2p (k,i) m:=by
 unfold y9x
 rw[zis ((z42 _).nodup_iff.2 h)]
 split
 ·rfl
 ·rename_i h1
  rw[zmr] at h1
  unfold y2p
  rw[zeq h1];rfl

def y1k(l:List Ent)(m:y3u):y3u:=l.foldl (fun m x=>yc0 (y3i x) x.amt m) m
theorem z9g{x:Ent}{l:List Ent}{m:y3u}:y1k (x::l) m=y1k l (yc0 (y3i x) x.amt m):=rfl
theorem zci{a b:List Ent}{m:y3u}:y1k (a++b) m=y1k b (y1k a m):=gx
theorem z54:∀{l:List Ent} {m:y3u},(y2j m).Nodup->(y2j (y1k l m)).Nodup
 |[],m,h=>h
 |x::l,m,h=>z54 (l:=l) (zmz h)
theorem z65{k i:Int}:∀{l:List Ent} {m:y3u},y2p (k,i) (y1k l m)=y2p (k,i) m+yz k i l
 |[],m=>by simp[y1k,yz]
 |x::l,m=>by
  rw[z9g,z65,zjz]
  simp only[yz,y3i,al]
  omega
theorem z5o:∀{l:List Ent} {m:y3u},(y1k l m).length<=m.length+l.length
 |[],m=>by simp[y1k]
 |x::l,m=>by
  rw[z9g]
  have h1:=z5o (l:=l) (m:=yc0 (y3i x) x.amt m)
  have h2:(yc0 (y3i x) x.amt m).length<=m.length+1:=zvb
  simp only[az];omega
theorem ziu{k i:Int}:∀{l:List Ent} {B:Int},(∀ x,x ∈ l -> -B<=x.amt/\x.amt<=B)->0<=B -> -(B*l.length)<=yz k i l/\yz k i l<=B*l.length
 |[],B,_,_=>by simp[yz]
 |x::l,B,h,h0=>by
  have ih:=ziu (k:=k) (i:=i) (l:=l) (fun y hy=>h y (by simp[hy])) h0
  have hx:=h x (by simp)
  have e:B*((x::l).length:Nat)=B*l.length+B:=by rw[az];push_cast;rw[Int.mul_add];omega
  rw[e]
  simp only[yz]
  split <;> omega

def y6j(l:List Ent):List Ent:=y9x (y1k l [])
theorem zqt{l:List Ent}:y3c (y6j l):=zop (z54 (by simp[y2j]))
theorem zxj{l:List Ent}:∀ e,e ∈ y6j l->e.amt ≠ 0:=fun e h=>(zgy h).1
theorem zga{l:List Ent}{k i:Int}:yz k i (y6j l)=yz k i l:=by
 unfold y6j
 rw[zt3 (z54 (by simp[y2j])),z65]
 simp[y2p,y4f]
theorem zcx{l r:List Ent}(h:y3c r)(hn:∀ e,e ∈ r->e.amt ≠ 0)(ha:∀ k i,yz k i r=yz k i l):y6j l=r:=
 zoo zqt h zxj hn fun k i=>by rw[zga,ha]
theorem zn2{l:List Ent}:y6j l=[] ↔ ∀ k i,yz k i l=0:=by
 constructor
 ·intro h k i
  rw[<- zga,h];rfl
 ·intro h
  exact zcx (by simp[y3c]) (by simp) fun k i=>by rw[h];rfl
theorem zn3{l:List Ent}:(y6j l).length<=l.length:=by
 have h1:=(z7e (m:=y1k l []) (l:=y1l (y2j (y1k l [])))).length_le
 have h2:=z5o (l:=l) (m:=[])
 rw[z2r] at h1
 simp only[y2j,aH,be] at h1 h2
 unfold y6j y9x
 simp only[y2j]
 omega
def y2o(x:Ent):List Ent->List Ent
 |[]=>[x]
 |e::r=>if ltA e x then e::y2o x r else if y3i e=y3i x then⟨e.kind,e.idx,e.amt+x.amt⟩::r else x::e::r
def y3l(l:List Ent):List Ent:=l.filter fun e=>!decide (e.amt=0)
theorem zit{k i:Int}{x:Ent}:∀{l:List Ent},yz k i (y2o x l)=yz k i l+yz k i [x]
 |[]=>by simp[y2o,yz]
 |e::r=>by
  have ih:=zit (k:=k) (i:=i) (x:=x) (l:=r)
  simp only[y2o]
  split
  ·simp only[yz,ih];omega
  ·split
   ·rename_i _ h
    have h:e.kind=x.kind/\e.idx=x.idx:=by simpa[y3i] using h
    simp only[yz,h.1,h.2]
    split <;> omega
   ·simp only[yz];omega
theorem zhx{x:Ent}:∀{l:List Ent} {a:Key},a ∈ (y2o x l).map y3i->a=y3i x\/a ∈ l.map y3i
 |[],a,h=>by
  simp only[y2o,au,aO,fa] at h
  exact .inl h
 |e::r,a,h=>by
  simp only[y2o] at h
  split at h
  ·rcases aw.1 h with h | h
   ·exact .inr (by simp[h])
   ·rcases zhx h with h | h
    ·exact .inl h
    ·exact .inr (by rw[au];exact bz _ h)
  ·split at h
   ·rcases aw.1 h with h | h
    ·exact .inr (by simp[h,y3i])
    ·exact .inr (by rw[au];exact bz _ h)
   ·rcases aw.1 h with h | h
    ·exact .inl h
    ·exact .inr h
theorem ze7{x:Ent}:∀{l:List Ent},y3c l->y3c (y2o x l)
 |[],_=>by simp[y2o,y3c]
 |e::r,h=>by
  obtain⟨h1,h2⟩:=z1y.1 h
  simp only[y2o]
  split
  ·rename_i hl
   refine z1y.2 ⟨fun a ha=>?_,ze7 h2⟩
   rcases zhx ha with rfl | ha
   ·exact z9x.2 hl
   ·exact h1 a ha
  ·rename_i hl
   split
   ·exact z1y.2 ⟨h1,h2⟩
   ·rename_i hk
    have h3:y3k (y3i x) (y3i e)=true:=by
     rcases z6u (x:=y3i x) (y:=y3i e) (by
      rw[Bool.eq_false_iff];exact fun h=>hl (z9x.1 h)) with h4 | h4
     ·exact absurd h4.symm hk
     ·exact h4
    refine z1y.2 ⟨fun a ha=>?_,h⟩
    rw[au] at ha
    rcases aw.1 ha with rfl | ha
    ·exact h3
    ·exact z9w h3 (h1 a ha)
theorem zfd{k i:Int}:∀{l:List Ent},yz k i (y3l l)=yz k i l
 |[]=>rfl
 |e::r=>by
  have ih:=zfd (k:=k) (i:=i) (l:=r)
  unfold y3l at ih ⊢
  rw[List.filter_cons]
  split
  ·simp only[yz,ih]
  ·rename_i h
   have:e.amt=0:=by simpa using h
   simp only[yz,ih,this]
   split <;> omega
theorem zja{l:List Ent}(h:y3c l):y3c (y3l l):=h.sublist ((List.filter_sublist).map _)
theorem zqu{l:List Ent}:∀ e,e ∈ y3l l->e.amt ≠ 0:=fun e h=>by
 have:=(List.mem_filter.1 h).2
 simpa using this
def y9q(l:List Ent)(x:List Ent):List Ent:=l.foldl (fun x e=>y2o e x) x
theorem zfe:∀{l x:List Ent},y3c x->y3c (y9q l x)
 |[],x,h=>h
 |e::l,x,h=>zfe (l:=l) (ze7 h)
theorem ziw{k i:Int}:∀{l x:List Ent},yz k i (y9q l x)=yz k i x+yz k i l
 |[],x=>by simp[y9q,yz]
 |e::l,x=>by
  show yz k i (y9q l (y2o e x))=_
  rw[ziw,zit]
  simp only[yz];omega
theorem zv7{l x:List Ent}(h:y3c x):y3l (y9q l x)=y6j (x++l):=by
 refine(zcx (zja (zfe h)) zqu fun k i=>?_).symm
 rw[zfd,ziw,z3s]

end Dv

namespace Dv
attribute [local simp] ah depth y2c y6l y2k y2g y4y y19 y3t y2b Ret
attribute [local congr] z48 z4j z3b z2h z1x z3h z1w


theorem zhg{n:Nat}(h:n<18446744073709551616):bv.wrap (n:Int)=n:=by
 simp[fS,fT,fh];omega
theorem zfk{n:Nat}:jV.wrap (n:Int)=((n % 256:Nat):Int):=by
 simp[fS,fT,fh]
theorem yf1{n:Nat}(h:n<256):yak .u8 (n:Int) 128=((n % 128+128:Nat):Int):=by
 have key:∀ m:Fin 256,yak .u8 ((m.val:Nat):Int) 128=((m.val % 128+128:Nat):Int):=by decide +kernel
 exact key ⟨n,h⟩
theorem z3r:bv.bits=64:=rfl
theorem shr7{n:Nat}:((n:Int).fdiv 128)=((n / 128:Nat):Int):=by
 rw[dt _ (by omega)];omega
theorem mk8{n:Nat}(h:n<256):(D.int .u8 (n:Int))=yc (b8 n):=by
 unfold yc
 rw[zg4 h]

theorem zht{u:Nat}(h:u<18446744073709551616):(num u).length<=11:=by
 have key:∀(k u:Nat),u<2 ^ (7*k)->(num u).length<=k+1:=by
  intro k
  induction k with
  |zero=>intro u h;rw[zbm (by omega)];simp
  |succ k ih=>
   intro u h
   by_cases h1:u<128
   ·rw[zbm h1];simp
   ·rw[zhu h1]
    have:=ih (u / 128) (by
     rw[jC (by decide),show(128:Nat)=2 ^ 7 from rfl,<- nX]
     rwa [show 7*k+7=7*(k+1) from by omega])
    simp;omega
 have:(18446744073709551616:Nat)<=2 ^ (7*10):=by decide
 exact key 10 u (by omega)
theorem z7z{l:List UInt8}:y2q 1 (l.map yc)=true:=by
 unfold y2q
 rw[ax]
 intro x hx
 obtain⟨r,_,rfl⟩:=aV.1 hx
 rfl
theorem z1o{l:List UInt8}{new:List D}(h:l.length+new.length<=1000000000000):y3f E 13 (l.map yc) new:=by
 refine⟨?_,?_,?_,z7z⟩ <;> simp[yj]
 omega

theorem s312{C:Nat}:∀(u:Nat) {hp:List Obj} {sp:y1a} (l:List UInt8),u<18446744073709551616->l.length<=900000000000->y8h C hp sp l.length 1->C<=hp.length ->
  ∃ d hp',y1n E (dL E) 312 [.imm sp (l.map yc),.int .u64 u] hp=some (d,hp') /\ ∃ k,d=.imm (.tok k) ((l++num u).map yc)/\C<=k/\At hp' k (.tok (l++num u).length 1)/\y2h C C hp hp'/\hp.length<=hp'.length:=by
 intro u hp sp l hu hl R hC
 refine z2q c312 (args:=[.imm sp (l.map yc),.int .u64 u]) (hp:=hp) (R:=fun d hp'=>∃ k,d=.imm (.tok k) ((l++num u).map yc)/\C<=k/\At hp' k (.tok (l++num u).length 1)/\y2h C C hp hp'/\hp.length<=hp'.length) (by simp) ?_
 simp[t312,n312]
 have hlen:=zht hu
 refine⟨fun k env h=>∃(x3 x4 x5:D) (sp':y1a) (l':List UInt8),env=[.imm sp' (l'.map yc),.int .u64 (k:Nat),.imm .exact [],x3,x4,x5]/\k<18446744073709551616/\l'++num k=l++num u/\y8h C h sp' l'.length 1/\y2h C C hp h/\hp.length<=h.length,u,⟨_,_,_,sp,l,rfl,hu,rfl,R,y2h.refl,af _⟩,?_⟩
 rintro k env h ⟨x3,x4,x5,sp',l',rfl,hk,he,R',K',hh⟩
 have htot:l'.length+(num k).length<=900000000000+11:=by
  have:=congrArg cG he
  simp only[ar] at this
  omega
 have hpos:=zg8 (u:=k)
 by_cases h128:128<=k
 ·have hn : ¬ k<128:=by omega
  have hI:(128:Int)<=(k:Int):=by omega
  have hap:∀ x:D,y3f E 13 (l'.map yc) [x]:=fun x=>z1o (by simp;omega)
  have e1:D.int .u8 (yak .u8 ((k:Int) % 256) 128)=yc (b8 (k % 128+128)):=by
   have h1:=yf1 (n:=k % 256) (by omega)
   rw[show k % 256 % 128+128=k % 128+128 from by omega,show((k % 256:Nat):Int)=(k:Int) % 256 from by omega] at h1
   rw[h1,mk8 (n:=k % 128+128) (by omega)]
  have e2:(k:Int).fdiv 128=((k / 128:Nat):Int):=shr7
  rw[zhu hn] at he
  obtain⟨c,hc⟩:∃ c,c=b8 (k % 128+128):=⟨_,rfl⟩
  rw[<- hc] at e1 he
  have he':(l'++[c])++num (k / 128)=l++num u:=by simpa using he
  rcases R' with rfl | ⟨q,rfl,hq,hq2⟩
  ·simp[hI,y3o,zx,z1g,hap,zfk,e1,z3r,e2]
   exact⟨k / 128,by omega,_,_,_,_,l'++[c],⟨⟨rfl,by simp⟩,by omega,rfl,rfl,rfl⟩,by omega,he',.inr ⟨h.length,rfl,by omega,by simp[At]⟩,K'.trans y2h.app,by omega⟩
  ·simp[hI,y3o,zx,z1u,hap,zfk,e1,hq2.eq,z3r,e2]
   exact⟨k / 128,by omega,_,_,_,_,l'++[c],⟨⟨rfl,by simp⟩,by omega,rfl,rfl,rfl⟩,by omega,he',.inr ⟨h.length,rfl,by omega,by simp[At]⟩,(K'.trans (y2h.set (.inr hq))).trans y2h.app,by omega⟩
 ·have hI : ¬ (128:Int)<=(k:Int):=by omega
  have e0:=zfk (n:=k)
  rw[show k % 256=k from by omega] at e0
  have e3:=mk8 (n:=k) (by omega)
  have hap:∀ x:D,y3f E 13 (l'.map yc) [x]:=fun x=>z1o (by simp;omega)
  rw[zbm (by omega)] at he
  obtain⟨c,hc⟩:∃ c,c=b8 k:=⟨_,rfl⟩
  rw[<- hc] at e3 he
  have hm:l'.map yc++[yc c]=l.map yc++(num u).map yc:=by
   have:=congrArg (List.map yc) he
   simpa using this
  have hl2:l'.length+1=l.length+(num u).length:=by
   have:=congrArg cG he
   simpa using this
  rcases R' with rfl | ⟨q,rfl,hq,hq2⟩
  ·simp[hI,y3o,zx,z1g,hap,e0,e3]
   exact⟨h.length,⟨rfl,hm⟩,by omega,by simp[At,hl2],K'.trans y2h.app,by omega⟩
  ·simp[hI,y3o,zx,z1u,hap,e0,e3,hq2.eq]
   exact⟨h.length,⟨rfl,hm⟩,by omega,by simp[At,hl2],(K'.trans (y2h.set (.inr hq))).trans y2h.app,by omega⟩

theorem zsf:aC.bits=64:=rfl
theorem z28(m:Int):bv.wrap m=m % 18446744073709551616:=by
 simp[fS,fT,fh]
theorem zpw{x:Nat}(h:x<18446744073709551616):y8l .u64 (x:Int) 0=x:=by
 unfold y8l
 rw[z28]
 have e:(cg bv.bits (x:Int) ^^^ cg bv.bits 0).toNat=x:=by
  rw[show bv.bits=64 from rfl]
  simp
  omega
 rw[e];omega
theorem zpx{x:Nat}(h:x<18446744073709551616):y8l .u64 (x:Int) 18446744073709551615=((18446744073709551615 - x:Nat):Int):=by
 unfold y8l
 rw[z28]
 have e:(cg bv.bits (x:Int) ^^^ cg bv.bits 18446744073709551615).toNat=18446744073709551615 - x:=by
  rw[show bv.bits=64 from rfl]
  have:(cg 64 18446744073709551615)=BitVec.allOnes 64:=by decide
  rw[this,BitVec.xor_allOnes]
  simp
  omega
 rw[e];omega
theorem zig{n:Int}(h:i64 n):y8l .u64 (bv.wrap (bv.wrap n*2)) (bv.wrap (n.fdiv 9223372036854775808))=(uns n:Nat):=by
 obtain⟨h1,h2⟩:=h
 have hf:n.fdiv 9223372036854775808=n / 9223372036854775808:=dt _ (by omega)
 rw[hf,z28,z28,z28]
 unfold uns
 by_cases h0:0<=n
 ·rw[if_pos h0,show n / 9223372036854775808 % 18446744073709551616=0 from by omega,show n % 18446744073709551616*2 % 18446744073709551616=((2*n.toNat:Nat):Int) from by omega]
  exact zpw (by omega)
 ·rw[if_neg h0,show n / 9223372036854775808 % 18446744073709551616=18446744073709551615 from by omega,show n % 18446744073709551616*2 % 18446744073709551616=((18446744073709551616 - 2*(-n).toNat:Nat):Int) from by omega,zpx (by omega)]
  omega

theorem r311{n:Int}(h:i64 n):y17 E (dL E) 311 [dI n]=some (.int .u64 (uns n:Nat)):=by
 refine zg c311 (by simp) ?_
 have e:=zig h
 simp[t311,n311,y3o,z3r,zsf,e]

def y7u(C:Nat)(hp:List Obj)(l e:List UInt8)(d:D)(hp':List Obj):Prop:=
 ∃ k,d=.imm (.tok k) ((l++e).map yc)/\C<=k/\At hp' k (.tok (l++e).length 1)/\y2h C C hp hp'/\hp.length<=hp'.length

theorem zb9{C:Nat}{hp h2:List Obj}{l a e:List UInt8}{d:D}{hp':List Obj}(hk:y2h C C hp h2)(hl:hp.length<=h2.length)(w:y7u C h2 (l++a) e d hp'):y7u C hp l (a++e) d hp':=by
 obtain⟨k,w1,w2,w3,w4,w5⟩:=w
 rw[bC] at w1 w3
 exact⟨k,w1,w2,w3,hk.trans w4,aG hl w5⟩
theorem y7u.imm{C:Nat}{hp:List Obj}{l e:List UInt8}{d:D}{hp':List Obj}(w:y7u C hp l e d hp'):yt d=false:=by
 obtain⟨k,rfl,_⟩:=w;rfl
theorem ycc{C:Nat}(u:Nat){hp:List Obj}{sp:y1a}(l:List UInt8)(hu:u<18446744073709551616)(hl:l.length<=900000000000)(R:y8h C hp sp l.length 1)(hC:C<=hp.length) :
  ∃ d hp',y1n E (dL E) 312 [.imm sp (l.map yc),.int .u64 u] hp=some (d,hp')/\yt d=false/\y7u C hp l (num u) d hp':=by
 obtain⟨d,hp',e,w⟩:=s312 u l hu hl R hC
 have w:y7u C hp l (num u) d hp':=w
 exact⟨d,hp',e,w.imm,w⟩
theorem z8w{C:Nat}{hp r:List Obj}{n k:Nat}(hC:C<=hp.length)(h:r[k]? = some (.tok n 1)):y8h C (hp++r) (.tok (hp.length+k)) n 1:=
 .inr ⟨hp.length+k,rfl,by omega,by rw[d8];exact z5u.trans h⟩
theorem zco{C:Nat}{hp r:List Obj}{o:Obj}{n k q:Nat}(hC:C<=hp.length)(h:r[k]? = some (.tok n 1)):y8h C (hp.set q o++r) (.tok (hp.length+k)) n 1:=by
 have:=z8w (C:=C) (hp:=hp.set q o) (r:=r) (k:=k) (n:=n) (by simpa using hC) h
 simpa using this
theorem zwk{C:Nat}{hp:List Obj}{sp:y1a}{l:List UInt8}{m k:Nat}(c:UInt8)(x:D)(hx:x=yc c)(hk:k<m)(R:y8h C hp sp l.length 1)(hC:C<=hp.length)(hl:l.length<=900000000000) :
  ∃ h2,y7t E (hp++ah m .dead) (hp.length+k) 30 30 (.imm sp (l.map yc)) (.imm .exact [x])=some (.imm (.tok (hp.length+k)) ((l++[c]).map yc),h2)/\y2h C C hp h2/\h2.length=hp.length+m/\y8h C h2 (.tok (hp.length+k)) (l++[c]).length 1:=by
 subst hx
 have hap:∀ x:D,y3f E 13 (l.map yc) [x]:=fun x=>z1o (by simp;omega)
 have hr:(ah m Obj.dead).length=m:=by simp
 have hg:((ah m Obj.dead).set k (.tok (l.length+1) 1))[k]? = some (.tok (l.length+1) 1):=by simp[hk]
 rcases R with rfl | ⟨q,rfl,hq,hq2⟩
 ·refine⟨hp++(ah m Obj.dead).set k (.tok (l.length+1) 1),?_,y2h.app,by simp,?_⟩
  ·simp[z1g,hap,hk,↓z8v]
  ·have:=z8w (C:=C) hC hg
   simpa using this
 ·have hlt:=hq2.lt
  have hq3:(hp++ah m Obj.dead)[q]? = some (.tok (l.length*1) 1):=hq2.appE
  rw[d8] at hq3
  refine⟨hp.set q .dead++(ah m Obj.dead).set k (.tok (l.length+1) 1),?_,(y2h.set (.inr hq)).trans y2h.app,by simp,?_⟩
  ·have e:((hp++ah m Obj.dead).set q .dead).set (hp.length+k) (.tok (l.length+1) 1)=hp.set q .dead++(ah m Obj.dead).set k (.tok (l.length+1) 1):=by
    rw[z1s hlt]
    have:=z8v (hp:=hp.set q Obj.dead) (r:=ah m Obj.dead) (k:=k) (x:=.tok (l.length+1) 1)
    rwa [bl] at this
   simp[z1u,hap,hk,hq3]
   exact e
  ·have:=zco (C:=C) (o:=.dead) (q:=q) hC hg
   simpa using this
theorem z8z{l:List UInt8}{c:UInt8}:(l++[c]).map yc=l.map yc++[.int .u8 c.toNat]:=by simp

theorem s298{C:Nat}{hp:List Obj}{sp:y1a}(l:List UInt8)(n:Int)(hn:i64 n)(hl:l.length<=800000000000)(R:y8h C hp sp l.length 1)(hC:C<=hp.length) :
  ∃ d hp',y1n E (dL E) 298 [.imm sp (l.map yc),dV (.mk 1 n [] [])] hp=some (d,hp')/\y7u C hp l (enc (.mk 1 n [] [])) d hp':=by
 refine z2q c298 (args:=[.imm sp (l.map yc),dV (.mk 1 n [] [])]) (hp:=hp) (R:=y7u C hp l (enc (.mk 1 n [] []))) (by simp) ?_
 have h311:=r311 hn
 have hap:∀ x:D,y3f E 13 (l.map yc) [x]:=fun x=>z1o (by simp;omega)
 have he:enc (.mk 1 n [] [])=[1]++num (uns n):=by rw[enc,if_pos rfl];rfl
 rw[z3i,he]
 rcases R with rfl | ⟨q,rfl,hq,hq2⟩
 ·obtain⟨d,hp',e,hm,w⟩:=ycc (C:=C) (hp:=hp++[.dead,.dead,.tok (l.length+1) 1,.dead,.dead,.dead,.dead,.dead]) (sp:=.tok (hp.length+2)) (uns n) (l++[1]) (zm0 hn) (by simp;omega) (by rw[ar];exact z8w hC rfl) (by simp;omega)
  have w':=zb9 (hp:=hp) y2h.app (by simp) w
  rw[z8z] at e
  simp at e
  simp[t298,n298,zx,z1g,hap,h311,e,hm]
  exact w'
 ·obtain⟨d,hp',e,hm,w⟩:=ycc (C:=C) (hp:=hp.set q .dead++[.dead,.dead,.tok (l.length+1) 1,.dead,.dead,.dead,.dead,.dead]) (sp:=.tok (hp.length+2)) (uns n) (l++[1]) (zm0 hn) (by simp;omega) (by rw[ar];exact zco hC rfl) (by simp;omega)
  have w':=zb9 (hp:=hp) ((y2h.set (.inr hq)).trans y2h.app) (by simp) w
  rw[z8z] at e
  simp at e
  have hq3:(hp++ah 8 Obj.dead)[q]? = some (.tok (l.length*1) 1):=hq2.appE
  simp at hq3
  have hlt:=hq2.lt
  simp[t298,n298,zx,z1u,hap,h311,e,hm,hq3,↓z1s hlt]
  exact w'

theorem s299{C:Nat}{hp:List Obj}{sp:y1a}(l s:List UInt8)(hl:l.length+s.length<=800000000000)(R:y8h C hp sp l.length 1)(hC:C<=hp.length) :
  ∃ d hp',y1n E (dL E) 299 [.imm sp (l.map yc),dV (.mk 2 0 s [])] hp=some (d,hp')/\y7u C hp l (enc (.mk 2 0 s [])) d hp':=by
 refine z2q c299 (args:=[.imm sp (l.map yc),dV (.mk 2 0 s [])]) (hp:=hp) (R:=y7u C hp l (enc (.mk 2 0 s []))) (by simp) ?_
 have hap:∀ x:D,y3f E 13 (l.map yc) [x]:=fun x=>z1o (by simp;omega)
 have he:enc (.mk 2 0 s [])=([2]++num s.length)++s:=by rw[enc,if_neg (by decide),if_pos rfl];rfl
 have hw:=zhg (n:=s.length) (by omega)
 have hn:=zht (u:=s.length) (by omega)
 rw[z3i,he]
 have fin:∀{d:D} {h2:List Obj},hp.length+12<=h2.length->y7u C hp l ([2]++num s.length) d h2->∃ k,d=.imm (.tok k) ((l++([2]++num s.length)).map yc)/\h2[k]? = some (.tok (l++([2]++num s.length)).length 1)/\y3f E 13 ((l++([2]++num s.length)).map yc) (s.map yc) /\
   y7u C hp l (([2]++num s.length)++s) (.imm (.tok (hp.length+10)) ((l++([2]++num s.length)).map yc++s.map yc)) ((h2.set k .dead).set (hp.length+10) (.tok ((l++([2]++num s.length)).length+s.length) 1)):=by
  rintro d h2 hh ⟨k,rfl,w2,w3,w4,w5⟩
  refine⟨k,rfl,w3,z1o (by simp at hn ⊢;omega),hp.length+10,by simp,by omega,?_,(w4.trans (y2h.set (.inr w2))).trans (y2h.set (.inr (by omega))),by simp;omega⟩
  have:(l++(([2]++num s.length)++s)).length=(l++([2]++num s.length)).length+s.length:=by simp;omega
  rw[this]
  exact At.self (by simp;omega)
 rcases R with rfl | ⟨q,rfl,hq,hq2⟩
 ·obtain⟨d,hp',e,hm,w⟩:=ycc (C:=C) (hp:=hp++[.dead,.dead,.tok (l.length+1) 1,.dead,.dead,.dead,.dead,.dead,.dead,.dead,.dead,.dead]) (sp:=.tok (hp.length+2)) s.length (l++[2]) (by omega) (by simp;omega) (by rw[ar];exact z8w hC rfl) (by simp;omega)
  have hlen:hp.length+12<=hp'.length:=by have:=w.choose_spec.2.2.2.2;simpa using this
  have w':=zb9 (hp:=hp) y2h.app (by simp) w
  obtain⟨k,rfl,f1,f2,f3⟩:=fin hlen w'
  rw[z8z] at e
  simp at e f1 f2 f3
  have h10:hp.length+10<hp'.length:=by omega
  simp[t299,n299,zx,z1g,z1u,hap,hw,y3o,e,f1,f2,h10]
  simpa using f3
 ·obtain⟨d,hp',e,hm,w⟩:=ycc (C:=C) (hp:=hp.set q .dead++[.dead,.dead,.tok (l.length+1) 1,.dead,.dead,.dead,.dead,.dead,.dead,.dead,.dead,.dead]) (sp:=.tok (hp.length+2)) s.length (l++[2]) (by omega) (by simp;omega) (by rw[ar];exact zco hC rfl) (by simp;omega)
  have hlen:hp.length+12<=hp'.length:=by have:=w.choose_spec.2.2.2.2;simpa using this
  have w':=zb9 (hp:=hp) ((y2h.set (.inr hq)).trans y2h.app) (by simp) w
  obtain⟨k,rfl,f1,f2,f3⟩:=fin hlen w'
  rw[z8z] at e
  have hq3:(hp++ah 12 Obj.dead)[q]? = some (.tok (l.length*1) 1):=hq2.appE
  simp at e f1 f2 f3 hq3
  have hlt:=hq2.lt
  have h10:hp.length+10<hp'.length:=by omega
  simp[t299,n299,zx,z1u,hap,hw,y3o,e,f1,f2,h10,hq3,↓z1s hlt]
  simpa using f3

structure Wrs(hp:List Obj)(A B:Nat):Prop where
 a:At hp A (.cells [.nilfn,.fn 298 [],.fn 299 [],.fn 300 [.loc B 0]])
 b:At hp B (.cells [.loc A 0])
theorem Wrs.keep{C:Nat}{hp hp':List Obj}{A B:Nat}(w:Wrs hp A B)(hA:A<C)(hB:B<C)(k:y2h C C hp hp'):Wrs hp' A B:=⟨k.at (by omega) hA w.a,k.at (by omega) hB w.b⟩

def wrF(k:Int):Nat:=if k=1 then 298 else if k=2 then 299 else 300
def wrC(k:Int)(B:Nat):List D:=if k=1 then[] else if k=2 then[] else[.loc B 0]
def y8f(v:CV)(k:Int):Prop:=∀{C A B:Nat} {hp:List Obj} {sp:y1a} (l:List UInt8),Wrs hp A B->A<C->B<C->l.length+(enc v).length<=800000000000->y8h C hp sp l.length 1->C<=hp.length ->
 ∃ d hp',y1n E (dL E) (wrF k) (.imm sp (l.map yc)::dV v::wrC k B) hp=some (d,hp')/\y7u C hp l (enc v) d hp'

theorem s300(vs:List CV)(ih:∀ k n s l,CV.mk k n s l ∈ vs->(k=1\/k=2\/k=3)/\y8f (.mk k n s l) k):y8f (.mk 3 0 [] vs) 3:=by
 intro C A B hp sp l W hA hB hl R hC
 have he:enc (.mk 3 0 [] vs)=([3]++num vs.length)++y46 vs:=by rw[enc,if_neg (by decide),if_neg (by decide)];rfl
 rw[he] at hl ⊢
 have hvl:vs.length<=800000000000:=by have:=zda vs;simp at hl;omega
 show ∃ d hp',y1n E (dL E) 300 [.imm sp (l.map yc),dV (.mk 3 0 [] vs),.loc B 0] hp=some (d,hp')/\y7u C hp l (([3]++num vs.length)++y46 vs) d hp'
 refine z2q c300 (args:=[.imm sp (l.map yc),dV (.mk 3 0 [] vs),.loc B 0]) (hp:=hp) (R:=y7u C hp l (([3]++num vs.length)++y46 vs)) (by simp) ?_
 have hap:∀ x:D,y3f E 13 (l.map yc) [x]:=fun x=>z1o (by simp at hl ⊢;omega)
 have hw:=zhg (n:=vs.length) (by omega)
 rw[z3i]
 obtain⟨h2,e1,k1,l1,R1⟩:=zwk (l:=l) (m:=9) (k:=2) 3 (.int .u8 3) rfl (by omega) R hC (by simp at hl;omega)
 obtain⟨d,h3,e2,hm,w⟩:=ycc (C:=C) (hp:=h2) vs.length (l++[3]) (by omega) (by simp at hl ⊢;omega) R1 (by omega)
 have w':=zb9 (hp:=hp) k1 (by omega) w
 simp at e1 e2
 simp[t300,n300,zx,hw,y3o,e1,e2,hm]
 refine zr vs.length (fun i env h=>∃(x5 x6 x7 x11 x12 x13:D) (dd:D),env=[dd,.agg [dI 3,dI 0,.str [],.imm .none (vs.map dV)],.loc B 0,.iptr [dI 3,dI 0,.str [],.imm .none (vs.map dV)],.imm .exact [],x5,x6,x7,.imm .none (vs.map dV),dI vs.length,dI i,x11,x12,x13]/\y7u C hp l (([3]++num vs.length)++y46 (vs.take i)) dd h) 0 (by omega) ?_ ?_
 ·exact⟨_,_,_,_,_,_,d,rfl,by simpa[y46] using w'⟩
 rintro i env h hi ⟨x5,x6,x7,x11,x12,x13,dd,rfl,wi⟩
 by_cases hlt:i<vs.length
 ·obtain⟨tk,rfl,w2,w3,w4,w5⟩:=wi
  obtain⟨k,n,s,l',hv⟩:∃ k n s l',vs[i]=CV.mk k n s l':=by
   cases h:vs[i] with
   |mk k n s l'=>exact⟨k,n,s,l',rfl⟩
  have WA:=W.keep hA hB w4
  obtain⟨hk,hwr⟩:=ih k n s l' (by rw[<- hv];exact aF hlt)
  have a1:=WA.a
  have b1:=WA.b
  have hsp:y46 (vs.take (i+1))=y46 (vs.take i)++enc (.mk k n s l'):=by
   rw[List.take_add_one,ae hlt,hv,z6f];simp[y46]
  have htk:y46 vs=y46 (vs.take (i+1))++y46 (vs.drop (i+1)):=by rw[<- z6f,bj]
  have hL:(l++([3]++num vs.length++y46 (vs.take i))).length+(enc (.mk k n s l')).length<=800000000000:=by
   rw[htk,hsp] at hl
   simp only[ar] at hl ⊢
   omega
  obtain⟨d',h5,e,w⟩:=hwr (C:=C) (A:=A) (B:=B) (sp:=.tok tk) (hp:=h++[.cells [dI k,dI n,.str s,.imm .none (l'.map dV)],.dead,.dead,.dead,.dead,.dead,.dead,.dead,.dead,.dead,.dead,.dead]) (l++([3]++num vs.length++y46 (vs.take i))) (WA.keep hA hB y2h.app) hA hB hL (.inr ⟨tk,rfl,w2,by rw[d8];exact w3.app⟩) (by simp;omega)
  have hm':=w.imm
  have w':=zb9 (hp:=hp) (l:=l) (a:=[3]++num vs.length++y46 (vs.take i)) (w4.trans y2h.app) (by simp;omega) w
  have hf:([3]++num vs.length++y46 (vs.take i))++enc (.mk k n s l')=3::(num vs.length++y46 (vs.take (i+1))):=by rw[hsp];simp
  rw[hf] at w'
  have hup:=zb hlt (by omega)
  rw[z3i] at e
  rcases hk with rfl | rfl | rfl
  ·simp[wrF,wrC] at e
   simp[hlt,hv,z3i,a1.appE,b1.appE,e,hm',hup]
   exact⟨_,_,_,_,_,_,_,⟨rfl,rfl,rfl,rfl,rfl,rfl,rfl⟩,w'⟩
  ·simp[wrF,wrC] at e
   simp[hlt,hv,z3i,a1.appE,b1.appE,e,hm',hup]
   exact⟨_,_,_,_,_,_,_,⟨rfl,rfl,rfl,rfl,rfl,rfl,rfl⟩,w'⟩
  ·simp[wrF,wrC] at e
   simp[hlt,hv,z3i,a1.appE,b1.appE,e,hm',hup]
   exact⟨_,_,_,_,_,_,_,⟨rfl,rfl,rfl,rfl,rfl,rfl,rfl⟩,w'⟩
 ·have:i=vs.length:=by omega
  subst this
  rw[aY] at wi
  simp
  simpa using wi

theorem zal:∀{l:List CV},yam l->∀ v ∈ l,fmd v
 |[],_,v,h=>by simp at h
 |w::l,hf,v,h=>by
  rw[yam] at hf
  rcases aw.1 h with rfl | h
  ·exact hf.1
  ·exact zal hf.2 v h
theorem zy3{k n:Int}{s:List UInt8}{l:List CV}(h:fmd (.mk k n s l)):k=1\/k=2\/k=3:=by
 rw[fmd] at h
 rcases h with⟨h,_⟩ | ⟨h,_⟩ | ⟨h,_⟩ <;> simp[h]

theorem yag:∀(m:Nat) (v:CV),sizeOf v<=m->fmd v->∀ k n s l,v=.mk k n s l->y8f v k:=by
 intro m
 induction m with
 |zero=>
  intro v hm
  cases v
  simp at hm
 |succ m ih=>
  intro v hm hf k n s l hv
  subst hv
  have hf':=hf
  rw[fmd] at hf'
  rcases hf' with⟨rfl,hn,rfl,rfl⟩ | ⟨rfl,rfl,rfl⟩ | ⟨rfl,rfl,rfl,hl⟩
  ·intro C A B hp sp l W hA hB hl R hC
   exact s298 l n hn (by omega) R hC
  ·intro C A B hp sp l' W hA hB hl R hC
   have he:enc (.mk 2 0 s [])=2::(num s.length++s):=by rw[enc,if_neg (by decide),if_pos rfl]
   rw[he] at hl
   exact s299 l' s (by simp at hl;omega) R hC
  ·have q:∀ k' n' s' l',CV.mk k' n' s' l' ∈ l->(k'=1\/k'=2\/k'=3)/\y8f (.mk k' n' s' l') k':=fun k' n' s' l' hmem=>⟨zy3 (zal hl _ hmem),by
    have h1:=jD hmem
    have h2:sizeOf (CV.mk k' n' s' l')<=m:=by
     rw[CV.mk.sizeOf_spec] at hm
     omega
    intro C A B hp sp
    exact ih _ h2 (zal hl _ hmem) k' n' s' l' rfl⟩
   intro C A B hp sp
   exact s300 l q

theorem zgz:∀{l:List CV} {v:CV},v ∈ l->dep v<=y6v l
 |[],v,h=>by simp at h
 |w::l,v,h=>by
  rw[y6v]
  rcases aw.1 h with rfl | h
  ·exact Nat.le_max_left _ _
  ·exact aG (zgz h) (Nat.le_max_right _ _)
theorem ztj{hp:List Obj}:∀(m:Nat) (v:CV),fmd v->dep v<=m->∀ n,2*m+2<=n->frz hp n (dV v)=some (dV v):=by
 intro m
 induction m with
 |zero=>
  intro v hf hd n hn
  obtain⟨n,rfl⟩:∃ j,n=j+2:=⟨n - 2,by omega⟩
  obtain⟨k,x,s,l⟩:=v
  rw[fmd] at hf
  rw[dep] at hd
  rcases hf with⟨rfl,_,rfl,rfl⟩ | ⟨rfl,rfl,rfl⟩ | ⟨rfl,_⟩
  ·rw[z3i];rfl
  ·rw[z3i];rfl
  ·simp at hd
 |succ m ih=>
  intro v hf hd n hn
  obtain⟨n,rfl⟩:∃ j,n=j+3:=⟨n - 3,by omega⟩
  obtain⟨k,x,s,l⟩:=v
  rw[fmd] at hf
  rw[dep] at hd
  rcases hf with⟨rfl,_,rfl,rfl⟩ | ⟨rfl,rfl,rfl⟩ | ⟨rfl,rfl,rfl,hl⟩
  ·rw[z3i];rfl
  ·rw[z3i];rfl
  ·rw[if_pos rfl] at hd
   have e:y1y (frz hp (n+1)) (l.map dV)=some (l.map dV):=z17 fun v hv=>ih v (zal hl v hv) (by have:=zgz hv;omega) (n+1) (by omega)
   rw[z3i]
   have hs:frz hp (n+2) (.str [])=some (.str []):=rfl
   simp only[zai,z4q,z7w,hs,z6d,e,ao,z8,z90]

theorem zox{l:List CV}{i:Nat}(h:i<l.length):y6v (l.take (i+1))=Nat.max (y6v (l.take i)) (dep l[i]):=by
 induction l generalizing i with
 |nil=>simp at h
 |cons v l ih=>
  cases i with
  |zero=>simp[y6v]
  |succ i=>
   simp only[az] at h
   simp only[fJ,y6v,List.getElem_cons_succ]
   rw[ih (by omega)]
   exact(Nat.max_assoc _ _ _).symm

theorem zil:∀{l:List CV} {v:CV},v ∈ l->(enc v).length<=(y46 l).length
 |[],v,h=>by simp at h
 |w::l,v,h=>by
  rw[y46,ar]
  rcases aw.1 h with rfl | h
  ·omega
  ·have:=zil h
   omega
structure y66(v:CV):Prop where
 f:fmd v
 d:dep v<=4
 n:(enc v).length<=800000000000
theorem y66.len{k n:Int}{s:List UInt8}{l:List CV}(h:y66 (.mk k n s l)):s.length<=800000000000/\l.length<=800000000000:=by
 have hf:=h.f
 have hn:=h.n
 rw[fmd] at hf
 rcases hf with⟨rfl,_,rfl,rfl⟩ | ⟨rfl,rfl,rfl⟩ | ⟨rfl,rfl,rfl,hl⟩
 ·simp
 ·rw[enc,if_neg (by decide),if_pos rfl] at hn
  simp at hn ⊢;omega
 ·rw[enc,if_neg (by decide),if_neg (by decide)] at hn
  have:=zda l
  simp at hn ⊢;omega
theorem y66.sub{n:Int}{s:List UInt8}{l:List CV}(h:y66 (.mk 3 n s l)){v:CV}(hv:v ∈ l):y66 v:=by
 have hf:=h.f
 have hn:=h.n
 have hd:=h.d
 rw[fmd] at hf
 rw[dep,if_pos rfl] at hd
 rcases hf with⟨h3,_⟩ | ⟨h3,_⟩ | ⟨_,rfl,rfl,hl⟩
 ·omega
 ·omega
 ·rw[enc,if_neg (by decide),if_neg (by decide)] at hn
  have:=zil hv
  have:=zgz hv
  exact⟨zal hl v hv,by omega,by simp at hn;omega⟩
theorem zd5{hp:List Obj}{v:CV}(h:y66 v):frz hp 12 (dV v)=some (dV v):=ztj 4 v h.f h.d 12 (by decide)

theorem r297:∀(m:Nat) (v:CV),sizeOf v<=m->y66 v->y17 E (dL E) 297 [dV v]=some (.tup [dI (dep v),.bool true]):=by
 intro m
 induction m with
 |zero=>intro v hm;cases v;simp at hm
 |succ m ih=>
  intro v hm hf
  obtain⟨k,n,s,l⟩:=v
  have hf':=hf.f
  have hz:=zd5 (hp:=[]) hf
  refine zg c297 (by simp) ?_
  rw[fmd] at hf'
  rw[z3i]
  rcases hf' with⟨rfl,hn,rfl,rfl⟩ | ⟨rfl,rfl,rfl⟩ | ⟨rfl,rfl,rfl,hl⟩
  ·by_cases h0:n=0 <;> simp[t297,n297,h0,dep]
  ·by_cases h0:s=[] <;> simp[t297,n297,h0,dep]
  ·have hd:y6v l<=3:=by have:=hf.d;rw[dep,if_pos rfl] at this;omega
   have hln:=hf.len.2
   have hdw:aC.wrap ((y6v l:Int)+1)=(y6v l:Int)+1:=za ⟨by omega,by omega⟩
   by_cases hb:((l.length:Int) == 0)=true
   all_goals
    simp[t297,n297,dep,hb]
    refine zr l.length (fun i env h=>∃(x0 x1 x3 x4 x5 x6 x7 x8 x9 x10 x14 x15 x16 x17:D) ,env=[x0,x1,dI (y6v (l.take i)),x3,x4,x5,x6,x7,x8,x9,x10,.imm .none (l.map dV),dI l.length,dI i,x14,x15,x16,x17]) 0 (by omega) ?_ ?_
    ·exact⟨_,_,_,_,_,_,_,_,_,_,_,_,_,_,rfl⟩
    rintro i env h hi ⟨x0,x1,x3,x4,x5,x6,x7,x8,x9,x10,x14,x15,x16,x17,rfl⟩
    by_cases hlt:i<l.length
    ·have hv:=hf.sub (aF hlt)
     have e:=ih l[i] (by have:=jD (aF hlt);rw[CV.mk.sizeOf_spec] at hm;omega) hv
     have hz':=zd5 (hp:=[]) hv
     have hup:=zb hlt (by omega)
     obtain⟨k,n,s,l',hq⟩:∃ k n s l',l[i]=CV.mk k n s l':=by
      cases h:l[i] with
      |mk k n s l'=>exact⟨k,n,s,l',rfl⟩
     have hdt:=zox hlt
     rw[hq] at e hz' hdt
     rw[z3i] at e hz'
     simp[hlt,hq,z3i,e,hz',hup]
     rw[hdt]
     simp only[Nat.max_def]
     split <;> split <;> omega
    ·have:i=l.length:=by omega
     subst this
     simp[hdw]

theorem z4d{E:Env}{cP:Nat->List D->Option D}{cS cY:Nat->List D->List Obj->Option (D × List Obj)}{hp:List Obj}{id:Nat}{g:Opd->D}{f:Opd}:yd E cP cS cY id g hp (.call 4 f [])=(match g f with | .fn k caps=>ob (y1y (frz [] depth) caps) (fun vs=>y63 cS k vs hp) | _=>none):=by
 simp only[yd,DOp.fin,ym]
 cases g f <;> try rfl
 rename_i k caps
 simp only[]
 cases y1y (frz [] depth) caps <;> rfl

theorem s282(hp:List Obj):y1n E (dL E) 282 [] hp=some (.loc hp.length 0,hp++[.cells [.nilfn,.fn 298 [],.fn 299 [],.fn 300 [.loc (hp.length+1) 0]],.cells [.loc hp.length 0]]):=by
 have:∃ d hp',y1n E (dL E) 282 [] hp=some (d,hp')/\(d=.loc hp.length 0/\hp'=hp++[.cells [.nilfn,.fn 298 [],.fn 299 [],.fn 300 [.loc (hp.length+1) 0]],.cells [.loc hp.length 0]]):=by
  refine z2q c282 (args:=[]) (hp:=hp) (R:=fun d hp'=>d=.loc hp.length 0/\hp'=hp++[.cells [.nilfn,.fn 298 [],.fn 299 [],.fn 300 [.loc (hp.length+1) 0]],.cells [.loc hp.length 0]]) (by simp) ?_
  simp[t282,n282]
 obtain⟨d,hp',e,rfl,rfl⟩:=this
 exact e
theorem r281{v:CV}(h:y66 v):y17 E (dL E) 281 [dV v]=some (dI 0):=by
 have e:=r297 (sizeOf v) v (af _) h
 have hz:=zd5 (hp:=[]) h
 obtain⟨k,n,s,l⟩:=v
 refine zg c281 (by simp) ?_
 have hd:=h.d
 rw[z3i] at e hz ⊢
 simp[t281,n281,e,hz]
 omega
theorem r264{v:CV}(h:y66 v):y17 E (dL E) 264 [dV v]=some (.tup [dBy (enc v),dI 0]):=by
 have e:=r281 h
 have hz:=zd5 (hp:=[]) h
 have e2:=s282 (ah 11 .dead)
 have hf:=h.f
 have hn:=h.n
 obtain⟨k,n,s,l⟩:=v
 have hk:=zy3 hf
 obtain⟨d,h5,e5,w⟩:=yag (sizeOf (CV.mk k n s l)) (.mk k n s l) (af _) hf k n s l rfl (C:=13) (A:=11) (B:=12) (sp:=.exact) (hp:=ah 11 .dead++[.cells [.nilfn,.fn 298 [],.fn 299 [],.fn 300 [.loc 12 0]],.cells [.loc 11 0]]) []
  ⟨by simp[At],by simp[At]⟩ (by omega) (by omega) (by simpa using hn) (.inl rfl) (by simp)
 have hm:=w.imm
 obtain⟨tk,rfl,w2,w3,w4,w5⟩:=w
 rw[bh] at w3 hm e5
 have hfz:∀ l:List UInt8,y1y (frz h5 10) (l.map yc)=some (l.map yc):=fun l=>z17 fun x _=>rfl
 refine zg c264 (by simp) ?_
 rw[z3i] at e hz e5 ⊢
 simp at e2
 rcases hk with rfl | rfl | rfl
 ·simp[wrF,wrC] at e5
  simp[t264,n264,e,hz,z4d,y63,e2,e5,hfz,y14]
 ·simp[wrF,wrC] at e5
  simp[t264,n264,e,hz,z4d,y63,e2,e5,hfz,y14]
 ·simp[wrF,wrC] at e5
  simp[t264,n264,e,hz,z4d,y63,e2,e5,hfz,y14]

abbrev xI(n:Int):D:=.agg [dI 1,dI n,.str [],.imm .exact []]
theorem zs8{n:Int}:dV (cI n)=.agg [dI 1,dI n,.str [],.imm .none []]:=by unfold cI;rw[z3i];rfl
theorem zy0{hp:List Obj}{k:Nat}{n:Int}:frz hp (k+2) (xI n)=some (dV (cI n)):=by rw[zs8];rfl
def is4(x:D):Prop:=x.storable=true/\x.cellsL.length=4
theorem zb1{l new:List D}(h:l.length+new.length<=1000000)(hl:∀ x,x ∈ l->is4 x):y3f E 55 l new:=by
 refine⟨?_,?_,?_,?_⟩
 all_goals simp[yj]
 ·omega
 ·unfold y2q
  rw[ax]
  intro x hx
  obtain⟨h1,h2⟩:=hl x hx
  simp[h1,h2]
def Lx(vs:List Int)(i:Nat):List D:=(vs.take i).map xI
theorem zwr{vs:List Int}:Lx vs 0=[]:=rfl
theorem zyk{vs:List Int}:Lx vs vs.length=vs.map xI:=by unfold Lx;rw[aY]
theorem zyj{vs:List Int}{i:Nat}(h:i<=vs.length):(Lx vs i).length=i:=by unfold Lx;rw[aH,aS];omega
theorem Lx_s{vs:List Int}{i:Nat}(h:i<vs.length):Lx vs (i+1)=Lx vs i++[xI vs[i]]:=by unfold Lx;rw[aM h,bR];rfl
theorem zth{l:List Int}:∀ x,x ∈ l.map xI->is4 x:=by
 intro x hx
 obtain⟨n,_,rfl⟩:=aV.1 hx
 exact⟨rfl,rfl⟩

def LstI(hp:List Obj)(vs:List Int)(d:D)(hp':List Obj):Prop:=
 ∃ sp,d=.agg [dI 3,dI 0,.str [],.imm sp (vs.map xI)]/\y8h hp.length hp' sp vs.length 4/\y2h hp.length hp.length hp hp'/\hp.length<=hp'.length

theorem s366(vs:List Int)(sp0:y1a)(hp:List Obj)(hv:vs.length<=100000):∃ d hp',y1n E (dL E) 366 [.imm sp0 (vs.map dI)] hp=some (d,hp')/\LstI hp vs d hp':=by
 refine z2q c366 (args:=[.imm sp0 (vs.map dI)]) (hp:=hp) (R:=LstI hp vs) (by simp) ?_
 simp[t366,n366]
 refine zr vs.length (fun i env h=>∃(x3 x7 x8:D) (sp:y1a),env=[.imm sp0 (vs.map dI),.loc hp.length 0,.loc (hp.length+1) 0,x3,.imm sp0 (vs.map dI),dI vs.length,dI i,x7,x8] /\
  At h hp.length (.cells [dI 0,dI 0,.str [],.imm .exact []])/\At h (hp.length+1) (.cells [dI 3,dI 0,.str [],.imm sp (Lx vs i)])/\y8h (hp.length+2) h sp i 4/\y2h hp.length hp.length hp h/\hp.length+2<=h.length) 0 (by omega) ?_ ?_
 ·rw[zwr]
  exact⟨_,_,_,.exact,rfl,by simp[At],by simp[At],.inl rfl,y2h.app,by simp⟩
 rintro i env h hi ⟨x3,x7,x8,sp,rfl,a1,a2,R,k,hlen⟩
 have hL:(Lx vs i).length=i:=zyj hi
 by_cases hlt:i<vs.length
 ·have hup:=zb hlt (by omega)
  have hap:∀ x:D,y3f E 55 (Lx vs i) [x]:=fun x=>zb1 (by rw[hL];simp;omega) zth
  have hsp:=Lx_s hlt
  have h1:hp.length+1<h.length:=by omega
  rcases R with rfl | ⟨q,rfl,hq,hq2⟩
  ·simp[hlt,hup,a2.eq,a2.appE,zx,z1g,hap,hL]
   refine⟨a1.app.ne (by omega),.tok h.length,by rw[hsp];exact At.self (by simp;omega),.inr ⟨h.length,rfl,by omega,?_⟩,(k.trans y2h.app).trans (y2h.set (.inr (by omega))),by omega⟩
   exact At.ne (by simp[At]) (by omega)
  ·have hq3:=hq2.eq
   have a2':=a2.ne (j:=q) (x:=Obj.dead) (by omega)
   have a1':=a1.ne (j:=q) (x:=Obj.dead) (by omega)
   simp[hlt,hup,a2.eq,a2'.appE,zx,z1u,hap,hL,hq3]
   refine⟨a1'.app.ne (by omega),.tok h.length,by rw[hsp];exact At.self (by simp;omega),.inr ⟨h.length,rfl,by omega,?_⟩,((k.trans (y2h.set (.inr (by omega)))).trans y2h.app).trans (y2h.set (.inr (by omega))),by omega⟩
   exact At.ne (by simp[At]) (by omega)
 ·have:i=vs.length:=by omega
  subst this
  rw[zyk] at a2
  have h0:hp.length<h.length:=by omega
  have a3:∀ o,(h.set hp.length o)[hp.length]? = some o:=fun o=>At.self h0
  simp[a1.eq,a2.eq,a3]
  refine⟨sp,rfl,?_,k.trans (y2h.set (.inr (by omega))),by simp;omega⟩
  rcases R with rfl | ⟨q,rfl,hq,hq2⟩
  ·exact .inl rfl
  ·exact .inr ⟨q,rfl,by omega,hq2.ne (by omega)⟩

theorem zic{A:Type}{f:D->Option D}{g g':A->D}:∀{l:List A},(∀ x,x ∈ l->f (g x)=some (g' x))->y1y f (l.map g)=some (l.map g')
 |[],_=>rfl
 |x::l,h=>by
  rw[au,au,z4q,h x (by simp),zic fun y hy=>h y (by simp[hy])];rfl
theorem zvz{vs:List Int}:dV (cL (vs.map cI))=.agg [dI 3,dI 0,.str [],.imm .none (vs.map fun n=>dV (cI n))]:=by
 unfold cL;rw[z3i,f7];rfl
theorem r366(vs:List Int)(hv:vs.length<=100000):y17 E (dL E) 366 [.imm .none (vs.map dI)]=some (dV (cL (vs.map cI))):=by
 obtain⟨d,hp',e,sp,rfl,_⟩:=s366 vs .none [] hv
 unfold y17
 have hk:E.keep 366=false:=rfl
 have hz:frz hp' depth (.agg [dI 3,dI 0,.str [],.imm sp (vs.map xI)])=some (dV (cL (vs.map cI))):=by
  have:y1y (frz hp' 10) (vs.map xI)=some (vs.map fun n=>dV (cI n)):=zic fun n _=>zy0
  rw[zvz]
  show frz hp' 12 _=_
  have hs:frz hp' 11 (.str [])=some (.str []):=rfl
  simp[this,hs]
 simp[e,hk]
 exact hz

def ybz(a b:Ent):Int:=orI [y4p a.kind b.kind,y4p a.idx b.idx]
theorem r362(a b:Ent):y17 E (dL E) 362 [y2v a.kind a.idx,y2v b.kind b.idx]=some (dI (ybz a b)):=by
 have h1:=r74 a.kind b.kind
 have h2:=r74 a.idx b.idx
 have h3:=yd0 [y4p a.kind b.kind,y4p a.idx b.idx] (by simp)
 simp only[y2k,au,aO] at h3
 refine zg c362 (by simp) ?_
 simp[t362,n362,h1,h2,h3]
 try rfl
theorem zp3{a b:Ent}:ybz a b<0 ↔ ltA a b:=by
 unfold ybz ltA y4p
 simp only[orI]
 repeat' split
 all_goals omega

theorem zxv{P:Prop}[Decidable P]{b:Bool}:(if P then some (D.bool true) else some (D.bool b))=some (D.bool (decide P || b)):=by
 by_cases h:P <;> simp[h]
theorem zno{a b:Bool}:ybw (.bool a) (some (.bool true)) (some (.bool b))=some (.bool (a || b)):=by
 cases a <;> rfl

def ybv(l:List Ent)(i:Nat):Prop:=(∀ j,∀ h:j<l.length,j<i->y6s l[j]) /\ ∀ j,∀ h:j+1<l.length,j+1<i->ltA l[j] l[j+1]
theorem zmx{l:List Ent}:ybv l 0:=⟨fun _ _ h=>absurd h (by omega),fun _ _ h=>absurd h (by omega)⟩
theorem zqq{l:List Ent}(h:ybv l l.length):(∀ x,x ∈ l->y6s x)/\yd2 l:=by
 refine⟨fun x hx=>?_,fun j hj=>h.2 j hj hj⟩
 obtain⟨j,hj,rfl⟩:=List.mem_iff_getElem.1 hx
 exact h.1 j hj hj
theorem ztg{l:List Ent}{i:Nat}(hi:i<l.length)(h:ybv l i)(hx:y6s l[i])(ho:∀ h:0<i,ltA (l[i - 1]'(by omega)) l[i]):ybv l (i+1):=by
 constructor
 ·intro j hj hji
  by_cases e:j=i
  ·subst e;exact hx
  ·exact h.1 j hj (by omega)
 ·intro j hj hji
  by_cases e:j+1=i
  ·subst e
   exact ho (by omega)
  ·exact h.2 j hj (by omega)
theorem ztb{l:List Ent}{i:Nat}(h:i<l.length):y5a (l.take (i+1))=y5a (l.take i)+l[i].amt:=by
 rw[aM h,zfp];simp[y5a]
theorem zut{l:List Ent}{i:Nat}(h:ybv l i):i<=l.length -> -(i*1099511627776:Int)<=y5a (l.take i)/\y5a (l.take i)<=(i*1099511627776:Int):=by
 induction i with
 |zero=>intro _;simp[y5a]
 |succ i ih=>
  intro hi
  have h1:=ih ⟨fun j hj hji=>h.1 j hj (by omega),fun j hj hji=>h.2 j hj (by omega)⟩ (by omega)
  have h2:=h.1 i hi (by omega)
  rw[ztb hi]
  obtain⟨_,_,_,h3,h4⟩:=h2
  push_cast
  omega
theorem zct{p:Pst}(h : ¬ fmP p):y5w p=410:=by unfold y5w;rw[if_neg h]

theorem yev(p:Pst)(h32:p.prev.length=32)(hl:p.ents.length<=1000000):y17 E (dL E) 355 [y4b p]=some (dI (y5w p)):=by
 refine zg c355 (by simp) ?_
 obtain⟨no,minute,corrects,ents,prev⟩:=p
 simp only at h32 hl
 simp[t355,n355,h32,zxv,zno]
 split
 ·rename_i hb
  rw[zct]
  rintro⟨h1,h2,h3,⟨h4,h5,h6,h7⟩⟩
  simp only at h1 h2 h3 h4 h5
  omega
 rename_i hg
 refine zr ents.length (fun i env h=>∃(x0 x2 x4 x5 x6 x10 x11 x12 x13 x14:D) ,env=[x0,.iptr (dI no::dI minute::dI corrects :: .imm .none (ents.map y18)::prev.map yc),x2,dI (y5a (ents.take i)),x4,x5,x6,.imm .none (ents.map y18),dI ents.length,dI i,x10,x11,x12,x13,x14]/\ybv ents i) 0 (by omega) ?_ ?_
 ·exact⟨_,_,_,_,_,_,_,_,_,_,rfl,zmx⟩
 rintro i env h hi ⟨x0,x2,x4,x5,x6,x10,x11,x12,x13,x14,rfl,ok⟩
 by_cases hlt:i<ents.length
 ·have hup:=zb hlt (by omega)
  have hbad : ¬ y6s ents[i]->y5w { no:=no,minute:=minute,corrects:=corrects,ents:=ents,prev:=prev }=410:=fun hx=>zct fun f=>hx (f.ents.ok _ (aF hlt))
  have hs:=ztb hlt
  have hsb:=zut ok hi
  simp[hlt,hup,zxv,zno]
  split
  ·rename_i hb
   refine(hbad fun hx=>?_).symm
   obtain⟨h1,h2,h3,h4,h5⟩:=hx
   omega
  rename_i hb
  have hx:y6s ents[i]:=⟨by omega,by omega,by omega,by omega,by omega⟩
  have hsw:aC.wrap (y5a (ents.take i)+ents[i].amt)=y5a (ents.take (i+1)):=by
   rw[hs]
   refine za ⟨?_,?_⟩ <;> omega
  by_cases h0:i=0
  ·have ok':=ztg hlt ok hx (fun h=>absurd h (by omega))
   subst h0
   simp at hsw
   have h1:aC.wrap 1=1:=by decide
   simp[hsw,h1,hlt]
   exact ok'
  ·have hw:aC.wrap ((i:Int) - 1)=((i - 1:Nat):Int):=by rw[za ⟨by omega,by omega⟩];omega
   have hlt':i - 1<ents.length:=by omega
   have h0':0<i:=by omega
   have hc:=r362 ents[i - 1] ents[i]
   by_cases hq:ltA ents[i - 1] ents[i]
   ·have ok':=ztg hlt ok hx (fun _=>hq)
    have hn : ¬ 0<=ybz ents[i - 1] ents[i]:=by have:=zp3.2 hq;omega
    simp[h0',hw,hlt',hc,hn,hsw,hup]
    exact ok'
   ·have hn:0<=ybz ents[i - 1] ents[i]:=by
     by_cases h:ybz ents[i - 1] ents[i]<0
     ·exact absurd (zp3.1 h) hq
     ·omega
    simp[h0',hw,hlt',hc,hn]
    refine(zct fun f=>hq ?_).symm
    have:=f.ents.ord (i - 1) (by simp only;omega)
    simp only[show i - 1+1=i from by omega] at this
    exact this
 ·have:i=ents.length:=by omega
  subst this
  rw[aY]
  obtain⟨o1,o2⟩:=zqq ok
  have hf:fmP { no:=no,minute:=minute,corrects:=corrects,ents:=ents,prev:=prev }:=⟨by simp only;omega,by simp only;omega,by simp only;omega,by simp only;omega,by simp only;omega,o1,o2⟩
  unfold y5w
  rw[if_pos hf]
  by_cases h0:y5a ents=0 <;> simp[h0]

def Le(l:List Ent)(i:Nat):List D:=(l.take i).map fun x=>dV (y5y x)
theorem zws{l:List Ent}:Le l 0=[]:=rfl
theorem zym{l:List Ent}:Le l l.length=l.map fun x=>dV (y5y x):=by unfold Le;rw[aY]
theorem zyl{l:List Ent}{i:Nat}(h:i<=l.length):(Le l i).length=i:=by unfold Le;rw[aH,aS];omega
theorem Le_s{l:List Ent}{i:Nat}(h:i<l.length):Le l (i+1)=Le l i++[dV (y5y l[i])]:=by unfold Le;rw[aM h,bR];rfl
theorem Le_4{l:List Ent}{i:Nat}:∀ x,x ∈ Le l i->is4 x:=by
 intro x hx
 obtain⟨e,_,rfl⟩:=aV.1 hx
 constructor
 ·rw[y5y,cL,z3i];rfl
 ·rw[y5y,cL,z3i];rfl

theorem At.dif{hp:List Obj}{i j:Nat}{a b:Obj}(h:At hp i a)(h':At hp j b)(hn:a ≠ b):i ≠ j:=by
 rintro rfl
 unfold At at h h'
 rw[h] at h'
 exact hn (ce h')
theorem zy2{hp:List Obj}{n:Nat}{l:List Ent}(h:∀ x,x ∈ l->i64 x.kind/\i64 x.idx/\i64 x.amt):y1y (frz hp (n+4)) (Le l l.length)=some (l.map fun x=>dV (y5y x)):=by
 rw[zym]
 exact z17 fun x hx=>ztj 1 (y5y x) (zod (h x hx)) (by rw[zow];omega) (n+4) (by omega)
theorem zy8{p:Pst}:dV (ya4 p)=.agg [dI 3,dI 0,.str [],.imm .none [dV (cI p.no),dV (cI p.minute),dV (cI p.corrects),.agg [dI 3,dI 0,.str [],.imm .none (p.ents.map fun x=>dV (y5y x))],.agg [dI 2,dI 0,.str p.prev,.imm .none []]]]:=by
 unfold ya4 cL cT
 rw[z3i]
 simp only[au,aO,z3i,f7]
 rfl
theorem zoe{p:Pst}(h:yd5 p)(hl:p.ents.length<=1000000)(h32:p.prev.length=32):y66 (ya4 p):=by
 have:=zik h hl (by omega)
 unfold y8t at this
 exact⟨zvr h,by have:=zvx (p:=p);omega,by omega⟩
theorem z9m{l:List UInt8}(h:l.length=32):y1b E 73 (.iptr (l.map yc)) none none none=some (.imm .none (l.map yc)):=by
 unfold y1b
 simp[h,bnd]
 rw[bq (by simp[h])]

noncomputable def yfk(p:Pst):D:=if y5w p=0 then .tup [dBy (y8t p),dI 0] else .tup [.imm .none [],dI (y5w p)]

theorem z29:∀(n k:Nat) (cs:List D),cs.length=k+n->y1x cs k n=some (cs.drop k)
 | 0,k,cs,h=>by rw[y1x,jo (by omega)]
 |n+1,k,cs,h=>by
  have hk:k<cs.length:=by omega
  rw[y1x,z29 n (k+1) cs (by omega),ae hk,bH hk]
theorem znt{p:Pst}(h32:p.prev.length=32):y7f E 71 (.iptr (dI p.no::dI p.minute::dI p.corrects :: .imm .none (p.ents.map y18)::p.prev.map yc))=some (y4b p):=by
 rw[zad]
 have e:=z29 36 0 (dI p.no::dI p.minute::dI p.corrects :: .imm .none (p.ents.map y18)::p.prev.map yc) (by simp[h32])
 rw[show(E.ty 71).size=36 from rfl,e]
 rfl
theorem zh{hp:List Obj}{n:Nat}{l:List UInt8}:y1y (frz hp (n+1)) (l.map yc)=some (l.map yc):=z17 fun x _=>rfl
theorem z27{hp:List Obj}{n:Nat}{l:List Ent}:y1y (frz hp (n+2)) (l.map y18)=some (l.map y18):=z17 fun x _=>rfl
theorem zvp{hp:List Obj}{n:Nat}{p:Pst}:frz hp (n+5) (y4b p)=some (y4b p):=by
 show frz hp (n+5) (.agg _)=_
 rw[zai]
 simp only[z4q,z7w,z6d,z27,ao,z8,zh]

theorem zvw{hp r:List Obj}{k:Nat}{o:Obj}(h:At r k o)(hk:hp.length<=k):At (hp++r.drop hp.length) k o:=by
 unfold At at h ⊢
 rw[aD hk,ca]
 rw[show hp.length+(k - hp.length)=k from by omega]
 exact h
theorem ycg(vs:List Int)(sp0:y1a)(hp:List Obj)(hv:vs.length<=100000):∃ d sp r,y63 (y1n E (dL E)) 366 [.imm sp0 (vs.map dI)] hp=some (d,hp++r)/\d=.agg [dI 3,dI 0,.str [],.imm sp (vs.map xI)]/\y8h hp.length (hp++r) sp vs.length 4:=by
 obtain⟨d,h',e,sp,rfl,R,k,hl⟩:=s366 vs sp0 (ah hp.length .dead) hv
 rw[ep] at R k hl
 refine⟨_,sp,h'.drop hp.length,?_,rfl,?_⟩
 ·unfold y63
  rw[e]
  rfl
 ·rcases R with rfl | ⟨q,rfl,hq,hq2⟩
  ·exact .inl rfl
  ·exact .inr ⟨q,rfl,hq,zvw hq2 hq⟩

theorem r334(p:Pst)(h32:p.prev.length=32)(hl:p.ents.length<=1000000):y17 E (dL E) 334 [y4b p]=some (yfk p):=by
 refine zg c334 (by simp) ?_
 have h355:=yev p h32 hl
 unfold yfk
 obtain⟨no,minute,corrects,ents,prev⟩:=p
 simp only at h32 hl
 have hil:=znt (p:={ no:=no,minute:=minute,corrects:=corrects,ents:=ents,prev:=prev }) h32
 simp only at hil
 by_cases hg:y5w { no:=no,minute:=minute,corrects:=corrects,ents:=ents,prev:=prev }=0
 ·rw[if_pos hg]
  rw[hg] at h355
  obtain⟨d1,sp1,r1,e1,rfl,R1⟩:=ycg [no,minute,corrects] .none [] (by simp)
  obtain⟨d2,sp2,r2,e2,rfl,R2⟩:=ycg [] .none r1 (by simp)
  have g1:=(z44.1 hg).fm
  have hln:ents.length<=4096:=g1.ents.most
  rw[bh] at e1 R1
  have S1:∃ G:List Obj,G=r1++r2 /\ ∀ k,sp1=.tok k->At G k (.tok 12 4)/\k<r1.length:=⟨_,rfl,fun k hk=>by
   rcases R1 with rfl | ⟨q,rfl,_,hq⟩
   ·cases hk
   ·cases hk
    exact⟨At.app hq,At.lt hq⟩⟩
  have R1':sp1=.exact \/ ∃ k,sp1=.tok k:=by
   rcases R1 with h | ⟨q,h,_⟩
   ·exact .inl h
   ·exact .inr ⟨q,h⟩
  obtain⟨G,hG,T⟩:=S1
  rw[<- hG] at e2 R2
  have hG1:r1.length<=G.length:=by rw[hG];simp
  clear hG R1
  simp at e1 e2 R2
  have w1:∀ x y:Obj,(G++[x,y])[G.length+1]? = some y:=fun x y=>by simp
  have w2:∀ x y z:Obj,(G++[x,y]).set (G.length+1) z=G++[x,z]:=fun x y z=>by simp
  simp[t334,n334,h32,h355,z6o,↓hil,z27,zh,e1,e2,↓w1,↓w2]
  refine zr ents.length (fun i env h=>∃(x0 x2 x3 x4 x7 x8 x9 x10 x14 x15 x16 x17 x18:D) (sp:y1a),env=[x0,.iptr (dI no::dI minute::dI corrects :: .imm .none (ents.map y18)::prev.map yc),x2,x3,x4,.loc G.length 0,.loc (G.length+1) 0,x7,x8,x9,x10,.imm .none (ents.map y18),dI ents.length,dI i,x14,x15,x16,x17,x18] /\
   At h G.length (.cells [dI 3,dI 0,.str [],.imm sp1 [xI no,xI minute,xI corrects]])/\At h (G.length+1) (.cells [dI 3,dI 0,.str [],.imm sp (Le ents i)])/\(∀ k,sp1=.tok k->At h k (.tok 12 4))/\y8h r1.length h sp i 4/\G.length+2<=h.length) 0 (by omega) ?_ ?_
  ·refine⟨_,_,_,_,_,_,_,_,_,_,_,_,_,sp2,rfl,by simp[At],by simp[At,zws],fun k hk=>(T k hk).1.app,?_,by simp⟩
   rcases R2 with h | ⟨q,h,hq,hq2⟩
   ·exact .inl h
   ·exact .inr ⟨q,h,hq,hq2.app⟩
  rintro i env h hi ⟨x0,x2,x3,x4,x7,x8,x9,x10,x14,x15,x16,x17,x18,sp,rfl,a1,a2,T1,T3,hlen⟩
  have hL:(Le ents i).length=i:=zyl hi
  by_cases hlt:i<ents.length
  ·have hup:=zb hlt (by omega)
   have e4:=r366 [ents[i].kind,ents[i].idx,ents[i].amt] (by simp)
   simp only[au,aO] at e4
   have hap:∀ x:D,y3f E 55 (Le ents i) [x]:=fun x=>zb1 (by rw[hL];simp;omega) Le_4
   have hv:dV (cL [cI ents[i].kind,cI ents[i].idx,cI ents[i].amt])=dV (y5y ents[i]):=rfl
   have h4:is4 (dV (y5y ents[i])):=Le_4 (l:=ents) (i:=i+1) _ (by rw[Le_s hlt];simp)
   have hsp:=Le_s hlt
   have nt:∀(i:Nat) (l:List D) (a b:Nat),Obj.tok a b ≠ .cells l:=fun _ _ _ _ e=>by cases e
   have T2:∀ k,sp1=.tok k->k<r1.length:=fun k hk=>(T k hk).2
   have T4:∀ k,sp1=.tok k->k<h.length/\k ≠ G.length/\k ≠ G.length+1:=fun k hk=>⟨(T1 k hk).lt,(T1 k hk).dif a1 (nt 0 _ _ _),(T1 k hk).dif a2 (nt 0 _ _ _)⟩
   rcases T3 with rfl | ⟨q,rfl,hq,hq2⟩
   ·have a3:∀ X o,((h++X).set (h.length+1+13) o)[G.length+1]? = some (.cells [dI 3,dI 0,.str [],.imm .exact (Le ents i)]):=fun X o=>(a2.app (r:=X)).ne (by omega)
    simp[hlt,hup,a2.appE,zx,z1g,hap,hL,e4,hv,h4.1,h4.2,↓a3]
    refine⟨((a1.app).ne (by omega)).ne (by omega),.tok (h.length+1+13),by rw[hsp];exact At.self (by simp;omega),fun k hk=>?_,.inr ⟨_,rfl,by omega,?_⟩,by omega⟩
    ·obtain⟨k1,k2,k3⟩:=T4 k hk
     exact(((T1 k hk).app).ne (by omega)).ne (by omega)
    ·exact(At.self (by simp)).ne (by omega)
   ·have q1:q ≠ G.length:=hq2.dif a1 (nt 0 _ _ _)
    have q2:q ≠ G.length+1:=hq2.dif a2 (nt 0 _ _ _)
    have hq3:∀ X,(h++X)[q]? = some (.tok (i*4) 4):=fun X=>hq2.app (r:=X)
    have hql:=hq2.lt
    have a2':At (h.set q .dead) (G.length+1) (.cells [dI 3,dI 0,.str [],.imm (.tok q) (Le ents i)]):=a2.ne (by omega)
    have a1':=a1.ne (j:=q) (x:=.dead) (by omega)
    have a3:∀ X o,((h.set q .dead++X).set (h.length+1+13) o)[G.length+1]? = some (.cells [dI 3,dI 0,.str [],.imm (.tok q) (Le ents i)]):=fun X o=>(a2'.app (r:=X)).ne (by omega)
    have hs:∀ X o,(h++X).set q o=h.set q o++X:=fun X o=>z1s hql
    simp[hlt,hup,a2.appE,zx,z1u,hap,hL,e4,hv,h4.1,h4.2,↓a3,hq3,↓hs]
    refine⟨((a1'.app).ne (by omega)).ne (by omega),.tok (h.length+1+13),by rw[hsp];exact At.self (by simp;omega),fun k hk=>?_,.inr ⟨_,rfl,by omega,?_⟩,by omega⟩
    ·obtain⟨k1,k2,k3⟩:=T4 k hk
     have:=T2 k hk
     exact((((T1 k hk).ne (by omega)).app).ne (by omega)).ne (by omega)
    ·exact(At.self (by simp)).ne (by omega)
  ·have:i=ents.length:=by omega
   subst this
   have hap:∀ x y:D,y3f E 55 [xI no,xI minute,xI corrects] [x,y]:=fun x y=>zb1 (by simp) fun z hz=>zth (l:=[no,minute,corrects]) z hz
   have hsl:=z9m h32
   have hi64:=znw g1
   have hz:=zy2 (hp:=[]) (n:=4) hi64.ents
   have hst:∀ n s,frz [] (n+1) (.str s)=some (.str s):=fun _ _=>rfl
   have e64:=r264 (zoe hi64 hl h32)
   rw[zy8,zs8,zs8,zs8] at e64
   simp only at hz e64
   have hGl:G.length<h.length:=by omega
   have hr:∀(X:List Obj) (o:Obj),((h++X).set G.length o)[G.length]? = some o:=fun X o=>At.self (by simp;omega)
   rcases R1' with rfl | ⟨k1,rfl⟩
   ·simp[a1.appE,a2.appE,hsl,zdj,zx,z1g,hap,↓hr,hz,hst,e64,zh]
    rfl
   ·have hk:=(T1 k1 rfl)
    have hk1:k1 ≠ G.length:=hk.dif a1 (fun e=>by cases e)
    have hkl:=hk.lt
    have hk2:∀ X:List Obj,(h++X)[k1]? = some (.tok 12 4):=fun X=>hk.app (r:=X)
    have hs:∀(X:List Obj) (o:Obj),(h++X).set k1 o=h.set k1 o++X:=fun X o=>z1s hkl
    have a1':=a1.ne (j:=k1) (x:=.dead) (by omega)
    have hw:∀ X:List Obj,(h.set k1 .dead++X)[G.length]? = some (.cells [dI 3,dI 0,.str [],.imm (.tok k1) [xI no,xI minute,xI corrects]]):=fun X=>a1'.app (r:=X)
    have hr':∀(X:List Obj) (o:Obj),((h.set k1 .dead++X).set G.length o)[G.length]? = some o:=fun X o=>At.self (by simp;omega)
    simp[a1.appE,a2.appE,hsl,zdj,zx,z1u,hap,↓hk2,↓hs,hw,↓hr',hz,hst,e64,zh]
    rfl
 ·rw[if_neg hg]
  simp[t334,n334,h32,h355,hg,↓hil,z27,zh]

abbrev Wd:=BitVec 32
abbrev dW(w:Wd):D:=.int .u32 (w.toNat:Int)
theorem z5n(m:Int):dF.wrap m=m % 4294967296:=by simp[fS,fT,fh]
theorem zdh:dF.bits=32:=rfl
theorem zjq{w:Wd}:cg 32 (w.toNat:Int)=w:=by simp
theorem zua{a b:Wd}:dF.wrap ((a.toNat:Int)+b.toNat)=((a+b).toNat:Nat):=by
 rw[z5n,gT];omega
theorem yc6{w:Wd}:w.toNat<4294967296:=w.isLt
theorem zu9{w:Wd}:((w.toNat:Nat):Int) % 4294967296=w.toNat:=by have:=yc6 (w:=w);omega
theorem zu7{a b:Wd}:y8l .u32 (a.toNat:Int) b.toNat=((a ^^^ b).toNat:Nat):=by
 unfold y8l
 rw[z5n,show dF.bits=32 from rfl,zjq,zjq,zu9]
theorem yda{a b:Wd}:ybl .u32 (a.toNat:Int) b.toNat=((a &&& b).toNat:Nat):=by
 unfold ybl
 rw[z5n,show dF.bits=32 from rfl,zjq,zjq,zu9]
theorem yd9{a b:Wd}:yak .u32 (a.toNat:Int) b.toNat=((a ||| b).toNat:Nat):=by
 unfold yak
 rw[z5n,show dF.bits=32 from rfl,zjq,zjq,zu9]
theorem zx2{a:Wd}{n:Nat}(h:n<=32):dF.wrap ((a.toNat:Int)*2 ^ (min n 32))=((a <<< n).toNat:Nat):=by
 rw[z5n,gC,Nat.shiftLeft_eq,bI h]
 have e:(a.toNat:Int)*2 ^ n=((a.toNat*2 ^ n:Nat):Int):=by rw[Int.natCast_mul,jg];rfl
 rw[e,show(2:Nat) ^ 32=4294967296 from rfl]
 omega
theorem zu8{a:Wd}{n:Nat}(h:n<=32):(a.toNat:Int).fdiv (2 ^ (min n 32))=((a >>> n).toNat:Nat):=by
 rw[f9,Nat.shiftRight_eq_div_pow,bI h,dt _ (jE (by decide)),kX,jg]
 rfl

def y87(x:Wd)(s:Nat):Wd:=(x <<< s) ||| (x >>> (32 - s))
theorem zx8(k:Int):ybl .u64 (bv.wrap k) 31=k % 32:=by
 unfold ybl
 rw[z28,z28,show bv.bits=64 from rfl]
 have:(cg 64 (k % 18446744073709551616) &&& cg 64 31).toNat=(k % 18446744073709551616).toNat % 32:=by
  rw[kY]
  have h1:(cg 64 31).toNat=31:=by decide
  rw[h1]
  have h2:(cg 64 (k % 18446744073709551616)).toNat=(k % 18446744073709551616).toNat:=by
   rw[BitVec.toNat_ofInt]
   show((k % 18446744073709551616) % 18446744073709551616).toNat=_
   omega
  rw[h2]
  exact Nat.and_two_pow_sub_one_eq_mod _ 5
 rw[this]
 omega

theorem yb1(x:Wd)(k:Int)(h:i64 k):y17 E (dL E) 406 [dW x,dI k]=some (dW (y87 x (k % 32).toNat)):=by
 refine zg c406 (by simp) ?_
 have e:=zx8 k
 obtain⟨s,hs⟩:∃ s:Nat,k % 32=s:=⟨(k % 32).toNat,by omega⟩
 have hs32:s<32:=by omega
 rw[hs] at e ⊢
 have hw:bv.wrap (32 - (s:Int))=((32 - s:Nat):Int):=by rw[z28];omega
 have e1:=zx2 (a:=x) (n:=s) (by omega)
 have e2:=zu8 (a:=x) (n:=32 - s) (by omega)
 have e3:=yd9 (a:=x <<< s) (b:=x >>> (32 - s))
 rw[bI (by omega)] at e1 e2
 have m1:min s 32=s:=bI (by omega)
 have m2:min (32 - s) 32=32 - s:=bI (by omega)
 simp[t406,n406,y3o,zdh,e,hw,m1,m2,e1,e2,e3,-gC,-f9,-jh]
 rfl

theorem r407(x:Wd)(a b c:Int)(ha:0<=a/\a<=100)(hb:0<=b/\b<=100)(hc:0<=c/\c<=100) :
  y17 E (dL E) 407 [dW x,dI a,dI b,dI c]=some (dW (y87 x (-a % 32).toNat ^^^ y87 x (-b % 32).toNat ^^^ y87 x (-c % 32).toNat)):=by
 refine zg c407 (by simp) ?_
 have e1:=yb1 x (-a) ⟨by omega,by omega⟩
 have e2:=yb1 x (-b) ⟨by omega,by omega⟩
 have e3:=yb1 x (-c) ⟨by omega,by omega⟩
 have h1:aC.wrap (-a) = -a:=za ⟨by omega,by omega⟩
 have h2:aC.wrap (-b) = -b:=za ⟨by omega,by omega⟩
 have h3:aC.wrap (-c) = -c:=za ⟨by omega,by omega⟩
 simp[t407,n407,e1,e2,e3,h1,h2,h3,zu7,-iY]

def y96(b:List UInt8)(n:Nat):Wd:=(b.take n).foldl (fun w c=>(w <<< 8) ||| iZ 32 c.toNat) 0
theorem zwy{b:List UInt8}{n:Nat}(h:n<b.length):y96 b (n+1)=(y96 b n <<< 8) ||| iZ 32 b[n].toNat:=by
 unfold y96
 rw[aM h,gx];rfl

theorem zi7{l:List UInt8}:y5h 1 (l.map yc)=true:=by cases l <;> rfl
theorem zhl{b:List UInt8}{i:Nat}(h:i<=b.length):y1b E 30 (.imm .none (b.map yc)) none (some (dI i)) none=some (.imm .none ((b.take i).map yc)):=by
 unfold y1b
 simp[bnd]
 exact⟨⟨h,zi7⟩,by unfold y27;simp⟩
theorem z21{E:Env}{cP:Nat->List D->Option D}{env:List D}{hp:List Obj}{a t:Nat}{d:D}{x:Xp}:xv E cP env hp (.n (.slice t (.t a) none (some (.c d)) none) (.cons a x .nil))=ob (xv E cP env hp x) fun u=>y1b E t u none (some d) none:=by
 simp only[xv,xvs]
 cases xv E cP env hp x <;> try rfl
 simp only[ya,gOf,kv,if_true,z8]
 exact zz

theorem r405(b:List UInt8)(h:4<=b.length):y17 E (dL E) 405 [.imm .none (b.map yc)]=some (dW (y96 b 4)):=by
 refine zg c405 (by simp) ?_
 have e:=zhl h
 have hl:((b.take 4).map yc).length=4:=by simp;omega
 have e:y1b E 30 (.imm .none (b.map yc)) none (some (.int .i64 4)) none=some (.imm .none ((b.take 4).map yc)):=e
 simp[t405,n405,e,z21]
 rw[bI h]
 refine zr 4 (fun i env h=>∃(x0 x2 x6:D) ,env=[x0,dW (y96 b i),x2,.imm .none ((b.map yc).take 4),dI 4,dI i,x6]) 0 (by omega) ?_ ?_
 ·exact⟨_,_,_,rfl⟩
 rintro i env hp hi ⟨x0,x2,x6,rfl⟩
 by_cases hlt:i<4
 ·have hup:=zb hlt (by omega)
  have hib:i<b.length:=by omega
  have hs:=zwy hib
  have e1:=zx2 (a:=y96 b i) (n:=8) (by omega)
  have hc:b[i].toNat<256:=b[i].toNat_lt
  have e2:dF.wrap (b[i].toNat:Int)=((iZ 32 b[i].toNat).toNat:Nat):=by
   rw[z5n,ku];omega
  have e3:=yd9 (a:=y96 b i <<< 8) (b:=iZ 32 b[i].toNat)
  have hi4:(i:Int)<4:=by omega
  rw[bI (by omega)] at e1
  have e1:dF.wrap (((y96 b i).toNat:Int)*256)=((y96 b i <<< 8).toNat:Nat):=e1
  simp[hi4,hlt,hup,y3o,zdh,e1,e2,e3,hs,hib,-gC,-jh,-ku]
 ·have:i=4:=by omega
  subst this
  simp

def y6h(m:List UInt8)(off n v:Nat):Nat->List UInt8
 | 0=>m
 |i+1=>(y6h m off n v i).set (off+(n - 1 - i)) (b8 (v / 2 ^ (8*i)))
theorem z5p{m:List UInt8}{off n v:Nat}:∀{i:Nat},(y6h m off n v i).length=m.length
 | 0=>rfl
 |i+1=>by rw[y6h,bl,z5p]
theorem zm1(m:Int):jV.wrap m=m % 256:=by simp[fS,fT,fh]
theorem zqi{v i:Nat}(h:i<8):jV.wrap ((v:Int).fdiv (2 ^ (min (8*i) 64)))=((b8 (v / 2 ^ (8*i))).toNat:Nat):=by
 rw[zm1,bI (by omega),dt _ (jE (by decide)),kr]
 have e:(v:Int) / 2 ^ (8*i)=((v / 2 ^ (8*i):Nat):Int):=by rw[kX,jg];rfl
 rw[e]
 omega

theorem z6p{hp:List Obj}{id:Nat}{o:Obj}(h:At hp id o):hp.set id o=hp:=by
 apply List.ext_getElem?
 intro j
 by_cases hj:j=id
 ·subst hj
  rw[aT h.lt]
  exact h.symm
 ·rw[a8 (by omega)]

def Bys(hp:List Obj)(id:Nat)(m:List UInt8):Prop:=At hp id (.cells (m.map yc))

theorem ycx{hp:List Obj}{id off n:Nat}{gr:Bool}{m:List UInt8}(v:Nat)(hv:v<18446744073709551616)(hn:n<=8)(ho:off+n<=m.length)(B:Bys hp id m) :
  ∃ d hp',y1n E (dL E) 383 [.sl id off n 1 false gr,.int .u64 v] hp=some (d,hp')/\(d=.tup []/\hp'=hp.set id (.cells ((y6h m off n v n).map yc))):=by
 refine z2q c383 (args:=[.sl id off n 1 false gr,.int .u64 v]) (hp:=hp) (R:=fun d hp'=>d=.tup []/\hp'=hp.set id (.cells ((y6h m off n v n).map yc))) (by simp) ?_
 have hid:=At.lt B
 simp[t383,n383]
 refine zr n (fun i env h=>∃(x2 x5:D) ,env=[.sl id off n 1 false gr,.int .u64 v,x2,dI n,dI i,x5]/\h=hp.set id (.cells ((y6h m off n v i).map yc))) 0 (by omega) ?_ ?_
 ·refine⟨_,_,rfl,?_⟩
  rw[y6h]
  exact(z6p B).symm
 rintro i env h hi ⟨x2,x5,rfl,rfl⟩
 have hset:∀ o:Obj,(hp.set id o)[id]? = some o:=fun o=>At.self hid
 by_cases hlt:i<n
 ·have hup:=zb hlt (by omega)
  have hb:=zqi (v:=v) (i:=i) (by omega)
  have h1:aC.wrap ((n:Int) - 1)=(n:Int) - 1:=za ⟨by omega,by omega⟩
  have h2:aC.wrap ((n:Int) - 1 - i)=((n - 1 - i:Nat):Int):=by rw[za ⟨by omega,by omega⟩];omega
  have h3:aC.wrap (8*(i:Int))=((8*i:Nat):Int):=by rw[za ⟨by omega,by omega⟩];omega
  have h4:(n - 1 - i:Nat)<n:=by omega
  have h5:off+(n - 1 - i)+1<=m.length:=by omega
  have h0:(8*(i:Int)).toNat=8*i:=by omega
  have h6:off+(n - 1 - i)<(y6h m off n v i).length:=by rw[z5p];omega
  have h8:(0:Int)<=8*(i:Int):=by omega
  simp[hlt,hup,hset,z3r,y3o,h1,h2,h3,h4,h5,hb,h0,h8,z5p,y6h]
  have hbe:yc (b8 (v / 2 ^ (8*i)))=.int .u8 ((v:Int) / 2 ^ (8*i) % 256):=by
   show D.int .u8 ((b8 (v / 2 ^ (8*i))).toNat:Int)=_
   rw[<- hb,zm1,bI (by omega),dt _ (jE (by decide))]
  rw[hbe]
 ·have:i=n:=by omega
  subst this
  simp

def y97(b:List UInt8):Nat->List Wd
 | 0=>ah 64 0
 |i+1=>(y97 b i).set i (y96 (b.drop (4*i)) 4)
theorem z8s{b:List UInt8}:∀{i:Nat},(y97 b i).length=64
 | 0=>by simp[y97]
 |i+1=>by rw[y97,bl,z8s]
def sg0(x:Wd):Wd:=y87 x 25 ^^^ y87 x 14 ^^^ (x >>> 3)
def sg1(x:Wd):Wd:=y87 x 15 ^^^ y87 x 13 ^^^ (x >>> 10)
def y3w(b:List UInt8):Nat->List Wd
 | 0=>y97 b 16
 |k+1=>(y3w b k).set (k+16) ((y3w b k).getD k 0+sg0 ((y3w b k).getD (k+1) 0)+(y3w b k).getD (k+9) 0+sg1 ((y3w b k).getD (k+14) 0))
theorem z6l{b:List UInt8}:∀{i:Nat},(y3w b i).length=64
 | 0=>z8s
 |i+1=>by rw[y3w,bl,z6l]

def Wds(hp:List Obj)(id:Nat)(m:List Wd):Prop:=At hp id (.cells (m.map dW))

def ybb:List Wd:=[1116352408,1899447441,3049323471,3921009573,961987163,1508970993,2453635748,2870763221,3624381080,310598401,607225278,1426881987,1925078388,2162078206,2614888103,3248222580,3835390401,4022224774,264347078,604807628,770255983,1249150122,1555081692,1996064986,2554220882,2821834349,2952996808,3210313671,3336571891,3584528711,113926993,338241895,666307205,773529912,1294757372,1396182291,1695183700,1986661051,2177026350,2456956037,2730485921,2820302411,3259730800,3345764771,3516065817,3600352804,4094571909,275423344,430227734,506948616,659060556,883997877,958139571,1322822218,1537002063,1747873779,1955562222,2024104815,2227730452,2361852424,2428436474,2756734187,3204031479,3329325298]
theorem zi3:ybb.length=64:=rfl
theorem zfj{E:Env}{cP:Nat->List D->Option D}{env:List D}{hp:List Obj}{b t:Nat}{d:D}{x:Xp}:xv E cP env hp (.n (.iaddr t (.c d) (.t b)) (.cons b x .nil))=ob (xv E cP env hp x) fun u=>y3d E t d u:=by
 simp only[xv,xvs]
 cases xv E cP env hp x <;> try rfl
 simp only[ya,gOf,kv,if_true,z8]
 exact zz
def ybc(i:Nat):List D:=(ybb.map dW).drop i
theorem yfb{i:Nat}(h:i<64):y3d E 80 (.iptr [.int .u32 1116352408,.int .u32 1899447441,.int .u32 3049323471,.int .u32 3921009573,.int .u32 961987163,.int .u32 1508970993,.int .u32 2453635748,.int .u32 2870763221,.int .u32 3624381080,.int .u32 310598401,.int .u32 607225278,.int .u32 1426881987,.int .u32 1925078388,.int .u32 2162078206,.int .u32 2614888103,.int .u32 3248222580,.int .u32 3835390401,.int .u32 4022224774,.int .u32 264347078,.int .u32 604807628,.int .u32 770255983,.int .u32 1249150122,.int .u32 1555081692,.int .u32 1996064986,.int .u32 2554220882,.int .u32 2821834349,.int .u32 2952996808,.int .u32 3210313671,.int .u32 3336571891,.int .u32 3584528711,.int .u32 113926993,.int .u32 338241895,.int .u32 666307205,.int .u32 773529912,.int .u32 1294757372,.int .u32 1396182291,.int .u32 1695183700,.int .u32 1986661051,.int .u32 2177026350,.int .u32 2456956037,.int .u32 2730485921,.int .u32 2820302411,.int .u32 3259730800,.int .u32 3345764771,.int .u32 3516065817,.int .u32 3600352804,.int .u32 4094571909,.int .u32 275423344,.int .u32 430227734,.int .u32 506948616,.int .u32 659060556,.int .u32 883997877,.int .u32 958139571,.int .u32 1322822218,.int .u32 1537002063,.int .u32 1747873779,.int .u32 1955562222,.int .u32 2024104815,.int .u32 2227730452,.int .u32 2361852424,.int .u32 2428436474,.int .u32 2756734187,.int .u32 3204031479,.int .u32 3329325298]) (.int .i64 (i:Int))=some (.iptr (ybc i)):=by
 have e:(ybb.map dW)=[.int .u32 1116352408,.int .u32 1899447441,.int .u32 3049323471,.int .u32 3921009573,.int .u32 961987163,.int .u32 1508970993,.int .u32 2453635748,.int .u32 2870763221,.int .u32 3624381080,.int .u32 310598401,.int .u32 607225278,.int .u32 1426881987,.int .u32 1925078388,.int .u32 2162078206,.int .u32 2614888103,.int .u32 3248222580,.int .u32 3835390401,.int .u32 4022224774,.int .u32 264347078,.int .u32 604807628,.int .u32 770255983,.int .u32 1249150122,.int .u32 1555081692,.int .u32 1996064986,.int .u32 2554220882,.int .u32 2821834349,.int .u32 2952996808,.int .u32 3210313671,.int .u32 3336571891,.int .u32 3584528711,.int .u32 113926993,.int .u32 338241895,.int .u32 666307205,.int .u32 773529912,.int .u32 1294757372,.int .u32 1396182291,.int .u32 1695183700,.int .u32 1986661051,.int .u32 2177026350,.int .u32 2456956037,.int .u32 2730485921,.int .u32 2820302411,.int .u32 3259730800,.int .u32 3345764771,.int .u32 3516065817,.int .u32 3600352804,.int .u32 4094571909,.int .u32 275423344,.int .u32 430227734,.int .u32 506948616,.int .u32 659060556,.int .u32 883997877,.int .u32 958139571,.int .u32 1322822218,.int .u32 1537002063,.int .u32 1747873779,.int .u32 1955562222,.int .u32 2024104815,.int .u32 2227730452,.int .u32 2361852424,.int .u32 2428436474,.int .u32 2756734187,.int .u32 3204031479,.int .u32 3329325298]:=rfl
 rw[<- e,zkn (m:=64) (e:=78) rfl,if_pos ⟨by omega,by omega⟩]
 rw[show(E.ty 78).size=1 from rfl,d8,cz]
 rfl
theorem yfa{i:Nat}{h:List Obj}(hi:i<64):yx E h 78 (.iptr (ybc i))=some (dW (ybb.getD i 0)):=by
 have hl:i<(ybb.map dW).length:=by rw[aH,zi3];exact hi
 unfold ybc
 rw[bH hl,gQ,aj,ae (by rw[zi3];exact hi)]
 rfl
theorem sl_1{q:Nat}:y1b E 77 (.loc q 0) (some (.int .i64 1)) none none=some (.sl q 1 7 1 false false):=rfl
theorem sl_7{q:Nat}:y1b E 77 (.loc q 0) none (some (.int .i64 7)) none=some (.sl q 0 7 1 false false):=rfl
theorem cp8{H:List Obj}{q:Nat}{d0 d1 d2 d3 d4 d5 d6 d7:Wd}(h:H[q]? = some (.cells [dW d0,dW d1,dW d2,dW d3,dW d4,dW d5,dW d6,dW d7])):y69 E H 81 81 (.sl q 1 7 1 false false) (.sl q 0 7 1 false false)=some (.int .i64 7,H.set q (.cells [dW d0,dW d0,dW d1,dW d2,dW d3,dW d4,dW d5,dW d6])):=by
 unfold y69
 simp[h,y15,yw,y31,y1x,yk]
 rfl
def rnd(w:List Wd)(i:Nat)(v:List Wd):List Wd:=match v with
 |[a,b,c,d,e,f,g,h]=>
  let t:=h+(y87 e 26 ^^^ y87 e 21 ^^^ y87 e 7)+(g ^^^ (e &&& (f ^^^ g)))+ybb.getD i 0+w.getD i 0
  [t+((y87 a 30 ^^^ y87 a 19 ^^^ y87 a 10)+((a &&& b) ||| (c &&& (a ||| b)))),a,b,c,d+t,e,f,g]
 |v=>v
def ya3(w:List Wd)(v:List Wd):Nat->List Wd
 | 0=>v
 |i+1=>rnd w i (ya3 w v i)
theorem ycj{l:List Wd}(h:l.length=8):∃ a b c d e f g k,l=[a,b,c,d,e,f,g,k]:=by
 match l,h with
 |[a,b,c,d,e,f,g,k],_=>exact⟨a,b,c,d,e,f,g,k,rfl⟩
theorem zv1{w:List Wd}{i:Nat}{v:List Wd}(h:v.length=8):(rnd w i v).length=8:=by
 obtain⟨a,b,c,d,e,f,g,k,rfl⟩:=ycj h
 rfl
theorem zcp{w v:List Wd}(h:v.length=8):∀{i:Nat},(ya3 w v i).length=8
 | 0=>h
 |i+1=>zv1 (zcp h)

theorem y2h.wk{i C:Nat}{hp hp':List Obj}(h:y2h C C hp hp'):y2h i C hp hp':=fun J h1 h2 h3=>h J h1 (fun hp j o hj hk=>h2 hp j o hj (by rcases hk with rfl | hk;exact .inr (af _);exact .inr hk)) h3
def Blk(st:Nat)(hp:List Obj)(x:D)(b:List UInt8):Prop:=∀ i:Nat,i<16->∃ y,y1b E 30 x (some (dI (4*(i:Int)))) none none=some y /\ ∀ h,y2h st hp.length hp h->frz h 12 y=some (dBy (b.drop (4*i)))
theorem zvq{l:List UInt8}{h:List Obj}:frz h 12 (dBy l)=some (dBy l):=by rw[z6d,zh];rfl

def y82(s v:List Wd):Nat->List Wd
 | 0=>s
 |i+1=>(y82 s v i).set i ((y82 s v i).getD i 0+v.getD i 0)
theorem z97{s v:List Wd}:∀{i:Nat},(y82 s v i).length=s.length
 | 0=>rfl
 |i+1=>by rw[y82,bl,z97]
def y3s(s:List Wd)(b:List UInt8):List Wd:=y82 s (ya3 (y3w b 48) s 64) 8

theorem yeo{hp:List Obj}{st:Nat}{x:D}{b:List UInt8}{s:List Wd}(hs:s.length=8)(hb:64<=b.length)(S:Wds hp st s)(hx:Blk st hp x b) :
  ∃ d hp',y1n E (dL E) 404 [.loc st 0,x] hp=some (d,hp')/\(d=.tup []/\Wds hp' st (y3s s b)/\y2h st hp.length hp hp'/\hp.length<=hp'.length):=by
 refine z2q c404 (args:=[.loc st 0,x]) (hp:=hp) (R:=fun d hp'=>d=.tup []/\Wds hp' st (y3s s b)/\y2h st hp.length hp hp'/\hp.length<=hp'.length) (by simp) ?_
 have hid:=At.lt S
 simp[t404,n404]
 refine zr 16 (fun i env h=>∃(x3 x4 x5 x6 x7 x8 x9 x10 x11 x13 x14 x15 x16 x17 x18 x19 x20 x21:D) ,env=[.loc st 0,x,.loc hp.length 0,x3,x4,x5,x6,x7,x8,x9,x10,x11,dI i,x13,x14,x15,x16,x17,x18,x19,x20,x21]/\Wds h hp.length (y97 b i)/\y2h hp.length hp.length hp h) 0 (by omega) ?_ ?_
 ·refine⟨_,_,_,_,_,_,_,_,_,_,_,_,_,_,_,_,_,_,rfl,?_,y2h.app⟩
  unfold Wds y97
  simp[At]
 rintro i env h hi ⟨x3,x4,x5,x6,x7,x8,x9,x10,x11,x13,x14,x15,x16,x17,x18,x19,x20,x21,rfl,w1,w2⟩
 by_cases hlt:i<16
 ·have hi16:(i:Int)<16:=by omega
  have hup:=zb hlt (by omega)
  obtain⟨y,hy,hf⟩:=hx i hlt
  have hf:=hf h w2.wk
  have hw4:aC.wrap (4*(i:Int))=4*(i:Int):=za ⟨by omega,by omega⟩
  have hy:y1b E 30 x (some (.int .i64 (4*(i:Int)))) none none=some y:=hy
  have e:=r405 (b.drop (4*i)) (by simp;omega)
  have hi64:(i:Int)<64:=by omega
  have w1':h[hp.length]? = some (.cells ((y97 b i).map dW)):=w1
  have hl64:i+1<=(y97 b i).length:=by rw[z8s];omega
  have hhl:hp.length<h.length:=w1.lt
  have hst:y97 b (i+1)=(y97 b i).set i (y96 (b.drop (4*i)) 4):=rfl
  generalize hbb:b.drop (4*i)=bb at hf e hst
  have hl63:i<64:=by omega
  have hl65:i+1<=64:=by omega
  simp[hi16,hup,hw4,hy,hf,e,hi64,w1',z8s,hl63,hl65]
  refine⟨hlt,?_,w2.trans (y2h.set (.inr (af _)))⟩
  unfold Wds
  rw[hst,ia]
  exact At.self hhl
 have:i=16:=by omega
 subst this
 simp
 refine zr 48 (fun k env h=>∃(x3 x5 x6 x7 x8 x9 x10 x11 x12 x13 x14 x15 x16 x17 x18 x19 x20 x21:D) ,env=[.loc st 0,x,.loc hp.length 0,x3,dI ((k:Int)+16),x5,x6,x7,x8,x9,x10,x11,x12,x13,x14,x15,x16,x17,x18,x19,x20,x21]/\Wds h hp.length (y3w b k)/\y2h hp.length hp.length hp h) 0 (by omega) ?_ ?_
 ·exact⟨_,_,_,_,_,_,_,_,_,_,_,_,_,_,_,_,_,_,rfl,w1,w2⟩
 clear hi hlt w1 w2 h
 rintro k env h hi ⟨x3,x5,x6,x7,x8,x9,x10,x11,x12,x13,x14,x15,x16,x17,x18,x19,x20,x21,rfl,w1,w2⟩
 have hhl:hp.length<h.length:=w1.lt
 have w1':h[hp.length]? = some (.cells ((y3w b k).map dW)):=w1
 by_cases hlt:k<48
 ·have hk64:(k:Int)+16<64:=by omega
  have i15:aC.wrap ((k:Int)+16 - 15)=(k:Int)+1:=by rw[za ⟨by omega,by omega⟩];omega
  have i2:aC.wrap ((k:Int)+16 - 2)=(k:Int)+14:=by rw[za ⟨by omega,by omega⟩];omega
  have i16:aC.wrap ((k:Int)+16 - 16)=(k:Int):=by rw[za ⟨by omega,by omega⟩];omega
  have i7:aC.wrap ((k:Int)+16 - 7)=(k:Int)+9:=by rw[za ⟨by omega,by omega⟩];omega
  have i1:aC.wrap ((k:Int)+16+1)=(k:Int)+1+16:=by rw[za ⟨by omega,by omega⟩];omega
  have hst:y3w b (k+1)=(y3w b k).set (k+16) ((y3w b k).getD k 0+sg0 ((y3w b k).getD (k+1) 0)+(y3w b k).getD (k+9) 0+sg1 ((y3w b k).getD (k+14) 0)):=rfl
  have hgd:∀ j,j<64->(y3w b k)[j]? = some ((y3w b k).getD j 0):=fun j hj=>by rw[aj,ae (by rw[z6l];exact hj)];rfl
  have g0:=hgd k (by omega)
  have g1:=hgd (k+1) (by omega)
  have g9:=hgd (k+9) (by omega)
  have g14:=hgd (k+14) (by omega)
  have hlen:(y3w b k).length=64:=z6l
  clear hgd
  generalize (y3w b k).getD k 0=v0 at g0 hst
  generalize (y3w b k).getD (k+1) 0=v1 at g1 hst
  generalize (y3w b k).getD (k+9) 0=v9 at g9 hst
  generalize (y3w b k).getD (k+14) 0=v14 at g14 hst
  generalize y3w b k=W at g0 g1 g9 g14 hst hlen w1 w1'
  have b1:(0:Int)<=(k:Int)+1:=by omega
  have d1:(k:Int)+1<64:=by omega
  have t1:((k:Int)+1).toNat=k+1:=by omega
  have b14:(0:Int)<=(k:Int)+14:=by omega
  have d14:(k:Int)+14<64:=by omega
  have t14:((k:Int)+14).toNat=k+14:=by omega
  have b9:(0:Int)<=(k:Int)+9:=by omega
  have d9:(k:Int)+9<64:=by omega
  have t9:((k:Int)+9).toNat=k+9:=by omega
  have b16:(0:Int)<=(k:Int)+16:=by omega
  have d16:(k:Int)+16<64:=by omega
  have t16:((k:Int)+16).toNat=k+16:=by omega
  have d0:(k:Int)<64:=by omega
  have n16:k+16<64:=by omega
  have n17:k+16+1<=64:=by omega
  have wA:∀ r:List Obj,(h++r)[hp.length]? = some (.cells (W.map dW)):=fun r=>w1.app (r:=r)
  have r1:=yb1 v1 (-7) ⟨by decide,by decide⟩
  have r2:=yb1 v1 (-18) ⟨by decide,by decide⟩
  have r3:=yb1 v14 (-17) ⟨by decide,by decide⟩
  have r4:=yb1 v14 (-19) ⟨by decide,by decide⟩
  have sh3:∀ x:Wd,(x.toNat:Int).fdiv 8=((x >>> 3).toNat:Nat):=fun x=>zu8 (a:=x) (n:=3) (by omega)
  have sh10:∀ x:Wd,(x.toNat:Int).fdiv 1024=((x >>> 10).toNat:Nat):=fun x=>zu8 (a:=x) (n:=10) (by omega)
  have i0:aC.wrap (k:Int)=(k:Int):=za ⟨by omega,by omega⟩
  simp[hk64,i0,i15,i2,i16,i7,i1,w1',wA,g0,g1,g9,g14,hlen,r1,r2,r3,r4,b1,d1,t1,b14,d14,t14,b9,d9,t9,b16,t16,d0,n16,n17,zdh,sh3,sh10,zu7,zua,-iY,-gT,-f9]
  refine⟨hlt,?_,w2.trans (y2h.app.trans (y2h.set (.inr (af _))))⟩
  unfold Wds
  rw[hst,ia]
  exact At.self (by simp;omega)
 have:k=48:=by omega
 subst this
 have S':Wds h st s:=w2.at (by omega) hid S
 have S2:h[st]? = some (.cells (s.map dW)):=S'
 obtain⟨a0,a1,a2,a3,a4,a5,a6,a7,he⟩:=ycj hs
 rw[he] at S2
 simp at S2
 simp[S2]
 refine zr 64 (fun i env h'=>∃(x3 x4 x5 x6 x8 x9 x10 x11 x12 x13 x14 x15 x16 x18 x19 x20 x21:D) ,env=[.loc st 0,x,.loc hp.length 0,x3,x4,x5,x6,.loc h.length 0,x8,x9,x10,x11,x12,x13,x14,x15,x16,dI i,x18,x19,x20,x21]/\Wds h' hp.length (y3w b 48)/\Wds h' h.length (ya3 (y3w b 48) s i)/\y2h hp.length hp.length hp h'/\h.length<h'.length) 0 (by omega) ?_ ?_
 ·refine⟨_,_,_,_,_,_,_,_,_,_,_,_,_,_,_,_,_,rfl,w1.app,?_,w2.trans y2h.app,by simp⟩
  simp[Wds,At,ya3,he]
 rintro i env h' hi ⟨x3,x4,x5,x6,x8,x9,x10,x11,x12,x13,x14,x15,x16,x18,x19,x20,x21,rfl,v1,v2,v3,v4⟩
 by_cases hlt':i<64
 ·have hi64:(i:Int)<64:=by omega
  have hup:=zb hlt' (by omega)
  obtain⟨a,b',c,d,e,f,g,g',hr⟩:=ycj (zcp (w:=y3w b 48) (v:=s) (i:=i) hs)
  have hst:ya3 (y3w b 48) s (i+1)=rnd (y3w b 48) i (ya3 (y3w b 48) s i):=rfl
  rw[hr] at v2 hst
  have v1':∀ r:List Obj,(h'++r)[hp.length]? = some (.cells ((y3w b 48).map dW)):=fun r=>v1.app (r:=r)
  have v2':∀ r:List Obj,(h'++r)[h.length]? = some (.cells (([a,b',c,d,e,f,g,g']:List Wd).map dW)):=fun r=>v2.app (r:=r)
  have hw:(y3w b 48)[i]? = some ((y3w b 48).getD i 0):=by rw[aj,ae (by rw[z6l];exact hlt')];rfl
  have k1:=yfb hlt'
  have k2:=fun h:List Obj=>yfa (h:=h) hlt'
  have hlen:(y3w b 48).length=64:=z6l
  generalize hW:(y3w b 48).getD i 0=wi at hw
  generalize hK:ybb.getD i 0=ki at k2
  have q1:=r407 e 6 11 25 (by decide) (by decide) (by decide)
  have q2:=r407 a 2 13 22 (by decide) (by decide) (by decide)
  simp at v2'
  have hcp:=fun r:List Obj=>cp8 (v2' r)
  have hset:∀(r:List Obj) (o:Obj),((h'++r).set h.length o)[h.length]? = some o:=fun r o=>At.self (by simp;omega)
  simp[hi64,hup,v1',v2',hw,q1,q2,zfj,k1,k2,z21,sl_1,sl_7,↓hcp,↓hset,hlen,zu7,zua,yda,yd9,-iY,-gT,-kY,-jh]
  refine⟨hlt',v1.app.ne (by omega),?_,v3.trans (y2h.app.trans (y2h.set (.inr (by omega)))),by omega⟩
  unfold Wds
  rw[hst]
  simp only[rnd,hK,hW]
  exact At.self (by simp;omega)
 have:i=64:=by omega
 subst this
 simp
 have hvl:(ya3 (y3w b 48) s 64).length=8:=zcp hs
 unfold y3s at *
 generalize ya3 (y3w b 48) s 64=V at v2 hvl ⊢
 have v5:Wds h' st s:=v3.at (by omega) hid S
 refine zr 8 (fun i env h2=>∃(x1 x2 x3 x4 x5 x6 x8 x9 x10 x11 x12 x13 x14 x15 x16 x17 x18 x19 x21:D) ,env=[.loc st 0,x1,x2,x3,x4,x5,x6,.loc h.length 0,x8,x9,x10,x11,x12,x13,x14,x15,x16,x17,x18,x19,dI i,x21]/\Wds h2 h.length V/\Wds h2 st (y82 s V i)/\y2h st hp.length hp h2/\hp.length<=h2.length) 0 (by omega) ?_ ?_
 ·exact⟨_,_,_,_,_,_,_,_,_,_,_,_,_,_,_,_,_,_,_,rfl,v2,v5,v3.wk,by omega⟩
 clear hi hlt' v1 v2 v3 v5
 rintro i env h2 hi ⟨x1,x2,x3,x4,x5,x6,x8,x9,x10,x11,x12,x13,x14,x15,x16,x17,x18,x19,x21,rfl,v2,v5,v3,v6⟩
 by_cases hlt':i<8
 ·have hi8:(i:Int)<8:=by omega
  have hup:=zb hlt' (by omega)
  have g1:(y82 s V i)[i]? = some ((y82 s V i).getD i 0):=by rw[aj,ae (by rw[z97];omega)];rfl
  have g2:V[i]? = some (V.getD i 0):=by rw[aj,ae (by omega)];rfl
  have hst:y82 s V (i+1)=(y82 s V i).set i ((y82 s V i).getD i 0+V.getD i 0):=rfl
  have v2':∀ r:List Obj,(h2++r)[h.length]? = some (.cells (V.map dW)):=fun r=>v2.app (r:=r)
  have v5':∀ r:List Obj,(h2++r)[st]? = some (.cells ((y82 s V i).map dW)):=fun r=>v5.app (r:=r)
  have hal:(y82 s V i).length=8:=by rw[z97];exact hs
  have hi9:i+1<=8:=by omega
  have hi88:i<8:=hlt'
  have e1:(y82 s V i).getD i 0=(y82 s V i)[i]'(by omega):=by rw[aj,ae (by omega)];rfl
  have e2:V.getD i 0=V[i]'(by omega):=by rw[aj,ae (by omega)];rfl
  rw[e1,e2] at hst
  have v2l:=v2.lt
  have v5l:=v5.lt
  simp[hi8,hup,g1,g2,v2',v5',hal,hvl,hi9,hi88,zua,-gT]
  refine⟨v2.app.ne (by omega),?_,(v3.trans y2h.app).trans (y2h.set (.inl rfl)),by omega⟩
  unfold Wds
  rw[hst,ia]
  exact At.self (by simp;omega)
 ·have:i=8:=by omega
  subst this
  simp
  exact⟨v5,v3,v6⟩

theorem zte{b:List UInt8}{i:Nat}(h:i<=b.length):y1b E 30 (.imm .none (b.map yc)) (some (dI i)) none none=some (.imm .none ((b.drop i).map yc)):=by
 unfold y1b
 simp[bnd]
 exact⟨⟨h,zi7⟩,by unfold y27;simp,bq (by simp)⟩
theorem zw9{st:Nat}{hp:List Obj}{b:List UInt8}(h:64<=b.length):Blk st hp (.imm .none (b.map yc)) b:=fun i hi=>⟨.imm .none ((b.drop (4*i)).map yc),by
 have:=zte (b:=b) (i:=4*i) (by omega)
 exact this,fun h _=>zvq⟩
theorem z6h:∀(n:Nat) (l:List UInt8),n<=l.length->y31 1 false n (l.map yc)=some ((l.take n).map yc)
 | 0,l,_=>by simp[y31]
 |n+1,[],h=>by simp at h
 |n+1,c::l,h=>by
  have e:=z6h n l (by simp at h;omega)
  simp[y31,y1x,yk,e]
theorem ztt{st id off n:Nat}{gr:Bool}{hp:List Obj}{m:List UInt8}(B:Bys hp id m)(hid:id ≠ st)(hn:64<=n)(ho:off+n<=m.length):Blk st hp (.sl id off n 1 false gr) ((m.drop off).take n):=fun i hi=>⟨.sl id (off+4*i) (n - 4*i) 1 false false,by
  unfold y1b
  have h0:(0:Int)<=4*(i:Int):=by omega
  have h1:(4*(i:Int)).toNat=4*i:=by omega
  simp[bnd,h0,h1]
  omega,fun h k=>by
  have B':Bys h id m:=k.at hid B.lt B
  have B2:h[id]? = some (.cells (m.map yc)):=B'
  rw[zo5]
  simp only[B2,y9b]
  rw[z8,<- jW,z6h _ _ (by simp;omega),z8,zh,ao,List.drop_take,cb]⟩

def y8n:List Wd:=[1779033703,3144134277,1013904242,2773480762,1359893119,2600822924,528734635,1541459225]
def y4z(b:List UInt8):Nat->List Wd->List Wd
 | 0,s=>s
 |k+1,s=>y3s (y4z b k s) ((b.drop (64*k)).take 64)
theorem zhd{s:List Wd}{b:List UInt8}(h:s.length=8):(y3s s b).length=8:=by unfold y3s;rw[z97];exact h
theorem z4u{b:List UInt8}{s:List Wd}(h:s.length=8):∀{k:Nat},(y4z b k s).length=8
 | 0=>h
 |k+1=>zhd (z4u h)

theorem zlr{E:Env}{cP:Nat->List D->Option D}{env:List D}{hp:List Obj}{t:Nat}{d:D}:xv E cP env hp (.n (.load t (.c d)) .nil)=yx E hp t d:=by
 simp only[xv,xvs]
 simp only[ya,gOf]
 exact zz
theorem zvd{hp:List Obj}:yx E hp 76 (.iptr [.int .u32 1779033703,.int .u32 3144134277,.int .u32 1013904242,.int .u32 2773480762,.int .u32 1359893119,.int .u32 2600822924,.int .u32 528734635,.int .u32 1541459225])=some (.agg (y8n.map dW)):=rfl
theorem zux{b:List UInt8}(h:64<=b.length):y1b E 30 (.imm .none (b.map yc)) (some (.int .i64 64)) none none=some (.imm .none ((b.drop 64).map yc)):=zte (i:=64) h
theorem zuy{b:List UInt8}(h:64<=b.length):y1b E 30 (.imm .none (b.map yc)) none (some (.int .i64 64)) none=some (.imm .none ((b.take 64).map yc)):=zhl (i:=64) h
def z32:List UInt8:=ah 32 0
def y8k:List UInt8:=ah 128 0
def tl0(r:List UInt8):List UInt8:=r++ah (128 - r.length) 0
theorem zm3{r:List UInt8}(h:r.length<=128):(tl0 r).length=128:=by unfold tl0;rw[ar,ep];omega
theorem zd8:∀(l:List UInt8),yi (l.map yc)=l.map yc
 |[]=>rfl
 |c::l=>by
  have:=zd8 l
  simp only[au,yi,bN] at this ⊢
  rw[this];rfl
theorem yf5{h:List Obj}:y5b E h 30 (.int .i64 64) (.int .i64 128)=some (.sl h.length 0 64 1 false true,h++[.cells (y8k.map yc)]):=by
 have e:=zd8 y8k
 have e2:y8k.map yc=ah 128 (D.int .u8 0):=by unfold y8k;rw[ej];rfl
 rw[e2] at e ⊢
 unfold y5b
 simp only[show(E.ty 30).k=.slice 13 from rfl,show y20 E 13=some (D.int .u8 0) from rfl,show(E.ty 13).size=1 from rfl,show(E.ty 13).ag=false from rfl]
 rw[if_pos (by refine⟨by decide,by decide,by decide⟩)]
 rw[show((128:Int)).toNat=128 from rfl,e]
 rfl
theorem zt4{l:List UInt8}:(l.map yc).all (fun d=>d.storable && d.cellsL.length == 1)=true:=z7z
theorem yfm{H:List Obj}{id:Nat}{r:List UInt8}(B:Bys H id y8k)(h:r.length<64):y69 E H 30 30 (.sl id 0 64 1 false true) (.imm .none (r.map yc))=some (.int .i64 r.length,H.set id (.cells ((tl0 r).map yc))):=by
 have B2:H[id]? = some (.cells (y8k.map yc)):=B
 have hl:(y8k.map yc).length=128:=rfl
 have hm:Nat.min r.length 64=r.length:=bI (by omega)
 have hs:setCells (y8k.map yc) 0 (yi (r.map yc))=(tl0 r).map yc:=by
  rw[zd8]
  have e:y8k.map yc=(ah r.length (0:UInt8)).map yc++(ah (128 - r.length) (0:UInt8)).map yc:=by
   rw[<- bR,List.replicate_append_replicate]
   unfold y8k
   congr 2;omega
  rw[e,z1r (by simp),zo (by simp)]
  unfold tl0
  rw[bR]
 have hL:y15 H 1 false (.imm .none (r.map yc))=some (r.map yc):=by
  unfold y15
  simp only[zt4,if_true]
 unfold y69
 simp only[show(E.ty 30).k=.slice 13 from rfl,B2,show(E.ty 13).size=1 from rfl,show(E.ty 13).ag=false from rfl,hL,aH,hm]
 rw[if_pos ⟨trivial,by simp[y8k]⟩,bq (by simp),hs]

def tl1(r:List UInt8):List UInt8:=(tl0 r).set r.length 128
theorem zfo{r:List UInt8}(h:r.length<=128):(tl1 r).length=128:=by unfold tl1;rw[bl,zm3 h]
theorem rsl{h:List Obj}{r:List UInt8}(hr:r.length<=128):y2z E (h++[.cells ((tl1 r).map yc)]) 30 (.sl h.length 0 64 1 false true) (.int .i64 128)=some (.sl h.length 0 128 1 false true,h++[.cells ((tl1 r).map yc)]):=by
 have e:(h++[Obj.cells ((tl1 r).map yc)])[h.length]? = some (.cells ((tl1 r).map yc)):=by simp
 unfold y2z
 simp only[show(E.ty 30).k=.slice 13 from rfl,e,show(E.ty 13).size=1 from rfl,aH,zfo hr]
 rfl
theorem yem{q:Nat}:y1b E 30 (.sl q 0 64 1 false true) (some (.int .i64 56)) none none=some (.sl q 56 8 1 false false):=rfl
theorem zxf{q:Nat}:y1b E 30 (.sl q 0 128 1 false true) (some (.int .i64 120)) none none=some (.sl q 120 8 1 false false):=rfl
theorem ztf{q o l:Nat}{gr:Bool}(h:64<=l):y1b E 30 (.sl q o l 1 false gr) none (some (.int .i64 64)) none=some (.sl q o 64 1 false false):=by
 unfold y1b
 simp[bnd]
 omega
theorem ztd{q o l:Nat}{gr:Bool}(h:64<=l):y1b E 30 (.sl q o l 1 false gr) (some (.int .i64 64)) none none=some (.sl q (o+64) (l - 64) 1 false false):=by
 unfold y1b
 simp[bnd]
 omega
def rst(b:List UInt8)(k:Nat):List UInt8:=b.drop (64*k)
theorem yer{b:List UInt8}{k:Nat}:rst b (k+1)=(rst b k).drop 64:=by unfold rst;rw[cb];rfl
theorem zfy{b:List UInt8}{k:Nat}:(rst b k).length=b.length - 64*k:=by unfold rst;rw[du]

theorem z98{E:Env}{cP:Nat->List D->Option D}{env:List D}{hp:List Obj}{t a b c:Nat}{x y z:Xp}(h1:b ≠ a)(h2:c ≠ a)(h3:c ≠ b):xv E cP env hp (.n (.slice t (.t a) (some (.t b)) (some (.t c)) none) (.cons a x (.cons b y (.cons c z .nil))))=ob (xv E cP env hp x) fun u=>ob (xv E cP env hp y) fun v=>ob (xv E cP env hp z) fun w=>y1b E t u (some v) (some w) none:=by
 simp only[xv,xvs]
 cases xv E cP env hp x <;> try rfl
 cases xv E cP env hp y <;> try rfl
 cases xv E cP env hp z <;> try rfl
 simp only[ya,ao,Option.map_none,gOf,kv,z8,if_true,if_neg h1,if_neg h2,if_neg h3]
 exact zz
def y52(v:List Wd):Nat->List UInt8
 | 0=>z32
 |i+1=>y6h (y52 v i) (4*i) 4 (v.getD i 0).toNat 4
theorem z3o{v:List Wd}:∀{i:Nat},(y52 v i).length=32
 | 0=>rfl
 |i+1=>by rw[y52,z5p,z3o]
def y7v(b:List UInt8):List UInt8:=
 if 55<(rst b (b.length / 64)).length then y52 (y4z (y6h (tl1 (rst b (b.length / 64))) 120 8 (b.length*8) 8) 2 (y4z b (b.length / 64) y8n)) 8
 else y52 (y4z (y6h (tl1 (rst b (b.length / 64))) 56 8 (b.length*8) 8) 1 (y4z b (b.length / 64) y8n)) 8
theorem z73{H:List Obj}{m:List UInt8}(B:Bys H 0 m)(h:m.length=32):yx E H 73 (.loc 0 0)=some (.agg (m.map yc)):=by
 have B2:H[0]? = some (.cells (m.map yc)):=B
 have e:=z29 32 0 (m.map yc) (by simp[h])
 unfold yx
 simp only[yw,B2,show(E.ty 73).size=32 from rfl,e]
 rfl
theorem ztc{i:Nat}(h:i<8):y1b E 73 (.loc 0 0) (some (.int .i64 (4*(i:Int)))) (some (.int .i64 (4*(i:Int)+4))) none=some (.sl 0 (4*i) 4 1 false false):=by
 have h0:(0:Int)<=4*(i:Int):=by omega
 have h1:(4*(i:Int)).toNat=4*i:=by omega
 have h2:(0:Int)<=4*(i:Int)+4:=by omega
 have h3:(4*(i:Int)+4).toNat=4*i+4:=by omega
 unfold y1b
 simp only[show(E.ty 73).k=.arr 32 13 from rfl,bnd,if_pos h0,if_pos h2,h1,h3,show(E.ty 13).size=1 from rfl]
 rw[if_pos ⟨by omega,by omega⟩]
 simp

theorem r364(b:List UInt8)(hb:b.length<=1000000000):y17 E (dL E) 364 [dBy b]=some (y7i (y7v b)):=by
 refine zg c364 (by simp) ?_
 have hz:∀ x:List D,(D.agg (y8n.map dW)).cellsL=y8n.map dW:=fun _=>rfl
 simp[t364,n364,zlr,zvd]
 refine zr (b.length / 64) (fun k env h=>∃(x5 x6 x7 x8 x9 x10 x11 x12 x13 x14 x15 x16 x17 x18 x19 x20 x21:D) ,env=[dBy b,.loc 0 0,.loc 1 0,.bfn 404 (.loc 1 0),.imm .none ((rst b k).map yc),x5,x6,x7,x8,x9,x10,x11,x12,x13,x14,x15,x16,x17,x18,x19,x20,x21]/\Bys h 0 z32/\Wds h 1 (y4z b k y8n)/\2<=h.length) 0 (by omega) ?_ ?_
 ·refine⟨_,_,_,_,_,_,_,_,_,_,_,_,_,_,_,_,_,rfl,?_,?_,by simp⟩
  ·rfl
  ·rfl
 rintro k env h hi ⟨x5,x6,x7,x8,x9,x10,x11,x12,x13,x14,x15,x16,x17,x18,x19,x20,x21,rfl,B,W,hl⟩
 by_cases hlt:k<b.length / 64
 ·have hrl:64<=(rst b k).length:=by rw[zfy];omega
  have h64:(64:Int)<=(rst b k).length:=by omega
  have e1:=zux hrl
  have e2:=zuy hrl
  obtain⟨d,h2,e,rfl,w1,k1,l1⟩:=yeo (st:=1) (hp:=h) (x:=.imm .none (((rst b k).take 64).map yc)) (b:=(rst b k).take 64) (s:=y4z b k y8n) (z4u rfl) (by rw[aS];omega) W (zw9 (by rw[aS];omega))
  have hs:rst b (k+1)=(rst b k).drop 64:=yer
  have hst:y4z b (k+1) y8n=y3s (y4z b k y8n) ((rst b k).take 64):=rfl
  have B2:Bys h2 0 _:=k1.at (by omega) (by omega) B
  rw[<- hst] at w1
  generalize hT:(rst b k).take 64=T at e2 e hst
  generalize hD:(rst b k).drop 64=Dr at e1 hs
  simp[h64,e1,e2,e,z21,hs]
  exact⟨hlt,B2,w1,by omega⟩
 ·have:k=b.length / 64:=by omega
  subst this
  have h64 : ¬ (64:Int)<=(rst b (b.length / 64)).length:=by rw[zfy];omega
  have hr:(rst b (b.length / 64)).length<64:=by rw[zfy];omega
  have hs1:55<(rst b (b.length / 64)).length->y7v b=y52 (y4z (y6h (tl1 (rst b (b.length / 64))) 120 8 (b.length*8) 8) 2 (y4z b (b.length / 64) y8n)) 8:=fun h=>by unfold y7v;rw[if_pos h]
  have hs2 : ¬ 55<(rst b (b.length / 64)).length->y7v b=y52 (y4z (y6h (tl1 (rst b (b.length / 64))) 56 8 (b.length*8) 8) 1 (y4z b (b.length / 64) y8n)) 8:=fun h=>by unfold y7v;rw[if_neg h]
  generalize hR:rst b (b.length / 64)=r at hr h64 hs1 hs2
  have hS:(y4z b (b.length / 64) y8n).length=8:=z4u rfl
  generalize y4z b (b.length / 64) y8n=S at W hS hs1 hs2
  have c1:=yfm (H:=h++[Obj.cells (y8k.map yc)]) (id:=h.length) (r:=r) (by simp[Bys,At]) hr
  have c2:∀ o:Obj,(h++[Obj.cells (y8k.map yc)]).set h.length o=h++[o]:=fun o=>by simp
  rw[c2] at c1
  have c3:∀ o:Obj,(h++[o])[h.length]? = some o:=fun o=>by simp
  have c4:∀ o o':Obj,(h++[o]).set h.length o'=h++[o']:=fun o o'=>by simp
  have hr':(r.length:Int)<64:=by omega
  have htl:=zm3 (r:=r) (by omega)
  have hr1:r.length+1<=128:=by omega
  have c5:(((tl0 r).map yc).set r.length (D.int .u8 128))=(tl1 r).map yc:=by unfold tl1;rw[ia];rfl
  have c6:=fun(h:List Obj)=>rsl (h:=h) (r:=r) (by omega)
  have hL:bv.wrap (b.length:Int)=b.length:=by rw[z28];omega
  have hL8:bv.wrap ((b.length:Int)*8)=((b.length*8:Nat):Int):=by rw[z28];omega
  have hL9:bv.wrap ((b.length:Int)*8)=(b.length:Int)*8:=by rw[z28];omega
  have w56:aC.wrap 56=56:=by decide
  have w120:aC.wrap 120=120:=by decide
  simp[h64,yf5,c1,↓c3,↓c4,hr',htl,hr1,c5]
  have key:∀ n:Nat,n=64\/n=128->True:=fun _ _=>trivial
  split
  ·rename_i h55
   obtain⟨d,h3,e3,rfl,rfl⟩:=ycx (hp:=h++[Obj.cells ((tl1 r).map yc)]) (id:=h.length) (off:=120) (n:=8) (gr:=false) (m:=tl1 r) (b.length*8) (by omega) (by omega) (by unfold tl1;rw[bl,htl];omega) (by simp[Bys,At])
   rw[c4] at e3
   simp at e3
   simp[c6,zxf,hL,hL8,y3o,e3,z3r,w120]
   have hM:(y6h (tl1 r) 120 8 (b.length*8) 8).length=128:=by rw[z5p,zfo (by omega)]
   generalize y6h (tl1 r) 120 8 (b.length*8) 8=M at *
   refine zr 2 (fun j env h'=>∃(x4 x6 x7 x8 x9 x10 x11 x12 x13 x14 x15 x16 x17 x18 x19 x20 x21:D) (gr:Bool),env=[dBy b,.loc 0 0,.loc 1 0,.bfn 404 (.loc 1 0),x4,.sl h.length (64*j) (128 - 64*j) 1 false gr,x6,x7,x8,x9,x10,x11,x12,x13,x14,x15,x16,x17,x18,x19,x20,x21]/\Bys h' 0 z32/\Wds h' 1 (y4z M j S)/\Bys h' h.length M/\h.length<h'.length) 0 (by omega) ?_ ?_
   ·exact⟨_,_,_,_,_,_,_,_,_,_,_,_,_,_,_,_,_,true,rfl,B.app,W.app,by simp[Bys,At],by simp⟩
   rintro j env h' hj ⟨x4,x6,x7,x8,x9,x10,x11,x12,x13,x14,x15,x16,x17,x18,x19,x20,x21,gr,rfl,B1,W1,B2,hl1⟩
   by_cases hlt:j<2
   ·obtain⟨o,ho⟩:∃ o,o=64*j:=⟨_,rfl⟩
    obtain⟨l,hl⟩:∃ l,l=128 - o:=⟨_,rfl⟩
    have hb:y4z M (j+1) S=y3s (y4z M j S) ((M.drop o).take 64):=by rw[ho];rfl
    obtain⟨d,h2,e,rfl,w1,k1,l1⟩:=yeo (st:=1) (hp:=h') (x:=.sl h.length o 64 1 false false) (b:=(M.drop o).take 64) (s:=y4z M j S) (z4u hS) (by simp;omega) W1 (ztt B2 (by omega) (by omega) (by omega))
    rw[<- hb] at w1
    have B1':Bys h2 0 z32:=k1.at (by omega) (by omega) B1
    have B2':Bys h2 h.length M:=k1.at (by omega) hl1 B2
    rw[<- ho,<- hl]
    have e1:=ztf (q:=h.length) (o:=o) (l:=l) (gr:=gr) (by omega)
    have e2:=ztd (q:=h.length) (o:=o) (l:=l) (gr:=gr) (by omega)
    have hpos:(0:Int)<l:=by omega
    have o1:64*(j+1)=o+64:=by omega
    have hpos':0<l:=by omega
    simp[hpos,hpos',e1,e2,e,z21]
    exact⟨by omega,⟨by omega,by omega⟩,B1',w1,B2',by omega⟩
   ·have:j=2:=by omega
    subst this
    have hSl:(y4z M 2 S).length=8:=z4u hS
    have hsh:=hs1 (by omega)
    generalize y4z M 2 S=V at W1 hSl hsh
    obtain⟨a0,a1,a2,a3,a4,a5,a6,a7,hV⟩:=ycj hSl
    have W2:h'[1]? = some (.cells (V.map dW)):=W1
    rw[hV] at W2
    simp at W2
    simp[W2]
    rw[hsh]
    refine zr 8 (fun i env h3=>∃(x0 x2 x3 x4 x5 x6 x7 x8 x9 x10 x11 x12 x13 x14 x15 x16 x17 x20 x21:D) ,env=[x0,.loc 0 0,x2,x3,x4,x5,x6,x7,x8,x9,x10,x11,x12,x13,x14,x15,x16,x17,.agg [dW a0,dW a1,dW a2,dW a3,dW a4,dW a5,dW a6,dW a7],dI i,x20,x21]/\Bys h3 0 (y52 V i)) 0 (by omega) ?_ ?_
    ·exact⟨_,_,_,_,_,_,_,_,_,_,_,_,_,_,_,_,_,_,_,rfl,B1⟩
    rintro i env h3 hi ⟨x0,x2,x3,x4,x5,x6,x7,x8,x9,x10,x11,x12,x13,x14,x15,x16,x17,x20,x21,rfl,C⟩
    have hidx:∀ i,i<8->([dW a0,dW a1,dW a2,dW a3,dW a4,dW a5,dW a6,dW a7]:List D)[i]? = some (dW (V.getD i 0)):=fun i hi=>by
     have e:([dW a0,dW a1,dW a2,dW a3,dW a4,dW a5,dW a6,dW a7]:List D)=V.map dW:=by rw[hV];rfl
     rw[e,bM,aj,ae (by omega)];rfl
    by_cases hlt:i<8
    ·have hi8:(i:Int)<8:=by omega
     have hup:=zb hlt (by omega)
     have q1:aC.wrap (4*(i:Int))=4*(i:Int):=za ⟨by omega,by omega⟩
     have q2:aC.wrap (4*(i:Int)+4)=4*(i:Int)+4:=za ⟨by omega,by omega⟩
     have q3:=ztc hlt
     have q4:bv.wrap ((V.getD i 0).toNat:Int)=(V.getD i 0).toNat:=by have:=yc6 (w:=V.getD i 0);rw[z28];omega
     obtain⟨d,h4,e4,rfl,rfl⟩:=ycx (hp:=h3) (id:=0) (off:=4*i) (n:=4) (gr:=false) (m:=y52 V i) (V.getD i 0).toNat (by have:=yc6 (w:=V.getD i 0);omega) (by omega) (by rw[z3o];omega) C
     have hid:=hidx i hlt
     have hst:y52 V (i+1)=y6h (y52 V i) (4*i) 4 (V.getD i 0).toNat 4:=rfl
     have hc0:0<h3.length:=At.lt C
     generalize V.getD i 0=w at hid q4 e4 hst
     simp[hi8,hup,hid,q1,q2,q3,q4,e4,y3o,z3r,z98]
     refine⟨hlt,?_⟩
     rw[hst]
     exact At.self hc0
    ·have:i=8:=by omega
     subst this
     have l1:=z73 C z3o
     have hsc:setCells ((y52 V 8).map yc) 0 ((y52 V 8).map yc)=(y52 V 8).map yc:=zo rfl
     have hss:h3.set 0 (.cells ((y52 V 8).map yc))=h3:=z6p C
     have C2:h3[0]? = some (.cells ((y52 V 8).map yc)):=C
     have hol:(y52 V 8).length=32:=z3o
     simp[l1,zh,C2,hsc,hss,hol]
     try trace_state
  ·rename_i h55
   obtain⟨d,h3,e3,rfl,rfl⟩:=ycx (hp:=h++[Obj.cells ((tl1 r).map yc)]) (id:=h.length) (off:=56) (n:=8) (gr:=false) (m:=tl1 r) (b.length*8) (by omega) (by omega) (by unfold tl1;rw[bl,htl];omega) (by simp[Bys,At])
   rw[c4] at e3
   simp at e3
   simp[yem,hL,hL8,y3o,e3,z3r,w56]
   have hM:(y6h (tl1 r) 56 8 (b.length*8) 8).length=128:=by rw[z5p,zfo (by omega)]
   generalize y6h (tl1 r) 56 8 (b.length*8) 8=M at *
   refine zr 1 (fun j env h'=>∃(x4 x6 x7 x8 x9 x10 x11 x12 x13 x14 x15 x16 x17 x18 x19 x20 x21:D) (gr:Bool),env=[dBy b,.loc 0 0,.loc 1 0,.bfn 404 (.loc 1 0),x4,.sl h.length (64*j) (64 - 64*j) 1 false gr,x6,x7,x8,x9,x10,x11,x12,x13,x14,x15,x16,x17,x18,x19,x20,x21]/\Bys h' 0 z32/\Wds h' 1 (y4z M j S)/\Bys h' h.length M/\h.length<h'.length) 0 (by omega) ?_ ?_
   ·exact⟨_,_,_,_,_,_,_,_,_,_,_,_,_,_,_,_,_,true,rfl,B.app,W.app,by simp[Bys,At],by simp⟩
   rintro j env h' hj ⟨x4,x6,x7,x8,x9,x10,x11,x12,x13,x14,x15,x16,x17,x18,x19,x20,x21,gr,rfl,B1,W1,B2,hl1⟩
   by_cases hlt:j<1
   ·obtain⟨o,ho⟩:∃ o,o=64*j:=⟨_,rfl⟩
    obtain⟨l,hl⟩:∃ l,l=64 - o:=⟨_,rfl⟩
    have hb:y4z M (j+1) S=y3s (y4z M j S) ((M.drop o).take 64):=by rw[ho];rfl
    obtain⟨d,h2,e,rfl,w1,k1,l1⟩:=yeo (st:=1) (hp:=h') (x:=.sl h.length o 64 1 false false) (b:=(M.drop o).take 64) (s:=y4z M j S) (z4u hS) (by simp;omega) W1 (ztt B2 (by omega) (by omega) (by omega))
    rw[<- hb] at w1
    have B1':Bys h2 0 z32:=k1.at (by omega) (by omega) B1
    have B2':Bys h2 h.length M:=k1.at (by omega) hl1 B2
    rw[<- ho,<- hl]
    have e1:=ztf (q:=h.length) (o:=o) (l:=l) (gr:=gr) (by omega)
    have e2:=ztd (q:=h.length) (o:=o) (l:=l) (gr:=gr) (by omega)
    have hpos:(0:Int)<l:=by omega
    have o1:64*(j+1)=o+64:=by omega
    have hpos':0<l:=by omega
    simp[hpos,hpos',e1,e2,e,z21]
    exact⟨by omega,⟨by omega,by omega⟩,B1',w1,B2',by omega⟩
   ·have:j=1:=by omega
    subst this
    have hSl:(y4z M 1 S).length=8:=z4u hS
    have hsh:=hs2 (by omega)
    generalize y4z M 1 S=V at W1 hSl hsh
    obtain⟨a0,a1,a2,a3,a4,a5,a6,a7,hV⟩:=ycj hSl
    have W2:h'[1]? = some (.cells (V.map dW)):=W1
    rw[hV] at W2
    simp at W2
    simp[W2]
    rw[hsh]
    refine zr 8 (fun i env h3=>∃(x0 x2 x3 x4 x5 x6 x7 x8 x9 x10 x11 x12 x13 x14 x15 x16 x17 x20 x21:D) ,env=[x0,.loc 0 0,x2,x3,x4,x5,x6,x7,x8,x9,x10,x11,x12,x13,x14,x15,x16,x17,.agg [dW a0,dW a1,dW a2,dW a3,dW a4,dW a5,dW a6,dW a7],dI i,x20,x21]/\Bys h3 0 (y52 V i)) 0 (by omega) ?_ ?_
    ·exact⟨_,_,_,_,_,_,_,_,_,_,_,_,_,_,_,_,_,_,_,rfl,B1⟩
    rintro i env h3 hi ⟨x0,x2,x3,x4,x5,x6,x7,x8,x9,x10,x11,x12,x13,x14,x15,x16,x17,x20,x21,rfl,C⟩
    have hidx:∀ i,i<8->([dW a0,dW a1,dW a2,dW a3,dW a4,dW a5,dW a6,dW a7]:List D)[i]? = some (dW (V.getD i 0)):=fun i hi=>by
     have e:([dW a0,dW a1,dW a2,dW a3,dW a4,dW a5,dW a6,dW a7]:List D)=V.map dW:=by rw[hV];rfl
     rw[e,bM,aj,ae (by omega)];rfl
    by_cases hlt:i<8
    ·have hi8:(i:Int)<8:=by omega
     have hup:=zb hlt (by omega)
     have q1:aC.wrap (4*(i:Int))=4*(i:Int):=za ⟨by omega,by omega⟩
     have q2:aC.wrap (4*(i:Int)+4)=4*(i:Int)+4:=za ⟨by omega,by omega⟩
     have q3:=ztc hlt
     have q4:bv.wrap ((V.getD i 0).toNat:Int)=(V.getD i 0).toNat:=by have:=yc6 (w:=V.getD i 0);rw[z28];omega
     obtain⟨d,h4,e4,rfl,rfl⟩:=ycx (hp:=h3) (id:=0) (off:=4*i) (n:=4) (gr:=false) (m:=y52 V i) (V.getD i 0).toNat (by have:=yc6 (w:=V.getD i 0);omega) (by omega) (by rw[z3o];omega) C
     have hid:=hidx i hlt
     have hst:y52 V (i+1)=y6h (y52 V i) (4*i) 4 (V.getD i 0).toNat 4:=rfl
     have hc0:0<h3.length:=At.lt C
     generalize V.getD i 0=w at hid q4 e4 hst
     simp[hi8,hup,hid,q1,q2,q3,q4,e4,y3o,z3r,z98]
     refine⟨hlt,?_⟩
     rw[hst]
     exact At.self hc0
    ·have:i=8:=by omega
     subst this
     have l1:=z73 C z3o
     have hsc:setCells ((y52 V 8).map yc) 0 ((y52 V 8).map yc)=(y52 V 8).map yc:=zo rfl
     have hss:h3.set 0 (.cells ((y52 V 8).map yc))=h3:=z6p C
     have C2:h3[0]? = some (.cells ((y52 V 8).map yc)):=C
     have hol:(y52 V 8).length=32:=z3o
     simp[l1,zh,C2,hsc,hss,hol]
     try trace_state

theorem s384(n:Int)(h:0<=n)(h':n<=1000000000)(hp:List Obj):y1n E (dL E) (384) [.imm .exact [],dI n] hp=some (.imm (.tok hp.length) [],hp++[.tok 0 1]):=by
 have e:E.fn (384)=some f384:=rfl
 have e2:E.mp 384=false:=rfl
 have e3 : ¬ n<0:=by omega
 have e4:n*2<=yj:=by unfold yj;omega
 have e5:y2q 1 []=true:=rfl
 unfold y1n
 simp only[e,e2,f384,yl,z8n,z5i,zf5,z4s,z62,y2a]
 simp[ye,yd,yh,y22,DOp.fin,ym,ya,yn,gOf,z62,y1o,y4e,y2y,y1s,y2x,y2l,y6k,y2s,y15,yg,y2b,z4s,z81,yt,e3,e4,e5,h,y2u]

def y7s(ls:List (List UInt8))(i:Nat):List UInt8:=(ls.take i).flatten
theorem zts{ls:List (List UInt8)}{i:Nat}(h:i<ls.length):y7s ls (i+1)=y7s ls i++ls[i]:=by
 unfold y7s
 rw[aM h,j8];simp
theorem zp7{ls:List (List UInt8)}{i:Nat}:(y7s ls i).length<=(y7s ls ls.length).length:=by
 have h:ls.flatten=(ls.take i).flatten++(ls.drop i).flatten:=by rw[<- j8,bj]
 unfold y7s
 rw[aY,h,ar];omega

theorem r365(ls:List (List UInt8))(h1:(y7s ls ls.length).length<=1000000000)(h2:ls.length<=1000000000):y17 E (dL E) 365 [.imm .none (ls.map fun l=>.imm .none (l.map yc))]=some (.imm .none ((y7s ls ls.length).map yc)):=by
 refine zg c365 (by simp) ?_
 simp[t365,n365]
 refine zr ls.length (fun i env h=>∃(x1 x3 x4 x5 x9 x10 x11 x12 x13 x14 x15 x16:D) (m:Nat),env=[.imm .none (ls.map fun l=>.imm .none (l.map yc)),x1,dI m,x3,x4,x5,.imm .none (ls.map fun l=>.imm .none (l.map yc)),dI ls.length,dI i,x9,x10,x11,x12,x13,x14,x15,x16]/\h=[]/\m=(y7s ls i).length) 0 (by omega) ⟨_,_,_,_,_,_,_,_,_,_,_,_,0,rfl,rfl,rfl⟩ ?_
 rintro i env h hi ⟨x1,x3,x4,x5,x9,x10,x11,x12,x13,x14,x15,x16,m,rfl,rfl,hm⟩
 by_cases hlt:i<ls.length
 ·have hs:=zts hlt
  have hb:=zp7 (ls:=ls) (i:=i+1)
  obtain⟨W,hW⟩:∃ W,ls[i]=W:=⟨_,rfl⟩
  rw[hW] at hs
  rw[hs,ar] at hb
  have w:=za (n:=(m:Int)+W.length) ⟨by omega,by omega⟩
  have hn : ¬ (m:Int)+W.length<0:=by omega
  rw[hm] at w hn
  simp[hlt,hW,w,hn,zb hlt (by omega),hs,hm]
 ·have:i=ls.length:=by omega
  subst this
  have e:=s384 (m:Int) (by omega) (by omega) []
  have fb:∀ l:List UInt8,((l.map yc).all fun d=>d.storable && d.cellsL.length == 1)=true:=fun l=>z7z
  simp[e]
  refine zr ls.length (fun i env h=>∃(x1 x2 x3 x5 x6 x7 x8 x9 x10 x11 x15 x16:D) (k:Nat),env=[.imm .none (ls.map fun l=>.imm .none (l.map yc)),x1,x2,x3,.imm (.tok k) ((y7s ls i).map yc),x5,x6,x7,x8,x9,x10,x11,.imm .none (ls.map fun l=>.imm .none (l.map yc)),dI ls.length,dI i,x15,x16]/\At h k (.tok ((y7s ls i).length*1) 1)) 0 (by omega) ⟨_,_,_,_,_,_,_,_,_,_,_,_,0,rfl,rfl⟩ ?_
  clear hi hm e
  rintro i env h hi ⟨x1,x2,x3,x5,x6,x7,x8,x9,x10,x11,x15,x16,k,rfl,a1⟩
  by_cases hlt:i<ls.length
  ·have hs:=zts hlt
   have hb:=zp7 (ls:=ls) (i:=i+1)
   obtain⟨W,hW⟩:∃ W,ls[i]=W:=⟨_,rfl⟩
   obtain⟨C,hC⟩:∃ C,y7s ls i=C:=⟨_,rfl⟩
   obtain⟨C',hC'⟩:∃ C,y7s ls (i+1)=C:=⟨_,rfl⟩
   rw[hW,hC,hC'] at hs
   rw[hC',hs,ar] at hb
   have hap:=z1o (l:=C) (new:=W.map yc) (by rw[aH];omega)
   rw[hC] at a1 ⊢
   have hcat:C.map yc++W.map yc=C'.map yc:=by rw[hs];simp
   have hlen:C'.length=C.length+W.length:=by rw[hs];simp
   simp[hlt,hW,zx,z1u,a1.eq,hap,fb,zb hlt (by omega),↓hC']
   have hg:=z5u (hp:=h.set k Obj.dead) (r:=[Obj.tok (C.length+W.length) 1]) (k:=0)
   rw[bl,Nat.add_zero] at hg
   repeat apply Exists.intro
   refine⟨?_,hg.trans (by rw[hlen];rfl)⟩
   and_intros <;> first | rfl | exact hcat
  ·have:i=ls.length:=by omega
   subst this
   simp[zh]



theorem yca(a b:List UInt8)(h:a.length+b.length<=1000000000):y17 E (dL E) 365 [.imm .none [dBy a,dBy b]]=some (dBy (a++b)):=by
 have e:=r365 [a,b] (by simp[y7s];omega) (by simp)
 rw[show y7s [a,b] [a,b].length=a++b from by simp[y7s]] at e
 exact e

theorem z3l{b:List UInt8}:(y7v b).length=32:=by unfold y7v;split <;> exact z3o

def tgB:List UInt8->List UInt8->List UInt8:=fun t b=>y7v (y7v t++b)

theorem zae{H:List Obj}{n:Nat}:∀(l:List UInt8),(l.map yc).flatMap (ids H (n+1))=[]
 |[]=>rfl
 |c::l=>by
  rw[au,bN,zae l];rfl
theorem zvl{A:Obj}{T b:List UInt8}(hl:T.length=32):ids [A,.cells (T.map yc)] 12 (.imm .exact [.sl 1 0 32 1 false false,dBy b])=[1]:=by
 have h1:ids [A,.cells (T.map yc)] 11 (.sl 1 0 32 1 false false)=[1]:=by
  show 1::(((T.map yc).drop 0).take (32*1)).flatMap (ids [A,.cells (T.map yc)] 10)=[1]
  rw[cF,bq (by simp[hl]),zae]
 have h2:ids [A,.cells (T.map yc)] 11 (dBy b)=[]:=by
  show(b.map yc).flatMap (ids [A,.cells (T.map yc)] 10)=[]
  exact zae b
 show[D.sl 1 0 32 1 false false,dBy b].flatMap (ids [A,.cells (T.map yc)] 11)=[1]
 rw[bN,bN,h1,h2];rfl
theorem zrn{A:Obj}{cs:List D}:yu [A,.cells cs] [1]=[A,.frozen cs]:=rfl

theorem yey(t b:List UInt8)(ht:t.length<=1000)(hb:b.length<=900000000):y17 E (dL E) 331 [.str t,dBy b]=some (y7i (tgB t b)):=by
 have e1:=r364 t (by omega)
 have e2:=yca (y7v t) b (by rw[z3l];omega)
 have e3:=r364 (y7v t++b) (by rw[ar,z3l];omega)
 have hl:=z3l (b:=t)
 refine zg c331 (by simp) ?_
 have hl3:=z3l (b:=y7v t++b)
 unfold tgB
 generalize y7v t=T at e1 e2 e3 hl hl3 ⊢
 generalize y7v (T++b)=U at e3 hl3 ⊢
 have hsl:y1b E 73 (.loc 1 0) none none none=some (.sl 1 0 32 1 false false):=rfl
 have hsc:setCells (z32.map yc) 0 (T.map yc)=T.map yc:=zo (by rw[aH,aH,hl];rfl)
 have hz:z32.map yc=ah 32 (D.int .u8 0):=by unfold z32;rw[ej];rfl
 rw[hz] at hsc
 simp only[ah] at hsc
 have hck:y31 1 false 32 (T.map yc)=some (T.map yc):=by rw[z6h 32 T (by omega),bq (by omega)]
 have hsc2:setCells (z32.map yc) 0 (U.map yc)=U.map yc:=zo (by rw[aH,aH,hl3];rfl)
 rw[hz] at hsc2
 simp only[ah] at hsc2
 have hfa:y1y (frz [] 11) (T.map yc++b.map yc)=some (T.map yc++b.map yc):=by rw[<- bR];exact zh
 have e3':y17 E (dL E) 364 [.imm .none (T.map yc++b.map yc)]=some (y7i U):=by rw[<- bR];exact e3
 have hid:=fun A:Obj=>zvl (A:=A) (b:=b) hl
 have hld:∀ A:Obj,yx E [.cells (U.map yc),A] 73 (.loc 0 0)=some (.agg (U.map yc)):=fun A=>z73 rfl hl3
 simp[t331,n331,e1,e2,e3',zh,hl,hl3,hsl,↓hsc,↓hsc2,hck,hfa,↓hid,zrn,↓hld]

theorem r335(a b:List UInt8)(ha:a.length=32)(hb:b.length=32):y17 E (dL E) 335 [y7i a,y7i b]=some (y7i (tgB [99,104,97,105,110] (a++b))):=by
 have e1:=yca a b (by omega)
 have e2:=yey [99,104,97,105,110] (a++b) (by simp) (by simp;omega)
 have hl:(tgB [99,104,97,105,110] (a++b)).length=32:=z3l
 have s1:=z9m ha
 have s2:=z9m hb
 refine zg c335 (by simp) ?_
 generalize tgB [99,104,97,105,110] (a++b)=U at e2 hl ⊢
 have e2':y17 E (dL E) 331 [.str [99,104,97,105,110],.imm .none (a.map yc++b.map yc)]=some (y7i U):=by rw[<- bR];exact e2
 have hfa:y1y (frz [] 11) (a.map yc++b.map yc)=some (a.map yc++b.map yc):=by rw[<- bR];exact zh
 have hsc2:setCells (z32.map yc) 0 (U.map yc)=U.map yc:=zo (by rw[aH,aH,hl];rfl)
 have hz:z32.map yc=ah 32 (D.int .u8 0):=by unfold z32;rw[ej];rfl
 rw[hz] at hsc2
 simp only[ah] at hsc2
 have hld:∀ r:List Obj,yx E (.cells (U.map yc)::r) 73 (.loc 0 0)=some (.agg (U.map yc)):=fun r=>z73 rfl hl
 have hfz:frz [] 11 (.str [99,104,97,105,110])=some (.str [99,104,97,105,110]):=rfl
 have hfz2:frz [] 12 (.str [99,104,97,105,110])=some (.str [99,104,97,105,110]):=rfl
 simp[t335,n335,e1,e2',zh,ha,hb,hl,s1,s2,↓hsc2,hfa,↓hld,hfz,hfz2]

abbrev pC(p:Pst):List D:=dI p.no::dI p.minute::dI p.corrects :: .imm .none (p.ents.map y18)::p.prev.map yc
theorem zng{h:List Obj}{p:Pst}(h32:p.prev.length=32):yx E h 71 (.iptr (pC p))=some (y4b p):=znt h32
theorem zve{h r:List Obj}{p:Pst}(h32:p.prev.length=32):yx E (h ++ .cells (pC p)::r) 71 (.loc h.length 0)=some (y4b p):=by
 have e:=z29 36 0 (pC p) (by simp[h32])
 have e2:(h++Obj.cells (pC p)::r)[h.length]? = some (.cells (pC p)):=by simp
 unfold yx
 simp only[e2,show(E.ty 71).size=36 from rfl,e]
 rfl
theorem stP{p:Pst}(h32:p.prev.length=32):setCells (dI p.no::dI p.minute::dI p.corrects :: .imm .none (p.ents.map y18)::ah 32 (D.int .u8 0)) 4 (p.prev.map yc)=pC p:=by
 have e:=zt (a:=[dI p.no,dI p.minute,dI p.corrects,.imm .none (p.ents.map y18)]) (b:=ah 32 (D.int .u8 0)) (off:=0) (vs:=p.prev.map yc)
 rw[zo (by simp[h32])] at e
 exact e

def y8i(l:List Pst):Prop:=l.length<=1000000 /\ ∀ p,p ∈ l->p.prev.length=32/\p.ents.length<=1000000
open Classical in
noncomputable def rdD(l:List Pst):D:=.tup [y7i (if rdE tgB l=0 then y5q tgB l else z32),dI (rdE tgB l)]
theorem z80:∀{a b:List Pst},y2r a=0->y2r (a++b)=y2r b
 |[],b,_=>rfl
 |p::a,b,h=>by
  simp only[y2r,aR] at h ⊢
  split at h
  ·rename_i hp
   rw[if_pos hp];exact z80 h
  ·rename_i hp;exact absurd h hp
theorem zoj{l:List Pst}{i:Nat}(h:i<l.length)(h0:y2r (l.take i)=0)(hp:y5w l[i] ≠ 0):y2r l=y5w l[i]:=by
 have e:l=l.take i++l.drop i:=(bj i l).symm
 have e2:y2r l=y2r (l.drop i):=by
  conv=>lhs;rw[e]
  exact z80 h0
 rw[e2,bH h,y2r,if_neg hp]
theorem zrs{l:List Pst}{i:Nat}(h:i<l.length)(h0:y2r (l.take i)=0)(hp:y5w l[i]=0):y2r (l.take (i+1))=0:=by
 rw[aM h,z80 h0,y2r,if_pos hp];rfl

theorem znf{H:List Obj}{q:Nat}{m:List UInt8}(B:Bys H q m)(h:m.length=32):yx E H 73 (.loc q 0)=some (.agg (m.map yc)):=by
 have B2:H[q]? = some (.cells (m.map yc)):=B
 have e:=z29 32 0 (m.map yc) (by simp[h])
 unfold yx
 simp only[yw,B2,show(E.ty 73).size=32 from rfl,e]
 rfl
theorem zap:∀{a b:List UInt8},a.length=b.length->eqL (a.map yc) (b.map yc)=some (decide (a=b))
 |[],[],_=>rfl
 |x::a,y::b,h=>by
  have ih:=zap (a:=a) (b:=b) (by simpa using h)
  have e:y1u (yc x) (yc y)=some (((x.toNat:Int)) == (y.toNat:Int)):=by unfold y1u yc;simp
  rw[au,au,eqL,e,ih]
  simp only[aa]
  by_cases hxy:x=y
  ·subst hxy;simp
  ·have : ¬ ((x.toNat:Int))=(y.toNat:Int):=fun h=>hxy (UInt8.toNat_inj.1 (by omega))
   simp[hxy,this]
 |[],_::_,h=>by simp at h
 |_::_,[],h=>by simp at h
theorem z6c:∀{a:List UInt8},y1m (a.map yc) (ah a.length (D.int .u8 0))=true
 |[]=>rfl
 |x::a=>by
  rw[au,az,List.replicate_succ]
  simp only[y1m,yc,decide_true,Bool.true_and]
  exact z6c
theorem zgb{a b:List UInt8}(ha:a.length=32)(hb:b.length=32):y2s E .neq 73 (.agg (a.map yc)) (.agg (b.map yc))=some (.bool (!decide (a=b))):=by
 have h1:(E.ty 73).eqc=true:=rfl
 have h2:(E.ty 73).zero=ah a.length (D.int .u8 0):=by rw[ha];rfl
 unfold y2s
 simp only[]
 rw[if_pos ⟨h1,by rw[h2];exact z6c⟩,zap (by rw[ha,hb])]
theorem yf7{h r:List Obj}{p:Pst}(h32:p.prev.length=32):yx E (h ++ .cells (pC p)::r) 73 (.loc h.length 4)=some (.agg (p.prev.map yc)):=by
 have e:=z29 32 4 (pC p) (by simp[h32])
 have e2:(h++Obj.cells (pC p)::r)[h.length]? = some (.cells (pC p)):=by simp
 unfold yx
 simp only[e2,show(E.ty 73).size=32 from rfl,e]
 rfl
theorem y68:∀{l:List Pst},(y5q tgB l).length=32:=by
 intro l
 unfold y5q
 rcases List.eq_nil_or_concat l with e | ⟨a,b,e⟩
 ·rw[e]
  show(tgB y4r []).length=32
  exact z3l
 ·rw[e,List.concat_eq_append,gx];exact(show(y7v _).length=32 from z3l)

theorem r354(l:List Pst)(h:y8i l):y17 E (dL E) 354 [y1r l]=some (rdD l):=by
 refine zg c354 (by simp) ?_
 obtain⟨hl,hp⟩:=h
 by_cases hlen:65536<l.length
 ·have hE:rdE tgB l=2:=by unfold rdE;rw[if_pos hlen]
  unfold rdD
  rw[hE,if_neg (by decide)]
  have hln:(65536:Int)<l.length:=by omega
  simp[t354,n354,hln]
  rfl
 ·have hln : ¬ (65536:Int)<l.length:=by omega
  simp[t354,n354,hln]
  refine zr l.length (fun i env h=>∃(x2 x3 x4 x5 x6 x7 x8 x9 x13 x14 x15 x16 x17 x18 x19 x20 x21 x22 x23:D) ,env=[y1r l,.loc 0 0,x2,x3,x4,x5,x6,x7,x8,x9,y1r l,dI l.length,dI i,x13,x14,x15,x16,x17,x18,x19,x20,x21,x22,x23]/\Bys h 0 z32/\y2r (l.take i)=0) 0 (by omega) ?_ ?_
  ·exact⟨_,_,_,_,_,_,_,_,_,_,_,_,_,_,_,_,_,_,_,rfl,rfl,rfl⟩
  rintro i env h hi ⟨x2,x3,x4,x5,x6,x7,x8,x9,x13,x14,x15,x16,x17,x18,x19,x20,x21,x22,x23,rfl,B,F⟩
  by_cases hlt:i<l.length
  ·obtain⟨p,hpi⟩:∃ p,p=l[i]:=⟨_,rfl⟩
   have hp2:=hp p (by rw[hpi];exact aF hlt)
   have h355:=yev p hp2.1 hp2.2
   have hup:=zb hlt (by omega)
   have hli:l[i]? = some p:=by rw[hpi];simp[hlt]
   have q1:=fun h:List Obj=>zng (h:=h) hp2.1
   have q2:=fun h:List Obj=>zve (h:=h) (r:=[]) hp2.1
   have q3:=stP hp2.1
   have z1:∀ r:List Obj,yx E (h++r) 73 (.loc 0 0)=some (.agg (z32.map yc)):=fun r=>z73 B.app rfl
   have z2:∀ r:List Obj,(h++r)[0]? = some (.cells (z32.map yc)):=fun r=>B.app
   have z3:setCells (z32.map yc) 0 (z32.map yc)=z32.map yc:=zo rfl
   have z4:∀ r:List Obj,(h++r).set 0 (.cells (z32.map yc))=h++r:=fun r=>z6p B.app
   have z5:z32.length=32:=rfl
   simp only[ah] at q3
   simp[hlt,hup,<- hpi,hp2.1,↓q1,↓q2,↓q3,z27,zh,h355,↓z1,↓z2,z3,↓z4,z5]
   by_cases hpc:y5w p=0
   ·rw[if_pos hpc]
    exact⟨B.app,zrs hlt F (by rw[<- hpi];exact hpc)⟩
   ·rw[if_neg hpc]
    have hf:=zoj hlt F (by rw[<- hpi];exact hpc)
    rw[<- hpi] at hf
    have hE:rdE tgB l=y5w p:=by unfold rdE;rw[if_neg hlen,if_pos (by rw[hf];exact hpc),hf]
    unfold rdD
    rw[hE,if_neg hpc]
  ·have:i=l.length:=by omega
   subst this
   rw[aY] at F
   have z1:∀ r:List Obj,yx E (h++r) 73 (.loc 0 0)=some (.agg (z32.map yc)):=fun r=>z73 B.app rfl
   have e331:=yey y4r [] (by decide) (by simp)
   have hT:tgB y4r []=y6f tgB:=rfl
   rw[hT] at e331
   have hTl:(y6f tgB).length=32:=y68 (l:=[])
   have hd0:y6f tgB=y5q tgB (l.take 0):=by rw[List.take_zero];rfl
   have e331:y17 E (dL E) 331 [.str [112,111,115,116,105,110,103,115],.imm .none []]=some (y7i (y6f tgB)):=e331
   generalize y6f tgB=d0 at e331 hTl hd0
   have hsc2:setCells (z32.map yc) 0 (d0.map yc)=d0.map yc:=zo (by rw[aH,aH,hTl];rfl)
   have hz:z32.map yc=ah 32 (D.int .u8 0):=by unfold z32;rw[ej];rfl
   rw[hz] at hsc2
   simp only[ah] at hsc2
   have hst:∀ n s,frz [] (n+1) (.str s)=some (.str s):=fun _ _=>rfl
   simp[e331,hTl,↓hsc2,hst]
   obtain⟨C,hC⟩:∃ C,C=h.length:=⟨_,rfl⟩
   have hC0:0<C:=by rw[hC];exact At.lt B
   refine zr l.length (fun i env h'=>∃(x2 x3 x4 x6 x7 x8 x9 x10 x11 x12 x13 x14 x15 x19 x20 x21 x22 x23:D) ,env=[y1r l,.loc 0 0,x2,x3,x4,.loc C 0,x6,x7,x8,x9,x10,x11,x12,x13,x14,x15,y1r l,dI l.length,dI i,x19,x20,x21,x22,x23]/\Bys h' 0 z32/\Bys h' C (y5q tgB (l.take i)) /\ ∀ j p,j<i->l[j]? = some p->atP tgB l j p) 0 (by omega) ?_ ?_
   ·rw[<- hC]
    exact⟨_,_,_,_,_,_,_,_,_,_,_,_,_,_,_,_,_,_,rfl,B.app,by rw[<- hd0,hC];simp[Bys,At],fun j p hj=>absurd hj (by omega)⟩
   rintro i env h' hi ⟨x2,x3,x4,x6,x7,x8,x9,x10,x11,x12,x13,x14,x15,x19,x20,x21,x22,x23,rfl,B0,BC,V⟩
   by_cases hlt:i<l.length
   ·obtain⟨p,hpi⟩:∃ p,p=l[i]:=⟨_,rfl⟩
    have hp2:=hp p (by rw[hpi];exact aF hlt)
    have h334:=r334 p hp2.1 hp2.2
    have hgp:gdP p:=z4r.1 F p (by rw[hpi];exact aF hlt)
    unfold yfk at h334
    rw[if_pos (z44.2 hgp)] at h334
    have hup:=zb hlt (by omega)
    have hli:l[i]? = some p:=by rw[hpi];simp[hlt]
    have q1:=fun h:List Obj=>zng (h:=h) hp2.1
    have q2:=fun r:List Obj=>zve (h:=h') (r:=r) hp2.1
    have q3:=stP hp2.1
    have q4:=fun r:List Obj=>yf7 (h:=h') (r:=r) hp2.1
    have z1:∀ r:List Obj,yx E (h'++r) 73 (.loc 0 0)=some (.agg (z32.map yc)):=fun r=>z73 B0.app rfl
    have z2:∀ r:List Obj,(h'++r)[0]? = some (.cells (z32.map yc)):=fun r=>B0.app
    have z3:setCells (z32.map yc) 0 (z32.map yc)=z32.map yc:=zo rfl
    have z4:∀ r:List Obj,(h'++r).set 0 (.cells (z32.map yc))=h'++r:=fun r=>z6p B0.app
    have z5:z32.length=32:=rfl
    obtain⟨Z,hZ⟩:∃ Z,Z=y5q tgB (l.take i):=⟨_,rfl⟩
    rw[<- hZ] at BC
    have hZ32:Z.length=32:=by rw[hZ];exact y68
    have y1:∀ r:List Obj,yx E (h'++r) 73 (.loc C 0)=some (.agg (Z.map yc)):=fun r=>znf BC.app hZ32
    have y2:∀ r:List Obj,(h'++r)[C]? = some (.cells (Z.map yc)):=fun r=>BC.app
    have y3:=zgb hp2.1 hZ32
    have y1':∀ r r2:List Obj,yx E (h'++r++r2) 73 (.loc C 0)=some (.agg (Z.map yc)):=fun r r2=>by rw[bC];exact y1 _
    have q4':∀ r:List Obj,yx E (h'++[.cells (pC p)]++r) 73 (.loc h'.length 4)=some (.agg (p.prev.map yc)):=fun r=>by rw[bC];exact q4 _
    have q2':∀ r:List Obj,yx E (h'++[.cells (pC p)]++r) 71 (.loc h'.length 0)=some (y4b p):=fun r=>by rw[bC];exact q2 _
    simp only[ah] at q3
    have hen:(y8t p).length<=900000000:=by
     have:=zik (znw hgp.fm) hp2.2 (by omega)
     omega
    have e331p:=yey y3r (y8t p) (by decide) hen
    have hT32:(tgB y3r (y8t p)).length=32:=z3l
    have e335:=r335 Z (tgB y3r (y8t p)) hZ32 hT32
    have hN:tgB [99,104,97,105,110] (Z++tgB y3r (y8t p))=y5q tgB (l.take (i+1)):=by rw[zou hlt,<- hZ,<- hpi];rfl
    rw[hN] at e335
    have e331p:y17 E (dL E) 331 [.str [112,111,115,116,105,110,103],dBy (y8t p)]=some (y7i (tgB y3r (y8t p))):=e331p
    generalize tgB y3r (y8t p)=Tp at e331p e335 hT32 hN
    clear hN
    have hN32:=y68 (l:=l.take (i+1))
    obtain⟨N,hNe⟩:∃ N,N=y5q tgB (l.take (i+1)):=⟨_,rfl⟩
    rw[<- hNe] at e335 hN32
    have y5:setCells (Z.map yc) 0 (N.map yc)=N.map yc:=zo (by rw[aH,aH,hZ32,hN32])
    have y6:∀ r:List Obj,(h'++r).set C (.cells (N.map yc))=h'.set C (.cells (N.map yc))++r:=fun r=>z1s (At.lt BC)
    have fin:∀ r:List Obj,Bys (h'.set C (.cells (N.map yc))++r) 0 z32/\Bys (h'.set C (.cells (N.map yc))++r) C (y5q tgB (l.take (i+1)))/\(p.no=i->p.prev=Z->(∀ q,0<i->l[i - 1]? = some q->q.minute<=p.minute)->∀ j p,j<i+1->l[j]? = some p->atP tgB l j p):=by
     intro r
     refine⟨(At.ne B0 (by omega)).app,by rw[<- hNe];exact(At.self (At.lt BC)).app,fun h1 h2 h3 j p' hj hp'=>?_⟩
     by_cases hji:j<i
     ·exact V j p' hji hp'
     ·have:j=i:=by omega
      subst this
      rw[hli] at hp'
      cases hp'
      exact⟨h1,by rw[h2,hZ],fun k q hk hq=>h3 q (by omega) (by rw[show j - 1=k from by omega];exact hq)⟩
    have bad:(¬ p.no=i\/(∃ q,l[i - 1]? = some q/\0<i/\p.minute<q.minute) \/ ¬ p.prev=Z)->rdD l=.tup [y7i z32,dI 410]:=by
     intro hb
     have hv : ¬ vld tgB l:=by
      intro v
      have a:=v.2.2 i p hli
      rcases hb with h1 | ⟨q,h1,h2,h3⟩ | h1
      ·exact h1 a.no
      ·have:=a.minute (i - 1) q (by omega) h1
       omega
      ·exact h1 (by rw[hZ];exact a.prev)
     have hE:rdE tgB l=410:=by unfold rdE;rw[if_neg hlen,if_neg (by simp[F]),if_neg hv]
     unfold rdD
     rw[hE,if_neg (by decide)]
    by_cases hno:p.no=(i:Int)
    ·have hno':=eq_true hno
     have hst2:(0<i /\ ∃ q,l[i - 1]? = some q/\q.prev.length=32)\/i=0:=by
      rcases dz i with h0 | h0
      ·exact .inr h0
      ·exact .inl ⟨h0,l[i - 1],ae (by omega),(hp _ (aF _)).1⟩
     have hw1:0<i->aC.wrap ((i:Int) - 1)=((i - 1:Nat):Int):=fun h0=>by
      rw[za ⟨by omega,by omega⟩];omega
     by_cases hpv:p.prev=Z
     ·have hpv':=eq_true hpv
      rcases hst2 with⟨h0,q,hq,hq32⟩ | h0
      ·by_cases hm:p.minute<q.minute
       ·rw[bad (.inr (.inl ⟨q,hq,h0,hm⟩))]
        simp[hlt,<- hpi,hp2.1,↓q1,↓q3,↓q4,↓q4',↓q2,↓q2',↓y1,↓y1',y3,hno',h0,hw1 h0,hq,hq32,hm,↓z1,↓z2,z3,↓z4,z5,zh]
       ·simp[hlt,<- hpi,hp2.1,↓q1,↓q3,↓q4,↓q4',↓q2,↓q2',↓y1,↓y1',y3,hno',h0,hw1 h0,hq,hq32,hm,hpv',hup,h334,z27,zh,hst,e331p,e335,hT32,hZ32,hN32,y5,↓y2,↓y6]
        exact⟨(fin _).1,(fin _).2.1,(fin []).2.2 hno hpv fun q' _ hq'=>by rw[hq] at hq';cases hq';omega⟩
      ·have h0' : ¬ 0<i:=by omega
       simp[h0',hlt,<- hpi,hp2.1,↓q1,↓q3,↓q4,↓q4',↓q2,↓q2',↓y1,↓y1',y3,hno',hpv',hup,h334,z27,zh,hst,e331p,e335,hT32,hZ32,hN32,y5,↓y2,↓y6]
       exact⟨(fin _).1,(fin _).2.1,(fin []).2.2 hno hpv fun q' h0 _=>absurd h0 h0'⟩
     ·rw[bad (.inr (.inr hpv))]
      rcases hst2 with⟨h0,q,hq,hq32⟩ | h0
      ·by_cases hm:p.minute<q.minute
       ·simp[hlt,<- hpi,hp2.1,↓q1,↓q3,↓q4,↓q4',↓q2,↓q2',↓y1,↓y1',y3,hno',h0,hw1 h0,hq,hq32,hm,↓z1,↓z2,z3,↓z4,z5,zh]
       ·simp[hlt,<- hpi,hp2.1,↓q1,↓q3,↓q4,↓q4',↓q2,↓q2',↓y1,↓y1',y3,hno',h0,hw1 h0,hq,hq32,hm,hpv,↓z1,↓z2,z3,↓z4,z5,zh]
      ·have h0' : ¬ 0<i:=by omega
       simp[h0',hlt,<- hpi,hp2.1,↓q1,↓q3,↓q4,↓q4',↓q2,↓q2',↓y1,↓y1',y3,hno',hpv,↓z1,↓z2,z3,↓z4,z5,zh]
    ·rw[bad (.inl hno)]
     simp[hlt,<- hpi,hp2.1,↓q1,↓q3,↓q4,↓q4',↓q2,↓q2',↓y1,↓y1',y3,hno,↓z1,↓z2,z3,↓z4,z5,zh]
   ·have:i=l.length:=by omega
    subst this
    rw[aY] at BC
    have hv:vld tgB l:=⟨by omega,fun p hp=>z4r.1 F p hp,fun i p hi=>V i p (ac.1 hi).1 hi⟩
    have hE:rdE tgB l=0:=z1q.2 hv
    have y1:=znf BC y68
    have z2:h'[0]? = some (.cells (z32.map yc)):=B0
    have y4:setCells (z32.map yc) 0 ((y5q tgB l).map yc)=(y5q tgB l).map yc:=zo (by rw[aH,aH,y68];rfl)
    have hl0:0<h'.length:=At.lt B0
    have y5:Bys (h'.set 0 (.cells ((y5q tgB l).map yc))) 0 (y5q tgB l):=At.self hl0
    have y6:=z73 y5 y68
    have hD:rdD l=.tup [y7i (y5q tgB l),dI 0]:=by unfold rdD;rw[hE,if_pos rfl]
    have d32:=y68 (l:=l)
    rw[hD]
    have z5:z32.length=32:=rfl
    simp[y1,z2,y4,↓y6,d32,z5,zh]

theorem z6m:∀(a b:List D) (k:Nat) (pre:List D),pre.length=k->y1x (pre++a++b) k a.length=some a
 |[],b,k,pre,h=>rfl
 |x::a,b,k,pre,h=>by
  have ih:=z6m a b (k+1) (pre++[x]) (by simp[h])
  have hx:(pre++(x::a)++b)[k]? = some x:=by
   rw[bC,aD (by omega),h,fW];rfl
  rw[az,y1x,hx]
  have e:pre++[x]++a++b=pre++x::a++b:=by simp
  rw[e] at ih
  rw[ih]
theorem z84{sz:Nat}:∀(els:List D),(∀ x,x ∈ els->x.cellsL.length=sz/\yk true x.cellsL=some x)->y31 sz true els.length (yi els)=some els
 |[],_=>rfl
 |x::els,h=>by
  obtain⟨h1,h2⟩:=h x (by simp)
  have ih:=z84 els fun y hy=>h y (by simp[hy])
  have ht:=z6m x.cellsL (yi els) 0 [] rfl
  rw[bh,h1] at ht
  rw[az,y31,zq,ht]
  simp only[h2]
  rw[show(x.cellsL++yi els).drop sz=yi els from by rw[<- h1];simp,ih]

theorem zmv{p:Pst}(h:p.prev.length=32):(pC p).length=36:=by simp[h]
theorem yf0{p:Pst}:∀ d,d ∈ pC p->d.atom=true:=by
 intro d hd
 simp only[pC,aw,aV] at hd
 rcases hd with rfl | rfl | rfl | rfl | ⟨b,_,rfl⟩ <;> rfl
theorem zxe{p:Pst}:(y4b p).storable=true:=by
 show(pC p).all D.atom=true
 rw[ax];exact yf0
theorem zf0{l:List Pst}(h:∀ p,p ∈ l->p.prev.length=32):y2q 36 (l.map y4b)=true:=by
 unfold y2q
 rw[ax]
 intro x hx
 obtain⟨p,hp,rfl⟩:=aV.1 hx
 have h1:((y4b p).cellsL.length == 36)=true:=by
  show((pC p).length == 36)=true
  rw[zmv (h p hp)];rfl
 rw[zxe,h1];rfl
theorem za7{hp:List Obj}{sp:y1a}{l:List Pst}(h:∀ p,p ∈ l->p.prev.length=32):y15 hp 36 true (.imm sp (l.map y4b))=some (l.map y4b):=by
 have:=zf0 h
 unfold y2q at this
 simp only[y15]
 rw[if_pos this]
def pCs(l:List Pst):List D:=yi (l.map y4b)
theorem zv6{l:List Pst}(h:∀ p,p ∈ l->p.prev.length=32):(pCs l).length=l.length*36:=by
 have:=zbz (zf0 h)
 unfold pCs
 rw[this,aH]
theorem zqp{l:List Pst}{p:Pst}:pCs l++yi [y4b p]=pCs (l++[p]):=by unfold pCs;rw[bR,z14];rfl
theorem zla{l:List Pst}(h:∀ p,p ∈ l->p.prev.length=32):y31 36 true l.length (pCs l)=some (l.map y4b):=by
 have:=z84 (sz:=36) (l.map y4b) fun x hx=>by
  obtain⟨p,hp,rfl⟩:=aV.1 hx
  exact⟨zmv (h p hp),rfl⟩
 rw[aH] at this
 exact this
theorem zl{hp:List Obj}{n:Nat}{l:List Pst}:y1y (frz hp (n+5)) (l.map y4b)=some (l.map y4b):=z17 fun _ _=>zvp
theorem e70:(E.ty 70).k=.slice 71:=rfl
theorem zpk{hp:List Obj}{id:Nat}{sp:y1a}{l:List Pst}(h:∀ p,p ∈ l->p.prev.length=32)(hl:l.length<=1000000)(h0:l ≠ []) :
  y1s E hp id 70 70 (.imm .exact []) (.imm sp (l.map y4b))=some ⟨.sl id 0 l.length 36 true true,some (.cells (pCs l)),none⟩:=by
 have h4 : ¬ l.length=0:=fun h=>h0 (b6 h)
 have h5:(0+l.length)*(80+1)<=yj/\80<=65536/\(y20 E 71).isSome=true/\y2q 36 ([]:List D)=true:=⟨by simp[yj];omega,by decide,rfl,rfl⟩
 unfold y1s
 simp only[e70]
 rw[show y15 hp (E.ty 71).size (E.ty 71).ag (.imm sp (l.map y4b))=some (l.map y4b) from za7 h]
 simp only[aH,be]
 rw[if_neg h4,show(E.ty 71).bytes=80 from rfl,show(E.ty 71).size=36 from rfl,if_pos h5]
 simp only[bw,pCs,yi,List.flatMap_nil,bh]
 rfl

def cpy(n:Nat)(l:List Pst):D:=if l=[] then .imm .exact [] else .sl n 0 l.length 36 true true
def y8w(l:List Pst):List Obj:=if l=[] then[] else[.cells (pCs l)]
theorem s356(l:List Pst)(h:∀ p,p ∈ l->p.prev.length=32)(hl:l.length<=1000000)(hp:List Obj):y1n E (dL E) 356 [y1r l] hp=some (cpy hp.length l,hp++y8w l):=by
 have:∃ d hp',y1n E (dL E) 356 [y1r l] hp=some (d,hp')/\(d=cpy hp.length l/\hp'=hp++y8w l):=by
  refine z2q c356 (args:=[y1r l]) (hp:=hp) (R:=fun d hp'=>d=cpy hp.length l/\hp'=hp++y8w l) (by simp) ?_
  by_cases h0:l=[]
  ·subst h0
   simp[t356,n356,cpy,y8w,y1s,y15,yg]
  ·have ap:=fun hp id=>zpk (hp:=hp) (id:=id) (sp:=.none) h hl h0
   simp[t356,n356,cpy,y8w,ap,yg,h0]
 obtain⟨d,hp',e,rfl,rfl⟩:=this
 exact e
theorem yf4(l:List Pst)(h:∀ p,p ∈ l->p.prev.length=32)(hl:l.length<=1000000)(hp:List Obj):y63 (y1n E (dL E)) 356 [y1r l] hp=some (cpy hp.length l,hp++y8w l):=by
 unfold y63
 rw[s356 l h hl,ep]
 have hm:yt (cpy hp.length l)=false:=by unfold cpy;split <;> rfl
 simp only[y14,hm,Bool.false_eq_true,if_false,ao,aa,al,true_and]
 rw[List.drop_append_of_le_length (by simp),jo (by simp),bh]

theorem ycz(l:List Pst)(h:y8i l):y17 E (dL E) 324 [y1r l]=some (dI (rdE tgB l)):=by
 refine zg c324 (by simp) ?_
 have e:=r354 l h
 unfold rdD at e
 simp[t324,n324,e,zl]

theorem zbt{hp:List Obj}{sp:y1a}{p:Pst}(h:p.prev.length=32):y15 hp 36 true (.imm sp [y4b p])=some [y4b p]:=za7 (l:=[p]) (by simp[h])
theorem zsz{pre:List Obj}{l:List Pst}{p:Pst}{sp:y1a}(h:∀ p,p ∈ l->p.prev.length=32)(hp:p.prev.length=32)(hl:l.length<=1000000) :
  ∃ m X,y2y E (pre++y8w l) 70 70 (cpy pre.length l) (.imm sp [y4b p])=some (.sl m 0 (l.length+1) 36 true true,X)/\At X m (.cells (pCs (l++[p]))):=by
 by_cases h0:l=[]
 ·subst h0
  refine⟨pre.length,pre++[.cells (pCs [p])],?_,by simp[At]⟩
  have h5:(0+1)*(80+1)<=yj/\80<=65536/\(y20 E 71).isSome=true/\y2q 36 ([]:List D)=true:=⟨by simp[yj],by decide,rfl,rfl⟩
  unfold y2y cpy y8w
  simp only[if_true,List.append_nil,e70]
  rw[show y15 pre (E.ty 71).size (E.ty 71).ag (.imm sp [y4b p])=some [y4b p] from zbt hp]
  simp only[az,be]
  rw[if_neg (by simp),show(E.ty 71).bytes=80 from rfl,show(E.ty 71).size=36 from rfl,if_pos h5]
  rfl
 ·have hg:(pre++y8w l)[pre.length]? = some (.cells (pCs l)):=by unfold y8w;rw[if_neg h0];simp
  refine⟨(pre++y8w l).length,(pre++y8w l).set pre.length .dead++[.cells (pCs (l++[p]))],?_,by simp[At]⟩
  have h5:(l.length+1)*(80+1)<=yj/\80<=65536/\(y20 E 71).isSome=true/\(36:Nat)=36/\(pCs l).length=l.length*36:=⟨by simp[yj];omega,by decide,rfl,rfl,zv6 h⟩
  unfold y2y cpy
  simp only[if_neg h0,e70]
  rw[show y15 (pre++y8w l) (E.ty 71).size (E.ty 71).ag (.imm sp [y4b p])=some [y4b p] from zbt hp,hg]
  simp only[az,be]
  rw[if_neg (by simp),show(E.ty 71).bytes=80 from rfl,show(E.ty 71).size=36 from rfl,if_pos h5,zqp]
  rfl
theorem zrd{X:List Obj}{m n:Nat}{L:List Pst}{gr:Bool}(h:At X m (.cells (pCs L)))(h32:∀ p,p ∈ L->p.prev.length=32):frz X (n+6) (.sl m 0 L.length 36 true gr)=some (y1r L):=by
 have hr:yw X m=some (pCs L):=by unfold yw;rw[h.eq]
 show(match yw X m with | some cs=>(match y31 36 true L.length (cs.drop 0) with | some els=>(y1y (frz X (n+5)) els).map (D.imm .none) | none=>none) | none=>none)=_
 rw[hr]
 simp only[cF]
 rw[zla h32]
 simp only[]
 rw[zl]
 rfl

open Classical in
noncomputable def poD(l:List Pst)(s:Stp):D:=.tup [y1r (if y3x tgB l s=0 then l++[y7x tgB l s] else[]),dI (y3x tgB l s)]

theorem r316(l:List Pst)(s:Stp)(h:y8i l)(hs:s.ents.length<=1000000):y17 E (dL E) 316 [y1r l,dI s.minute,dI s.corrects,.imm .none (s.ents.map y18)]=some (poD l s):=by
 refine zg c316 (by simp) ?_
 have e354:=r354 l h
 unfold rdD at e354
 obtain⟨d,hd⟩:∃ d,d=(if rdE tgB l=0 then y5q tgB l else z32):=⟨_,rfl⟩
 have h32:d.length=32:=by rw[hd];split;exact y68;rfl
 rw[<- hd] at e354
 have hsc:=zo (a:=ah 32 (D.int .u8 0)) (vs:=d.map yc) (by simp[h32])
 simp only[ah] at hsc
 by_cases h0:rdE tgB l=0
 ·have v:=z1q.1 h0
  have h0':rdE tgB l=0:=h0
  rw[if_pos h0] at hd
  have hl:l.length<=65536:=v.1
  rw[h0] at e354
  by_cases hmax:l.length=65536
  ·have hm:((l.length:Nat):Int)=65536:=by omega
   have hE:y3x tgB l s=2:=by unfold y3x;rw[if_neg (by simp[h0]),if_pos hmax]
   unfold poD
   rw[hE,if_neg (by decide)]
   simp[t316,n316,e354,zl,h32,hsc,hm]
  ·have hm : ¬ ((l.length:Nat):Int)=65536:=by omega
   have hlast:(0<l.length /\ ∃ q,l[l.length - 1]? = some q/\q.prev.length=32/\l.getLast? = some q) \/ ¬ 0<l.length:=by
    rcases dz l.length with h1 | h1
    ·exact .inr (by omega)
    ·exact .inl ⟨h1,l[l.length - 1],ae (by omega),(h.2 _ (aF _)).1,by rw[fQ,ae (by omega)]⟩
   have hw1:0<l.length->aC.wrap ((l.length:Int) - 1)=((l.length - 1:Nat):Int):=fun h0=>by
    rw[za ⟨by omega,by omega⟩];omega
   obtain⟨p,hp⟩:∃ p:Pst,p=y7x tgB l s:=⟨_,rfl⟩
   have hp2:p=⟨l.length,s.minute,s.corrects,s.ents,d⟩:=by rw[hp,hd];rfl
   have p32:p.prev.length=32:=by rw[hp2];exact h32
   have hpE:(∀ q,l.getLast? = some q -> ¬ s.minute<q.minute)->y3x tgB l s=y5w p:=fun hq=>by
    rw[hp];exact zej v (by omega) fun q h=>by have:=hq q h;omega
   have q4:setCells (dI (l.length:Int)::dI s.minute::dI s.corrects :: .imm .none (s.ents.map y18)::ah 32 (D.int .u8 0)) 4 (d.map yc)=pC p:=by
    rw[hp2];exact stP (p:=⟨l.length,s.minute,s.corrects,s.ents,d⟩) h32
   have q2:∀(x:Obj) (r:List Obj),yx E (x :: .cells (pC p)::r) 71 (.loc 1 0)=some (y4b p):=fun x r=>zve (h:=[x]) (r:=r) p32
   have q2':∀(x:Obj) (r r2:List Obj),yx E (x :: .cells (pC p)::r++r2) 71 (.loc 1 0)=some (y4b p):=fun x r r2=>q2 x (r++r2)
   have q3:=stP p32
   simp only[ah] at q3 q4
   have hld:∀ r:List Obj,yx E (.cells (d.map yc)::r) 73 (.loc 0 0)=some (.agg (d.map yc)):=fun r=>z73 (m:=d) (by simp[Bys,At]) h32
   have h355:=yev p p32 (by rw[hp2];exact hs)
   have m356:=yf4 l (fun p hp=>(h.2 p hp).1) h.1
   have hst:(pC p).length=36:=zmv p32
   obtain⟨m,X,hG,hX⟩:=zsz (pre:=[.cells (d.map yc),.cells (pC p),.dead,.dead,.dead,.dead,.dead,.dead,.dead]) (sp:=.exact) (fun p hp=>(h.2 p hp).1) p32 h.1
   have hL32:∀ q,q ∈ l++[p]->q.prev.length=32:=fun q hq=>by
    rcases aQ.1 hq with hq | hq
    ·exact(h.2 q hq).1
    ·simp at hq;rw[hq];exact p32
   have hfz:=zrd (n:=5) (gr:=true) hX hL32
   have hll:(l++[p]).length=l.length+1:=by simp
   rw[hll] at hfz
   simp only[aR,bh,az,be] at hG
   rcases hlast with⟨h1,q,hq,hq32,hql⟩ | h1
   ·by_cases hmn:s.minute<q.minute
    ·have hE:y3x tgB l s=410:=by unfold y3x;rw[if_neg (by simp[h0]),if_neg hmax,if_pos ⟨q,hql,hmn⟩]
     unfold poD
     rw[hE,if_neg (by decide)]
     simp[t316,n316,e354,zl,h32,hsc,hm,h1,hw1 h1,hq,hq32,hmn]
    ·have hE:=hpE fun q' h=>by rw[hql] at h;cases h;exact hmn
     simp[t316,n316,e354,zl,h32,hsc,hm,h1,hw1 h1,hq,hq32,hmn,-z10,hld,↓q4,p32,q2,↓q3,z27,zh,h355,m356,hG,hfz]
     unfold poD
     rw[hE,<- hp]
     by_cases hc:y5w p=0
     ·simp[hc]
     ·simp[hc]
   ·have hE:=hpE fun q' h=>by
     have:l=[]:=b6 (by omega)
     subst this;simp at h
    simp[t316,n316,e354,zl,h32,hsc,hm,h1,-z10,hld,↓q4,p32,q2,↓q3,z27,zh,h355,m356,hG,hfz]
    unfold poD
    rw[hE,<- hp]
    by_cases hc:y5w p=0
    ·simp[hc]
    ·simp[hc]
 ·have hE:y3x tgB l s=rdE tgB l:=by unfold y3x;rw[if_pos h0]
  have hne : ¬ rdE tgB l=0:=h0
  unfold poD
  rw[hE,if_neg h0]
  simp[t316,n316,e354,zl,h32,hsc,hne]

theorem r359(l:List Pst):y17 E (dL E) 359 [y1r l]=some (.fn 380 [.iptr [y1r l]]):=by
 refine zg c359 (by simp) ?_
 simp[t359,n359,zl]

def y49(l:List Pst):List (Int × Ent):=l.flatMap fun p=>p.ents.map fun x=>(p.minute,x)
theorem zka:y49 []=[]:=rfl
theorem z4p{p:Pst}{l:List Pst}:y49 (p::l)=(p.ents.map fun x=>(p.minute,x))++y49 l:=rfl

theorem yf8{H:List Obj}{q:Nat}{p:Pst}(B:At H q (.cells (pC p))):yx E H 66 (.loc q 3)=some (.imm .none (p.ents.map y18)):=by
 unfold yx
 simp only[B.eq,show(E.ty 66).size=1 from rfl]
 rfl
theorem ld2{H:List Obj}{q:Nat}{p:Pst}(B:At H q (.cells (pC p))):yx E H 2 (.loc q 1)=some (dI p.minute):=by
 unfold yx
 simp only[B.eq,show(E.ty 2).size=1 from rfl]
 rfl

theorem i380(l:List Pst)(ok:y8i l)(L:Nat)(J:Nat->List (Int × Ent)->List Obj->Prop)(Fin:List Obj->Prop)
  (hext:∀ f rem hp r,J f rem hp->J f rem (hp++r))
  (hown:∀ f rem hp r,J f rem hp->J hp.length rem (hp++r))
  (hy:∀ f x rem hp o,J f (x::rem) hp->At hp f o->∃ t hp',y38 (dL E) L [dI x.1,y18 x.2] hp=some (.bool t,hp')/\(t=true->J f rem hp'/\At hp' f o)/\(t=false->Fin hp'))
  {hp:List Obj} {f0:Nat} (h0:J f0 (y49 l) hp) :
  ∃ d hp',y1n E (dL E) 380 [.yld L,.iptr [y1r l]] hp=some (d,hp')/\((∃ f,J f [] hp')\/Fin hp'):=by
 refine z2q c380 (R:=fun _ hp'=>(∃ f,J f [] hp')\/Fin hp') (by simp) ?_
 have hl:=ok.1
 simp[t380,n380]
 refine zr l.length (fun i env hp=>∃(x2 x3 x7 x8 x9 x10 x11 x12 x13 x14 x15:D) ,env=[.yld L,.iptr [y1r l],x2,x3,y1r l,dI l.length,dI i,x7,x8,x9,x10,x11,x12,x13,x14,x15] /\
  ∃ f,J f (y49 (l.drop i)) hp) 0 (by omega) ⟨_,_,_,_,_,_,_,_,_,_,_,rfl,f0,by simpa using h0⟩ ?_
 rintro i env hp hi ⟨x2,x3,x7,x8,x9,x10,x11,x12,x13,x14,x15,rfl,f,hJ⟩
 by_cases hlt:i<l.length
 rotate_left
 ·have:i=l.length:=by omega
  subst this
  rw[cu,zka] at hJ
  simp
  exact .inl ⟨f,hJ⟩
 obtain⟨p,hpi⟩:∃ p,p=l[i]:=⟨_,rfl⟩
 have hp2:=ok.2 p (by rw[hpi];exact aF hlt)
 have hup:=zb hlt (by omega)
 rw[zm hlt,<- hpi,z4p] at hJ
 obtain⟨rest,hrest⟩:∃ rest,rest=y49 (l.drop (i+1)):=⟨_,rfl⟩
 rw[<- hrest] at hJ
 have q1:=fun h:List Obj=>zng (h:=h) hp2.1
 have q3:=stP hp2.1
 simp only[ah] at q3
 have hJ1:=hown _ _ _ [.cells (pC p)] hJ
 have hA1:At (hp++[.cells (pC p)]) hp.length (.cells (pC p)):=by simp[At]
 have y1:=yf8 hA1
 simp[hlt,<- hpi,hp2.1,-z10,q1,↓q3,y1]
 generalize hp++[Obj.cells (pC p)]=H0 at hJ1 hA1
 generalize hp.length=C at hJ1 hA1
 have hel:=hp2.2
 refine zr p.ents.length (fun j env h=>∃(x3 x7 x8 x12 x13 x14 x15:D) ,env=[.yld L,.iptr [y1r l],.loc C 0,x3,y1r l,dI l.length,dI i,x7,x8,.imm .none (p.ents.map y18),dI p.ents.length,dI j,x12,x13,x14,x15] /\
  J C ((p.ents.drop j).map (fun x=>(p.minute,x))++rest) h/\At h C (.cells (pC p))) 0 (by omega) ⟨_,_,_,_,_,_,_,rfl,by simpa using hJ1,hA1⟩ ?_
 rintro j env h hj ⟨x3,x7,x8,x12,x13,x14,x15,rfl,hJ2,hA2⟩
 by_cases hlt2:j<p.ents.length
 rotate_left
 ·have:j=p.ents.length:=by omega
  subst this
  simp only[cu,aO,bh] at hJ2
  rw[hrest] at hJ2
  simp[hlt,hup]
  exact⟨C,hJ2⟩
 have hup2:=zb hlt2 (by omega)
 obtain⟨x,hx⟩:∃ x,x=p.ents[j]:=⟨_,rfl⟩
 rw[zm hlt2,au,aR,<- hx] at hJ2
 have y2:=fun r:List Obj=>ld2 (hA2.app (r:=r))
 have y3:yx E (h++[.cells [dI x.kind,dI x.idx,dI x.amt]]) 72 (.loc h.length 0)=some (y18 x):=by
  unfold yx
  simp only[List.getElem?_concat_length]
  rfl
 obtain⟨t,hp2,e1,e2,e3⟩:=hy C (p.minute,x) _ _ _ (hext _ _ _ [.cells [dI x.kind,dI x.idx,dI x.amt]] hJ2) (hA2.app)
 simp only at e1
 cases t with
 |true=>
  obtain⟨hJ3,hA3⟩:=e2 rfl
  rw[jW] at hJ3
  simp[hlt2,<- hx,-z10,y2,y3,e1,hup2]
  exact⟨hJ3,hA3⟩
 |false=>
  have hF:=e3 rfl
  simp[hlt2,<- hx,-z10,y2,y3,e1,hF]

def y4l(k i m:Int):List (Int × Ent)->Int
 |[]=>0
 |x::l=>(if x.1<=m/\x.2.kind=k/\x.2.idx=i then x.2.amt else 0)+y4l k i m l
theorem z87{k i m:Int}:∀(a b:List (Int × Ent)),y4l k i m (a++b)=y4l k i m a+y4l k i m b
 |[],b=>by simp[y4l]
 |x::a,b=>by simp only[aR,y4l,z87 a b];omega
theorem zbc{k i m n:Int}:∀(l:List Ent),y4l k i m (l.map fun x=>(n,x))=if n<=m then yz k i l else 0
 |[]=>by simp[y4l,yz]
 |x::l=>by
  have ih:=zbc (k:=k) (i:=i) (m:=m) (n:=n) l
  simp only[au,y4l,ih,yz]
  by_cases h1:n<=m
  ·simp[h1]
  ·simp[h1]
theorem z9h{k i m:Int}:∀(l:List Pst),y4l k i m (y49 l)=ybj k i m l
 |[]=>rfl
 |p::l=>by rw[z4p,z87,zbc,z9h l];rfl
theorem zbw:∀(l:List Pst),(y49 l).length=y7z l
 |[]=>rfl
 |p::l=>by rw[z4p,ar,aH,zbw l];rfl
theorem zkb{l:List Pst}{x:Int × Ent}(h:x ∈ y49 l):∃ p,p ∈ l/\x.2 ∈ p.ents:=by
 obtain⟨p,hp,hx⟩:=List.mem_flatMap.1 h
 obtain⟨y,hy,rfl⟩:=aV.1 hx
 exact⟨p,hp,hy⟩

open Classical in
noncomputable def blD(l:List Pst)(k i m:Int):D:=.tup [dI (if rdE tgB l=0 then ybj k i m l else 0),dI (rdE tgB l)]

theorem r318(l:List Pst)(ok:y8i l)(hN:y7z l<=1000000)(k i m:Int):y17 E (dL E) 318 [y1r l,y2v k i,dI m]=some (blD l k i m):=by
 have e324:=ycz l ok
 have e359:=r359 l
 refine zg c318 (by simp) ?_
 unfold blD
 by_cases h0:rdE tgB l=0
 ·have v:=z1q.1 h0
  rw[h0] at e324 ⊢
  rw[if_pos rfl]
  obtain⟨B,hB⟩:∃ B,B=ybj k i m l:=⟨_,rfl⟩
  rw[<- hB]
  simp[t318,n318,zl,e324,e359]
  refine⟨380,_,rfl,?_⟩
  intro L hL hcb
  obtain⟨J,hJ⟩:∃ J:Nat->List (Int × Ent)->List Obj->Prop,J=fun f rem hp'=>2<=f /\ ∃(c:Int),At hp' 0 (.cells [dI c])/\At hp' 1 (L false none)/\c+y4l k i m rem=B/\rem.length<=1000000 /\ -(1099511627776*(1000000 - rem.length):Int)<=c/\c<=1099511627776*(1000000 - rem.length) /\ ∀ x,x ∈ rem->y6s x.2:=⟨_,rfl⟩
  have key:=i380 l ok 1 J (fun _=>False) (by
    rw[hJ]
    rintro f rem hp' r ⟨hf,c,a1,a2,a3⟩
    exact⟨hf,c,a1.app,a2.app,a3⟩) (by
    rw[hJ]
    rintro f rem hp' r ⟨hf,c,a1,a2,a3⟩
    exact⟨by have:=a2.lt;omega,c,a1.app,a2.app,a3⟩) (by
    intro f x rem hp1 o hj ho
    rw[hJ] at hj
    obtain⟨hf,c,a1,a2,a3,a4,a5,a6,a7⟩:=hj
    have l1:=a2.lt
    have⟨ok1,ok2,ok3,ok4,ok5⟩:=a7 x (by simp)
    obtain⟨mi,⟨kd,ix,am⟩⟩:=x
    simp only at ok1 ok2 ok3 ok4 ok5
    simp only[az] at a4 a5 a6
    simp only[y4l] at a3
    obtain⟨H1,hH1⟩:∃ H1,H1=hp1.set 1 (L true none):=⟨_,rfl⟩
    have b0:At H1 0 (.cells [dI c]):=by rw[hH1];exact a1.ne (by omega)
    have b1:At H1 1 (L true none):=by rw[hH1];exact At.self l1
    have bf:At H1 f o:=by rw[hH1];exact ho.ne (by omega)
    have hw:aC.wrap (c+am)=c+am:=za ⟨by omega,by omega⟩
    have l0:=b0.lt
    obtain⟨t,hp2,e1,e2⟩:=hcb [dI mi,y18 ⟨kd,ix,am⟩] hp1 (fun t hp'=>t=true/\J f rem hp'/\At hp' f o) rfl a2 (by
     rw[show[Obj.cells [D.int aC 0]].length=1 from rfl]
     have y2:∀ r:List Obj,(hp1++r)[1]? = some (L false none):=fun r=>a2.app
     have y6:∀ r:List Obj,(hp1++r).set 1 (L true none)=H1++r:=fun r=>by rw[z1s l1,hH1]
     have y7:hp1.length=H1.length:=by rw[hH1,bl]
     have y0:∀ r:List Obj,(H1++r)[0]? = some (.cells [dI c]):=fun r=>b0.app
     have y8:∀(o:Obj) (r:List Obj),(H1++r).set 0 o=H1.set 0 o++r:=fun o r=>z1s l0
     have y9:∀(o:Obj) (r:List Obj),(H1.set 0 o++r)[1]? = some (L true none):=fun o r=>(b1.ne (by omega)).app
     have y10:∀ r:List Obj,(H1++r)[1]? = some (L true none):=fun r=>b1.app
     have fin:∀(c':Int) (G:List Obj),At G 0 (.cells [dI c'])->1<G.length->At G f o->c'+y4l k i m rem=B -> -(1099511627776*(1000000 - rem.length):Int)<=c'->c'<=1099511627776*(1000000 - rem.length)->∀ r:List Obj,J f rem ((G++r).set 1 (L false none))/\At ((G++r).set 1 (L false none)) f o:=by
      intro c' G g0 gl gf g3 g4 g5 r
      have e:(G++r).set 1 (L false none)=G.set 1 (L false none)++r:=z1s gl
      rw[e,hJ]
      exact⟨⟨hf,c',(g0.ne (by omega)).app,(At.self gl).app,g3,by omega,g4,g5,fun x hx=>a7 x (by simp[hx])⟩,(gf.ne (by omega)).app⟩
     by_cases hh:mi<=m/\kd=k/\ix=i
     ·obtain⟨g1,g2,g3⟩:=hh
      subst g2 g3
      simp[y2f,↓y2,↓y6,y7,↓y0,↓y8,↓y9,↓y10,g1,hw]
      rw[if_pos ⟨g1,rfl,rfl⟩] at a3
      exact fin (c+am) _ (At.self l0) (by rw[bl];omega) (bf.ne (by omega)) (by omega) (by omega) (by omega) _
     ·rw[if_neg hh] at a3
      have hF:=fin c H1 b0 (by omega) bf (by omega) (by omega) (by omega)
      by_cases g1:mi<=m
      ·have hbf:(kd == k && ix == i)=false:=by
        rw[Bool.and_eq_false_iff]
        by_cases g2:kd=k
        ·right
         have : ¬ ix=i:=fun g3=>hh ⟨g1,g2,g3⟩
         simpa using this
        ·left;simpa using g2
       simp[y2f,↓y2,↓y6,y7,↓y10,g1,hbf]
       exact hF _
      ·simp[y2f,↓y2,↓y6,y7,↓y10,g1]
       exact hF _)
    exact⟨t,hp2,e1,fun _=>e2.2,fun h=>by rw[e2.1] at h;cases h⟩) (hp:=[.cells [dI 0],L false none]) (f0:=2) (by
    rw[hJ]
    have hlen:=zbw l
    refine⟨af _,0,rfl,rfl,by rw[z9h,Int.zero_add];exact hB.symm,by omega,by omega,by omega,fun x hx=>?_⟩
    obtain⟨p,hp,hx2⟩:=zkb hx
    exact(v.2.1 p hp).fm.ents.ok _ hx2)
  obtain⟨d,hp',h1,h2⟩:=key
  rcases h2 with⟨f,h2⟩ | h2
  ·rw[hJ] at h2
   obtain⟨_,c,a1,a2,a3,_⟩:=h2
   simp only[y4l,Int.add_zero] at a3
   subst a3
   refine⟨d,hp',h1,.inl ⟨a2,?_⟩⟩
   have l0:=a1.lt
   have c0:∀ o,((hp'.set 1 .dead).set 0 o)[0]? = some o:=fun o=>At.self (by simpa using l0)
   simp[a1.eq,↓c0]
  ·exact h2.elim
 ·rw[if_neg h0]
  simp[t318,n318,zl,e324,h0]

theorem z5m(p:Int × Int)(l:List (Int × Int)):yf (p::l)=dI p.1::dI p.2::yf l:=rfl
theorem z4a:∀(l:List (Int × Int)),(yf l).length=l.length*2
 |[]=>rfl
 |p::l=>by rw[z5m,az,az,z4a l,az];omega
theorem z9e(a b:List (Int × Int)):yf (a++b)=yf a++yf b:=List.flatMap_append
theorem zel:∀(l:List (Int × Int)),y42 (yf l)=some l
 |[]=>rfl
 |p::l=>by rw[z5m];simp only[y42,zel l]
theorem zcg:∀(l:List (Int × Int)) (k:Nat),(yf l).take (k*2)=yf (l.take k)
 |[],k=>by simp[yf]
 |p::l,0=>rfl
 |p::l,k+1=>by
  rw[z5m,show(k+1)*2=k*2+1+1 from by omega,fJ,fJ,zcg l k];rfl
theorem zuf{l:List (Int × Int)}{k:Nat}(h:k<l.length):y1x (yf l) (k*2) 2=some [dI l[k].1,dI l[k].2]:=by
 have e:yf l=yf (l.take k)++[dI l[k].1,dI l[k].2]++yf (l.drop (k+1)):=by
  conv=>lhs;rw[<- bj k l,bH h,z9e,z5m]
  simp
 rw[e]
 exact z6m [dI l[k].1,dI l[k].2] _ _ _ (by rw[z4a,aS];omega)
theorem zug{l:List (Int × Int)}{k:Nat}{a:Int × Int}(h:k<l.length):setCells (yf l) (k*2) [dI a.1,dI a.2]=yf (l.set k a):=by
 have e:yf l=yf (l.take k)++(dI l[k].1::dI l[k].2::yf (l.drop (k+1))):=by
  conv=>lhs;rw[<- bj k l,bH h,z9e,z5m]
 have hl:(yf (l.take k)).length=k*2:=by rw[z4a,aS];omega
 have e2:=zt (a:=yf (l.take k)) (b:=dI l[k].1::dI l[k].2::yf (l.drop (k+1))) (off:=0) (vs:=[dI a.1,dI a.2])
 have e3:k*2+0=k*2:=rfl
 rw[hl,e3] at e2
 rw[e,e2,List.set_eq_take_append_cons_drop,if_pos h,z9e,z5m]
 rfl
theorem yd4{H:List Obj}{q k:Nat}{l:List (Int × Int)}(A:At H q (.cells (yf l)))(h:k<l.length):yx E H 65 (.loc q (k*2))=some (y2v l[k].1 l[k].2):=by
 unfold yx
 simp only[A.eq,show(E.ty 65).size=2 from rfl,zuf h]
 rfl
theorem st65{H:List Obj}{q k:Nat}{l:List (Int × Int)}{a:Int × Int}(A:At H q (.cells (yf l)))(h:k<l.length):y3g E H 65 (.loc q (k*2)) (y2v a.1 a.2)=some (H.set q (.cells (yf (l.set k a)))):=by
 unfold y3g
 simp only[A.eq]
 rw[if_pos ⟨rfl,rfl,by rw[z4a,show(E.ty 65).size=2 from rfl];omega⟩]
 rw[<- zug h]
 rfl

theorem s361{hp:List Obj}{q:Nat}{xs:List (Int × Int)}{gr ag:Bool}{k:Nat}(hk:k=362\/k=386)(A:At hp q (.cells (yf xs)))(hl:xs.length<=1000000) :
  y1n E (dL E) (361) [.sl q 0 xs.length 2 ag gr,.fn k []] hp=some (.tup [],hp.set q (.cells (yf (y1l xs)))):=by
 have e:E.fn (361)=some f361:=rfl
 have e2:E.mp 361=false:=rfl
 have e3:[362,386].contains k=true:=by rcases hk with rfl | rfl <;> rfl
 have e4:E.prim 0=y6q [362,386]:=rfl
 have e5:y6q [362,386] [.sl q 0 xs.length 2 ag gr,.fn k []] hp=some (.tup [],hp.set q (.cells (yf (y1l xs)))):=by
  unfold y6q
  simp only[e3,if_true,A.eq]
  rw[if_pos ⟨z4a xs,by omega⟩,zel]
 unfold y1n
 simp only[e,e2,f361,yl,z8n,z5i,zf5,z4s,z62,y2a]
 simp[ye,yd,yh,y22,DOp.fin,ym,ya,yn,gOf,z62,y1o,y4e,yg,y2b,z4s,z81,yt,e4,e5,y29]
theorem yeq{hp:List Obj}{k:Nat}(hk:k=362\/k=386):y1n E (dL E) (361) [.imm .exact [],.fn k []] hp=some (.tup [],hp):=by
 have e:E.fn (361)=some f361:=rfl
 have e2:E.mp 361=false:=rfl
 have e3:[362,386].contains k=true:=by rcases hk with rfl | rfl <;> rfl
 have e4:E.prim 0=y6q [362,386]:=rfl
 have e5:y6q [362,386] [.imm .exact [],.fn k []] hp=some (.tup [],hp):=by
  unfold y6q
  simp only[e3,if_true]
 unfold y1n
 simp only[e,e2,f361,yl,z8n,z5i,zf5,z4s,z62,y2a]
 simp[ye,yd,yh,y22,DOp.fin,ym,ya,yn,gOf,z62,y1o,y4e,yg,y2b,z4s,z81,yt,e4,e5,y29]

def y71(xs:List (Int × Int))(m:Nat):List (Int × Int):=y1h (xs.take m)++xs.drop (y1h (xs.take m)).length
theorem zlen{xs:List (Int × Int)}{m:Nat}:(y1h (xs.take m)).length<=m:=aG z5j (by rw[aS];omega)
theorem z8r{xs:List (Int × Int)}{m:Nat}(h:m<=xs.length):(y71 xs m).length=xs.length:=by
 have:=zlen (xs:=xs) (m:=m)
 unfold y71
 rw[ar,du];omega
theorem zhe{xs:List (Int × Int)}{m j:Nat}(hj:(y1h (xs.take m)).length<=j)(h:j<xs.length)(hm:m<=xs.length):(y71 xs m)[j]'(by rw[z8r hm];exact h)=xs[j]:=by
 have:(y71 xs m)[j]? = some xs[j]:=by
  unfold y71
  rw[aD hj,ca,show(y1h (xs.take m)).length+(j - (y1h (xs.take m)).length)=j from by omega,ae h]
 rw[ae (by rw[z8r hm];exact h)] at this
 exact ce this
theorem znh{xs:List (Int × Int)}{m:Nat}(h0:0<m)(h:m<=xs.length):(xs.take m).getLast? = some (xs[m - 1]'(by omega)):=by
 rw[fQ,aS,bI h,List.getElem?_take,if_pos (by omega),ae]
theorem zcm{xs:List (Int × Int)}{m:Nat}(h0:0<m)(h:m<xs.length):y1h (xs.take (m+1))=if xs[m - 1]'(by omega)=xs[m] then y1h (xs.take m) else y1h (xs.take m)++[xs[m]]:=by
 rw[aM h,zc3,znh h0 (by omega)]
 simp
theorem ztv{xs:List (Int × Int)}{m:Nat}(h0:0<m)(h:m<xs.length)(he:xs[m - 1]'(by omega)=xs[m]):y71 xs (m+1)=y71 xs m:=by
 unfold y71;rw[zcm h0 h,if_pos he]
theorem ztu{xs:List (Int × Int)}{m:Nat}(h0:0<m)(h:m<xs.length)(he : ¬ xs[m - 1]'(by omega)=xs[m]):y71 xs (m+1)=(y71 xs m).set (y1h (xs.take m)).length xs[m]:=by
 have hz:=zlen (xs:=xs) (m:=m)
 unfold y71
 rw[zcm h0 h,if_neg he]
 rw[dw _ _ (af _),fW]
 generalize hc:(y1h (xs.take m)).length=c at hz
 rw[ar,hc,bH (show c<xs.length by omega),List.set_cons_zero]
 simp only[bC,aR,bh]
 rfl

def y58(q:Nat)(h h':List Obj):Prop:=h.length<=h'.length /\ ∀ j o,j ≠ q->At h j o->At h' j o
theorem y58.refl{q:Nat}{h:List Obj}:y58 q h h:=⟨af _,fun _ _ _ a=>a⟩
theorem y58.app{q:Nat}{h h' r:List Obj}(k:y58 q h h'):y58 q h (h'++r):=⟨by rw[ar];have:=k.1;omega,fun j o hj a=>(k.2 j o hj a).app⟩
theorem y58.set{q:Nat}{h h':List Obj}{o:Obj}(k:y58 q h h'):y58 q h (h'.set q o):=⟨by rw[bl];exact k.1,fun j o hj a=>(k.2 j o hj a).ne (Ne.symm hj)⟩

theorem z6g{xs:List (Int × Int)}(h:xs.length<2):y1h xs=xs:=by
 match xs,h with
 |[],_=>rfl
 |[x],_=>rfl
def Cp(q:Nat)(hp:List Obj)(xs:List (Int × Int))(d:D)(hp':List Obj):Prop:=
 ∃ cs,d=.sl q 0 (y1h xs).length 2 true true/\At hp' q (.cells cs)/\cs.take ((y1h xs).length*2)=yf (y1h xs)/\y58 q hp hp'

theorem zto{a b:Int × Int}:y2s E .eql 65 (y2v a.1 a.2) (y2v b.1 b.2)=some (.bool (decide (a=b))):=by
 obtain⟨a1,a2⟩:=a
 obtain⟨b1,b2⟩:=b
 have:y2s E .eql 65 (y2v a1 a2) (y2v b1 b2)=some (.bool ((a1 == b1) && ((a2 == b2) && true))):=rfl
 rw[this]
 simp only[aa,D.bool.injEq,al,iG]
 by_cases h1:a1=b1 <;> by_cases h2:a2=b2 <;> simp[h1,h2]
theorem zxl{a b:Int × Int}:y2s E .neq 65 (y2v a.1 a.2) (y2v b.1 b.2)=some (.bool (!decide (a=b))):=by
 obtain⟨a1,a2⟩:=a
 obtain⟨b1,b2⟩:=b
 have:y2s E .neq 65 (y2v a1 a2) (y2v b1 b2)=some (.bool (!((a1 == b1) && ((a2 == b2) && true)))):=rfl
 rw[this]
 simp only[aa,D.bool.injEq,al,iG]
 by_cases h1:a1=b1 <;> by_cases h2:a2=b2 <;> simp[h1,h2]

theorem sl67{q n k:Nat}{gr:Bool}(h:k<=n):y1b E 67 (.sl q 0 n 2 true gr) (some (dI k)) none none=some (.sl q (k*2) (n - k) 2 true false):=by
 have hk:(E.ty 67).k=.slice 65:=rfl
 unfold y1b
 simp only[hk,bnd,ga,if_true,cz]
 rw[if_pos ⟨h,af _,rfl⟩,bw]
theorem yen{H:List Obj}{q n k:Nat}{cs:List D}(A:At H q (.cells cs))(h:k*2<=cs.length):y2z E H 67 (.sl q 0 n 2 true true) (dI k)=some (.sl q 0 k 2 true true,H):=by
 have hk:(E.ty 67).k=.slice 65:=rfl
 have hz:(E.ty 65).size=2:=rfl
 unfold y2z
 simp only[hk,hz,A.eq,ga,true_and,cz]
 rw[if_pos ⟨h,by decide⟩]
theorem yfn{H:List Obj}{q kk:Nat}{zs:List (Int × Int)}{gr:Bool}(A:At H q (.cells (yf zs)))(h:kk<=zs.length) :
  ∃ cs,yao E H 67 (.sl q (kk*2) (zs.length - kk) 2 true gr)=some (.undef,H.set q (.cells cs))/\cs.take (kk*2)=yf (zs.take kk):=by
 have hk:(E.ty 67).k=.slice 65:=rfl
 have hz:y20 E 65=some (y2v 0 0):=rfl
 refine⟨setCells (yf zs) (kk*2) (yi (ah (zs.length - kk) (y2v 0 0))),?_,?_⟩
 ·unfold yao
  simp only[hk,hz,A.eq]
  rw[if_pos ⟨rfl,by rw[z4a];omega⟩]
 ·have hl:(yf (zs.take kk)).length=kk*2:=by rw[z4a,aS];omega
  have e:yf zs=yf (zs.take kk)++yf (zs.drop kk):=by rw[<- z9e,bj]
  have e2:=zt (a:=yf (zs.take kk)) (b:=yf (zs.drop kk)) (off:=0) (vs:=yi (ah (zs.length - kk) (y2v 0 0)))
  rw[hl] at e2
  have e3:kk*2+0=kk*2:=rfl
  rw[e3] at e2
  rw[e,e2,bP (by omega),bq (by omega)]

theorem s363{hp:List Obj}{q:Nat}{xs:List (Int × Int)}(A:At hp q (.cells (yf xs)))(hl:xs.length<=1000000) :
  ∃ d hp',y1n E (dL E) 363 [.sl q 0 xs.length 2 true true] hp=some (d,hp')/\Cp q hp xs d hp':=by
 refine z2q c363 (args:=[.sl q 0 xs.length 2 true true]) (hp:=hp) (R:=Cp q hp xs) (by simp) ?_
 by_cases h2:xs.length<2
 ·have h2':(xs.length:Int)<2:=by omega
  simp[t363,n363,h2']
  exact⟨_,by rw[z6g h2],A,by rw[z6g h2,zcg,aY],y58.refl⟩
 have h2' : ¬ (xs.length:Int)<2:=by omega
 simp[t363,n363,h2']
 refine zr xs.length (fun k env h=>∃(x3 x4 x5 x6 x7 x8 x9 x10:D) ,env=[.sl q 0 xs.length 2 true true,.imm .exact [],dI k,x3,x4,x5,x6,x7,x8,x9,x10]/\1<=k/\At h q (.cells (yf xs))/\y58 q hp h/\y1h (xs.take k)=xs.take k) 1 (by omega) ⟨_,_,_,_,_,_,_,_,rfl,af _,A,y58.refl,z6g (by rw[aS];omega)⟩ ?_
 rintro k env h hk ⟨x3,x4,x5,x6,x7,x8,x9,x10,rfl,hk1,B,K,hc⟩
 by_cases hlt:k<xs.length
 rotate_left
 ·have:k=xs.length:=by omega
  subst this
  rw[aY] at hc
  simp
  exact⟨_,by rw[hc],B,by rw[hc,zcg,aY],K⟩
 have hup:=zb hlt (by omega)
 have hw1:aC.wrap ((k:Int) - 1)=((k - 1:Nat):Int):=by
  rw[za ⟨by omega,by omega⟩];omega
 have y1:∀ r:List Obj,yx E (h++r) 65 (.loc q (k*2))=some (y2v xs[k].1 xs[k].2):=fun r=>yd4 B.app hlt
 have y2:∀ r:List Obj,yx E (h++r) 65 (.loc q ((k - 1)*2))=some (y2v (xs[k - 1]'(by omega)).1 (xs[k - 1]'(by omega)).2):=fun r=>yd4 B.app (by omega)
 have hk1':(k - 1:Nat)<xs.length:=by omega
 have ez:=zto (a:=xs[k]) (b:=xs[k - 1]'(by omega))
 by_cases he:xs[k - 1]'(by omega)=xs[k]
 ·have he':=he.symm
  have hs:=sl67 (q:=q) (gr:=true) (show k<=xs.length by omega)
  have hc1:y1h (xs.take (k+1))=xs.take k:=by rw[zcm hk1 hlt,if_pos he,hc]
  have hz1:y71 xs (k+1)=xs:=by
   unfold y71
   rw[hc1,aS,bI (by omega),bj]
  have hl1:(y1h (xs.take (k+1))).length=k:=by rw[hc1,aS];omega
  simp[hlt,hup,hw1,hk1',-z10,y1,y2,ez,he',hs]
  refine zr (xs.length - k) (fun j env h=>∃(x5 x6 x7 x8 x9 x10:D) ,env=[.sl q 0 xs.length 2 true true,.imm .exact [],dI (y1h (xs.take (k+j))).length,.sl q (k*2) (xs.length - k) 2 true false,dI j,x5,x6,x7,x8,x9,x10] /\
   1<=j/\(y1h (xs.take (k+j))).length+1<=k+j/\At h q (.cells (yf (y71 xs (k+j))))/\y58 q hp h) 1 (by omega) ⟨_,_,_,_,_,_,by rw[hl1];rfl,af _,by rw[hl1];omega,by rw[hz1];exact B.app,K.app⟩ ?_
  rintro j env h3 hj ⟨x5,x6,x7,x8,x9,x10,rfl,hj1,hkk,B3,K3⟩
  by_cases hlt2:j<xs.length - k
  rotate_left
  ·have:j=xs.length - k:=by omega
   subst this
   have hkn:k+(xs.length - k)=xs.length:=by omega
   rw[hkn] at hkk B3 ⊢
   rw[aY] at hkk ⊢
   have hzl:=z8r (xs:=xs) (af _)
   have hzt:(y71 xs xs.length).take (y1h xs).length=y1h xs:=by unfold y71;rw[aY];simp
   obtain⟨cs,h4,h5⟩:=yfn (gr:=false) B3 (kk:=(y1h xs).length) (by omega)
   rw[hzl] at h4
   rw[hzt] at h5
   have hs2:=sl67 (q:=q) (gr:=true) (show(y1h xs).length<=xs.length from z5j)
   have hs3:=yen (n:=xs.length) (k:=(y1h xs).length) (At.self (o:=.cells cs) B3.lt) (by have:=congrArg cG h5;rw[z4a,aS] at this;have:=z5j (l:=xs);omega)
   simp[hs2,hs3,h4]
   exact⟨cs,rfl,At.self B3.lt,h5,K3.set⟩
  have hm:k+j<xs.length:=by omega
  have hnx:k+(j+1)=k+j+1:=by omega
  have hzl:=z8r (xs:=xs) (m:=k+j) (by omega)
  have g1:=zhe (xs:=xs) (m:=k+j) (j:=k+j) (by omega) hm (by omega)
  have g2:=zhe (xs:=xs) (m:=k+j) (j:=k+j - 1) (by omega) (by omega) (by omega)
  have hup2:=zb hlt2 (by omega)
  have hwj:aC.wrap ((j:Int) - 1)=((j - 1:Nat):Int):=by
   rw[za ⟨by omega,by omega⟩];omega
  have hj1':j - 1<xs.length - k:=by omega
  have z1:∀ r:List Obj,yx E (h3++r) 65 (.loc q (k*2+j*2))=some (y2v xs[k+j].1 xs[k+j].2):=fun r=>by
   have:=yd4 (k:=k+j) (B3.app (r:=r)) (by omega)
   rw[g1,bg] at this
   exact this
  have z2:∀ r:List Obj,yx E (h3++r) 65 (.loc q (k*2+(j - 1)*2))=some (y2v (xs[k+j - 1]'(by omega)).1 (xs[k+j - 1]'(by omega)).2):=fun r=>by
   have:=yd4 (k:=k+j - 1) (B3.app (r:=r)) (by omega)
   rw[g2,show(k+j - 1)*2=k*2+(j - 1)*2 from by omega] at this
   exact this
  have zn:=zxl (a:=xs[k+j]) (b:=xs[k+j - 1]'(by omega))
  by_cases he2:xs[k+j - 1]'(by omega)=xs[k+j]
  ·have hz2:=ztv (by omega) hm he2
   have hcm:=zcm (by omega) hm
   rw[if_pos he2] at hcm
   simp[hlt2,-z10,z1,z2,zn,he2.symm,hwj,hj1',hup2]
   rw[hnx,hcm,hz2]
   exact⟨rfl,by omega,B3.app,K3.app⟩
  ·have hz2:=ztu (by omega) hm he2
   have hcm:=zcm (by omega) hm
   rw[if_neg he2] at hcm
   have he3 : ¬ xs[k+j]=xs[k+j - 1]'(by omega):=fun h=>he2 h.symm
   obtain⟨kk,hkke⟩:∃ kk,kk=(y1h (xs.take (k+j))).length:=⟨_,rfl⟩
   have hcl:(y1h (xs.take (k+(j+1)))).length=kk+1:=by rw[hnx,hcm,ar,hkke];rfl
   rw[<- hkke] at hz2 hkk
   have hst:∀ r:List Obj,y3g E (h3++r) 65 (.loc q (kk*2)) (y2v xs[k+j].1 xs[k+j].2)=some ((h3++r).set q (.cells (yf ((y71 xs (k+j)).set kk xs[k+j])))):=fun r=>st65 B3.app (by omega)
   have hkn:kk<xs.length:=by omega
   have hup3:=zb hkn (by omega)
   simp[hlt2,-z10,z1,z2,zn,he3,hwj,hj1',hup2,<- hkke,hst,hkn,hup3,hcl]
   exact⟨by omega,by rw[hnx,hz2];exact At.self (At.lt B3.app),K3.app.set⟩
 ·have he' : ¬ xs[k]=xs[k - 1]'(by omega):=fun h=>he h.symm
  simp[hlt,hup,hw1,hk1',-z10,y1,y2,ez,he']
  exact⟨B.app,K.app,by rw[zcm hk1 hlt,if_neg he,hc,<- aM hlt]⟩

end Dv
