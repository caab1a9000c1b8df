/- Texts that a proof of this claim uses, joined: Lw.W199, Lw.W200, Lw.W203, Lw.W204, Lw.W205, Lw.W290, Lw.W291, Lw.W201, Lw.W202, Lw.W206, Lw.W319, Lw.W292, Lw.W325, Lw.W322, Lw.W323, Lw.W326, Lw.W327, Lw.W324, Lw.W321, Lw.W268, Lw.W269, Lw.W328, Lw.W330, Lw.W331, Lw.W332. -/
import Derived.Test.YticmiacfglmbeaaGreatLwa
import Derived.Test.YticmiacfglmbeaaGreatTc
import Derived.Test.YticmiacfglmbeaaGreatWa
set_option linter.all false
open BitVec renaming allOnes->ky,ofInt->bS,xor_allOnes->jq
open Bool renaming false_eq_true->aE
open Go.IntKind renaming bits->bm,i64->aA,signed->bc,u64->a7,u8->iY,wrap->bj
open Int renaming fdiv_eq_ediv_of_nonneg->fA,negSucc_eq->ah,tmod_eq_emod_of_nonneg->ej
open List renaming all_eq_false->jC,all_eq_true->aw,append_assoc->bZ,append_nil->aS,cons_append->bi,contains_nil->gU,drop_drop->ce,drop_eq_getElem_cons->cJ,drop_eq_nil_of_le->cu,drop_length->jP,flatMap_cons->cG,flatMap_eq_nil_iff->eW,flatMap_nil->f6,getElem?_eq_some_iff->ac,getElem_mem->aP,getElem_of_mem->eU,head?_eq_getElem?->ff,idxOf_cons->aJ,length->dZ,length_append->aN,length_cons->bn,length_map->cK,length_take->bu,map_append->dM,map_take->kN,mem_cons->aC,mem_map->aT,nil_append->eg,replicate->ae,sizeOf_lt_of_mem->dG,take_append_drop->b7,take_length->bp,take_succ_eq_append_getElem->aY
open Nat renaming add_mul->be,div_lt_iff_lt_mul->iJ,le_max_left->cg,le_max_right->bE,le_refl->ar,le_trans->aD,lt_or_ge->cj,max->jt,max_def->lG,max_le->iQ,min_eq_left->ii,mod_eq_of_lt->dT,mul_assoc->iS,mul_comm->ic,mul_le_mul_right->bh,mul_one->fB,pow_add->gJ,pow_le_pow_right->eG,strongRecOn->c7,zero_le->cx
open Ne renaming symm->bw
open Option renaming bind_some->bU,map_none->aQ,map_some->af
open Option.some renaming injEq->aa
open Prod.mk renaming injEq->ak
open UInt8 renaming ofNat->bX,toNat_inj->ci
set_option maxRecDepth 100000
set_option maxHeartbeats 16000000
namespace Dv

theorem zkq {A:Type} {hp r:List A} {i:Nat} {o:A} (h:hp[i]? = some o):(hp++r)[i]? = some o:=by
 rw [List.getElem?_append_left (ac.1 h).1,h]
theorem zsj {A:Type} {hp:List A} {i:Nat} {o:A} (h:hp[i]? = some o):i<hp.length:=(ac.1 h).1
theorem zsm {A:Type} {hp:List A} {i j:Nat} {x o:A} (h:hp[i]? = some o) (hn:j ≠ i):(hp.set j x)[i]? = some o:=by
 rw [List.getElem?_set_ne hn,h]
theorem zqj {A:Type} {hp:List A} {i:Nat} {x:A} (h:i<hp.length):(hp.set i x)[i]? = some x:=by
 rw [List.getElem?_set_self h]
theorem zne {A:Type} {hp r:List A} {k:Nat}:(hp++r)[hp.length+k]? = r[k]?:=by
 rw [List.getElem?_append_right (by omega)];congr 1;omega
theorem zez {A:Type} {hp r:List A} {k:Nat} {x:A}:(hp++r).set (hp.length+k) x=hp++r.set k x:=by
 rw [List.set_append_right _ _ (by omega)];congr 2;omega
theorem zj {A:Type} {hp r:List A} {i:Nat} {x:A} (h:i<hp.length):(hp++r).set i x=hp.set i x++r:=List.set_append_left _ _ h

def At (hp:List Obj) (i:Nat) (o:Obj):Prop:=hp[i]? = some o
theorem At.eq {hp:List Obj} {i:Nat} {o:Obj} (h:At hp i o):hp[i]? = some o:=h
theorem At.app {hp r:List Obj} {i:Nat} {o:Obj} (h:At hp i o):At (hp++r) i o:=zkq h
theorem At.appE {hp r:List Obj} {i:Nat} {o:Obj} (h:At hp i o):(hp++r)[i]? = some o:=zkq h
theorem At.ne {hp:List Obj} {i j:Nat} {x o:Obj} (h:At hp i o) (hn:j ≠ i):At (hp.set j x) i o:=zsm h hn
theorem At.lt {hp:List Obj} {i:Nat} {o:Obj} (h:At hp i o):i<hp.length:=zsj h
theorem At.self {hp:List Obj} {i:Nat} {o:Obj} (h:i<hp.length):At (hp.set i o) i o:=zqj h

def Room (C:Nat) (hp:List Obj) (sp:Spare) (n sz:Nat):Prop:=sp=.exact \/ ∃ k,sp=.tok k/\C<=k/\At hp k (.tok (n*sz) sz)
def Keep (i C:Nat) (hp hp':List Obj):Prop:=∀ J:List Obj->Prop,(∀ hp r,J hp->J (hp++r))->(∀ hp j o,J hp->(j=i\/C<=j)->J (hp.set j o))->J hp->J hp'
theorem Keep.at {i C:Nat} {hp hp':List Obj} (h:Keep i C hp hp') {j:Nat} {o:Obj} (hj:j ≠ i) (hC:j<C) (g:At hp j o):At hp' j o:=
 h (fun hp=>At hp j o) (fun _ _ h=>h.app) (fun _ k _ h hk=>h.ne (by rcases hk with rfl | hk;exact fun e=>hj e.symm;omega)) g
theorem Keep.refl {i C:Nat} {hp:List Obj}:Keep i C hp hp:=fun _ _ _ h=>h
theorem Keep.trans {i C:Nat} {hp hp' hp'':List Obj} (h:Keep i C hp hp') (h':Keep i C hp' hp''):Keep i C hp hp'':=fun J h1 h2 h3=>h' J h1 h2 (h J h1 h2 h3)
theorem Keep.app {i C:Nat} {hp r:List Obj}:Keep i C hp (hp++r):=fun _ h1 _ h3=>h1 _ _ h3
theorem Keep.set {i C j:Nat} {o:Obj} {hp:List Obj} (hj:j=i\/C<=j):Keep i C hp (hp.set j o):=fun _ _ h2 h3=>h2 _ _ _ h3 hj

end Dv

namespace Dv

inductive CV where
 | mk (k n:Int) (s:List UInt8) (l:List CV)

abbrev dBy (l:List UInt8):D:=.imm .none (l.map byteD)

mutual
def dV:CV->D
 | .mk k n s l=>.agg [dI k,dI n,.str s,.imm .none (dVs l)]
def dVs:List CV->List D
 | []=>[]
 | v::l=>dV v::dVs l
end
theorem zlc:∀ (l:List CV),dVs l=l.map dV
 | []=>rfl
 | v::l=>by simp [dVs,zlc l]
theorem z9 {k n:Int} {s:List UInt8} {l:List CV}:dV (.mk k n s l)=.agg [dI k,dI n,.str s,.imm .none (l.map dV)]:=by rw [dV,zlc]

def num (u:Nat):List UInt8:=if h:u<128 then [bX u] else bX (u % 128+128)::num (u / 128)
termination_by u
decreasing_by omega
theorem z4z {u:Nat} (h:u<128):num u=[bX u]:=by rw [num,dif_pos h]
theorem z7h {u:Nat} (h : ¬ u<128):num u=bX (u % 128+128)::num (u / 128):=by rw [num,dif_neg h]

def uns (n:Int):Nat:=if 0<=n then 2*n.toNat else 2*(-(n+1)).toNat+1
def sgn (u:Nat):Int:=if u % 2=0 then (u / 2:Nat) else -((u / 2:Nat):Int) - 1
theorem zjc (n:Int):sgn (uns n)=n:=by
 unfold sgn uns
 split <;> split <;> omega
theorem zj2 (u:Nat):uns (sgn u)=u:=by
 unfold sgn uns
 split <;> split <;> omega
theorem z78 {n:Int} (h:i64 n):uns n<18446744073709551616:=by
 obtain ⟨h1,h2⟩:=h
 unfold uns;split <;> omega
theorem zjd {u:Nat} (h:u<18446744073709551616):i64 (sgn u):=by
 unfold sgn i64;split <;> omega

def rdN:Nat->List UInt8->Option (Nat × List UInt8)
 | _,[]=>none
 | i,c::r=>if (i=0\/c ≠ 0)/\(i<9\/c.toNat<=1) then
   (if c.toNat<128 then some (c.toNat,r) else (rdN (i+1) r).map fun p=>(c.toNat - 128+128*p.1,p.2))
  else none

theorem z3f {n:Nat} (h:n<256):(bX n).toNat=n:=by
 rw [UInt8.toNat_ofNat'];exact dT h
theorem z89 {c:UInt8}:c ≠ 0 ↔ c.toNat ≠ 0:=by
 constructor
 ·intro h e;exact h (ci.1 (by rw [e];rfl))
 ·intro h e;exact h (by rw [e];rfl)
theorem zbr (c:UInt8):c.toNat<256:=c.toNat_lt

def numB (i:Nat):Nat:=2 ^ (64 - 7*i)

theorem zjv {i:Nat} (h:i<9):numB i=128*numB (i+1):=by
 unfold numB
 rw [show (128:Nat)=2 ^ 7 from rfl,<- gJ]
 congr 1;omega

theorem zjk:∀ (u i:Nat) (r:List UInt8),i<=9->(i=0\/u ≠ 0)->u<numB i->rdN i (num u++r)=some (u,r):=by
 intro u
 induction u using c7 with
 | _ u ih=>
  intro i r hi h0 hu
  by_cases h:u<128
  ·rw [z4z h]
   have e:=z3f (n:=u) (by omega)
   have h1:i=0\/bX u ≠ 0:=by rw [z89,e];exact h0
   have h2:i<9\/(bX u).toNat<=1:=by
    rw [e]
    by_cases h9:i<9
    ·exact .inl h9
    ·have:i=9:=by omega
     subst this
     have:numB 9=2:=rfl
     omega
   simp only [bi,eg,rdN]
   rw [if_pos ⟨h1,h2⟩,e,if_pos h]
  ·rw [z7h h]
   have e:=z3f (n:=u % 128+128) (by omega)
   have h9:i<9:=by
    rcases cj i 9 with h9 | h9
    ·exact h9
    ·have:i=9:=by omega
     subst this
     have:numB 9=2:=rfl
     omega
   have h1:i=0\/bX (u % 128+128) ≠ 0:=by rw [z89,e];omega
   have hn:=zjv h9
   have:=ih (u / 128) (by omega) (i+1) r (by omega) (by omega) (by omega)
   simp only [bi,rdN]
   rw [if_pos ⟨h1,.inl h9⟩,e,if_neg (by omega),this]
   simp only [af,aa,ak,and_true]
   omega

theorem z31:∀ (b:List UInt8) (i u:Nat) (r:List UInt8),i<=9->rdN i b=some (u,r)->b=num u++r/\u<numB i/\(i=0\/u ≠ 0)
 | [],i,u,r,_,h=>by simp [rdN] at h
 | c::b,i,u,r,hi,h=>by
  simp only [rdN] at h
  split at h
  case isFalse=>simp at h
  rename_i hc
  have hc8:=zbr c
  split at h
  ·rename_i hl
   simp only [aa,ak] at h
   obtain ⟨rfl,rfl⟩:=h
   refine ⟨?_,?_,?_⟩
   ·rw [z4z hl];simp
   ·rcases hc.2 with h9 | h1
    ·have:128<=numB i:=by
      unfold numB
      exact eG (n:=2) (i:=7) (by decide) (by omega)
     omega
    ·have:2<=numB i:=by
      unfold numB
      exact eG (n:=2) (i:=1) (by decide) (by omega)
     omega
   ·rcases hc.1 with h0 | h0
    ·exact .inl h0
    ·exact .inr (z89.1 h0)
  ·rename_i hl
   have h9:i<9:=by rcases hc.2 with h9 | h1 <;> omega
   cases hr:rdN (i+1) b with
   | none=>rw [hr] at h;simp at h
   | some p=>
    obtain ⟨v,q⟩:=p
    rw [hr] at h
    simp only [af,aa,ak] at h
    obtain ⟨rfl,rfl⟩:=h
    obtain ⟨e1,e2,e3⟩:=z31 b (i+1) v q (by omega) hr
    have hv:v ≠ 0:=by rcases e3 with e3 | e3 <;> omega
    have hn:=zjv h9
    refine ⟨?_,by omega,.inr (by omega)⟩
    rw [z7h (by omega),show (c.toNat - 128+128*v) / 128=v from by omega,show (c.toNat - 128+128*v) % 128+128=c.toNat from by omega,e1]
    simp

theorem zrx {u:Nat}:num u ≠ []:=by
 by_cases h:u<128
 ·rw [z4z h];simp
 ·rw [z7h h];simp
theorem zdv {u:Nat}:1<=(num u).length:=by
 have:=zrx (u:=u)
 cases h:num u with
 | nil=>exact absurd h this
 | cons _ _=>simp

mutual
def enc:CV->List UInt8
 | .mk k n s l=>if k=1 then 1::num (uns n) else if k=2 then 2::(num s.length++s) else 3::(num l.length++encL l)
def encL:List CV->List UInt8
 | []=>[]
 | v::l=>enc v++encL l
end

mutual
def fmd:CV->Prop
 | .mk k n s l=>(k=1/\i64 n/\s=[]/\l=[])\/(k=2/\n=0/\l=[])\/(k=3/\n=0/\s=[]/\fmdL l)
def fmdL:List CV->Prop
 | []=>True
 | v::l=>fmd v/\fmdL l
end
mutual
def dep:CV->Nat
 | .mk k _ _ l=>if k=3 then depL l+1 else 0
def depL:List CV->Nat
 | []=>0
 | v::l=>jt (dep v) (depL l)
end

theorem zqn {v:CV}:1<=(enc v).length:=by
 cases v with
 | mk k n s l=>rw [enc];split <;> (try split) <;> simp
theorem z5i:∀ (l:List CV),l.length<=(encL l).length
 | []=>by simp
 | v::l=>by
  have:=z5i l
  have:=zqn (v:=v)
  simp only [encL,bn,aN];omega
theorem z3p:∀ (a b:List CV),encL (a++b)=encL a++encL b
 | [],b=>by simp [encL]
 | v::a,b=>by simp [encL,z3p a b]

def rdL (f:List UInt8->Option (CV × List UInt8)):Nat->List UInt8->Option (List CV × List UInt8)
 | 0,b=>some ([],b)
 | n+1,b=>match f b with
  | none=>none
  | some p=>match rdL f n p.2 with
   | none=>none
   | some q=>some (p.1::q.1,q.2)

def rdS (b:List UInt8):Option (Nat × List UInt8):=match rdN 0 b with
 | some p=>if p.1<=p.2.length then some p else none
 | none=>none

def rdV:Nat->List UInt8->Option (CV × List UInt8)
 | _,[]=>none
 | 0,c::r=>if c=1 then (rdN 0 r).map fun p=>(.mk 1 (sgn p.1) [] [],p.2)
  else if c=2 then (rdS r).map fun p=>(.mk 2 0 (p.2.take p.1) [],p.2.drop p.1)
  else none
 | d+1,c::r=>if c=1 then (rdN 0 r).map fun p=>(.mk 1 (sgn p.1) [] [],p.2)
  else if c=2 then (rdS r).map fun p=>(.mk 2 0 (p.2.take p.1) [],p.2.drop p.1)
  else if c=3 then (rdS r).bind fun p=>(rdL (rdV d) p.1 p.2).map fun q=>(.mk 3 0 [] q.1,q.2)
  else none

def deco (b:List UInt8):Option CV:=match rdV 16 b with
 | some (v,[])=>some v
 | _=>none

theorem zjj {n:Nat} {b:List UInt8} (h:n<=b.length) (h2:n<18446744073709551616):rdS (num n++b)=some (n,b):=by
 unfold rdS
 rw [zjk n 0 b (by omega) (.inl rfl) h2]
 simp [h]

mutual
theorem zji:∀ (v:CV) (d:Nat) (r:List UInt8),fmd v->dep v<=d->(enc v).length<1000000000000->rdV d (enc v++r)=some (v,r)
 | .mk k n s l,d,r,hf,hd,hl=>by
  rw [fmd] at hf
  rcases hf with ⟨rfl,hn,rfl,rfl⟩ | ⟨rfl,rfl,rfl⟩ | ⟨rfl,rfl,rfl,hf⟩
  ·rw [enc,if_pos rfl]
   have e:=zjk (uns n) 0 r (by omega) (.inl rfl) (z78 hn)
   cases d <;> simp [rdV,e,zjc]
  ·rw [enc,if_neg (by decide),if_pos rfl] at hl ⊢
   have e:=zjj (n:=s.length) (b:=s++r) (by simp) (by simp at hl;omega)
   cases d <;> simp [rdV,e]
  ·rw [enc,if_neg (by decide),if_neg (by decide)] at hl ⊢
   rw [dep,if_pos rfl] at hd
   simp only [bn,aN] at hl
   have h2:=z5i l
   obtain ⟨d,rfl⟩:∃ e,d=e+1:=⟨d - 1,by omega⟩
   have e:=zjj (n:=l.length) (b:=encL l++r) (by simp;omega) (by omega)
   have e2:=zjl l d r hf (by omega) (by omega)
   simp [rdV,e,e2]
theorem zjl:∀ (l:List CV) (d:Nat) (r:List UInt8),fmdL l->depL l<=d->(encL l).length<1000000000000->rdL (rdV d) l.length (encL l++r)=some (l,r)
 | [],d,r,hf,hd,hl=>by simp [rdL,encL]
 | v::l,d,r,hf,hd,hl=>by
  rw [fmdL] at hf
  rw [depL] at hd
  rw [encL] at hl ⊢
  simp only [aN] at hl
  have h1:dep v<=d:=aD (cg _ _) hd
  have h2:depL l<=d:=aD (bE _ _) hd
  have e1:=zji v d (encL l++r) hf.1 h1 (by omega)
  have e2:=zjl l d r hf.2 h2 (by omega)
  simp only [bn,rdL,bZ]
  rw [e1]
  simp only [e2]
end

theorem z7v {b q:List UInt8} {n:Nat} (h:rdS b=some (n,q)):b=num n++q/\n<18446744073709551616/\n<=q.length:=by
 unfold rdS at h
 split at h
 ·rename_i p hp
  split at h
  ·rename_i hle
   simp only [aa] at h
   subst h
   obtain ⟨h1,h2,_⟩:=z31 b 0 n q (by omega) hp
   exact ⟨h1,h2,hle⟩
  ·simp at h
 ·simp at h

def Rd (d:Nat) (f:List UInt8->Option (CV × List UInt8)):Prop:=∀ b v r,f b=some (v,r)->b=enc v++r/\fmd v/\dep v<=d

theorem zf1 {d:Nat} {f:List UInt8->Option (CV × List UInt8)} (hf:Rd d f):∀ (n:Nat) (b r:List UInt8) (l:List CV),rdL f n b=some (l,r)->b=encL l++r/\fmdL l/\depL l<=d/\l.length=n
 | 0,b,r,l,h=>by
  simp only [rdL,aa,ak] at h
  obtain ⟨rfl,rfl⟩:=h
  simp [encL,fmdL,depL]
 | n+1,b,r,l,h=>by
  simp only [rdL] at h
  split at h
  ·simp at h
  ·rename_i p hp
   split at h
   ·simp at h
   ·rename_i q hq
    simp only [aa,ak] at h
    obtain ⟨rfl,rfl⟩:=h
    obtain ⟨h1,h2,h3⟩:=hf b p.1 p.2 hp
    obtain ⟨h4,h5,h6,h7⟩:=zf1 hf n p.2 q.2 q.1 hq
    refine ⟨?_,?_,?_,by simp [h7]⟩
    ·rw [encL,bZ,<- h4];exact h1
    ·rw [fmdL];exact ⟨h2,h5⟩
    ·rw [depL];exact iQ.2 ⟨h3,h6⟩

theorem z7u:∀ (d:Nat),Rd d (rdV d):=by
 intro d
 induction d with
 | zero=>
  intro b v r h
  cases b with
  | nil=>simp [rdV] at h
  | cons c b=>
   simp only [rdV] at h
   split at h
   ·rename_i hc
    subst hc
    cases hp:rdN 0 b with
    | none=>rw [hp] at h;simp at h
    | some p=>
     rw [hp] at h
     simp only [af,aa,ak] at h
     obtain ⟨rfl,rfl⟩:=h
     obtain ⟨h1,h2,_⟩:=z31 b 0 p.1 p.2 (by omega) hp
     refine ⟨?_,?_,?_⟩
     ·rw [enc,if_pos rfl,zj2,bi,<- h1]
     ·rw [fmd];exact .inl ⟨rfl,zjd h2,rfl,rfl⟩
     ·rw [dep,if_neg (by decide)];exact cx _
   ·split at h
    ·rename_i hc
     subst hc
     cases hp:rdS b with
     | none=>rw [hp] at h;simp at h
     | some p=>
      obtain ⟨n,q⟩:=p
      rw [hp] at h
      simp only [af,aa,ak] at h
      obtain ⟨rfl,rfl⟩:=h
      obtain ⟨h1,h2,h3⟩:=z7v hp
      refine ⟨?_,?_,?_⟩
      ·rw [enc,if_neg (by decide),if_pos rfl,bu,ii h3,bi,bZ,b7,<- h1]
      ·rw [fmd];exact .inr (.inl ⟨rfl,rfl,rfl⟩)
      ·rw [dep,if_neg (by decide)];exact cx _
    ·simp at h
 | succ d ih=>
  intro b v r h
  cases b with
  | nil=>simp [rdV] at h
  | cons c b=>
   simp only [rdV] at h
   split at h
   ·rename_i hc
    subst hc
    cases hp:rdN 0 b with
    | none=>rw [hp] at h;simp at h
    | some p=>
     rw [hp] at h
     simp only [af,aa,ak] at h
     obtain ⟨rfl,rfl⟩:=h
     obtain ⟨h1,h2,_⟩:=z31 b 0 p.1 p.2 (by omega) hp
     refine ⟨?_,?_,?_⟩
     ·rw [enc,if_pos rfl,zj2,bi,<- h1]
     ·rw [fmd];exact .inl ⟨rfl,zjd h2,rfl,rfl⟩
     ·rw [dep,if_neg (by decide)];exact cx _
   ·split at h
    ·rename_i hc
     subst hc
     cases hp:rdS b with
     | none=>rw [hp] at h;simp at h
     | some p=>
      obtain ⟨n,q⟩:=p
      rw [hp] at h
      simp only [af,aa,ak] at h
      obtain ⟨rfl,rfl⟩:=h
      obtain ⟨h1,h2,h3⟩:=z7v hp
      refine ⟨?_,?_,?_⟩
      ·rw [enc,if_neg (by decide),if_pos rfl,bu,ii h3,bi,bZ,b7,<- h1]
      ·rw [fmd];exact .inr (.inl ⟨rfl,rfl,rfl⟩)
      ·rw [dep,if_neg (by decide)];exact cx _
    ·split at h
     ·rename_i hc
      subst hc
      cases hp:rdS b with
      | none=>rw [hp] at h;simp at h
      | some p=>
       obtain ⟨n,q⟩:=p
       rw [hp] at h
       simp only [bU] at h
       cases hq:rdL (rdV d) n q with
       | none=>rw [hq] at h;simp at h
       | some z=>
        obtain ⟨l,r'⟩:=z
        rw [hq] at h
        simp only [af,aa,ak] at h
        obtain ⟨rfl,rfl⟩:=h
        obtain ⟨h1,h2,h3⟩:=z7v hp
        obtain ⟨h4,h5,h6,h7⟩:=zf1 ih n q r' l hq
        refine ⟨?_,?_,?_⟩
        ·rw [enc,if_neg (by decide),if_neg (by decide),h7,bi,bZ,<- h4,<- h1]
        ·rw [fmd];exact .inr (.inr ⟨rfl,rfl,rfl,h5⟩)
        ·rw [dep,if_pos rfl];omega
     ·simp at h

theorem zo5 {v:CV} (h:fmd v) (hd:dep v<=16) (hl:(enc v).length<1000000000000):deco (enc v)=some v:=by
 have:=zji v 16 [] h hd hl
 rw [aS] at this
 unfold deco
 rw [this]
theorem zbb {b:List UInt8} {v:CV} (h:deco b=some v):b=enc v/\fmd v/\dep v<=16:=by
 unfold deco at h
 split at h
 ·rename_i w hw
  simp only [aa] at h
  subst h
  have:=z7u 16 b w [] hw
  rw [aS] at this
  exact this
 ·simp at h
end Dv

namespace Dv
attribute [local simp] ae depth dCell dUse dInts dChoice dVar dProb tStart addO Ret
attribute [local congr] z45 z4f z3g z2n z23 z3m z21


theorem z1t {n:Nat} (h:n<18446744073709551616):a7.wrap (n:Int)=n:=by
 simp [bj,bm,bc];omega
theorem z88 {n:Nat}:iY.wrap (n:Int)=((n % 256:Nat):Int):=by
 simp [bj,bm,bc]
theorem or128 {n:Nat} (h:n<256):iorI .u8 (n:Int) 128=((n % 128+128:Nat):Int):=by
 have key:∀ m:Fin 256,iorI .u8 ((m.val:Nat):Int) 128=((m.val % 128+128:Nat):Int):=by decide +kernel
 exact key ⟨n,h⟩
theorem z4n:a7.bits=64:=rfl
theorem shr7 {n:Nat}:((n:Int).fdiv 128)=((n / 128:Nat):Int):=by
 rw [fA _ (by omega)];omega
theorem mk8 {n:Nat} (h:n<256):(D.int .u8 (n:Int))=byteD (bX n):=by
 unfold byteD
 rw [z3f h]

theorem z3t {u:Nat} (h:u<18446744073709551616):(num u).length<=11:=by
 have key:∀ (k u:Nat),u<2 ^ (7*k)->(num u).length<=k+1:=by
  intro k
  induction k with
  | zero=>intro u h;rw [z4z (by omega)];simp
  | succ k ih=>
   intro u h
   by_cases h1:u<128
   ·rw [z4z h1];simp
   ·rw [z7h h1]
    have:=ih (u / 128) (by
     rw [iJ (by decide),show (128:Nat)=2 ^ 7 from rfl,<- gJ]
     rwa [show 7*k+7=7*(k+1) from by omega])
    simp;omega
 have:(18446744073709551616:Nat)<=2 ^ (7*10):=by decide
 exact key 10 u (by omega)
theorem za5 {l:List UInt8}:fitsE 1 (l.map byteD)=true:=by
 unfold fitsE
 rw [aw]
 intro x hx
 obtain ⟨r,_,rfl⟩:=aT.1 hx
 rfl
theorem z10 {l:List UInt8} {new:List D} (h:l.length+new.length<=1000000000000):appOk E 13 (l.map byteD) new:=by
 refine ⟨?_,?_,?_,za5⟩ <;> simp [maxBytes]
 omega

theorem s312 {C:Nat}:∀ (u:Nat) {hp:List Obj} {sp:Spare} (l:List UInt8),u<18446744073709551616->l.length<=900000000000->Room C hp sp l.length 1->C<=hp.length ->
  ∃ d hp',runS E (dL E) 312 [.imm sp (l.map byteD),.int .u64 u] hp=some (d,hp') /\ ∃ k,d=.imm (.tok k) ((l++num u).map byteD)/\C<=k/\At hp' k (.tok (l++num u).length 1)/\Keep C C hp hp'/\hp.length<=hp'.length:=by
 intro u hp sp l hu hl R hC
 refine z4w c312 (args:=[.imm sp (l.map byteD),.int .u64 u]) (hp:=hp) (R:=fun d hp'=>∃ k,d=.imm (.tok k) ((l++num u).map byteD)/\C<=k/\At hp' k (.tok (l++num u).length 1)/\Keep C C hp hp'/\hp.length<=hp'.length) (by simp) ?_
 conv in t312=>reduce;dsimp [ah]
 simp [t312,n312]
 have hlen:=z3t hu
 refine ⟨fun k env h=>∃ (x3 x4 x5:D) (sp':Spare) (l':List UInt8),env=[.imm sp' (l'.map byteD),.int .u64 (k:Nat),.imm .exact [],x3,x4,x5]/\k<18446744073709551616/\l'++num k=l++num u/\Room C h sp' l'.length 1/\Keep C C hp h/\hp.length<=h.length,u,⟨_,_,_,sp,l,rfl,hu,rfl,R,Keep.refl,ar _⟩,?_⟩
 rintro k env h ⟨x3,x4,x5,sp',l',rfl,hk,he,R',K',hh⟩
 have htot:l'.length+(num k).length<=900000000000+11:=by
  have:=congrArg dZ he
  simp only [aN] at this
  omega
 have hpos:=zdv (u:=k)
 by_cases h128:128<=k
 ·have hn : ¬ k<128:=by omega
  have hI:(128:Int)<=(k:Int):=by omega
  have hap:∀ x:D,appOk E 13 (l'.map byteD) [x]:=fun x=>z10 (by simp;omega)
  have e1:D.int .u8 (iorI .u8 ((k:Int) % 256) 128)=byteD (bX (k % 128+128)):=by
   have h1:=or128 (n:=k % 256) (by omega)
   rw [show k % 256 % 128+128=k % 128+128 from by omega,show ((k % 256:Nat):Int)=(k:Int) % 256 from by omega] at h1
   rw [h1,mk8 (n:=k % 128+128) (by omega)]
  have e2:(k:Int).fdiv 128=((k / 128:Nat):Int):=shr7
  rw [z7h hn] at he
  obtain ⟨c,hc⟩:∃ c,c=bX (k % 128+128):=⟨_,rfl⟩
  rw [<- hc] at e1 he
  have he':(l'++[c])++num (k / 128)=l++num u:=by simpa using he
  rcases R' with rfl | ⟨q,rfl,hq,hq2⟩
  ·simp [hI,convD,zk,zg,hap,z88,e1,z4n,e2]
   exact ⟨k / 128,by omega,_,_,_,_,l'++[c],⟨⟨rfl,by simp⟩,by omega,rfl,rfl,rfl⟩,by omega,he',.inr ⟨h.length,rfl,by omega,by simp [At]⟩,K'.trans Keep.app,by omega⟩
  ·simp [hI,convD,zk,zp,hap,z88,e1,hq2.eq,z4n,e2]
   exact ⟨k / 128,by omega,_,_,_,_,l'++[c],⟨⟨rfl,by simp⟩,by omega,rfl,rfl,rfl⟩,by omega,he',.inr ⟨h.length,rfl,by omega,by simp [At]⟩,(K'.trans (Keep.set (.inr hq))).trans Keep.app,by omega⟩
 ·have hI : ¬ (128:Int)<=(k:Int):=by omega
  have e0:=z88 (n:=k)
  rw [show k % 256=k from by omega] at e0
  have e3:=mk8 (n:=k) (by omega)
  have hap:∀ x:D,appOk E 13 (l'.map byteD) [x]:=fun x=>z10 (by simp;omega)
  rw [z4z (by omega)] at he
  obtain ⟨c,hc⟩:∃ c,c=bX k:=⟨_,rfl⟩
  rw [<- hc] at e3 he
  have hm:l'.map byteD++[byteD c]=l.map byteD++(num u).map byteD:=by
   have:=congrArg (List.map byteD) he
   simpa using this
  have hl2:l'.length+1=l.length+(num u).length:=by
   have:=congrArg dZ he
   simpa using this
  rcases R' with rfl | ⟨q,rfl,hq,hq2⟩
  ·simp [hI,convD,zk,zg,hap,e0,e3]
   exact ⟨h.length,⟨rfl,hm⟩,by omega,by simp [At,hl2],K'.trans Keep.app,by omega⟩
  ·simp [hI,convD,zk,zp,hap,e0,e3,hq2.eq]
   exact ⟨h.length,⟨rfl,hm⟩,by omega,by simp [At,hl2],(K'.trans (Keep.set (.inr hq))).trans Keep.app,by omega⟩

theorem zbj:aA.bits=64:=rfl
theorem z2y (m:Int):a7.wrap m=m % 18446744073709551616:=by
 simp [bj,bm,bc]
theorem zma {x:Nat} (h:x<18446744073709551616):xorI .u64 (x:Int) 0=x:=by
 unfold xorI
 rw [z2y]
 have e:(bS a7.bits (x:Int) ^^^ bS a7.bits 0).toNat=x:=by
  rw [show a7.bits=64 from rfl]
  simp
  omega
 rw [e];omega
theorem zmb {x:Nat} (h:x<18446744073709551616):xorI .u64 (x:Int) 18446744073709551615=((18446744073709551615 - x:Nat):Int):=by
 unfold xorI
 rw [z2y]
 have e:(bS a7.bits (x:Int) ^^^ bS a7.bits 18446744073709551615).toNat=18446744073709551615 - x:=by
  rw [show a7.bits=64 from rfl]
  have:(bS 64 18446744073709551615)=ky 64:=by decide
  rw [this,jq]
  simp
  omega
 rw [e];omega
theorem zig {n:Int} (h:i64 n):xorI .u64 (a7.wrap (a7.wrap n*2)) (a7.wrap (n.fdiv 9223372036854775808))=(uns n:Nat):=by
 obtain ⟨h1,h2⟩:=h
 have hf:n.fdiv 9223372036854775808=n / 9223372036854775808:=fA _ (by omega)
 rw [hf,z2y,z2y,z2y]
 unfold uns
 by_cases h0:0<=n
 ·rw [if_pos h0,show n / 9223372036854775808 % 18446744073709551616=0 from by omega,show n % 18446744073709551616*2 % 18446744073709551616=((2*n.toNat:Nat):Int) from by omega]
  exact zma (by omega)
 ·rw [if_neg h0,show n / 9223372036854775808 % 18446744073709551616=18446744073709551615 from by omega,show n % 18446744073709551616*2 % 18446744073709551616=((18446744073709551616 - 2*(-n).toNat:Nat):Int) from by omega,zmb (by omega)]
  omega

theorem r311 {n:Int} (h:i64 n):runP E (dL E) 311 [dI n]=some (.int .u64 (uns n:Nat)):=by
 refine zi c311 (by simp) ?_
 conv in t311=>reduce;dsimp [ah]
 have e:=zig h
 simp [t311,n311,convD,z4n,zbj,e]

def WrOk (C:Nat) (hp:List Obj) (l e:List UInt8) (d:D) (hp':List Obj):Prop:=
 ∃ k,d=.imm (.tok k) ((l++e).map byteD)/\C<=k/\At hp' k (.tok (l++e).length 1)/\Keep C C hp hp'/\hp.length<=hp'.length

theorem z9n {C:Nat} {hp h2:List Obj} {l a e:List UInt8} {d:D} {hp':List Obj} (hk:Keep C C hp h2) (hl:hp.length<=h2.length) (w:WrOk C h2 (l++a) e d hp'):WrOk C hp l (a++e) d hp':=by
 obtain ⟨k,w1,w2,w3,w4,w5⟩:=w
 rw [bZ] at w1 w3
 exact ⟨k,w1,w2,w3,hk.trans w4,aD hl w5⟩
theorem WrOk.imm {C:Nat} {hp:List Obj} {l e:List UInt8} {d:D} {hp':List Obj} (w:WrOk C hp l e d hp'):isMark d=false:=by
 obtain ⟨k,rfl,_⟩:=w;rfl
theorem q312 {C:Nat} (u:Nat) {hp:List Obj} {sp:Spare} (l:List UInt8) (hu:u<18446744073709551616) (hl:l.length<=900000000000) (R:Room C hp sp l.length 1) (hC:C<=hp.length) :
  ∃ d hp',runS E (dL E) 312 [.imm sp (l.map byteD),.int .u64 u] hp=some (d,hp')/\isMark d=false/\WrOk C hp l (num u) d hp':=by
 obtain ⟨d,hp',e,w⟩:=s312 u l hu hl R hC
 have w:WrOk C hp l (num u) d hp':=w
 exact ⟨d,hp',e,w.imm,w⟩
theorem z7s {C:Nat} {hp r:List Obj} {n k:Nat} (hC:C<=hp.length) (h:r[k]? = some (.tok n 1)):Room C (hp++r) (.tok (hp.length+k)) n 1:=
 .inr ⟨hp.length+k,rfl,by omega,by rw [fB];exact zne.trans h⟩
theorem zas {C:Nat} {hp r:List Obj} {o:Obj} {n k q:Nat} (hC:C<=hp.length) (h:r[k]? = some (.tok n 1)):Room C (hp.set q o++r) (.tok (hp.length+k)) n 1:=by
 have:=z7s (C:=C) (hp:=hp.set q o) (r:=r) (k:=k) (n:=n) (by simpa using hC) h
 simpa using this
theorem zr9 {C:Nat} {hp:List Obj} {sp:Spare} {l:List UInt8} {m k:Nat} (c:UInt8) (x:D) (hx:x=byteD c) (hk:k<m) (R:Room C hp sp l.length 1) (hC:C<=hp.length) (hl:l.length<=900000000000) :
  ∃ h2,app0 E (hp++ae m .dead) (hp.length+k) 30 30 (.imm sp (l.map byteD)) (.imm .exact [x])=some (.imm (.tok (hp.length+k)) ((l++[c]).map byteD),h2)/\Keep C C hp h2/\h2.length=hp.length+m/\Room C h2 (.tok (hp.length+k)) (l++[c]).length 1:=by
 subst hx
 have hap:∀ x:D,appOk E 13 (l.map byteD) [x]:=fun x=>z10 (by simp;omega)
 have hr:(ae m Obj.dead).length=m:=by simp
 have hg:((ae m Obj.dead).set k (.tok (l.length+1) 1))[k]? = some (.tok (l.length+1) 1):=by simp [hk]
 rcases R with rfl | ⟨q,rfl,hq,hq2⟩
 ·refine ⟨hp++(ae m Obj.dead).set k (.tok (l.length+1) 1),?_,Keep.app,by simp,?_⟩
  ·simp [zg,hap,hk,↓zez]
  ·have:=z7s (C:=C) hC hg
   simpa using this
 ·have hlt:=hq2.lt
  have hq3:(hp++ae m Obj.dead)[q]? = some (.tok (l.length*1) 1):=hq2.appE
  rw [fB] at hq3
  refine ⟨hp.set q .dead++(ae m Obj.dead).set k (.tok (l.length+1) 1),?_,(Keep.set (.inr hq)).trans Keep.app,by simp,?_⟩
  ·have e:((hp++ae m Obj.dead).set q .dead).set (hp.length+k) (.tok (l.length+1) 1)=hp.set q .dead++(ae m Obj.dead).set k (.tok (l.length+1) 1):=by
    rw [zj hlt]
    have:=zez (hp:=hp.set q Obj.dead) (r:=ae m Obj.dead) (k:=k) (x:=.tok (l.length+1) 1)
    rwa [List.length_set] at this
   simp [zp,hap,hk,hq3]
   exact e
  ·have:=zas (C:=C) (o:=.dead) (q:=q) hC hg
   simpa using this
theorem z7x {l:List UInt8} {c:UInt8}:(l++[c]).map byteD=l.map byteD++[.int .u8 c.toNat]:=by simp

theorem s298 {C:Nat} {hp:List Obj} {sp:Spare} (l:List UInt8) (n:Int) (hn:i64 n) (hl:l.length<=800000000000) (R:Room C hp sp l.length 1) (hC:C<=hp.length) :
  ∃ d hp',runS E (dL E) 298 [.imm sp (l.map byteD),dV (.mk 1 n [] [])] hp=some (d,hp')/\WrOk C hp l (enc (.mk 1 n [] [])) d hp':=by
 refine z4w c298 (args:=[.imm sp (l.map byteD),dV (.mk 1 n [] [])]) (hp:=hp) (R:=WrOk C hp l (enc (.mk 1 n [] []))) (by simp) ?_
 conv in t298=>reduce;dsimp [ah]
 have h311:=r311 hn
 have hap:∀ x:D,appOk E 13 (l.map byteD) [x]:=fun x=>z10 (by simp;omega)
 have he:enc (.mk 1 n [] [])=[1]++num (uns n):=by rw [enc,if_pos rfl];rfl
 rw [z9,he]
 rcases R with rfl | ⟨q,rfl,hq,hq2⟩
 ·obtain ⟨d,hp',e,hm,w⟩:=q312 (C:=C) (hp:=hp++[.dead,.dead,.tok (l.length+1) 1,.dead,.dead,.dead,.dead,.dead]) (sp:=.tok (hp.length+2)) (uns n) (l++[1]) (z78 hn) (by simp;omega) (by rw [aN];exact z7s hC rfl) (by simp;omega)
  have w':=z9n (hp:=hp) Keep.app (by simp) w
  rw [z7x] at e
  simp at e
  simp [t298,n298,zk,zg,hap,h311,e,hm]
  exact w'
 ·obtain ⟨d,hp',e,hm,w⟩:=q312 (C:=C) (hp:=hp.set q .dead++[.dead,.dead,.tok (l.length+1) 1,.dead,.dead,.dead,.dead,.dead]) (sp:=.tok (hp.length+2)) (uns n) (l++[1]) (z78 hn) (by simp;omega) (by rw [aN];exact zas hC rfl) (by simp;omega)
  have w':=z9n (hp:=hp) ((Keep.set (.inr hq)).trans Keep.app) (by simp) w
  rw [z7x] at e
  simp at e
  have hq3:(hp++ae 8 Obj.dead)[q]? = some (.tok (l.length*1) 1):=hq2.appE
  simp at hq3
  have hlt:=hq2.lt
  simp [t298,n298,zk,zp,hap,h311,e,hm,hq3,↓zj hlt]
  exact w'

theorem s299 {C:Nat} {hp:List Obj} {sp:Spare} (l s:List UInt8) (hl:l.length+s.length<=800000000000) (R:Room C hp sp l.length 1) (hC:C<=hp.length) :
  ∃ d hp',runS E (dL E) 299 [.imm sp (l.map byteD),dV (.mk 2 0 s [])] hp=some (d,hp')/\WrOk C hp l (enc (.mk 2 0 s [])) d hp':=by
 refine z4w c299 (args:=[.imm sp (l.map byteD),dV (.mk 2 0 s [])]) (hp:=hp) (R:=WrOk C hp l (enc (.mk 2 0 s []))) (by simp) ?_
 conv in t299=>reduce;dsimp [ah]
 have hap:∀ x:D,appOk E 13 (l.map byteD) [x]:=fun x=>z10 (by simp;omega)
 have he:enc (.mk 2 0 s [])=([2]++num s.length)++s:=by rw [enc,if_neg (by decide),if_pos rfl];rfl
 have hw:=z1t (n:=s.length) (by omega)
 have hn:=z3t (u:=s.length) (by omega)
 rw [z9,he]
 have fin:∀ {d:D} {h2:List Obj},hp.length+12<=h2.length->WrOk C hp l ([2]++num s.length) d h2->∃ k,d=.imm (.tok k) ((l++([2]++num s.length)).map byteD)/\h2[k]? = some (.tok (l++([2]++num s.length)).length 1)/\appOk E 13 ((l++([2]++num s.length)).map byteD) (s.map byteD) /\
   WrOk C hp l (([2]++num s.length)++s) (.imm (.tok (hp.length+10)) ((l++([2]++num s.length)).map byteD++s.map byteD)) ((h2.set k .dead).set (hp.length+10) (.tok ((l++([2]++num s.length)).length+s.length) 1)):=by
  rintro d h2 hh ⟨k,rfl,w2,w3,w4,w5⟩
  refine ⟨k,rfl,w3,z10 (by simp at hn ⊢;omega),hp.length+10,by simp,by omega,?_,(w4.trans (Keep.set (.inr w2))).trans (Keep.set (.inr (by omega))),by simp;omega⟩
  have:(l++(([2]++num s.length)++s)).length=(l++([2]++num s.length)).length+s.length:=by simp;omega
  rw [this]
  exact At.self (by simp;omega)
 rcases R with rfl | ⟨q,rfl,hq,hq2⟩
 ·obtain ⟨d,hp',e,hm,w⟩:=q312 (C:=C) (hp:=hp++[.dead,.dead,.tok (l.length+1) 1,.dead,.dead,.dead,.dead,.dead,.dead,.dead,.dead,.dead]) (sp:=.tok (hp.length+2)) s.length (l++[2]) (by omega) (by simp;omega) (by rw [aN];exact z7s hC rfl) (by simp;omega)
  have hlen:hp.length+12<=hp'.length:=by have:=w.choose_spec.2.2.2.2;simpa using this
  have w':=z9n (hp:=hp) Keep.app (by simp) w
  obtain ⟨k,rfl,f1,f2,f3⟩:=fin hlen w'
  rw [z7x] at e
  simp at e f1 f2 f3
  have h10:hp.length+10<hp'.length:=by omega
  simp [t299,n299,zk,zg,zp,hap,hw,convD,e,f1,f2,h10]
  simpa using f3
 ·obtain ⟨d,hp',e,hm,w⟩:=q312 (C:=C) (hp:=hp.set q .dead++[.dead,.dead,.tok (l.length+1) 1,.dead,.dead,.dead,.dead,.dead,.dead,.dead,.dead,.dead]) (sp:=.tok (hp.length+2)) s.length (l++[2]) (by omega) (by simp;omega) (by rw [aN];exact zas hC rfl) (by simp;omega)
  have hlen:hp.length+12<=hp'.length:=by have:=w.choose_spec.2.2.2.2;simpa using this
  have w':=z9n (hp:=hp) ((Keep.set (.inr hq)).trans Keep.app) (by simp) w
  obtain ⟨k,rfl,f1,f2,f3⟩:=fin hlen w'
  rw [z7x] at e
  have hq3:(hp++ae 12 Obj.dead)[q]? = some (.tok (l.length*1) 1):=hq2.appE
  simp at e f1 f2 f3 hq3
  have hlt:=hq2.lt
  have h10:hp.length+10<hp'.length:=by omega
  simp [t299,n299,zk,zp,hap,hw,convD,e,f1,f2,h10,hq3,↓zj hlt]
  simpa using f3

structure Wrs (hp:List Obj) (A B:Nat):Prop where
 a:At hp A (.cells [.nilfn,.fn 298 [],.fn 299 [],.fn 300 [.loc B 0]])
 b:At hp B (.cells [.loc A 0])
theorem Wrs.keep {C:Nat} {hp hp':List Obj} {A B:Nat} (w:Wrs hp A B) (hA:A<C) (hB:B<C) (k:Keep C C hp hp'):Wrs hp' A B:=⟨k.at (by omega) hA w.a,k.at (by omega) hB w.b⟩

def wrF (k:Int):Nat:=if k=1 then 298 else if k=2 then 299 else 300
def wrC (k:Int) (B:Nat):List D:=if k=1 then [] else if k=2 then [] else [.loc B 0]
def Writes (v:CV) (k:Int):Prop:=∀ {C A B:Nat} {hp:List Obj} {sp:Spare} (l:List UInt8),Wrs hp A B->A<C->B<C->l.length+(enc v).length<=800000000000->Room C hp sp l.length 1->C<=hp.length ->
 ∃ d hp',runS E (dL E) (wrF k) (.imm sp (l.map byteD)::dV v::wrC k B) hp=some (d,hp')/\WrOk C hp l (enc v) d hp'

theorem s300 (vs:List CV) (ih:∀ k n s l,CV.mk k n s l ∈ vs->(k=1\/k=2\/k=3)/\Writes (.mk k n s l) k):Writes (.mk 3 0 [] vs) 3:=by
 intro C A B hp sp l W hA hB hl R hC
 have he:enc (.mk 3 0 [] vs)=([3]++num vs.length)++encL vs:=by rw [enc,if_neg (by decide),if_neg (by decide)];rfl
 rw [he] at hl ⊢
 have hvl:vs.length<=800000000000:=by have:=z5i vs;simp at hl;omega
 show ∃ d hp',runS E (dL E) 300 [.imm sp (l.map byteD),dV (.mk 3 0 [] vs),.loc B 0] hp=some (d,hp')/\WrOk C hp l (([3]++num vs.length)++encL vs) d hp'
 refine z4w c300 (args:=[.imm sp (l.map byteD),dV (.mk 3 0 [] vs),.loc B 0]) (hp:=hp) (R:=WrOk C hp l (([3]++num vs.length)++encL vs)) (by simp) ?_
 conv in t300=>reduce;dsimp [ah]
 have hap:∀ x:D,appOk E 13 (l.map byteD) [x]:=fun x=>z10 (by simp at hl ⊢;omega)
 have hw:=z1t (n:=vs.length) (by omega)
 rw [z9]
 obtain ⟨h2,e1,k1,l1,R1⟩:=zr9 (l:=l) (m:=9) (k:=2) 3 (.int .u8 3) rfl (by omega) R hC (by simp at hl;omega)
 obtain ⟨d,h3,e2,hm,w⟩:=q312 (C:=C) (hp:=h2) vs.length (l++[3]) (by omega) (by simp at hl ⊢;omega) R1 (by omega)
 have w':=z9n (hp:=hp) k1 (by omega) w
 simp at e1 e2
 simp [t300,n300,zk,hw,convD,e1,e2,hm]
 refine z2x vs.length (fun i env h=>∃ (x5 x6 x7 x11 x12 x13:D) (dd:D),env=[dd,.agg [dI 3,dI 0,.str [],.imm .none (vs.map dV)],.loc B 0,.iptr [dI 3,dI 0,.str [],.imm .none (vs.map dV)],.imm .exact [],x5,x6,x7,.imm .none (vs.map dV),dI vs.length,dI i,x11,x12,x13]/\WrOk C hp l (([3]++num vs.length)++encL (vs.take i)) dd h) 0 (by omega) ?_ ?_
 ·exact ⟨_,_,_,_,_,_,d,rfl,by simpa [encL] using w'⟩
 rintro i env h hi ⟨x5,x6,x7,x11,x12,x13,dd,rfl,wi⟩
 by_cases hlt:i<vs.length
 ·obtain ⟨tk,rfl,w2,w3,w4,w5⟩:=wi
  obtain ⟨k,n,s,l',hv⟩:∃ k n s l',vs[i]=CV.mk k n s l':=by
   cases h:vs[i] with
   | mk k n s l'=>exact ⟨k,n,s,l',rfl⟩
  have WA:=W.keep hA hB w4
  obtain ⟨hk,hwr⟩:=ih k n s l' (by rw [<- hv];exact aP hlt)
  have a1:=WA.a
  have b1:=WA.b
  have hsp:encL (vs.take (i+1))=encL (vs.take i)++enc (.mk k n s l'):=by
   rw [List.take_add_one,List.getElem?_eq_getElem hlt,hv,z3p];simp [encL]
  have htk:encL vs=encL (vs.take (i+1))++encL (vs.drop (i+1)):=by rw [<- z3p,b7]
  have hL:(l++([3]++num vs.length++encL (vs.take i))).length+(enc (.mk k n s l')).length<=800000000000:=by
   rw [htk,hsp] at hl
   simp only [aN] at hl ⊢
   omega
  obtain ⟨d',h5,e,w⟩:=hwr (C:=C) (A:=A) (B:=B) (sp:=.tok tk) (hp:=h++[.cells [dI k,dI n,.str s,.imm .none (l'.map dV)],.dead,.dead,.dead,.dead,.dead,.dead,.dead,.dead,.dead,.dead,.dead]) (l++([3]++num vs.length++encL (vs.take i))) (WA.keep hA hB Keep.app) hA hB hL (.inr ⟨tk,rfl,w2,by rw [fB];exact w3.app⟩) (by simp;omega)
  have hm':=w.imm
  have w':=z9n (hp:=hp) (l:=l) (a:=[3]++num vs.length++encL (vs.take i)) (w4.trans Keep.app) (by simp;omega) w
  have hf:([3]++num vs.length++encL (vs.take i))++enc (.mk k n s l')=3::(num vs.length++encL (vs.take (i+1))):=by rw [hsp];simp
  rw [hf] at w'
  have hup:=z1b hlt (by omega)
  rw [z9] at e
  rcases hk with rfl | rfl | rfl
  ·simp [wrF,wrC] at e
   simp [hlt,hv,z9,a1.appE,b1.appE,e,hm',hup]
   exact ⟨_,_,_,_,_,_,_,⟨rfl,rfl,rfl,rfl,rfl,rfl,rfl⟩,w'⟩
  ·simp [wrF,wrC] at e
   simp [hlt,hv,z9,a1.appE,b1.appE,e,hm',hup]
   exact ⟨_,_,_,_,_,_,_,⟨rfl,rfl,rfl,rfl,rfl,rfl,rfl⟩,w'⟩
  ·simp [wrF,wrC] at e
   simp [hlt,hv,z9,a1.appE,b1.appE,e,hm',hup]
   exact ⟨_,_,_,_,_,_,_,⟨rfl,rfl,rfl,rfl,rfl,rfl,rfl⟩,w'⟩
 ·have:i=vs.length:=by omega
  subst this
  rw [bp] at wi
  simp
  simpa using wi

theorem z5a:∀ {l:List CV},fmdL l->∀ v ∈ l,fmd v
 | [],_,v,h=>by simp at h
 | w::l,hf,v,h=>by
  rw [fmdL] at hf
  rcases aC.1 h with rfl | h
  ·exact hf.1
  ·exact z5a hf.2 v h
theorem zsp {k n:Int} {s:List UInt8} {l:List CV} (h:fmd (.mk k n s l)):k=1\/k=2\/k=3:=by
 rw [fmd] at h
 rcases h with ⟨h,_⟩ | ⟨h,_⟩ | ⟨h,_⟩ <;> simp [h]

theorem writes:∀ (m:Nat) (v:CV),sizeOf v<=m->fmd v->∀ k n s l,v=.mk k n s l->Writes v k:=by
 intro m
 induction m with
 | zero=>
  intro v hm
  cases v
  simp at hm
 | succ m ih=>
  intro v hm hf k n s l hv
  subst hv
  have hf':=hf
  rw [fmd] at hf'
  rcases hf' with ⟨rfl,hn,rfl,rfl⟩ | ⟨rfl,rfl,rfl⟩ | ⟨rfl,rfl,rfl,hl⟩
  ·intro C A B hp sp l W hA hB hl R hC
   exact s298 l n hn (by omega) R hC
  ·intro C A B hp sp l' W hA hB hl R hC
   have he:enc (.mk 2 0 s [])=2::(num s.length++s):=by rw [enc,if_neg (by decide),if_pos rfl]
   rw [he] at hl
   exact s299 l' s (by simp at hl;omega) R hC
  ·have q:∀ k' n' s' l',CV.mk k' n' s' l' ∈ l->(k'=1\/k'=2\/k'=3)/\Writes (.mk k' n' s' l') k':=fun k' n' s' l' hmem=>⟨zsp (z5a hl _ hmem),by
    have h1:=dG hmem
    have h2:sizeOf (CV.mk k' n' s' l')<=m:=by
     rw [CV.mk.sizeOf_spec] at hm
     omega
    intro C A B hp sp
    exact ih _ h2 (z5a hl _ hmem) k' n' s' l' rfl⟩
   intro C A B hp sp
   exact s300 l q

theorem z71:∀ {l:List CV} {v:CV},v ∈ l->dep v<=depL l
 | [],v,h=>by simp at h
 | w::l,v,h=>by
  rw [depL]
  rcases aC.1 h with rfl | h
  ·exact cg _ _
  ·exact aD (z71 h) (bE _ _)
theorem zkw {hp:List Obj}:∀ (m:Nat) (v:CV),fmd v->dep v<=m->∀ n,2*m+2<=n->frz hp n (dV v)=some (dV v):=by
 intro m
 induction m with
 | zero=>
  intro v hf hd n hn
  obtain ⟨n,rfl⟩:∃ j,n=j+2:=⟨n - 2,by omega⟩
  obtain ⟨k,x,s,l⟩:=v
  rw [fmd] at hf
  rw [dep] at hd
  rcases hf with ⟨rfl,_,rfl,rfl⟩ | ⟨rfl,rfl,rfl⟩ | ⟨rfl,_⟩
  ·rw [z9];rfl
  ·rw [z9];rfl
  ·simp at hd
 | succ m ih=>
  intro v hf hd n hn
  obtain ⟨n,rfl⟩:∃ j,n=j+3:=⟨n - 3,by omega⟩
  obtain ⟨k,x,s,l⟩:=v
  rw [fmd] at hf
  rw [dep] at hd
  rcases hf with ⟨rfl,_,rfl,rfl⟩ | ⟨rfl,rfl,rfl⟩ | ⟨rfl,rfl,rfl,hl⟩
  ·rw [z9];rfl
  ·rw [z9];rfl
  ·rw [if_pos rfl] at hd
   have e:frzL (frz hp (n+1)) (l.map dV)=some (l.map dV):=zn fun v hv=>ih v (z5a hl v hv) (by have:=z71 hv;omega) (n+1) (by omega)
   rw [z9]
   have hs:frz hp (n+2) (.str [])=some (.str []):=rfl
   simp only [z8,z19,z1n,hs,z18,e,af,z7,z1f]

theorem zd3 {l:List CV} {i:Nat} (h:i<l.length):depL (l.take (i+1))=jt (depL (l.take i)) (dep l[i]):=by
 induction l generalizing i with
 | nil=>simp at h
 | cons v l ih=>
  cases i with
  | zero=>simp [depL]
  | succ i=>
   simp only [bn] at h
   simp only [List.take_succ_cons,depL,List.getElem_cons_succ]
   rw [ih (by omega)]
   exact (Nat.max_assoc _ _ _).symm

theorem zbd:∀ {l:List CV} {v:CV},v ∈ l->(enc v).length<=(encL l).length
 | [],v,h=>by simp at h
 | w::l,v,h=>by
  rw [encL,aN]
  rcases aC.1 h with rfl | h
  ·omega
  ·have:=zbd h
   omega
structure fmdOk (v:CV):Prop where
 f:fmd v
 d:dep v<=16
 n:(enc v).length<=800000000000
theorem fmdOk.len {k n:Int} {s:List UInt8} {l:List CV} (h:fmdOk (.mk k n s l)):s.length<=800000000000/\l.length<=800000000000:=by
 have hf:=h.f
 have hn:=h.n
 rw [fmd] at hf
 rcases hf with ⟨rfl,_,rfl,rfl⟩ | ⟨rfl,rfl,rfl⟩ | ⟨rfl,rfl,rfl,hl⟩
 ·simp
 ·rw [enc,if_neg (by decide),if_pos rfl] at hn
  simp at hn ⊢;omega
 ·rw [enc,if_neg (by decide),if_neg (by decide)] at hn
  have:=z5i l
  simp at hn ⊢;omega
theorem fmdOk.sub {n:Int} {s:List UInt8} {l:List CV} (h:fmdOk (.mk 3 n s l)) {v:CV} (hv:v ∈ l):fmdOk v:=by
 have hf:=h.f
 have hn:=h.n
 have hd:=h.d
 rw [fmd] at hf
 rw [dep,if_pos rfl] at hd
 rcases hf with ⟨h3,_⟩ | ⟨h3,_⟩ | ⟨_,rfl,rfl,hl⟩
 ·omega
 ·omega
 ·rw [enc,if_neg (by decide),if_neg (by decide)] at hn
  have:=zbd hv
  have:=z71 hv
  exact ⟨z5a hl v hv,by omega,by simp at hn;omega⟩
theorem z3n {hp:List Obj} {v:CV} (h:fmdOk v):frz hp 40 (dV v)=some (dV v):=zkw 16 v h.f h.d 40 (by decide)

theorem r297:∀ (m:Nat) (v:CV),sizeOf v<=m->fmdOk v->runP E (dL E) 297 [dV v]=some (.tup [dI (dep v),.bool true]):=by
 intro m
 induction m with
 | zero=>intro v hm;cases v;simp at hm
 | succ m ih=>
  intro v hm hf
  obtain ⟨k,n,s,l⟩:=v
  have hf':=hf.f
  have hz:=z3n (hp:=[]) hf
  refine zi c297 (by simp) ?_
  conv in t297=>reduce;dsimp [ah]
  rw [fmd] at hf'
  rw [z9]
  rcases hf' with ⟨rfl,hn,rfl,rfl⟩ | ⟨rfl,rfl,rfl⟩ | ⟨rfl,rfl,rfl,hl⟩
  ·by_cases h0:n=0 <;> simp [t297,n297,h0,dep]
  ·by_cases h0:s=[] <;> simp [t297,n297,h0,dep]
  ·have hd:depL l<=15:=by have:=hf.d;rw [dep,if_pos rfl] at this;omega
   have hln:=hf.len.2
   have hdw:aA.wrap ((depL l:Int)+1)=(depL l:Int)+1:=zy ⟨by omega,by omega⟩
   by_cases hb:((l.length:Int) == 0)=true
   all_goals
    simp [t297,n297,dep,hb]
    refine z2x l.length (fun i env h=>∃ (x0 x1 x3 x4 x5 x6 x7 x8 x9 x10 x14 x15 x16 x17:D) ,env=[x0,x1,dI (depL (l.take i)),x3,x4,x5,x6,x7,x8,x9,x10,.imm .none (l.map dV),dI l.length,dI i,x14,x15,x16,x17]) 0 (by omega) ?_ ?_
    ·exact ⟨_,_,_,_,_,_,_,_,_,_,_,_,_,_,rfl⟩
    rintro i env h hi ⟨x0,x1,x3,x4,x5,x6,x7,x8,x9,x10,x14,x15,x16,x17,rfl⟩
    by_cases hlt:i<l.length
    ·have hv:=hf.sub (aP hlt)
     have e:=ih l[i] (by have:=dG (aP hlt);rw [CV.mk.sizeOf_spec] at hm;omega) hv
     have hz':=z3n (hp:=[]) hv
     have hup:=z1b hlt (by omega)
     obtain ⟨k,n,s,l',hq⟩:∃ k n s l',l[i]=CV.mk k n s l':=by
      cases h:l[i] with
      | mk k n s l'=>exact ⟨k,n,s,l',rfl⟩
     have hdt:=zd3 hlt
     rw [hq] at e hz' hdt
     rw [z9] at e hz'
     simp [hlt,hq,z9,e,hz',hup]
     rw [hdt]
     simp only [lG]
     split <;> split <;> omega
    ·have:i=l.length:=by omega
     subst this
     simp [hdw]

theorem z49 {E:Env} {cP:Nat->List D->Option D} {cS cY:Nat->List D->List Obj->Option (D × List Obj)} {hp:List Obj} {id:Nat} {g:Opd->D} {f:Opd}:stepOp E cP cS cY id g hp (.call 4 f [])=(match g f with | .fn k caps=>ob (frzL (frz [] depth) caps) (fun vs=>makD cS k vs hp) | _=>none):=by
 simp only [stepOp,DOp.fin,finOp]
 cases g f <;> try rfl
 rename_i k caps
 simp only []
 cases frzL (frz [] depth) caps <;> rfl

theorem s282 (hp:List Obj):runS E (dL E) 282 [] hp=some (.loc hp.length 0,hp++[.cells [.nilfn,.fn 298 [],.fn 299 [],.fn 300 [.loc (hp.length+1) 0]],.cells [.loc hp.length 0]]):=by
 have:∃ d hp',runS E (dL E) 282 [] hp=some (d,hp')/\(d=.loc hp.length 0/\hp'=hp++[.cells [.nilfn,.fn 298 [],.fn 299 [],.fn 300 [.loc (hp.length+1) 0]],.cells [.loc hp.length 0]]):=by
  refine z4w c282 (args:=[]) (hp:=hp) (R:=fun d hp'=>d=.loc hp.length 0/\hp'=hp++[.cells [.nilfn,.fn 298 [],.fn 299 [],.fn 300 [.loc (hp.length+1) 0]],.cells [.loc hp.length 0]]) (by simp) ?_
  conv in t282=>reduce;dsimp [ah]
  simp [t282,n282]
 obtain ⟨d,hp',e,rfl,rfl⟩:=this
 exact e
theorem r281 {v:CV} (h:fmdOk v):runP E (dL E) 281 [dV v]=some (dI 0):=by
 have e:=r297 (sizeOf v) v (ar _) h
 have hz:=z3n (hp:=[]) h
 obtain ⟨k,n,s,l⟩:=v
 refine zi c281 (by simp) ?_
 conv in t281=>reduce;dsimp [ah]
 have hd:=h.d
 rw [z9] at e hz ⊢
 simp [t281,n281,e,hz]
 omega
theorem r264 {v:CV} (h:fmdOk v):runP E (dL E) 264 [dV v]=some (.tup [dBy (enc v),dI 0]):=by
 have e:=r281 h
 have hz:=z3n (hp:=[]) h
 have e2:=s282 (ae 11 .dead)
 have hf:=h.f
 have hn:=h.n
 obtain ⟨k,n,s,l⟩:=v
 have hk:=zsp hf
 obtain ⟨d,h5,e5,w⟩:=writes (sizeOf (CV.mk k n s l)) (.mk k n s l) (ar _) hf k n s l rfl (C:=13) (A:=11) (B:=12) (sp:=.exact) (hp:=ae 11 .dead++[.cells [.nilfn,.fn 298 [],.fn 299 [],.fn 300 [.loc 12 0]],.cells [.loc 11 0]]) []
  ⟨by simp [At],by simp [At]⟩ (by omega) (by omega) (by simpa using hn) (.inl rfl) (by simp)
 have hm:=w.imm
 obtain ⟨tk,rfl,w2,w3,w4,w5⟩:=w
 rw [eg] at w3 hm e5
 have hfz:∀ l:List UInt8,frzL (frz h5 38) (l.map byteD)=some (l.map byteD):=fun l=>zn fun x _=>rfl
 refine zi c264 (by simp) ?_
 conv in t264=>reduce;dsimp [ah]
 rw [z9] at e hz e5 ⊢
 simp at e2
 rcases hk with rfl | rfl | rfl
 ·simp [wrF,wrC] at e5
  simp [t264,n264,e,hz,z49,makD,e2,e5,hfz,noMark]
 ·simp [wrF,wrC] at e5
  simp [t264,n264,e,hz,z49,makD,e2,e5,hfz,noMark]
 ·simp [wrF,wrC] at e5
  simp [t264,n264,e,hz,z49,makD,e2,e5,hfz,noMark]

@[simp] theorem markP_n0 {a b:Prop}:markP (.tup []) a b=b:=z3i rfl
@[simp] theorem markP_u0 {k:Go.IntKind} {n:Int} {a b:Prop}:markP (.int k n) a b=b:=z3i rfl
@[simp] theorem markP_i0 {sp:Spare} {l:List D} {a b:Prop}:markP (.imm sp l) a b=b:=z3i rfl
theorem s292 (a:D) (hp:List Obj):runS E (dL E) 292 [a,.bool true] hp=some (.tup [],hp):=by
 have:∃ d hp',runS E (dL E) 292 [a,.bool true] hp=some (d,hp')/\(d=.tup []/\hp'=hp):=by
  refine z2z c292 (by simp) ?_
  conv in t292=>reduce;dsimp [ah]
  simp [t292,n292,RetM]
 obtain ⟨d,hp',e,rfl,rfl⟩:=this
 exact e

theorem zqh {l:List UInt8}:headFits 1 (l.map byteD)=true:=by cases l <;> rfl
theorem sl_lo {l:List UInt8} {n:Nat} (h:n<=l.length):sliceD E 30 (.imm .none (l.map byteD)) (some (.int .i64 n)) none none=some (.imm .none ((l.drop n).map byteD)):=by
 simp [sliceD,bnd,h,zqh,sliceSpare]
 exact List.take_of_length_le (by simp)
theorem sl_mx {l:List UInt8} {n:Nat} (h:n<=l.length):sliceD E 30 (.imm .none (l.map byteD)) none (some (.int .i64 n)) (some (.int .i64 n))=some (.imm .exact ((l.take n).map byteD)):=by
 simp [sliceD,bnd,h,zqh,sliceSpare,kN]

theorem s305 {hp:List Obj} {R n:Nat} {l:List UInt8} (a:At hp R (.cells [.imm .none (l.map byteD)])) (hn:n<=l.length) (hl:l.length<9223372036854775808) :
  runS E (dL E) 305 [.loc R 0,.int .i64 n] hp=some (.imm .exact ((l.take n).map byteD),hp.set R (.cells [.imm .none ((l.drop n).map byteD)])):=by
 have:∃ d hp',runS E (dL E) 305 [.loc R 0,.int .i64 n] hp=some (d,hp')/\(d=.imm .exact ((l.take n).map byteD)/\hp'=hp.set R (.cells [.imm .none ((l.drop n).map byteD)])):=by
  refine z2z c305 (by simp) ?_
  conv in t305=>reduce;dsimp [ah]
  have e1:=sl_lo hn
  have e2:=sl_mx hn
  simp [t305,n305,RetM,↓a.eq,s292,hn,e1,e2,zda]
 obtain ⟨d,hp',e,rfl,rfl⟩:=this
 exact e

theorem and127 {n:Nat} (h:n<256):andI .u8 (n:Int) 127=((n % 128:Nat):Int):=by
 have key:∀ m:Fin 256,andI .u8 ((m.val:Nat):Int) 127=((m.val % 128:Nat):Int):=by decide +kernel
 exact key ⟨n,h⟩
theorem shl7 {m i:Nat} (hi:i<=9) (h:m*2 ^ (7*i)<18446744073709551616):binD E .shl 63 (.int .u64 (m:Int)) (.int .i64 ((7*i:Nat):Int))=some (.int .u64 ((m*2 ^ (7*i):Nat):Int)):=by
 have e1:min ((7*i:Nat):Int).toNat a7.bits=7*i:=by
  rw [z4n,Int.toNat_natCast];omega
 have e2:(m:Int)*2 ^ (7*i)=((m*2 ^ (7*i):Nat):Int):=by simp
 rw [zbk,if_pos (by omega),e1,e2,z1t h]
theorem zrw {acc m i:Nat} (h:acc<2 ^ (7*i)) (h2:acc+m*2 ^ (7*i)<18446744073709551616):binD E .or 63 (.int .u64 (acc:Int)) (.int .u64 ((m*2 ^ (7*i):Nat):Int))=some (.int .u64 ((acc+m*2 ^ (7*i):Nat):Int)):=by
 have e1:iorI .u64 (acc:Int) ((m*2 ^ (7*i):Nat):Int)=((acc+m*2 ^ (7*i):Nat):Int):=by
  unfold iorI
  have e2:=Nat.two_pow_add_eq_or_of_lt h m
  rw [ic (2 ^ (7*i)) m] at e2
  generalize m*2 ^ (7*i)=p at *
  rw [z4n]
  have e3:(bS 64 (acc:Int) ||| bS 64 (p:Int)).toNat=acc+p:=by
   have q1:(acc:Int) % 18446744073709551616=acc:=by omega
   have q2:(p:Int) % 18446744073709551616=p:=by omega
   simp [BitVec.toNat_or,BitVec.toNat_ofInt,q1,q2]
   rw [Nat.or_comm,dT (show p<18446744073709551616 by omega),dT (show acc<18446744073709551616 by omega)]
   omega
  rw [e3,z1t h2]
 rw [zlu,e1]
theorem z4a {hp:List Obj} {i:Nat} {o:Obj} (a:At hp i o):hp.set i o=hp:=by
 apply List.ext_getElem? 
 intro j
 rw [List.getElem?_set]
 split
 ·rename_i h;subst h
  split
  ·exact a.symm
  ·rename_i h;exact absurd a.lt h
 ·rfl
theorem numB9:numB 9=2:=rfl
theorem s306 {u:Nat} {r:List UInt8} {hp:List Obj} {R:Nat} (hu:u<18446744073709551616) (a:At hp R (.cells [.imm .none ((num u++r).map byteD)])) (hr:r.length<4611686018427387904) :
  runS E (dL E) 306 [.loc R 0] hp=some (.int .u64 (u:Nat),hp.set R (.cells [.imm .none (r.map byteD)])):=by
 have:∃ d hp',runS E (dL E) 306 [.loc R 0] hp=some (d,hp')/\(d=.int .u64 (u:Nat)/\hp'=hp.set R (.cells [.imm .none (r.map byteD)])):=by
  refine z2z c306 (by simp) ?_
  conv in t306=>reduce;dsimp [ah]
  simp [t306,n306]
  refine ⟨fun k env h=>∃ (x3 x4 x5 x6:D) (acc:Nat) (i:Nat),env=[.loc R 0,.int .u64 (acc:Nat),dI i,x3,x4,x5,x6]/\h=hp.set R (.cells [.imm .none ((num k++r).map byteD)])/\acc+k*2 ^ (7*i)=u/\acc<2 ^ (7*i)/\i<=9/\(i=0\/k ≠ 0)/\k<numB i,u,?_,?_⟩
  ·exact ⟨_,_,_,_,(0),0,rfl,(z4a a).symm,by simp,by simp,by simp,.inl rfl,hu⟩
  rintro k env h ⟨x3,x4,x5,x6,acc,i,rfl,rfl,hs,ha,hi,h0,hk⟩
  have al:R<hp.length:=a.lt
  have hnl:=z3t (u:=k) (by have:numB i<=18446744073709551616:=eG (by decide) (by omega:64 - 7*i<=64);omega)
  obtain ⟨c,q,hc,hcn⟩:∃ (c:UInt8) (q:List UInt8),num k=c::q/\((k<128/\c.toNat=k/\q=[])\/(128<=k/\c.toNat=k % 128+128/\q=num (k / 128))):=by
   by_cases hlo:k<128
   ·exact ⟨_,_,z4z hlo,.inl ⟨hlo,z3f (by omega),rfl⟩⟩
   ·exact ⟨_,_,z7h hlo,.inr ⟨by omega,z3f (by omega),rfl⟩⟩
  rw [hc] at hnl ⊢
  simp only [bn] at hnl
  have b:At (hp.set R (.cells [.imm .none (((c::q)++r).map byteD)])) R (.cells [.imm .none (((c::q)++r).map byteD)]):=.self al
  have e1:=s305 (n:=1) b (by simp) (by simp;omega)
  simp at e1
  have hcnd:(ob (if i=0 then some (D.bool true) else some (D.bool ((c.toNat:Int) != 0))) fun t=>iteD t (if (i:Int)<9 then some (D.bool true) else some (D.bool (decide ((c.toNat:Int)<=1)))) (some (D.bool false)))=some (.bool true):=by
   have q9:i=9->c.toNat<=1:=by
    rintro rfl
    rw [numB9] at hk
    rcases hcn with h | h <;> omega
   have q0:i ≠ 0 -> ¬ c.toNat=0:=by
    intro h
    rcases hcn with h | h <;> omega
   by_cases z:i=0
   ·subst z;simp
   ·have q0:=q0 z
    by_cases n:(i:Int)<9
    ·simp [z,n,q0]
    ·have q9:=q9 (by omega)
     have q9:(c.toNat:Int)<=1:=by omega
     simp [z,n,q0,q9]
  obtain ⟨m,hm⟩:∃ m:Nat,m=c.toNat % 128:=⟨_,rfl⟩
  obtain ⟨s,hS⟩:∃ s:Nat,s=7*i:=⟨_,rfl⟩
  have hmk:m*2 ^ (7*i)<=k*2 ^ (7*i):=bh _ (by omega)
  obtain ⟨p,hp'⟩:∃ p:Nat,p=m*2 ^ (7*i):=⟨_,rfl⟩
  obtain ⟨t,ht⟩:∃ t:Nat,t=acc+p:=⟨_,rfl⟩
  have ea:andI .u8 (c.toNat:Int) 127=(m:Int):=by rw [hm];exact and127 (zbr c)
  have ew:aA.wrap (7*(i:Int))=(s:Int):=by simp [bj,bm,bc];omega
  have ec:convD E 13 63 (D.int .u8 (m:Int))=some (.int .u64 (m:Int)):=by
   have:=z1t (n:=m) (by omega)
   simp [convD,this]
  have es:binD E .shl 63 (.int .u64 (m:Int)) (.int .i64 (s:Int))=some (.int .u64 (p:Int)):=by rw [hS,hp'];exact shl7 hi (by omega)
  have eo:binD E .or 63 (.int .u64 (acc:Int)) (.int .u64 (p:Int))=some (.int .u64 (t:Int)):=by rw [ht,hp'];exact zrw ha (by omega)
  clear a
  by_cases hlo:(c.toNat:Int)<128
  ·have hcn:c.toNat=k/\q=[]:=by
    rcases hcn with h | h
    ·exact h.2
    ·omega
   obtain ⟨hck,rfl⟩:=hcn
   have htu:t=u:=by rw [ht,hp',hm,<- hs,<- hck,dT (by omega)]
   simp at e1
   simp [e1,s292,hcnd,ea,ew,ec,es,eo,hlo,RetM,htu]
  ·have hcn:128<=k/\m=k % 128/\q=num (k / 128):=by
    rcases hcn with h | h
    ·omega
    ·exact ⟨h.1,by omega,h.2.2⟩
   obtain ⟨hk1,hmk,rfl⟩:=hcn
   have h9:i<9:=by
    rcases cj i 9 with h9 | h9
    ·exact h9
    ·have:i=9:=by omega
     subst this
     rw [numB9] at hk;omega
   have hn:=zjv h9
   have hP:2 ^ (7*(i+1))=128*2 ^ (7*i):=by
    rw [show 7*(i+1)=7+7*i from by omega,gJ]
   have hw:aA.wrap ((i:Int)+1)=((i+1:Nat):Int):=by simp [bj,bm,bc];omega
   have hk2:k=m+128*(k / 128):=by omega
   simp [e1,s292,hcnd,ea,ew,ec,es,eo,hlo]
   refine ⟨k / 128,by omega,_,_,_,_,t,i+1,⟨rfl,hw,rfl,rfl,rfl,rfl⟩,rfl,?_,?_,by omega,.inr (by omega),by omega⟩
   ·rw [ht,hp',hP,<- hs]
    generalize 2 ^ (7*i)=P
    generalize hq:k / 128=q at hk2
    rw [hk2,be,ic 128 q,iS,Nat.add_assoc]
   ·rw [ht,hp',hP]
    have:m*2 ^ (7*i)<=127*2 ^ (7*i):=bh _ (by omega)
    omega
 obtain ⟨d,hp',e,rfl,rfl⟩:=this
 exact e

theorem zix {x:Nat} (h:x<9223372036854775808):xorI .i64 (x:Int) 0=x:=by
 have e:(bS 64 (x:Int) ^^^ bS 64 0).toNat=x:=by simp;omega
 have w:aA.wrap (x:Int)=(x:Int):=by simp [bj,bm,bc];omega
 unfold xorI
 rw [zbj,e,w]
theorem ziy {x:Nat} (h:x<9223372036854775808):xorI .i64 (x:Int) (-1) = -(x:Int) - 1:=by
 have e:(bS 64 (x:Int) ^^^ bS 64 (-1)).toNat=18446744073709551615 - x:=by
  have:(bS 64 (-1))=ky 64:=by decide
  rw [this,jq]
  simp
  omega
 have w:aA.wrap ((18446744073709551615 - x:Nat):Int) = -(x:Int) - 1:=by simp [bj,bm,bc];omega
 unfold xorI
 rw [zbj,e,w]
theorem and1 {u:Nat} (h:u<18446744073709551616):andI .u64 (u:Int) 1=((u % 2:Nat):Int):=by
 have e:(bS 64 (u:Int) &&& bS 64 1).toNat=u % 2:=by
  simp [BitVec.toNat_and]
 unfold andI
 rw [z4n,e,z1t (by omega)]
theorem r307 (u:Nat) (hu:u<18446744073709551616):runP E (dL E) 307 [.int .u64 (u:Int)]=some (dI (sgn u)):=by
 refine zi c307 (by simp) ?_
 conv in t307=>reduce;dsimp [ah]
 have e1:(u:Int).fdiv (2 ^ min 1 a7.bits)=((u / 2:Nat):Int):=by
  rw [z4n,show (2:Int) ^ min 1 64=2 from rfl,fA _ (by omega)];omega
 have e2:=and1 hu
 have w1:aA.wrap ((u / 2:Nat):Int)=((u / 2:Nat):Int):=by simp [bj,bm,bc];omega
 have w3:xorI .i64 ((u / 2:Nat):Int) (aA.wrap (-aA.wrap ((u % 2:Nat):Int)))=sgn u:=by
  unfold sgn
  by_cases h:u % 2=0
  ·rw [if_pos h,h]
   exact zix (by omega)
  ·rw [if_neg h,show u % 2=1 from by omega]
   exact ziy (by omega)
 obtain ⟨q,hq⟩:∃ q:Nat,q=u % 2:=⟨_,rfl⟩
 obtain ⟨p,hp⟩:∃ p:Nat,p=u / 2:=⟨_,rfl⟩
 obtain ⟨z,hz⟩:∃ z:Int,z=sgn u:=⟨_,rfl⟩
 rw [<- hp] at e1 w1 w3
 rw [<- hq] at e2 w3
 rw [<- hz] at w3 ⊢
 simp [t307,n307,convD,e1,e2,w1,w3]

theorem s308 {n:Nat} {r:List UInt8} {hp:List Obj} {R:Nat} (a:At hp R (.cells [.imm .none ((num n++r).map byteD)])) (hn:n<=r.length) (hr:r.length<4611686018427387904) :
  runS E (dL E) 308 [.loc R 0] hp=some (dI n,hp.set R (.cells [.imm .none (r.map byteD)])):=by
 have:∃ d hp',runS E (dL E) 308 [.loc R 0] hp=some (d,hp')/\(d=dI n/\hp'=hp.set R (.cells [.imm .none (r.map byteD)])):=by
  refine z2z c308 (by simp) ?_
  conv in t308=>reduce;dsimp [ah]
  have e1:=s306 (by omega) a hr
  have b:At (hp.set R (.cells [.imm .none (r.map byteD)])) R (.cells [.imm .none (r.map byteD)]):=.self a.lt
  have w1:a7.wrap (r.length:Int)=(r.length:Int):=z1t (by omega)
  have w2:aA.wrap (n:Int)=(n:Int):=by simp [bj,bm,bc];omega
  have hn':(n:Int)<=(r.length:Int):=by omega
  simp [t308,n308,e1,↓b.eq,s292,convD,w1,w2,hn',RetM]
 obtain ⟨d,hp',e,rfl,rfl⟩:=this
 exact e

theorem zp2 {hp:List Obj}:∀ (n:Nat) (v:CV),ids hp n (dV v)=[]:=by
 intro n
 induction n using c7 with
 | _ n ih=>
  intro v
  obtain ⟨k,x,s,l⟩:=v
  rw [z9]
  match n,ih with
  | 0,_=>rfl
  | 1,_=>simp [ids]
  | n+2,ih=>
   have:(l.map dV).flatMap (ids hp n)=[]:=by
    rw [eW]
    intro d hd
    obtain ⟨v,_,rfl⟩:=aT.1 hd
    exact ih n (by omega) v
   simp only [ids,cG,f6,this,aS]

end Dv

namespace Dv

structure Ent where
 kind:Int
 idx:Int
 amt:Int
deriving DecidableEq

structure Pst where
 no:Int
 minute:Int
 corrects:Int
 ents:List Ent
 prev:List UInt8
deriving DecidableEq


def ltA (a b:Ent):Prop:=a.kind<b.kind\/a.kind=b.kind/\a.idx<b.idx
instance (a b:Ent):Decidable (ltA a b):=inferInstanceAs (Decidable (_\/_))
def okEnt (x:Ent):Prop:=(1<=x.kind/\x.kind<=5)/\(-1<=x.idx/\x.idx<=4095)/\x.amt ≠ 0 /\ -1099511627776<=x.amt/\x.amt<=1099511627776
instance (x:Ent):Decidable (okEnt x):=inferInstanceAs (Decidable (_/\_))
def ordE (l:List Ent):Prop:=∀ i,∀ h:i+1<l.length,ltA l[i] l[i+1]
def sumE:List Ent->Int
 | []=>0
 | x::l=>x.amt+sumE l
structure fmE (l:List Ent):Prop where
 two:2<=l.length
 most:l.length<=4096
 ok:∀ x,x ∈ l->okEnt x
 ord:ordE l
structure fmP (p:Pst):Prop where
 no:0<=p.no/\p.no<65536
 minute:0<=p.minute/\p.minute<1440
 corrects : -1<=p.corrects/\p.corrects<p.no
 ents:fmE p.ents
open Classical in
noncomputable def pchk (p:Pst):Int:=if fmP p then (if sumE p.ents=0 then 0 else 411) else 410
structure gdP (p:Pst):Prop where
 fm:fmP p
 sum:sumE p.ents=0
def cI (n:Int):CV:=.mk 1 n [] []
def cL (l:List CV):CV:=.mk 3 0 [] l
def cT (s:List UInt8):CV:=.mk 2 0 s []
def entV (x:Ent):CV:=cL [cI x.kind,cI x.idx,cI x.amt]
def pstV (p:Pst):CV:=cL [cI p.no,cI p.minute,cI p.corrects,cL (p.ents.map entV),cT p.prev]
def encP (p:Pst):List UInt8:=enc (pstV p)

theorem zl1 {n:Int} (h:i64 n):fmd (cI n):=by unfold cI;rw [fmd];exact .inl ⟨rfl,h,rfl,rfl⟩
theorem zb7 {l:List CV} (h:fmdL l):fmd (cL l):=by unfold cL;rw [fmd];exact .inr (.inr ⟨rfl,rfl,rfl,h⟩)
theorem zfm:∀ {l:List CV},(∀ v,v ∈ l->fmd v)->fmdL l
 | [],_=>by rw [fmdL];trivial
 | v::l,h=>by rw [fmdL];exact ⟨h v (by simp),zfm fun w hw=>h w (by simp [hw])⟩
theorem zlb {n:Int}:dep (cI n)=0:=by unfold cI;rw [dep,if_neg (by decide)]
theorem zbf {l:List CV}:dep (cL l)=depL l+1:=by unfold cL;rw [dep,if_pos rfl]
theorem zfu {n:Nat}:∀ {l:List CV},(∀ v,v ∈ l->dep v<=n)->depL l<=n
 | [],_=>by rw [depL];omega
 | v::l,h=>by rw [depL];exact iQ.2 ⟨h v (by simp),zfu fun w hw=>h w (by simp [hw])⟩

theorem zq5 {u:Nat} (h:u<18446744073709551616):(num u).length<=11:=by
 have key:∀ (k u:Nat),u<2 ^ (7*k)->(num u).length<=k+1:=by
  intro k
  induction k with
  | zero=>intro u h;rw [z4z (by omega)];simp
  | succ k ih=>
   intro u h
   by_cases h1:u<128
   ·rw [z4z h1];simp
   ·rw [z7h h1]
    have:=ih (u / 128) (by
     rw [iJ (by decide),show (128:Nat)=2 ^ 7 from rfl,<- gJ]
     rwa [show 7*k+7=7*(k+1) from by omega])
    simp;omega
 have:(18446744073709551616:Nat)<=2 ^ (7*10):=by decide
 exact key 10 u (by omega)
theorem zqo {n:Int}:enc (cI n)=1::num (uns n):=by unfold cI;rw [enc,if_pos rfl]
theorem zba {l:List CV}:enc (cL l)=3::(num l.length++encL l):=by unfold cL;rw [enc,if_neg (by decide),if_neg (by decide)]
theorem zfq {n:Int} (h:i64 n):(enc (cI n)).length<=12:=by
 rw [zqo]
 have:=zq5 (z78 h)
 simp;omega
theorem zl9 {n:Nat}:∀ {l:List CV},(∀ v,v ∈ l->(enc v).length<=n)->(encL l).length<=l.length*n
 | [],_=>by simp [encL]
 | v::l,h=>by
  have h1:=h v (by simp)
  have h2:=zl9 (l:=l) fun w hw=>h w (by simp [hw])
  simp only [encL,aN,bn,be];omega

abbrev Tag:=List UInt8->List UInt8->List UInt8
def bPostings:List UInt8:=[112,111,115,116,105,110,103,115]
def bPosting:List UInt8:=[112,111,115,116,105,110,103]
def bChain:List UInt8:=[99,104,97,105,110]
def startT (tg:Tag):List UInt8:=tg bPostings []
def chainT (tg:Tag) (a b:List UInt8):List UInt8:=tg bChain (a++b)
def stepT (tg:Tag) (d:List UInt8) (p:Pst):List UInt8:=chainT tg d (tg bPosting (encP p))
def digT (tg:Tag) (l:List Pst):List UInt8:=l.foldl (stepT tg) (startT tg)
structure atP (tg:Tag) (l:List Pst) (i:Nat) (p:Pst):Prop where
 no:p.no=i
 prev:p.prev=digT tg (l.take i)
 minute:∀ j q,j+1=i->l[j]? = some q->q.minute<=p.minute
def vld (tg:Tag) (l:List Pst):Prop:=l.length<=65536/\(∀ p,p ∈ l->gdP p) /\ ∀ i p,l[i]? = some p->atP tg l i p

open Classical in
noncomputable def firstE:List Pst->Int
 | []=>0
 | p::l=>if pchk p=0 then firstE l else pchk p
open Classical in
noncomputable def rdE (tg:Tag) (l:List Pst):Int:=if 65536<l.length then 2 else if firstE l ≠ 0 then firstE l else if vld tg l then 0 else 410

end Dv

namespace Dv
attribute [local simp] ae depth dCell dUse dInts dChoice dVar dProb tStart addO Ret
attribute [local congr] z45 z4f z3g z2n z23 z3m z21


theorem zst {n:Int}:dV (cI n)=.agg [dI 1,dI n,.str [],.imm .none []]:=by unfold cI;rw [z9];rfl
def is4 (x:D):Prop:=x.storable=true/\x.cellsL.length=4
theorem z2b {l new:List D} (h:l.length+new.length<=1000000) (hl:∀ x,x ∈ l->is4 x):appOk E 55 l new:=by
 refine ⟨?_,?_,?_,?_⟩
 all_goals simp [maxBytes]
 ·omega
 ·unfold fitsE
  rw [aw]
  intro x hx
  obtain ⟨h1,h2⟩:=hl x hx
  simp [h1,h2]

end Dv

namespace Dv

section
variable {Q:Ex->List D->List Obj->Prop} {env:List D} {hp:List Obj} {cP:Nat->List D->Option D} {cS:Nat->List D->List Obj->Option (D × List Obj)}

def prQ (ds:List D) (a:Prop) (b:D->Prop):Prop:=match ds with
 | []=>a
 | e::_=>b e
theorem z1i {a:Prop} {b:D->Prop}:prQ [] a b=a:=rfl
theorem z1e {e:D} {r:List D} {a:Prop} {b:D->Prop}:prQ (e::r) a b=b e:=rfl
theorem z4y {ds ds':List D} {a:Prop} {b:D->Prop} (h:ds=ds'):prQ ds a b=prQ ds' a b:=by rw [h]

theorem wPr {n:Nat} {l:List TS} {ch:List (Nat × Nat)} {ks:List Nat} {k:Nat}:wT E (.probe n l ch ks k) Q env hp=obP (rTS E (disP E (runP E (dL E)) (runS E (dL E))) (disM E (runS E (dL E))) (runY (dL E)) hp.length l env (hp++ae n .dead)) fun p=>
  chkT p.1 ch=true/\sameP (disL p.1 ks)=true/\prQ (disL p.1 ks) (isMark (env.getD k .undef)=false/\Q .normal env hp) fun e=>Q .normal (env.set k (.tup [.undef,e])) p.2:=by
 simp only [wT,rTP]
 cases rTS E (disP E (runP E (dL E)) (runS E (dL E))) (disM E (runS E (dL E))) (runY (dL E)) hp.length l env (hp++ae n .dead) with
 | none=>rfl
 | some p=>
  simp only [zf6]
  cases disL p.1 ks <;> rfl

theorem z11 {env:List D}:disL env []=[]:=rfl
theorem zr {env:List D} {i:Nat} {r:List Nat}:disL env (i::r)=(match disE (env.getD i .undef) with
  | some e=>e::disL env r
  | none=>disL env r):=by
 simp only [disL,List.filterMap_cons]
 cases disE (env.getD i .undef) <;> rfl

theorem zei {k:Nat} {vs:List D} {hp hp2:List Obj} {d:D} (h:cS k vs hp=some (d,hp2)) (hm:isMark d=false) (hd:disE d=none):disM E cS k vs hp=some (d,hp2):=by
 unfold disM
 simp [h,hm,hd]
theorem zft {k:Nat} {vs:List D} {hp hp2:List Obj} {d e:D} (hk:E.mp k=true) (h:cS k vs hp=some (d,hp2)) (hm:isMark d=true) (he:markE d=some e):disM E cS k vs hp=some (.tup [.nilfn,e],hp2):=by
 unfold disM
 simp [h,hm,hk,he]
theorem zqq {k:Nat} {vs:List D} {hp2:List Obj} {d d1:D} (hk:E.mp k=true) (h:cS k vs []=some (d,hp2)) (hm:isMark d=false) (hd:disE d=none) (hz:frz hp2 depth d=some d1) (hd1:disE d1=none):disP E cP cS k vs=some d1:=by
 unfold disP
 simp only [hk,if_true,zei h hm hd,hd,hz,hd1,Option.isSome_none,aE,if_false]
theorem zo2 {k:Nat} {vs:List D} {hp2:List Obj} {d e:D} (hk:E.mp k=true) (h:cS k vs []=some (d,hp2)) (hm:isMark d=true) (he:markE d=some e):disP E cP cS k vs=some (.tup [.nilfn,e]):=by
 unfold disP
 simp only [hk,if_true,zft hk h hm he]
 rfl

end
end Dv

namespace Dv
attribute [local simp] ae depth dCell dUse dInts dChoice dVar dProb tStart addO Ret
attribute [local congr] z45 z4f z3g z2n z23 z3m z21


attribute [local congr] z4y

theorem z1m {E:Env} {cP:Nat->List D->Option D} {cS cY:Nat->List D->List Obj->Option (D × List Obj)} {hp:List Obj} {id:Nat} {g:Opd->D} {f x:Opd} {as:List Opd}:stepOp E cP cS cY id g hp (.call 4 f (x::as))=(match g f with | .fn k caps=>(islD cS k (g x) (as.map g++caps) hp).map fun r=>(r.1,hp.set r.2.1 r.2.2) | _=>none):=by
 simp only [stepOp,DOp.fin,finOp]
 cases g f <;> rfl

def KpR (R:Nat) (hp h:List Obj):Prop:=∀ j o,j ≠ R->At hp j o->At h j o
theorem KpR.refl {R:Nat} {hp:List Obj}:KpR R hp hp:=fun _ _ _ a=>a
theorem KpR.app {R:Nat} {hp h r:List Obj} (k:KpR R hp h):KpR R hp (h++r):=fun j o hj a=>(k j o hj a).app
theorem KpR.set {R q:Nat} {hp h:List Obj} {x:Obj} (k:KpR R hp h) (hq:q=R\/hp.length<=q):KpR R hp (h.set q x):=fun j o hj a=>(k j o hj a).ne (by have:=a.lt;omega)
def RdOut (hp:List Obj) (R:Nat) (v:CV) (r:List UInt8) (d:D) (hp':List Obj):Prop:=
 (∃ k n s l sp,v=.mk k n s l/\d=.agg [dI k,dI n,.str s,.imm sp (l.map dV)])/\At hp' R (.cells [.imm .none (r.map byteD)])/\hp.length<=hp'.length/\KpR R hp hp'

theorem isl291 {cS:Nat->List D->List Obj->Option (D × List Obj)} {v:CV} {X r:List UInt8} {h:List Obj} {R j:Nat} {d:D} {o:List Obj} (a:At h R (.cells [.imm .none (X.map byteD)]))
  (e:cS 291 [.loc 0 0,dI j] [.cells [.imm .none (X.map byteD)]]=some (d,o))
  (w:RdOut [.cells [.imm .none (X.map byteD)]] 0 v r d o) (hf:fmd v) (hd:dep v<=16) :
  islD cS 291 (.loc R 0) [dI j] h=some (dV v,R,.cells [.imm .none (r.map byteD)]):=by
 obtain ⟨⟨k,n,s,l,sp,rfl,rfl⟩,w2,w3,_⟩:=w
 have hz:=zkw (hp:=o) (dep (.mk k n s l)) (.mk k n s l) hf (ar _) depth (by simp only [depth];omega)
 have hz':frz o depth (.agg [dI k,dI n,.str s,.imm sp (l.map dV)])=some (dV (.mk k n s l)):=by
  rw [<- hz,z9];rfl
 have hi:ids o depth (.agg [dI k,dI n,.str s,.imm sp (l.map dV)])=[]:=by
  rw [<- zp2 (hp:=o) depth (.mk k n s l),z9];rfl
 have fb:∀ (hp:List Obj) (l:List UInt8) (n:Nat),frzL (frz hp (n+1)) (l.map byteD)=some (l.map byteD):=fun hp l n=>zn fun x _=>rfl
 have hb:∀ (l:List UInt8),(l.map byteD).flatMap (ids o 39)=[]:=by
  intro l
  rw [eW]
  intro d hd
  obtain ⟨v,_,rfl⟩:=aT.1 hd
  rfl
 have hh:o.head? = some (.cells [.imm .none (r.map byteD)]):=by rw [ff];exact w2
 unfold islD
 simp only [a.eq]
 have q1:frzL (frz [] depth) [dI j]=some [dI j]:=rfl
 have q2:frzL (frz [] depth) [.imm .none (X.map byteD)]=some [.imm .none (X.map byteD)]:=by
  simp only [depth,frzL,z18,fb,af]
 have q3:frzL (frz o depth) [.imm .none (r.map byteD)]=some [.imm .none (r.map byteD)]:=by
  simp only [depth,frzL,z18,fb,af]
 have q4:ids o depth (.imm .none (r.map byteD))=[]:=by
  show (r.map byteD).flatMap (ids o 39)=[]
  exact hb r
 have q7:isMark (.agg [dI k,dI n,.str s,.imm sp (l.map dV)])=false:=rfl
 generalize X.map byteD=B at *
 generalize r.map byteD=C at *
 generalize D.agg [dI k,dI n,.str s,.imm sp (l.map dV)]=Y at *
 have q8:[D.imm .none B].all (fun d=>d.atom)=true:=rfl
 have q9:[D.imm .none C].all (fun d=>d.atom)=true:=rfl
 have q10:(ids o depth Y++[D.imm .none C].flatMap (ids o depth)).contains 0=false:=by
  simp only [hi,q4,cG,f6,aS,gU]
 simp only [q1,q2,q8,e,zq q7,hh,q10,q3,hz',q9,if_true,if_false,↓reduceIte,aE]

def Lv (l:List CV) (i:Nat):List D:=(l.take i).map dV
theorem z9i {l:List CV}:Lv l 0=[]:=rfl
theorem Lv_s {l:List CV} {i:Nat} (h:i<l.length):Lv l (i+1)=Lv l i++[dV l[i]]:=by unfold Lv;rw [aY h,dM];rfl
theorem zad {l:List CV} {i:Nat} (h:i<=l.length):(Lv l i).length=i:=by unfold Lv;simp;omega
theorem zae {l:List CV}:Lv l l.length=l.map dV:=by unfold Lv;rw [bp]
theorem Lv_4 {l:List CV} {i:Nat}:∀ x ∈ Lv l i,is4 x:=by
 intro x hx
 obtain ⟨v,_,rfl⟩:=aT.1 hx
 obtain ⟨k,n,s,l⟩:=v
 rw [z9]
 exact ⟨rfl,rfl⟩
def Rb (l:List CV) (r:List UInt8) (i:Nat):List UInt8:=encL (l.drop i)++r
theorem Rb_s {l:List CV} {r:List UInt8} {i:Nat} (h:i<l.length):Rb l r i=enc l[i]++Rb l r (i+1):=by
 unfold Rb;rw [cJ h,encL,bZ]
theorem zt1 {l:List CV} {r:List UInt8}:Rb l r l.length=r:=by unfold Rb;rw [jP,encL];rfl
theorem zt0 {l:List CV} {r:List UInt8}:∀ {i:Nat},i<=l.length->(Rb l r i).length<=(Rb l r 0).length
 | 0,_=>ar _
 | i+1,h=>by
  have:=zt0 (l:=l) (r:=r) (i:=i) (by omega)
  rw [Rb_s (by omega),aN] at this
  omega
theorem z75 (s:List UInt8):b2sD E 30 53 (.imm .exact (s.map byteD))=some (.str s):=by
 rw [z84];rfl
theorem s291:∀ (m:Nat) (v:CV),sizeOf v<=m->fmd v->dep v<=16->∀ (r:List UInt8) (hp:List Obj) (R j:Nat),At hp R (.cells [.imm .none ((enc v++r).map byteD)])->(enc v++r).length<=900000->dep v+j<=16 ->
  ∃ d hp',runS E (dL E) 291 [.loc R 0,dI j] hp=some (d,hp')/\RdOut hp R v r d hp':=by
 intro m
 induction m with
 | zero=>intro v h;cases v;simp at h
 | succ m ih=>
  intro v hm hf hd r hp R j a hlen hj
  refine z2z c291 (args:=[.loc R 0,dI j]) (hp:=hp) (R:=fun d hp'=>RdOut hp R v r d hp') (by simp) ?_
  conv in t291=>reduce;dsimp [ah]
  obtain ⟨k,n,s,l⟩:=v
  have hf':=hf
  rw [fmd] at hf
  have hne:R ≠ hp.length:=fun e=>by have:=a.lt;omega
  rcases hf with ⟨rfl,hn,rfl,rfl⟩ | ⟨rfl,rfl,rfl⟩ | ⟨rfl,rfl,rfl,hf⟩
  ·rw [enc,if_pos rfl] at a hlen
   have e1:=s305 (n:=1) (hp:=hp++[.cells [dI 0,dI 0,.str [],.imm .exact []]]) a.app (by simp) (by simp at hlen ⊢;omega)
   obtain ⟨H,hH⟩:∃ H,H=(hp++[Obj.cells [dI 0,dI 0,.str [],.imm .exact []]]).set R (.cells [.imm .none (((1::num (uns n)++r).drop 1).map byteD)]):=⟨_,rfl⟩
   obtain ⟨B,hB⟩:∃ B,B=hp.length:=⟨_,rfl⟩
   rw [<- hH] at e1
   have aR:At H R (.cells [.imm .none ((num (uns n)++r).map byteD)]):=by rw [hH];exact .self (by simp;have:=a.lt;omega)
   have aB:At H B (.cells [dI 0,dI 0,.str [],.imm .exact []]):=by rw [hH,hB];exact At.ne (by simp [At]) hne
   have hlH:hp.length<=H.length:=by rw [hH];simp
   have c1:convD E 13 2 (.int .u8 1)=some (dI 1):=rfl
   have aB1:At (H.set B (.cells [dI 1,dI 0,.str [],.imm .exact []])) B (.cells [dI 1,dI 0,.str [],.imm .exact []]):=.self aB.lt
   have aR1:At (H.set B (.cells [dI 1,dI 0,.str [],.imm .exact []])) R (.cells [.imm .none ((num (uns n)++r).map byteD)]):=aR.ne (by omega)
   have e2:=s306 (z78 hn) aR1 (by simp at hlen;omega)
   have e3:=r307 (uns n) (z78 hn)
   rw [zjc] at e3
   obtain ⟨H1,hH1⟩:∃ H1,H1=H.set B (.cells [dI 1,dI 0,.str [],.imm .exact []]):=⟨_,rfl⟩
   rw [<- hH1] at aB1 aR1 e2
   obtain ⟨H2,hH2⟩:∃ H2,H2=H1.set R (.cells [.imm .none (r.map byteD)]):=⟨_,rfl⟩
   rw [<- hH2] at e2
   have aB2:At H2 B (.cells [dI 1,dI 0,.str [],.imm .exact []]):=by rw [hH2];exact aB1.ne (by omega)
   have aR2:At H2 R (.cells [.imm .none (r.map byteD)]):=by rw [hH2];exact .self aR1.lt
   have aB3:At (H2.set B (.cells [dI 1,dI n,.str [],.imm .exact []])) B (.cells [dI 1,dI n,.str [],.imm .exact []]):=.self aB2.lt
   have aR3:At (H2.set B (.cells [dI 1,dI n,.str [],.imm .exact []])) R (.cells [.imm .none (r.map byteD)]):=aR2.ne (by omega)
   obtain ⟨H3,hH3⟩:∃ H3,H3=H2.set B (.cells [dI 1,dI n,.str [],.imm .exact []]):=⟨_,rfl⟩
   rw [<- hH3] at aB3 aR3
   have kH:KpR R hp H:=by rw [hH];exact KpR.refl.app.set (.inl rfl)
   clear hH
   simp at e1 e2
   have hl3:hp.length<=H3.length:=by rw [hH3,hH2,hH1];simpa using hlH
   simp [t291,n291,e1,<- hB,c1,↓aB.eq,<- hH1,↓aB1.eq,e2,e3,↓aB2.eq,<- hH3,↓aB3.eq,RetM,z4a aB3]
   exact ⟨⟨1,n,[],[],.exact,rfl,rfl⟩,aR3,hl3,by rw [hH3,hH2,hH1];exact ((kH.set (.inr (by omega))).set (.inl rfl)).set (.inr (by omega))⟩
  ·rw [enc,if_neg (by decide),if_pos rfl] at a hlen
   have e1:=s305 (n:=1) (hp:=hp++[.cells [dI 0,dI 0,.str [],.imm .exact []]]) a.app (by simp) (by simp at hlen ⊢;omega)
   obtain ⟨H,hH⟩:∃ H,H=(hp++[Obj.cells [dI 0,dI 0,.str [],.imm .exact []]]).set R (.cells [.imm .none (((2::(num s.length++s)++r).drop 1).map byteD)]):=⟨_,rfl⟩
   obtain ⟨B,hB⟩:∃ B,B=hp.length:=⟨_,rfl⟩
   rw [<- hH] at e1
   have aR:At H R (.cells [.imm .none ((num s.length++(s++r)).map byteD)]):=by rw [hH,<- bZ];exact .self (by simp;have:=a.lt;omega)
   have aB:At H B (.cells [dI 0,dI 0,.str [],.imm .exact []]):=by rw [hH,hB];exact At.ne (by simp [At]) hne
   have hlH:hp.length<=H.length:=by rw [hH];simp
   have c1:convD E 13 2 (.int .u8 2)=some (dI 2):=rfl
   have aB1:At (H.set B (.cells [dI 2,dI 0,.str [],.imm .exact []])) B (.cells [dI 2,dI 0,.str [],.imm .exact []]):=.self aB.lt
   have aR1:At (H.set B (.cells [dI 2,dI 0,.str [],.imm .exact []])) R (.cells [.imm .none ((num s.length++(s++r)).map byteD)]):=aR.ne (by omega)
   simp at hlen
   have e2:=s308 aR1 (by simp) (by simp;omega)
   obtain ⟨H1,hH1⟩:∃ H1,H1=H.set B (.cells [dI 2,dI 0,.str [],.imm .exact []]):=⟨_,rfl⟩
   rw [<- hH1] at aB1 aR1 e2
   obtain ⟨H2,hH2⟩:∃ H2,H2=H1.set R (.cells [.imm .none ((s++r).map byteD)]):=⟨_,rfl⟩
   rw [<- hH2] at e2
   have aB2:At H2 B (.cells [dI 2,dI 0,.str [],.imm .exact []]):=by rw [hH2];exact aB1.ne (by omega)
   have aR2:At H2 R (.cells [.imm .none ((s++r).map byteD)]):=by rw [hH2];exact .self aR1.lt
   have e3:=s305 (n:=s.length) aR2 (by simp) (by simp;omega)
   rw [List.take_left,List.drop_left] at e3
   obtain ⟨H3,hH3⟩:∃ H3,H3=H2.set R (.cells [.imm .none (r.map byteD)]):=⟨_,rfl⟩
   rw [<- hH3] at e3
   have aB3:At H3 B (.cells [dI 2,dI 0,.str [],.imm .exact []]):=by rw [hH3];exact aB2.ne (by omega)
   have aR3:At H3 R (.cells [.imm .none (r.map byteD)]):=by rw [hH3];exact .self aR2.lt
   have aB4:At (H3.set B (.cells [dI 2,dI 0,.str s,.imm .exact []])) B (.cells [dI 2,dI 0,.str s,.imm .exact []]):=.self aB3.lt
   have aR4:At (H3.set B (.cells [dI 2,dI 0,.str s,.imm .exact []])) R (.cells [.imm .none (r.map byteD)]):=aR3.ne (by omega)
   obtain ⟨H4,hH4⟩:∃ H4,H4=H3.set B (.cells [dI 2,dI 0,.str s,.imm .exact []]):=⟨_,rfl⟩
   rw [<- hH4] at aB4 aR4
   have hl4:hp.length<=H4.length:=by rw [hH4,hH3,hH2,hH1];simpa using hlH
   have m1:∀ l:List D,isMark (.imm .exact l)=false:=fun _=>rfl
   have b1:=z75 s
   have kH:KpR R hp H:=by rw [hH];exact KpR.refl.app.set (.inl rfl)
   clear hH
   simp at e1 e2
   simp [t291,n291,e1,<- hB,c1,↓aB.eq,<- hH1,↓aB1.eq,e2,e3,↓aB2.eq,<- hH4,↓aB3.eq,↓aB4.eq,RetM,z4a aB4,b1]
   exact ⟨⟨2,0,s,[],.exact,rfl,rfl⟩,aR4,hl4,by rw [hH4,hH3,hH2,hH1];exact (((kH.set (.inr (by omega))).set (.inl rfl)).set (.inl rfl)).set (.inr (by omega))⟩
  ·rw [enc,if_neg (by decide),if_neg (by decide)] at a hlen
   rw [dep,if_pos rfl] at hd hj
   have e1:=s305 (n:=1) (hp:=hp++[.cells [dI 0,dI 0,.str [],.imm .exact []]]) a.app (by simp) (by simp at hlen ⊢;omega)
   obtain ⟨H,hH⟩:∃ H,H=(hp++[Obj.cells [dI 0,dI 0,.str [],.imm .exact []]]).set R (.cells [.imm .none (((3::(num l.length++encL l)++r).drop 1).map byteD)]):=⟨_,rfl⟩
   obtain ⟨B,hB⟩:∃ B,B=hp.length:=⟨_,rfl⟩
   rw [<- hH] at e1
   have aR:At H R (.cells [.imm .none ((num l.length++(encL l++r)).map byteD)]):=by rw [hH,<- bZ];exact .self (by simp;have:=a.lt;omega)
   have aB:At H B (.cells [dI 0,dI 0,.str [],.imm .exact []]):=by rw [hH,hB];exact At.ne (by simp [At]) hne
   have hlH:hp.length<=H.length:=by rw [hH];simp
   have c1:convD E 13 2 (.int .u8 3)=some (dI 3):=rfl
   have aB1:At (H.set B (.cells [dI 3,dI 0,.str [],.imm .exact []])) B (.cells [dI 3,dI 0,.str [],.imm .exact []]):=.self aB.lt
   have aR1:At (H.set B (.cells [dI 3,dI 0,.str [],.imm .exact []])) R (.cells [.imm .none ((num l.length++(encL l++r)).map byteD)]):=aR.ne (by omega)
   simp at hlen
   have hel:=z5i l
   have e2:=s308 aR1 (by simp;omega) (by simp;omega)
   obtain ⟨H1,hH1⟩:∃ H1,H1=H.set B (.cells [dI 3,dI 0,.str [],.imm .exact []]):=⟨_,rfl⟩
   rw [<- hH1] at aB1 aR1 e2
   obtain ⟨H2,hH2⟩:∃ H2,H2=H1.set R (.cells [.imm .none ((encL l++r).map byteD)]):=⟨_,rfl⟩
   rw [<- hH2] at e2
   have aB2:At H2 B (.cells [dI 3,dI 0,.str [],.imm .exact []]):=by rw [hH2];exact aB1.ne (by omega)
   have aR2:At H2 R (.cells [.imm .none ((encL l++r).map byteD)]):=by rw [hH2];exact .self aR1.lt
   have hl2:hp.length<=H2.length:=by rw [hH2,hH1];simpa using hlH
   have hj16:(j:Int)<16:=by omega
   have kH:KpR R hp H:=by rw [hH];exact KpR.refl.app.set (.inl rfl)
   clear hH
   simp at e1 e2
   simp [t291,n291,e1,<- hB,c1,↓aB.eq,<- hH1,↓aB1.eq,e2,s292,hj16]
   refine z2x l.length (fun i env h=>∃ (x3 x4 x5 x6 x7 x8 x9 x10 x11 x12 x13 x16 x17 x18 x19 x21:D) (sp:Spare) (dq:D),env=[.loc R 0,dI j,.loc B 0,x3,x4,x5,x6,x7,x8,x9,x10,x11,x12,x13,dI l.length,dI i,x16,x17,x18,x19,dq,x21]/\isMark dq=false /\
    At h R (.cells [.imm .none ((Rb l r i).map byteD)])/\At h B (.cells [dI 3,dI 0,.str [],.imm sp (Lv l i)])/\Room hp.length h sp i 4/\hp.length<=h.length/\KpR R hp h) 0 (by omega) ?_ ?_
   ·exact ⟨_,_,_,_,_,_,_,_,_,_,_,_,_,_,_,_,(.exact),.undef,rfl,rfl,aR2,aB2,.inl rfl,hl2,by rw [hH2,hH1];exact (kH.set (.inr (by omega))).set (.inl rfl)⟩
   rintro i env h hi ⟨x3,x4,x5,x6,x7,x8,x9,x10,x11,x12,x13,x16,x17,x18,x19,x21,sp,dq,rfl,hdq,a1,a2,T3,hlen2,K⟩
   have hL:(Lv l i).length=i:=zad hi
   by_cases hlt:i<l.length
   ·have hup:=z1b hlt (by omega)
    have hjj:aA.wrap ((j:Int)+1)=((j+1:Nat):Int):=by simp [bj,bm,bc];omega
    have hap:∀ x:D,appOk E 55 (Lv l i) [x]:=fun x=>z2b (by rw [hL];simp;omega) Lv_4
    have h4:is4 (dV l[i]):=Lv_4 (l:=l) (i:=i+1) _ (by rw [Lv_s hlt];simp)
    have hsp:=Lv_s hlt
    have hb:=Rb_s (r:=r) hlt
    have hbl:=zt0 (r:=r) hi
    rw [hb] at a1 hbl
    have hb0:Rb l r 0=encL l++r:=rfl
    rw [hb0] at hbl
    have hmem:l[i] ∈ l:=aP hlt
    have hdm:=z71 hmem
    have hsz:sizeOf l[i]<=m:=by
     have:=dG hmem
     simp at hm;omega
    have fm:=z5a hf _ hmem
    obtain ⟨d,o,f1,f2⟩:=ih l[i] hsz fm (by omega) (Rb l r (i+1)) [.cells [.imm .none ((enc l[i]++Rb l r (i+1)).map byteD)]] 0 (j+1) rfl (by simp at hbl ⊢;omega) (by omega)
    have i4:∀ X,islD (runS E (dL E)) 291 (.loc R 0) [.int .i64 ((j+1:Nat):Int)] (h++X)=some (dV l[i],R,.cells [.imm .none ((Rb l r (i+1)).map byteD)]):=fun X=>isl291 a1.app f1 f2 fm (by omega)
    have i5:∀ X,islD (disM E (runS E (dL E))) 291 (.loc R 0) [.int .i64 ((j+1:Nat):Int)] (h++X)=some (dV l[i],R,.cells [.imm .none ((Rb l r (i+1)).map byteD)]):=fun X=>by
     obtain ⟨⟨_,_,_,_,_,_,hd5⟩,_⟩:=id f2
     exact isl291 a1.app (zei f1 (by rw [hd5];rfl) (by rw [hd5];rfl)) f2 fm (by omega)
    have nm:isMark (dV l[i])=false:=by cases l[i];rw [z9];rfl
    have nd:disE (dV l[i])=none:=by cases l[i];rw [z9];rfl
    obtain ⟨j1,hj1⟩:∃ j1:Nat,j1=j+1:=⟨_,rfl⟩
    rw [<- hj1] at hjj i4 i5
    have nRB:R ≠ B:=by omega
    obtain ⟨H5,hH5⟩:∃ H5,H5=h.set R (.cells [.imm .none ((Rb l r (i+1)).map byteD)]):=⟨_,rfl⟩
    have hsR:∀ X,(h++X).set R (.cells [.imm .none ((Rb l r (i+1)).map byteD)])=H5++X:=fun X=>by rw [hH5];exact zj a1.lt
    have k5:KpR R hp H5:=by rw [hH5];exact K.set (.inl rfl)
    have l5:H5.length=h.length:=by rw [hH5];simp
    have b1:At H5 R (.cells [.imm .none ((Rb l r (i+1)).map byteD)]):=by rw [hH5];exact .self a1.lt
    have b2:At H5 B (.cells [dI 3,dI 0,.str [],.imm sp (Lv l i)]):=by rw [hH5];exact a2.ne nRB
    have alR:=b1.lt
    have alB:=b2.lt
    rcases T3 with rfl | ⟨q,rfl,hq,hq2⟩
    ·have a3:∀ X,(H5++X)[B]? = some (.cells [dI 3,dI 0,.str [],.imm .exact (Lv l i)]):=fun X=>b2.app (r:=X)
     have hsB:∀ X o,(H5++X).set B o=H5.set B o++X:=fun X o=>zj alB
     simp [hlt,hup,hjj,z1m,i4,i5,wPr,z1i,zr,z11,sameP,hdq,nm,nd,a2.appE,zk,zg,hap,hL,h4.1,h4.2,↓hsR,l5,↓a3,↓hsB]
     refine ⟨by simp [chkT,chk1,idsNe,did];omega,by simp [chkT,chk1,idsNe,did];omega,?_⟩
     exact ⟨_,_,_,_,_,_,_,_,_,_,_,_,_,_,_,_,.tok (h.length+7),dV l[i],⟨rfl,rfl,rfl,rfl,rfl,rfl,rfl,rfl,rfl,rfl,rfl,rfl,rfl,rfl,rfl,rfl,rfl⟩,nm,(b1.ne (bw nRB)).app,by rw [hsp];exact (At.self alB).app,.inr ⟨_,rfl,by omega,by simp [At,<- l5]⟩,by omega,(k5.set (.inr (by omega))).app⟩
    ·have q1:q ≠ R:=fun e=>by subst e;have:=a1.symm.trans hq2;simp at this
     have q2:q ≠ B:=fun e=>by subst e;have:=a2.symm.trans hq2;simp at this
     have b3:At H5 q (.tok (i*4) 4):=by rw [hH5];exact hq2.ne (bw q1)
     have hql:=b3.lt
     have b2':At (H5.set q .dead) B (.cells [dI 3,dI 0,.str [],.imm (.tok q) (Lv l i)]):=b2.ne q2
     have b1':=b1.ne (j:=q) (x:=.dead) q1
     have a3:∀ X,(H5.set q .dead++X)[B]? = some (.cells [dI 3,dI 0,.str [],.imm (.tok q) (Lv l i)]):=fun X=>b2'.app (r:=X)
     have hsB:∀ X o,(H5.set q .dead++X).set B o=(H5.set q .dead).set B o++X:=fun X o=>zj (by simpa using alB)
     have hs:∀ X o,(H5++X).set q o=H5.set q o++X:=fun X o=>zj hql
     have hq3:∀ X,(H5++X)[q]? = some (.tok (i*4) 4):=fun X=>b3.app (r:=X)
     simp [hlt,hup,hjj,z1m,i4,i5,wPr,z1i,zr,z11,sameP,hdq,nm,nd,a2.appE,zk,zp,hap,hL,h4.1,h4.2,↓hsR,l5,hq3,↓hs,↓a3,↓hsB]
     refine ⟨by simp [chkT,chk1,idsNe,did];omega,by simp [chkT,chk1,idsNe,did];omega,?_⟩
     exact ⟨_,_,_,_,_,_,_,_,_,_,_,_,_,_,_,_,.tok (h.length+7),dV l[i],⟨rfl,rfl,rfl,rfl,rfl,rfl,rfl,rfl,rfl,rfl,rfl,rfl,rfl,rfl,rfl,rfl,rfl⟩,nm,(b1'.ne (bw nRB)).app,by rw [hsp];exact (At.self b2'.lt).app,.inr ⟨_,rfl,by omega,by simp [At,<- l5]⟩,by omega,((k5.set (.inr hq)).set (.inr (by omega))).app⟩
   ·have:i=l.length:=by omega
    subst this
    rw [zt1] at a1
    rw [zae] at a2
    simp [a2.eq,z4a a2,RetM]
    exact ⟨⟨3,0,[],l,sp,rfl,rfl⟩,a1,hlen2,K⟩

abbrev RC (b:List UInt8) (k:Nat) (bad:Bool):Obj:=.cells [.imm .none (b.map byteD),dI k,.bool bad]
structure RdR (hp:List Obj) (R:Nat) (b:List UInt8) (k:Nat) (bad:Bool) (hp':List Obj):Prop where
 at_:At hp' R (RC b k bad)
 kp:KpR R hp hp'
 le:hp.length<=hp'.length
theorem KpR.trans {R:Nat} {hp h h2:List Obj} (k:KpR R hp h) (k2:KpR R h h2):KpR R hp h2:=fun j o hj a=>k2 j o hj (k j o hj a)
theorem RdR.trans {hp h h2:List Obj} {R:Nat} {b:List UInt8} {k k2:Nat} {x x2:Bool} (r:RdR hp R b k x h) (r2:RdR h R b k2 x2 h2):RdR hp R b k2 x2 h2:=⟨r2.at_,r.kp.trans r2.kp,aD r.le r2.le⟩
theorem RdR.self {hp:List Obj} {R:Nat} {b:List UInt8} {k:Nat} {x:Bool} (a:At hp R (RC b k x)):RdR hp R b k x hp:=⟨a,KpR.refl,ar _⟩

theorem s309 {hp:List Obj} {R k:Nat} {b:List UInt8} {bad:Bool} (a:At hp R (RC b k bad)) (hk:k<b.length) (hl:b.length<=900000) :
  ∃ hp',runS E (dL E) 309 [.loc R 0] hp=some (byteD b[k],hp')/\RdR hp R b (k+1) bad hp':=by
 have:∃ d hp',runS E (dL E) 309 [.loc R 0] hp=some (d,hp')/\(d=byteD b[k]/\RdR hp R b (k+1) bad hp'):=by
  refine z4w c309 (args:=[.loc R 0]) (hp:=hp) (R:=fun d hp'=>d=byteD b[k]/\RdR hp R b (k+1) bad hp') (by simp) ?_
  conv in t309=>reduce;dsimp [ah]
  have hdn:aA.wrap (((k+1:Nat):Int) - 1)=(k:Int):=by simp [bj,bm,bc];omega
  have hup:aA.wrap ((k:Int)+1)=((k+1:Nat):Int):=by simp [bj,bm,bc];omega
  have h1 : ¬ (b.length:Int)<=(k:Int):=by omega
  obtain ⟨k1,hk1⟩:∃ k1:Nat,k1=k+1:=⟨_,rfl⟩
  rw [<- hk1] at hup hdn ⊢
  obtain ⟨W,hW⟩:∃ W,W=hp++ae 10 Obj.dead:=⟨_,rfl⟩
  have aW:At W R (RC b k bad):=by rw [hW];exact a.app
  obtain ⟨H,hH⟩:∃ H,H=W.set R (RC b k1 bad):=⟨_,rfl⟩
  have aR:At H R (RC b k1 bad):=by rw [hH];exact .self aW.lt
  have kH:KpR R hp H:=by rw [hH,hW];exact KpR.refl.app.set (.inl rfl)
  have lH:hp.length<=H.length:=by rw [hH,hW];simp
  simp at hW
  simp [t309,n309,<- hW,↓aW.eq,aW.appE,h1,hup,<- hH,↓aR.eq,aR.appE,hdn,hk]
  exact ⟨aR.app,kH.app,by simp;omega⟩
 obtain ⟨d,hp',e,rfl,w⟩:=this
 exact ⟨hp',e,w⟩
theorem s309e {hp:List Obj} {R k:Nat} {b:List UInt8} {bad:Bool} (a:At hp R (RC b k bad)) (hk : ¬ k<b.length) :
  ∃ hp',runS E (dL E) 309 [.loc R 0] hp=some (byteD 0,hp')/\RdR hp R b k true hp':=by
 have:∃ d hp',runS E (dL E) 309 [.loc R 0] hp=some (d,hp')/\(d=byteD 0/\RdR hp R b k true hp'):=by
  refine z4w c309 (args:=[.loc R 0]) (hp:=hp) (R:=fun d hp'=>d=byteD 0/\RdR hp R b k true hp') (by simp) ?_
  conv in t309=>reduce;dsimp [ah]
  have h1:(b.length:Int)<=(k:Int):=by omega
  simp [t309,n309,↓a.eq,a.appE,h1]
  exact ⟨.self (by have:=a.lt;simp;omega),KpR.refl.app.set (.inl rfl),by simp⟩
 obtain ⟨d,hp',e,rfl,w⟩:=this
 exact ⟨hp',e,w⟩

def NumR (b:List UInt8) (k:Nat) (hp:List Obj) (R:Nat) (d:D) (hp':List Obj):Prop:=match rdN 0 (b.drop k) with
 | some (u,r)=>d=.int .u64 (u:Nat) /\ ∃ k',b.drop k'=r/\k'<=b.length/\RdR hp R b k' false hp'
 | none=>(∃ x:Nat,d=.int .u64 (x:Nat)/\x<18446744073709551616) /\ ∃ k',k'<=b.length/\RdR hp R b k' true hp'

theorem s310 {hp:List Obj} {R k:Nat} {b:List UInt8} (a:At hp R (RC b k false)) (hk:k<=b.length) (hl:b.length<=900000) :
  ∃ d hp',runS E (dL E) 310 [.loc R 0] hp=some (d,hp')/\NumR b k hp R d hp':=by
 refine z4w c310 (args:=[.loc R 0]) (hp:=hp) (R:=fun d hp'=>NumR b k hp R d hp') (by simp) ?_
 conv in t310=>reduce;dsimp [ah]
 simp [t310,n310]
 refine z2x 10 (fun i env h=>∃ q:Nat,∃ (x1 x4 x5 x6 x7 x8:D) (acc:Nat),env=[.loc R 0,x1,.int .u64 (acc:Nat),dI i,x4,x5,x6,x7,x8]/\q<=b.length/\RdR hp R b q false h/\i<=9/\acc<2 ^ (7*i)/\(rdN i (b.drop q)).map (fun p=>(acc+p.1*2 ^ (7*i),p.2))=rdN 0 (b.drop k)) 0 (by omega) ?_ ?_
 ·refine ⟨k,_,_,_,_,_,_,(0),rfl,hk,RdR.self a,by omega,by omega,?_⟩
  cases rdN 0 (b.drop k) <;> simp
 rintro i env h hi ⟨q,x1,x4,x5,x6,x7,x8,acc,rfl,hq,rr,hi9,hacc,hrel⟩
 have a1:=rr.at_
 have cnd:∀ c:UInt8,(ob (if (i:Int)=9 then some (D.bool (decide (1<(c.toNat:Int)))) else some (D.bool false)) fun t=>iteD t (some (D.bool true)) (if 0<i then some (D.bool ((c.toNat:Int) == 0)) else some (D.bool false)))=some (D.bool (decide ((i=9/\1<c.toNat)\/(0<i/\c.toNat=0)))):=by
  intro c
  have z1:((c.toNat:Int) == 0)=decide (c.toNat=0):=by
   by_cases h:c.toNat=0
   ·rw [h];rfl
   ·have : ¬ (c.toNat:Int)=0:=by omega
    simp [h]
  have z2:decide (1<(c.toNat:Int))=decide (1<c.toNat):=decide_eq_decide.2 (by omega)
  have z3:((i:Int)=9)=(i=9):=propext (by omega)
  rw [z1,z2]
  simp only [z3]
  by_cases h9:i=9 <;> by_cases h0:0<i <;> by_cases h1:1<c.toNat <;> by_cases hz:c.toNat=0 <;> simp only [h9,h0,h1,hz,if_true,if_false,z7,zp1,decide_true,decide_false,and_self,and_true,and_false,true_and,false_and,or_self,or_true,or_false,true_or,false_or,aE,↓reduceIte] <;> first | rfl | omega
 have er:∀ c:UInt8,binD E .rem 13 (.int .u8 c.toNat) (.int .u8 128)=some (.int .u8 ((c.toNat % 128:Nat):Int)):=fun c=>by
  have:=zbr c
  have w:=ej (a:=(c.toNat:Int)) (b:=128) (by omega)
  simp [w]
 have ew:aA.wrap (7*(i:Int))=((7*i:Nat):Int):=by simp [bj,bm,bc];omega
 have ec:∀ m:Nat,m<256->convD E 13 63 (D.int .u8 (m:Int))=some (.int .u64 (m:Int)):=fun m hm=>by
  have:=z1t (n:=m) (by omega)
  simp [convD,this]
 have hP:2 ^ (7*(i+1))=128*2 ^ (7*i):=by
  rw [show 7*(i+1)=7+7*i from by omega,gJ]
 have hP9:2 ^ (7*i)<=9223372036854775808:=eG (n:=2) (j:=63) (by decide) (by omega)
 by_cases hlt:q<b.length
 ·obtain ⟨h2,e1,r2⟩:=s309 a1 hlt hl
  rw [cJ hlt] at hrel
  have a2:=r2.at_
  have rr2:=rr.trans r2
  generalize b[q]=c at *
  obtain ⟨q1,hq1⟩:∃ q1,q1=q+1:=⟨_,rfl⟩
  rw [<- hq1] at a2 rr2 hrel
  have hq1l:q1<=b.length:=by omega
  clear r2
  have c8:=zbr c
  by_cases hC:(i=9/\1<c.toNat)\/(0<i/\c.toNat=0)
  ·have hn:rdN 0 (b.drop k)=none:=by
    rw [<- hrel,rdN,if_neg,aQ]
    rintro ⟨h1,h2⟩
    rw [z89] at h1
    omega
   have pst:NumR b k hp R (.int .u64 0) (h2.set R (RC b q1 true)):=by
    unfold NumR;rw [hn];exact ⟨⟨0,rfl,by decide⟩,q1,by omega,.self a2.lt,rr2.kp.set (.inl rfl),by simpa using rr2.le⟩
   have c1:=cnd c
   rw [decide_eq_true hC] at c1
   simp [a1.eq,e1,c1,↓a2.eq,pst]
  ·have c1:=cnd c
   rw [decide_eq_false hC] at c1
   have hrc:(i=0\/c ≠ 0)/\(i<9\/c.toNat<=1):=by rw [z89];omega
   rw [rdN,if_pos hrc] at hrel
   obtain ⟨m,hm⟩:∃ m:Nat,m=c.toNat % 128:=⟨_,rfl⟩
   have er:=er c
   rw [<- hm] at er
   have hm7:m*2 ^ (7*i)<9223372036854775808+1:=by
    rcases hrc.2 with h | h
    ·have:2 ^ (7*(i+1))<=9223372036854775808:=eG (n:=2) (j:=63) (by decide) (by omega)
     have:m*2 ^ (7*i)<=127*2 ^ (7*i):=bh _ (by omega)
     omega
    ·have:m*2 ^ (7*i)<=1*2 ^ (7*i):=bh _ (by omega)
     omega
   have es:=shl7 hi9 (m:=m) (by omega)
   obtain ⟨s7,hs7⟩:∃ s7:Nat,s7=7*i:=⟨_,rfl⟩
   rw [<- hs7] at ew es
   obtain ⟨p,hp'⟩:∃ p:Nat,p=m*2 ^ (7*i):=⟨_,rfl⟩
   rw [hs7,<- hp',<- hs7] at es
   rw [<- hp'] at hm7
   have ea:binD E .add 63 (.int .u64 (acc:Int)) (.int .u64 (p:Int))=some (.int .u64 ((acc+p:Nat):Int)):=by
    have:=z1t (n:=acc+p) (by omega)
    rw [zg3,<- this];simp
   obtain ⟨t,ht⟩:∃ t:Nat,t=acc+p:=⟨_,rfl⟩
   rw [<- ht] at ea
   have ec:=ec m (by omega)
   have ei:aA.wrap ((i:Int)+1)=((i+1:Nat):Int):=by simp [bj,bm,bc];omega
   by_cases hlo:c.toNat<128
   ·have hlo':(c.toNat:Int)<128:=by omega
    rw [if_pos hlo] at hrel
    have hn:rdN 0 (b.drop k)=some (t,b.drop q1):=by
     rw [<- hrel,ht,hp',hm,dT hlo];rfl
    have pst:NumR b k hp R (.int .u64 (t:Nat)) h2:=by
     unfold NumR;rw [hn];exact ⟨rfl,q1,rfl,hq1l,rr2⟩
    simp [a1.eq,e1,c1,er,ec,ew,es,ea,hlo',pst]
   ·have hlo' : ¬ (c.toNat:Int)<128:=by omega
    rw [if_neg hlo] at hrel
    have h9:i<9:=by omega
    simp [a1.eq,e1,c1,er,ec,ew,es,ea,hlo',ei]
    refine ⟨by omega,q1,_,_,_,_,_,_,t,⟨rfl,rfl,rfl,rfl,rfl,rfl,rfl⟩,hq1l,rr2,by omega,?_,?_⟩
    ·rw [ht,hp',hP]
     have:m*2 ^ (7*i)<=127*2 ^ (7*i):=bh _ (by omega)
     omega
    ·rw [<- hrel]
     cases rdN (i+1) (b.drop q1) with
     | none=>rfl
     | some z=>
      simp only [af,aa,ak,and_true]
      rw [ht,hp',hP,be,show c.toNat - 128=m from by omega,ic 128 z.1,iS]
      omega
 ·obtain ⟨h2,e1,r2⟩:=s309e a1 hlt
  rw [cu (by omega)] at hrel
  have a2:=r2.at_
  have hn:rdN 0 (b.drop k)=none:=by rw [<- hrel];simp [rdN]
  obtain ⟨c,hc⟩:∃ c:UInt8,c=0:=⟨_,rfl⟩
  have hcn:c.toNat=0:=by rw [hc];rfl
  rw [<- hc] at e1
  have c0:=cnd c
  by_cases h0:0<i
  ·have pst:NumR b k hp R (.int .u64 0) (h2.set R (RC b q true)):=by
    unfold NumR;rw [hn];exact ⟨⟨0,rfl,by decide⟩,q,hq,.self a2.lt,(rr.trans r2).kp.set (.inl rfl),by simpa using (rr.trans r2).le⟩
   have hC:(i=9/\1<c.toNat)\/(0<i/\c.toNat=0):=.inr ⟨h0,hcn⟩
   rw [decide_eq_true hC] at c0
   simp [a1.eq,e1,c0,↓a2.eq,pst]
  ·obtain rfl:i=0:=by omega
   have hC : ¬ (((0:Nat)=9/\1<c.toNat)\/(0<(0:Nat)/\c.toNat=0)):=by omega
   rw [decide_eq_false hC] at c0
   obtain rfl:acc=0:=by simpa using hacc
   have er:=er c
   have ec:=ec (c.toNat % 128) (by omega)
   rw [hcn] at er ec
   have pst:NumR b k hp R (.int .u64 0) h2:=by
    unfold NumR;rw [hn];exact ⟨⟨0,rfl,by decide⟩,q,hq,rr.trans r2⟩
   have es:binD E .shl 63 (.int .u64 0) (.int .i64 0)=some (.int .u64 0):=rfl
   have ea:binD E .add 63 (.int .u64 0) (.int .u64 0)=some (.int .u64 0):=rfl
   have ew:aA.wrap 0=0:=rfl
   simp at er ec c0
   simp [a1.eq,e1,c0,er,ec,ew,es,ea,hcn,↓a2.eq,pst]

attribute [local congr] z4y

abbrev mkC:D:=.tup [.undef,dI 10]
@[simp] theorem zsh {r:List D} {a b:Prop}:markP (.tup (.undef::r)) a b=a:=zk4 rfl

theorem s292f (a:D) (hp:List Obj):runS E (dL E) 292 [a,.bool false] hp=some (mkC,hp):=by
 have:∃ d hp',runS E (dL E) 292 [a,.bool false] hp=some (d,hp')/\(d=mkC/\hp'=hp):=by
  refine z2z c292 (by simp) ?_
  conv in t292=>reduce;dsimp [ah]
  simp [t292,n292,RetM,panX,aJ]
 obtain ⟨d,hp',e,rfl,rfl⟩:=this
 exact e

theorem s305f {hp:List Obj} {R n:Nat} {l:List UInt8} (a:At hp R (.cells [.imm .none (l.map byteD)])) (hn : ¬ n<=l.length) :
  runS E (dL E) 305 [.loc R 0,.int .i64 n] hp=some (mkC,hp):=by
 have:∃ d hp',runS E (dL E) 305 [.loc R 0,.int .i64 n] hp=some (d,hp')/\(d=mkC/\hp'=hp):=by
  refine z2z c305 (by simp) ?_
  conv in t305=>reduce;dsimp [ah]
  simp [t305,n305,RetM,↓a.eq,s292f,hn,panX,aJ]
 obtain ⟨d,hp',e,rfl,rfl⟩:=this
 exact e

theorem zmt {i:Nat} {c:UInt8} {q:List UInt8} (h:rdN i (c::q)=none) (hc:(i=0\/c ≠ 0)/\(i<9\/c.toNat<=1)):128<=c.toNat/\i<9/\rdN (i+1) q=none:=by
 simp only [rdN] at h
 rw [if_pos hc] at h
 split at h
 ·simp at h
 ·rename_i h1
  refine ⟨by omega,by rcases hc.2 with h | h <;> omega,by simpa using h⟩

theorem s306n {b:List UInt8} {hp:List Obj} {R:Nat} (hb:rdN 0 b=none) (a:At hp R (.cells [.imm .none (b.map byteD)])) (hr:b.length<4611686018427387904) :
  ∃ r':List UInt8,runS E (dL E) 306 [.loc R 0] hp=some (mkC,hp.set R (.cells [.imm .none (r'.map byteD)])):=by
 have:∃ d hp',runS E (dL E) 306 [.loc R 0] hp=some (d,hp')/\(d=mkC /\ ∃ r':List UInt8,hp'=hp.set R (.cells [.imm .none (r'.map byteD)])):=by
  refine z2z c306 (by simp) ?_
  conv in t306=>reduce;dsimp [ah]
  simp [t306,n306]
  refine ⟨fun k env h=>∃ q:List UInt8,k=q.length /\ ∃ (x3 x4 x5 x6:D) (acc:Int) (i:Nat),env=[.loc R 0,.int .u64 acc,dI i,x3,x4,x5,x6]/\h=hp.set R (.cells [.imm .none (q.map byteD)])/\rdN i q=none/\i<=9/\q.length<=b.length,b.length,?_,?_⟩
  ·exact ⟨b,rfl,_,_,_,_,(0),0,rfl,(z4a a).symm,hb,by omega,ar _⟩
  rintro k env h ⟨q,rfl,x3,x4,x5,x6,acc,i,rfl,rfl,hq,hi,hql⟩
  have al:R<hp.length:=a.lt
  cases q with
  | nil=>
   have e1:=s305f (n:=1) (hp:=hp.set R (.cells [.imm .none (([]:List UInt8).map byteD)])) (R:=R) (l:=[]) (.self al) (by simp)
   simp at e1
   simp [e1,RetM,panX,aJ]
   exact ⟨[],rfl⟩
  | cons c q=>
   have b:At (hp.set R (.cells [.imm .none ((c::q).map byteD)])) R (.cells [.imm .none ((c::q).map byteD)]):=.self al
   simp only [bn] at hql
   have e1:=s305 (n:=1) b (by simp) (by simp;omega)
   simp at e1
   by_cases hc:(i=0\/c ≠ 0)/\(i<9\/c.toNat<=1)
   ·obtain ⟨h1,h9,h2⟩:=zmt hq hc
    have hcnd:(ob (if i=0 then some (D.bool true) else some (D.bool ((c.toNat:Int) != 0))) fun t=>iteD t (if (i:Int)<9 then some (D.bool true) else some (D.bool (decide ((c.toNat:Int)<=1)))) (some (D.bool false)))=some (.bool true):=by
     by_cases z:i=0
     ·subst z;simp
     ·have:c ≠ 0:=by rcases hc.1 with h | h <;> simp_all
      have q0 : ¬ c.toNat=0:=z89.1 this
      have n:(i:Int)<9:=by omega
      simp [z,n,q0]
    have hlo : ¬ (c.toNat:Int)<128:=by omega
    obtain ⟨s,hS⟩:∃ s:Nat,s=7*i:=⟨_,rfl⟩
    have ew:aA.wrap (7*(i:Int))=(s:Int):=by simp [bj,bm,bc];omega
    have ec:∀ m:Int,convD E 13 63 (D.int .u8 m)=some (.int .u64 (a7.wrap m)):=fun m=>by simp [convD]
    have es:∀ m:Int,∃ p:Int,binD E .shl 63 (.int .u64 m) (.int .i64 (s:Int))=some (.int .u64 p):=fun m=>by
     rw [zbk,if_pos (by omega)];exact ⟨_,rfl⟩
    obtain ⟨m,hm⟩:∃ m,m=a7.wrap (andI .u8 (c.toNat:Int) 127):=⟨_,rfl⟩
    obtain ⟨p,hp'⟩:=es m
    have hw:aA.wrap ((i:Int)+1)=((i+1:Nat):Int):=by simp [bj,bm,bc];omega
    clear a
    simp [e1,s292,hcnd,ew,ec,<- hm,hp',hlo]
    refine ⟨q.length,by omega,q,rfl,_,_,_,_,_,i+1,⟨rfl,hw,rfl,rfl,rfl,rfl⟩,rfl,h2,by omega,by omega⟩
   ·have hcnd:(ob (if i=0 then some (D.bool true) else some (D.bool ((c.toNat:Int) != 0))) fun t=>iteD t (if (i:Int)<9 then some (D.bool true) else some (D.bool (decide ((c.toNat:Int)<=1)))) (some (D.bool false)))=some (.bool false):=by
     by_cases z:i=0
     ·subst z;simp at hc
     ·by_cases q0:c.toNat=0
      ·simp [z,q0]
      ·have q1:c ≠ 0:=z89.2 q0
       have q9 : ¬ i<9:=fun h=>hc ⟨.inr q1,.inl h⟩
       have q8 : ¬ c.toNat<=1:=fun h=>hc ⟨.inr q1,.inr h⟩
       have n : ¬ (i:Int)<9:=by omega
       have q7 : ¬ (c.toNat:Int)<=1:=by omega
       simp [z,n,q0,q7]
    clear a
    simp [e1,s292f,hcnd,RetM,panX,aJ]
    exact ⟨q,rfl⟩
 obtain ⟨d,hp',e,rfl,r',rfl⟩:=this
 exact ⟨r',e⟩

theorem s306s {b r:List UInt8} {u:Nat} {hp:List Obj} {R:Nat} (hb:rdN 0 b=some (u,r)) (a:At hp R (.cells [.imm .none (b.map byteD)])) (hr:b.length<4611686018427387904) :
  runS E (dL E) 306 [.loc R 0] hp=some (.int .u64 (u:Nat),hp.set R (.cells [.imm .none (r.map byteD)])):=by
 obtain ⟨rfl,h2,_⟩:=z31 b 0 u r (by omega) hb
 exact s306 h2 a (by simp at hr;omega)

theorem s308n {b:List UInt8} {hp:List Obj} {R:Nat} (hb:rdS b=none) (a:At hp R (.cells [.imm .none (b.map byteD)])) (hr:b.length<4611686018427387904) :
  ∃ r':List UInt8,runS E (dL E) 308 [.loc R 0] hp=some (mkC,hp.set R (.cells [.imm .none (r'.map byteD)])):=by
 have:∃ d hp',runS E (dL E) 308 [.loc R 0] hp=some (d,hp')/\(d=mkC /\ ∃ r':List UInt8,hp'=hp.set R (.cells [.imm .none (r'.map byteD)])):=by
  refine z2z c308 (by simp) ?_
  conv in t308=>reduce;dsimp [ah]
  cases hN:rdN 0 b with
  | none=>
   obtain ⟨r',e1⟩:=s306n hN a hr
   simp [t308,n308,e1,RetM,panX,aJ]
   exact ⟨r',rfl⟩
  | some p=>
   obtain ⟨u,r⟩:=p
   have e1:=s306s hN a hr
   obtain ⟨hbe,hu,_⟩:=z31 b 0 u r (by omega) hN
   have hrl:r.length<=b.length:=by rw [hbe];simp
   unfold rdS at hb
   rw [hN] at hb
   have hn : ¬ u<=r.length:=fun h=>by simp [h] at hb
   have b1:At (hp.set R (.cells [.imm .none (r.map byteD)])) R (.cells [.imm .none (r.map byteD)]):=.self a.lt
   have w1:a7.wrap (r.length:Int)=(r.length:Int):=z1t (by omega)
   have hn' : ¬ (u:Int)<=(r.length:Int):=by omega
   simp [t308,n308,e1,↓b1.eq,s292f,convD,w1,hn',RetM,panX,aJ]
   exact ⟨r,rfl⟩
 obtain ⟨d,hp',e,rfl,r',rfl⟩:=this
 exact ⟨r',e⟩

attribute [local congr] z4y

theorem isl291n {cS:Nat->List D->List Obj->Option (D × List Obj)} {X r:List UInt8} {h:List Obj} {R j:Nat} {o:List Obj} (a:At h R (.cells [.imm .none (X.map byteD)]))
  (e:cS 291 [.loc 0 0,dI j] [.cells [.imm .none (X.map byteD)]]=some (.tup [.nilfn,dI 10],o)) (w2:At o 0 (.cells [.imm .none (r.map byteD)])) :
  islD cS 291 (.loc R 0) [dI j] h=some (.tup [.nilfn,dI 10],R,.cells [.imm .none (r.map byteD)]):=by
 have fb:∀ (hp:List Obj) (l:List UInt8) (n:Nat),frzL (frz hp (n+1)) (l.map byteD)=some (l.map byteD):=fun hp l n=>zn fun x _=>rfl
 have hb:∀ (l:List UInt8),(l.map byteD).flatMap (ids o 39)=[]:=by
  intro l
  rw [eW]
  intro d hd
  obtain ⟨v,_,rfl⟩:=aT.1 hd
  rfl
 have hh:o.head? = some (.cells [.imm .none (r.map byteD)]):=by rw [ff];exact w2
 unfold islD
 simp only [a.eq]
 have q1:frzL (frz [] depth) [dI j]=some [dI j]:=rfl
 have q2:frzL (frz [] depth) [.imm .none (X.map byteD)]=some [.imm .none (X.map byteD)]:=by
  simp only [depth,frzL,z18,fb,af]
 have q3:frzL (frz o depth) [.imm .none (r.map byteD)]=some [.imm .none (r.map byteD)]:=by
  simp only [depth,frzL,z18,fb,af]
 have q4:ids o depth (.imm .none (r.map byteD))=[]:=by
  show (r.map byteD).flatMap (ids o 39)=[]
  exact hb r
 have q5:frz o depth (.tup [.nilfn,dI 10])=some (.tup [.nilfn,dI 10]):=rfl
 have hi:ids o depth (.tup [.nilfn,dI 10])=[]:=rfl
 have q7:isMark (.tup [.nilfn,dI 10])=false:=rfl
 generalize X.map byteD=B at *
 generalize r.map byteD=C at *
 generalize D.tup [.nilfn,dI 10]=Y at *
 have q8:[D.imm .none B].all (fun d=>d.atom)=true:=rfl
 have q9:[D.imm .none C].all (fun d=>d.atom)=true:=rfl
 have q10:(ids o depth Y++[D.imm .none C].flatMap (ids o depth)).contains 0=false:=by
  simp only [hi,q4,cG,f6,aS,gU]
 simp only [q1,q2,q8,e,zq q7,hh,q10,q3,q5,q9,if_true,if_false,↓reduceIte,aE]

def NoOut (hp:List Obj) (R:Nat) (d:D) (hp':List Obj):Prop:=d=mkC /\ ∃ r:List UInt8,At hp' R (.cells [.imm .none (r.map byteD)])/\KpR R hp hp'/\hp.length<=hp'.length

theorem lv_4 {l:List CV}:∀ x ∈ l.map dV,is4 x:=by
 intro x hx
 obtain ⟨v,_,rfl⟩:=aT.1 hx
 obtain ⟨k,n,s,l⟩:=v
 rw [z9]
 exact ⟨rfl,rfl⟩

theorem s291n:∀ (dd:Nat) (b:List UInt8) (hp:List Obj) (R j:Nat),dd+j=16->rdV dd b=none->At hp R (.cells [.imm .none (b.map byteD)])->b.length<=900000 ->
  ∃ d hp',runS E (dL E) 291 [.loc R 0,dI j] hp=some (d,hp')/\NoOut hp R d hp':=by
 intro dd
 induction dd with
 | zero=>
  intro b hp R j hj hn a hlen
  refine z2z c291 (args:=[.loc R 0,dI j]) (hp:=hp) (R:=fun d hp'=>NoOut hp R d hp') (by simp) ?_
  conv in t291=>reduce;dsimp [ah]
  have hne:R ≠ hp.length:=fun e=>by have:=a.lt;omega
  cases b with
  | nil=>
   have e1:=s305f (n:=1) (hp:=hp++[.cells [dI 0,dI 0,.str [],.imm .exact []]]) a.app (by simp)
   simp at e1
   simp [t291,n291,e1,RetM,panX,aJ]
   exact ⟨rfl,[],a.app,KpR.refl.app,by simp⟩
  | cons c q=>
   have e1:=s305 (n:=1) (hp:=hp++[.cells [dI 0,dI 0,.str [],.imm .exact []]]) a.app (by simp) (by simp at hlen ⊢;omega)
   obtain ⟨H,hH⟩:∃ H,H=(hp++[Obj.cells [dI 0,dI 0,.str [],.imm .exact []]]).set R (.cells [.imm .none (((c::q).drop 1).map byteD)]):=⟨_,rfl⟩
   obtain ⟨B,hB⟩:∃ B,B=hp.length:=⟨_,rfl⟩
   rw [<- hH] at e1
   have aR:At H R (.cells [.imm .none (q.map byteD)]):=by rw [hH];exact .self (by simp;have:=a.lt;omega)
   have aB:At H B (.cells [dI 0,dI 0,.str [],.imm .exact []]):=by rw [hH,hB];exact At.ne (by simp [At]) hne
   have hlH:hp.length<=H.length:=by rw [hH];simp
   have cw:aA.wrap (c.toNat:Int)=(c.toNat:Int):=by have:=zbr c;simp [bj,bm,bc];omega
   have c1:convD E 13 2 (.int .u8 c.toNat)=some (dI c.toNat):=by simp [convD,cw]
   obtain ⟨H1,hH1⟩:∃ H1,H1=H.set B (.cells [dI c.toNat,dI 0,.str [],.imm .exact []]):=⟨_,rfl⟩
   have aB1:At H1 B (.cells [dI c.toNat,dI 0,.str [],.imm .exact []]):=by rw [hH1];exact .self aB.lt
   have aR1:At H1 R (.cells [.imm .none (q.map byteD)]):=by rw [hH1];exact aR.ne (by omega)
   have kH:KpR R hp H:=by rw [hH];exact KpR.refl.app.set (.inl rfl)
   have k1:KpR R hp H1:=by rw [hH1];exact kH.set (.inr (by omega))
   have hl1:hp.length<=H1.length:=by rw [hH1];simpa using hlH
   have pan:∀ r':List UInt8,NoOut hp R mkC (H1.set R (.cells [.imm .none (r'.map byteD)])):=fun r'=>⟨rfl,r',.self aR1.lt,k1.set (.inl rfl),by simpa using hl1⟩
   have pan0:NoOut hp R mkC H1:=⟨rfl,q,aR1,k1,hl1⟩
   have hql:q.length<=900000:=by simp at hlen;omega
   clear hH
   simp at e1
   simp only [rdV] at hn
   by_cases q1:c=1
   ·rw [if_pos q1] at hn
    have m1:((c.toNat:Int) == 1)=true:=by rw [q1];rfl
    obtain ⟨r',e2⟩:=s306n (by simpa using hn) aR1 (by omega)
    simp [t291,n291,e1,<- hB,c1,↓aB.eq,<- hH1,↓aB1.eq,e2,m1,RetM,panX,aJ,pan]
   ·have n1 : ¬ c.toNat=1:=fun e=>q1 (ci.1 e)
    rw [if_neg q1] at hn
    have m1:((c.toNat:Int) == 1)=false:=by simp;omega
    by_cases q2:c=2
    ·rw [if_pos q2] at hn
     have m2:((c.toNat:Int) == 2)=true:=by rw [q2];rfl
     obtain ⟨r',e2⟩:=s308n (by simpa using hn) aR1 (by omega)
     simp [t291,n291,e1,<- hB,c1,↓aB.eq,<- hH1,↓aB1.eq,e2,m1,m2,RetM,panX,aJ,pan]
    ·have n2 : ¬ c.toNat=2:=fun e=>q2 (ci.1 e)
     rw [if_neg q2] at hn
     have m2:((c.toNat:Int) == 2)=false:=by simp;omega
     by_cases q3:c=3
     ·have m3:((c.toNat:Int) == 3)=true:=by rw [q3];rfl
      have hj16 : ¬ (j:Int)<16:=by omega
      simp [t291,n291,e1,<- hB,c1,↓aB.eq,<- hH1,↓aB1.eq,s292f,m1,m2,m3,hj16,RetM,panX,aJ,pan0]
     ·have n3 : ¬ c.toNat=3:=fun e=>q3 (ci.1 e)
      have m3:((c.toNat:Int) == 3)=false:=by simp;omega
      simp [t291,n291,e1,<- hB,c1,↓aB.eq,<- hH1,↓aB1.eq,s292f,m1,m2,m3,RetM,panX,aJ,pan0]
 | succ dd ih=>
  intro b hp R j hj hn a hlen
  refine z2z c291 (args:=[.loc R 0,dI j]) (hp:=hp) (R:=fun d hp'=>NoOut hp R d hp') (by simp) ?_
  conv in t291=>reduce;dsimp [ah]
  have hne:R ≠ hp.length:=fun e=>by have:=a.lt;omega
  cases b with
  | nil=>
   have e1:=s305f (n:=1) (hp:=hp++[.cells [dI 0,dI 0,.str [],.imm .exact []]]) a.app (by simp)
   simp at e1
   simp [t291,n291,e1,RetM,panX,aJ]
   exact ⟨rfl,[],a.app,KpR.refl.app,by simp⟩
  | cons c q=>
   have e1:=s305 (n:=1) (hp:=hp++[.cells [dI 0,dI 0,.str [],.imm .exact []]]) a.app (by simp) (by simp at hlen ⊢;omega)
   obtain ⟨H,hH⟩:∃ H,H=(hp++[Obj.cells [dI 0,dI 0,.str [],.imm .exact []]]).set R (.cells [.imm .none (((c::q).drop 1).map byteD)]):=⟨_,rfl⟩
   obtain ⟨B,hB⟩:∃ B,B=hp.length:=⟨_,rfl⟩
   rw [<- hH] at e1
   have aR:At H R (.cells [.imm .none (q.map byteD)]):=by rw [hH];exact .self (by simp;have:=a.lt;omega)
   have aB:At H B (.cells [dI 0,dI 0,.str [],.imm .exact []]):=by rw [hH,hB];exact At.ne (by simp [At]) hne
   have hlH:hp.length<=H.length:=by rw [hH];simp
   have cw:aA.wrap (c.toNat:Int)=(c.toNat:Int):=by have:=zbr c;simp [bj,bm,bc];omega
   have c1:convD E 13 2 (.int .u8 c.toNat)=some (dI c.toNat):=by simp [convD,cw]
   obtain ⟨H1,hH1⟩:∃ H1,H1=H.set B (.cells [dI c.toNat,dI 0,.str [],.imm .exact []]):=⟨_,rfl⟩
   have aB1:At H1 B (.cells [dI c.toNat,dI 0,.str [],.imm .exact []]):=by rw [hH1];exact .self aB.lt
   have aR1:At H1 R (.cells [.imm .none (q.map byteD)]):=by rw [hH1];exact aR.ne (by omega)
   have kH:KpR R hp H:=by rw [hH];exact KpR.refl.app.set (.inl rfl)
   have k1:KpR R hp H1:=by rw [hH1];exact kH.set (.inr (by omega))
   have hl1:hp.length<=H1.length:=by rw [hH1];simpa using hlH
   have pan:∀ r':List UInt8,NoOut hp R mkC (H1.set R (.cells [.imm .none (r'.map byteD)])):=fun r'=>⟨rfl,r',.self aR1.lt,k1.set (.inl rfl),by simpa using hl1⟩
   have pan0:NoOut hp R mkC H1:=⟨rfl,q,aR1,k1,hl1⟩
   have hql:q.length<=900000:=by simp at hlen;omega
   clear hH
   simp at e1
   simp only [rdV] at hn
   by_cases q1:c=1
   ·rw [if_pos q1] at hn
    have m1:((c.toNat:Int) == 1)=true:=by rw [q1];rfl
    obtain ⟨r',e2⟩:=s306n (by simpa using hn) aR1 (by omega)
    simp [t291,n291,e1,<- hB,c1,↓aB.eq,<- hH1,↓aB1.eq,e2,m1,RetM,panX,aJ,pan]
   ·have n1 : ¬ c.toNat=1:=fun e=>q1 (ci.1 e)
    rw [if_neg q1] at hn
    have m1:((c.toNat:Int) == 1)=false:=by simp;omega
    by_cases q2:c=2
    ·rw [if_pos q2] at hn
     have m2:((c.toNat:Int) == 2)=true:=by rw [q2];rfl
     obtain ⟨r',e2⟩:=s308n (by simpa using hn) aR1 (by omega)
     simp [t291,n291,e1,<- hB,c1,↓aB.eq,<- hH1,↓aB1.eq,e2,m1,m2,RetM,panX,aJ,pan]
    ·have n2 : ¬ c.toNat=2:=fun e=>q2 (ci.1 e)
     rw [if_neg q2] at hn
     have m2:((c.toNat:Int) == 2)=false:=by simp;omega
     by_cases q3:c=3
     ·rw [if_pos q3] at hn
      have m3:((c.toNat:Int) == 3)=true:=by rw [q3];rfl
      have c3:c.toNat=3:=by rw [q3];rfl
      have hj16:(j:Int)<16:=by omega
      rw [c3] at c1
      have hH1':H.set B (.cells [dI 3,dI 0,.str [],.imm .exact []])=H1:=by rw [hH1,c3];rfl
      have aB1:At H1 B (.cells [dI 3,dI 0,.str [],.imm .exact []]):=by rw [c3] at aB1;exact aB1
      have c1:convD E 13 2 (.int .u8 3)=some (dI 3):=rfl
      have bq:byteD c=.int .u8 3:=by rw [q3];rfl
      rw [bq] at e1
      cases hS:rdS q with
      | none=>
       obtain ⟨r',e2⟩:=s308n hS aR1 (by omega)
       simp [t291,n291,e1,<- hB,c1,↓aB.eq,hH1',↓aB1.eq,s292,e2,hj16,RetM,panX,aJ,pan]
      | some p=>
       obtain ⟨n,q'⟩:=p
       obtain ⟨hqe,hnu,hnl⟩:=z7v hS
       rw [hS] at hn
       have hn:rdL (rdV dd) n q'=none:=by simpa using hn
       have aR1':=aR1
       rw [hqe] at aR1'
       have hq'l:q'.length<=900000:=by rw [hqe] at hql;simp at hql;omega
       have e2:=s308 aR1' hnl (by omega)
       obtain ⟨H2,hH2⟩:∃ H2,H2=H1.set R (.cells [.imm .none (q'.map byteD)]):=⟨_,rfl⟩
       rw [<- hH2] at e2
       have aB2:At H2 B (.cells [dI 3,dI 0,.str [],.imm .exact []]):=by rw [hH2];exact aB1.ne (by omega)
       have aR2:At H2 R (.cells [.imm .none (q'.map byteD)]):=by rw [hH2];exact .self aR1.lt
       have hl2:hp.length<=H2.length:=by rw [hH2];simpa using hl1
       have k2:KpR R hp H2:=by rw [hH2];exact k1.set (.inl rfl)
       simp [t291,n291,e1,<- hB,c1,↓aB.eq,hH1',↓aB1.eq,e2,s292,hj16]
       refine z2x n (fun i env h=>∃ (x3 x4 x5 x6 x7 x8 x9 x10 x11 x12 x13 x16 x17 x18 x19 x21:D) (sp:Spare) (dq:D) (l:List CV) (z:List UInt8),env=[.loc R 0,dI j,.loc B 0,x3,x4,x5,x6,x7,x8,x9,x10,x11,x12,x13,dI n,dI i,x16,x17,x18,x19,dq,x21]/\isMark dq=false/\l.length=i/\rdL (rdV dd) (n - i) z=none/\z.length<=900000 /\
        At h R (.cells [.imm .none (z.map byteD)])/\At h B (.cells [dI 3,dI 0,.str [],.imm sp (l.map dV)])/\Room hp.length h sp i 4/\hp.length<=h.length/\KpR R hp h) 0 (by omega) ?_ ?_
       ·exact ⟨_,_,_,_,_,_,_,_,_,_,_,_,_,_,_,_,(.exact),.undef,[],q',rfl,rfl,rfl,hn,hq'l,aR2,aB2,.inl rfl,hl2,k2⟩
       rintro i env h hi ⟨x3,x4,x5,x6,x7,x8,x9,x10,x11,x12,x13,x16,x17,x18,x19,x21,sp,dq,l,z,rfl,hdq,hL,hrd,hzl,a1,a2,T3,hlen2,K⟩
       have hlt:i<n:=by
        rcases cj i n with h | h
        ·exact h
        ·rw [show n - i=0 from by omega] at hrd
         simp [rdL] at hrd
       have hup:=z1b hlt (by omega)
       have hjj:aA.wrap ((j:Int)+1)=((j+1:Nat):Int):=by simp [bj,bm,bc];omega
       have nRB:R ≠ B:=by omega
       rw [show n - i=(n - (i+1))+1 from by omega,rdL] at hrd
       cases hz:rdV dd z with
       | none=>
        obtain ⟨d,o,f1,rfl,r',f2,_,_⟩:=ih z [.cells [.imm .none (z.map byteD)]] 0 (j+1) (by omega) hz rfl hzl
        have i5:∀ X,islD (disM E (runS E (dL E))) 291 (.loc R 0) [.int .i64 ((j+1:Nat):Int)] (h++X)=some (.tup [.nilfn,dI 10],R,.cells [.imm .none (r'.map byteD)]):=fun X=>isl291n a1.app (zft rfl f1 rfl rfl) f2
        obtain ⟨j1,hj1⟩:∃ j1:Nat,j1=j+1:=⟨_,rfl⟩
        rw [<- hj1] at hjj i5
        have hsR:∀ X,(h++X).set R (.cells [.imm .none (r'.map byteD)])=h.set R (.cells [.imm .none (r'.map byteD)])++X:=fun X=>zj a1.lt
        have alR:=a1.lt
        have alB:=a2.lt
        simp [hlt,hup,hjj,z1m,i5,a2.appE,↓hsR,wPr,z1e,zr,z11,disE,sameP,eN,RetM,panX,aJ]
        exact ⟨by simp [chkT,chk1,idsNe,did];omega,rfl,r',(At.self a1.lt).app,(K.set (.inl rfl)).app,by simp;omega⟩
       | some p=>
        obtain ⟨v,r⟩:=p
        rw [hz] at hrd
        have hrd:rdL (rdV dd) (n - (i+1)) r=none:=by
         cases hh:rdL (rdV dd) (n - (i+1)) r with
         | none=>rfl
         | some q=>simp [hh] at hrd
        obtain ⟨hze,hfv,hdv⟩:=z7u dd z v r hz
        subst hze
        have hrl:r.length<=900000:=by simp at hzl;omega
        have hL':(l.map dV).length=i:=by rw [cK];exact hL
        have hap:∀ x:D,appOk E 55 (l.map dV) [x]:=fun x=>z2b (by rw [hL'];simp;omega) lv_4
        have h4:is4 (dV v):=lv_4 (l:=[v]) _ (by simp)
        obtain ⟨d,o,f1,f2⟩:=s291 (sizeOf v) v (ar _) hfv (by omega) r [.cells [.imm .none ((enc v++r).map byteD)]] 0 (j+1) rfl hzl (by omega)
        have i4:∀ X,islD (runS E (dL E)) 291 (.loc R 0) [.int .i64 ((j+1:Nat):Int)] (h++X)=some (dV v,R,.cells [.imm .none (r.map byteD)]):=fun X=>isl291 a1.app f1 f2 hfv (by omega)
        have i5:∀ X,islD (disM E (runS E (dL E))) 291 (.loc R 0) [.int .i64 ((j+1:Nat):Int)] (h++X)=some (dV v,R,.cells [.imm .none (r.map byteD)]):=fun X=>by
         obtain ⟨⟨_,_,_,_,_,_,hd5⟩,_⟩:=id f2
         exact isl291 a1.app (zei f1 (by rw [hd5];rfl) (by rw [hd5];rfl)) f2 hfv (by omega)
        have nm:isMark (dV v)=false:=by cases v;rw [z9];rfl
        have nd:disE (dV v)=none:=by cases v;rw [z9];rfl
        have hlv:(l++[v]).map dV=l.map dV++[dV v]:=by simp
        have hll:(l++[v]).length=i+1:=by simp [hL]
        generalize l.map dV=L at *
        obtain ⟨j1,hj1⟩:∃ j1:Nat,j1=j+1:=⟨_,rfl⟩
        rw [<- hj1] at hjj i4 i5
        obtain ⟨H5,hH5⟩:∃ H5,H5=h.set R (.cells [.imm .none (r.map byteD)]):=⟨_,rfl⟩
        have hsR:∀ X,(h++X).set R (.cells [.imm .none (r.map byteD)])=H5++X:=fun X=>by rw [hH5];exact zj a1.lt
        have k5:KpR R hp H5:=by rw [hH5];exact K.set (.inl rfl)
        have l5:H5.length=h.length:=by rw [hH5];simp
        have b1:At H5 R (.cells [.imm .none (r.map byteD)]):=by rw [hH5];exact .self a1.lt
        have b2:At H5 B (.cells [dI 3,dI 0,.str [],.imm sp L]):=by rw [hH5];exact a2.ne nRB
        have alR:=b1.lt
        have alB:=b2.lt
        rcases T3 with rfl | ⟨qq,rfl,hq,hq2⟩
        ·have a3:∀ X,(H5++X)[B]? = some (.cells [dI 3,dI 0,.str [],.imm .exact L]):=fun X=>b2.app (r:=X)
         have hsB:∀ X o,(H5++X).set B o=H5.set B o++X:=fun X o=>zj alB
         simp [hlt,hup,hjj,z1m,i4,i5,wPr,z1i,zr,z11,sameP,hdq,nm,nd,a2.appE,zk,zg,hap,hL',h4.1,h4.2,↓hsR,l5,↓a3,↓hsB]
         refine ⟨by simp [chkT,chk1,idsNe,did];omega,by simp [chkT,chk1,idsNe,did];omega,?_⟩
         exact ⟨_,_,_,_,_,_,_,_,_,_,_,_,_,_,_,_,.tok (h.length+7),dV v,⟨rfl,rfl,rfl,rfl,rfl,rfl,rfl,rfl,rfl,rfl,rfl,rfl,rfl,rfl,rfl,rfl,rfl⟩,nm,l++[v],hll,r,hrd,hrl,(b1.ne (bw nRB)).app,by rw [hlv];exact (At.self alB).app,.inr ⟨_,rfl,by omega,by simp [At,<- l5]⟩,by omega,(k5.set (.inr (by omega))).app⟩
        ·have q1:qq ≠ R:=fun e=>by subst e;have:=a1.symm.trans hq2;simp at this
         have q2:qq ≠ B:=fun e=>by subst e;have:=a2.symm.trans hq2;simp at this
         have b3:At H5 qq (.tok (i*4) 4):=by rw [hH5];exact hq2.ne (bw q1)
         have hql:=b3.lt
         have b2':At (H5.set qq .dead) B (.cells [dI 3,dI 0,.str [],.imm (.tok qq) L]):=b2.ne q2
         have b1':=b1.ne (j:=qq) (x:=.dead) q1
         have a3:∀ X,(H5.set qq .dead++X)[B]? = some (.cells [dI 3,dI 0,.str [],.imm (.tok qq) L]):=fun X=>b2'.app (r:=X)
         have hsB:∀ X o,(H5.set qq .dead++X).set B o=(H5.set qq .dead).set B o++X:=fun X o=>zj (by simpa using alB)
         have hs:∀ X o,(H5++X).set qq o=H5.set qq o++X:=fun X o=>zj hql
         have hq3:∀ X,(H5++X)[qq]? = some (.tok (i*4) 4):=fun X=>b3.app (r:=X)
         simp [hlt,hup,hjj,z1m,i4,i5,wPr,z1i,zr,z11,sameP,hdq,nm,nd,a2.appE,zk,zp,hap,hL',h4.1,h4.2,↓hsR,l5,hq3,↓hs,↓a3,↓hsB]
         refine ⟨by simp [chkT,chk1,idsNe,did];omega,by simp [chkT,chk1,idsNe,did];omega,?_⟩
         exact ⟨_,_,_,_,_,_,_,_,_,_,_,_,_,_,_,_,.tok (h.length+7),dV v,⟨rfl,rfl,rfl,rfl,rfl,rfl,rfl,rfl,rfl,rfl,rfl,rfl,rfl,rfl,rfl,rfl,rfl⟩,nm,l++[v],hll,r,hrd,hrl,(b1'.ne (bw nRB)).app,by rw [hlv];exact (At.self b2'.lt).app,.inr ⟨_,rfl,by omega,by simp [At,<- l5]⟩,by omega,((k5.set (.inr hq)).set (.inr (by omega))).app⟩
     ·have n3 : ¬ c.toNat=3:=fun e=>q3 (ci.1 e)
      have m3:((c.toNat:Int) == 3)=false:=by simp;omega
      simp [t291,n291,e1,<- hB,c1,↓aB.eq,<- hH1,↓aB1.eq,s292f,m1,m2,m3,RetM,panX,aJ,pan0]

theorem z86 {E:Env} {cP:Nat->List D->Option D} {env:List D} {hp:List Obj} {t a b c:Nat} {x y z:Xp} (h1:b ≠ a) (h2:c ≠ a) (h3:c ≠ b):xv E cP env hp (.n (.slice t (.t a) (some (.t b)) (some (.t c)) none) (.cons a x (.cons b y (.cons c z .nil))))=ob (xv E cP env hp x) fun u=>ob (xv E cP env hp y) fun v=>ob (xv E cP env hp z) fun w=>sliceD E t u (some v) (some w) none:=by
 simp only [xv,xvs]
 cases xv E cP env hp x <;> try rfl
 cases xv E cP env hp y <;> try rfl
 cases xv E cP env hp z <;> try rfl
 simp only [pureOp,af,aQ,gOf,kv,z7,if_true,if_neg h1,if_neg h2,if_neg h3]
 exact z1a
theorem zrv {b:List UInt8} {i n:Nat} (h:i+n<=b.length):sliceD E 30 (.imm .none (b.map byteD)) (some (.int .i64 (i:Nat))) (some (.int .i64 ((i+n:Nat):Int))) none=some (.imm .none (((b.drop i).take n).map byteD)):=by
 have h1:(b.map byteD).length=b.length:=by simp
 have h2:bnd (some (.int .i64 (i:Nat))) 0=some i:=by simp [bnd]
 have h3:bnd (some (.int .i64 ((i+n:Nat):Int))) (b.map byteD).length=some (i+n):=by simp [bnd];omega
 have h4:bnd none (b.map byteD).length=some (b.map byteD).length:=rfl
 have h5:sliceSpare .none (b.map byteD).length (i+n) none=.none:=by unfold sliceSpare;simp
 have h6:headFits 1 (b.map byteD)=true:=zqh
 unfold sliceD
 simp only [show (E.ty 30).k=.slice 13 from rfl,h2,h3,h4,show (E.ty 13).size=1 from rfl,aQ,h5]
 rw [if_pos ⟨by omega,by omega,ar _,h6⟩]
 simp only [List.map_drop,kN]
 rw [show i+n - i=n from by omega]

mutual
def nst:CV->Nat
 | .mk _ _ _ l=>nstL l+1
def nstL:List CV->Nat
 | []=>0
 | v::l=>jt (nst v) (nstL l)
end
theorem z28:∀ {l:List CV} {v:CV},v ∈ l->nst v<=nstL l
 | [],v,h=>by simp at h
 | w::l,v,h=>by
  rw [nstL]
  rcases aC.1 h with rfl | h
  ·exact cg _ _
  ·exact aD (z28 h) (bE _ _)
theorem zay {n:Nat}:∀ {l:List CV},(∀ v ∈ l,nst v<=n)->nstL l<=n
 | [],_=>cx _
 | w::l,h=>by
  rw [nstL]
  exact iQ.2 ⟨h w (by simp),zay fun v hv=>h v (by simp [hv])⟩
theorem zh {hp:List Obj}:∀ (m:Nat) (v:CV),nst v<=m->∀ n,2*m+1<=n->frz hp n (dV v)=some (dV v):=by
 intro m
 induction m with
 | zero=>intro v hv;cases v;rw [nst] at hv;omega
 | succ m ih=>
  intro v hv n hn
  obtain ⟨n,rfl⟩:∃ j,n=j+3:=⟨n - 3,by omega⟩
  obtain ⟨k,x,s,l⟩:=v
  rw [nst] at hv
  have e:frzL (frz hp (n+1)) (l.map dV)=some (l.map dV):=zn fun v hv=>ih v (by have:=z28 hv;omega) (n+1) (by omega)
  have hs:frz hp (n+2) (.str s)=some (.str s):=rfl
  rw [z9]
  simp only [z8,z19,z1n,hs,z18,e,af,z7,z1f]
theorem zq0:∀ (v:CV) (d:Nat),fmd v->dep v<=d->nst v<=d+1:=by
 intro v
 induction v using CV.rec (motive_2:=fun l=>∀ d,fmdL l->depL l<=d->nstL l<=d+1) with
 | mk k n s l ih=>
  intro d hf hd
  rw [fmd] at hf
  rw [nst]
  rcases hf with ⟨rfl,_,_,rfl⟩ | ⟨rfl,_,rfl⟩ | ⟨rfl,_,_,hf⟩
  ·simp [nstL]
  ·simp [nstL]
  ·rw [dep,if_pos rfl] at hd
   have:=ih (d - 1) hf (by omega)
   omega
 | nil=>rw [nstL];omega
 | cons v l ih1 ih2=>
  rename_i d hf hd
  rw [fmdL] at hf
  rw [depL] at hd
  rw [nstL]
  exact iQ.2 ⟨ih1 d hf.1 (aD (cg _ _) hd),ih2 d hf.2 (aD (bE _ _) hd)⟩

def ValR (b:List UInt8) (dd k:Nat) (hp:List Obj) (R:Nat) (d:D) (hp':List Obj):Prop:=∃ (kk n:Int) (s:List UInt8) (l:List CV) (sp:Spare),d=.agg [dI kk,dI n,.str s,.imm sp (l.map dV)]/\nst (.mk kk n s l)<=dd+1/\(match rdV dd (b.drop k) with
 | some (w,r)=>w=.mk kk n s l /\ ∃ k',b.drop k'=r/\k'<=b.length/\RdR hp R b k' false hp'
 | none=>∃ k',k'<=b.length/\RdR hp R b k' true hp')

theorem isl296 {cS:Nat->List D->List Obj->Option (D × List Obj)} {kk n:Int} {s:List UInt8} {l:List CV} {sp:Spare} {b:List UInt8} {k k2:Nat} {x x2:Bool} {h:List Obj} {R j:Nat} {o:List Obj} (a:At h R (RC b k x))
  (e:cS 296 [.loc 0 0,dI j] [RC b k x]=some (.agg [dI kk,dI n,.str s,.imm sp (l.map dV)],o)) (w2:At o 0 (RC b k2 x2)) (hd:nst (.mk kk n s l)<=17) :
  islD cS 296 (.loc R 0) [dI j] h=some (dV (.mk kk n s l),R,RC b k2 x2):=by
 unfold RC at a e w2 ⊢
 have hz:=zh (hp:=o) 17 (.mk kk n s l) hd depth (by simp only [depth];omega)
 have hz':frz o depth (.agg [dI kk,dI n,.str s,.imm sp (l.map dV)])=some (dV (.mk kk n s l)):=by
  rw [<- hz,z9];rfl
 have hi:ids o depth (.agg [dI kk,dI n,.str s,.imm sp (l.map dV)])=[]:=by
  rw [<- zp2 (hp:=o) depth (.mk kk n s l),z9];rfl
 have fb:∀ (hp:List Obj) (l:List UInt8) (n:Nat),frzL (frz hp (n+1)) (l.map byteD)=some (l.map byteD):=fun hp l n=>zn fun x _=>rfl
 have hb:∀ (l:List UInt8),(l.map byteD).flatMap (ids o 39)=[]:=by
  intro l
  rw [eW]
  intro d hd
  obtain ⟨v,_,rfl⟩:=aT.1 hd
  rfl
 have hh:o.head? = some (.cells [.imm .none (b.map byteD),dI k2,.bool x2]):=by rw [ff];exact w2
 unfold islD
 simp only [a.eq]
 have q1:frzL (frz [] depth) [dI j]=some [dI j]:=rfl
 have q2:frzL (frz [] depth) [.imm .none (b.map byteD),dI k,.bool x]=some [.imm .none (b.map byteD),dI k,.bool x]:=by
  simp only [depth,frzL,z18,fb,af,z1n,zb5]
 have q3:frzL (frz o depth) [.imm .none (b.map byteD),dI k2,.bool x2]=some [.imm .none (b.map byteD),dI k2,.bool x2]:=by
  simp only [depth,frzL,z18,fb,af,z1n,zb5]
 have q4:ids o depth (.imm .none (b.map byteD))=[]:=by
  show (b.map byteD).flatMap (ids o 39)=[]
  exact hb b
 have q5:ids o depth (dI k2)=[]:=rfl
 have q6:ids o depth (.bool x2)=[]:=rfl
 have q7:isMark (.agg [dI kk,dI n,.str s,.imm sp (l.map dV)])=false:=rfl
 generalize b.map byteD=B at *
 generalize D.agg [dI kk,dI n,.str s,.imm sp (l.map dV)]=Y at *
 have q8:[D.imm .none B,dI k,.bool x].all (fun d=>d.atom)=true:=rfl
 have q9:[D.imm .none B,dI k2,.bool x2].all (fun d=>d.atom)=true:=rfl
 have q10:(ids o depth Y++[D.imm .none B,dI k2,.bool x2].flatMap (ids o depth)).contains 0=false:=by
  simp only [hi,q4,q5,q6,cG,f6,aS,gU]
 simp only [q1,q2,q8,e,zq q7,hh,q10,q3,hz',q9,if_true,if_false,↓reduceIte,aE]

theorem s309' {hp:List Obj} {R k:Nat} {b:List UInt8} (a:At hp R (RC b k false)) (hk:k<=b.length) (hl:b.length<=900000) :
  ∃ (c:UInt8) (hp':List Obj),runS E (dL E) 309 [.loc R 0] hp=some (byteD c,hp')/\((b.drop k=c::b.drop (k+1)/\k+1<=b.length/\RdR hp R b (k+1) false hp')\/(b.drop k=[]/\c=0/\RdR hp R b k true hp')):=by
 by_cases hlt:k<b.length
 ·obtain ⟨h2,e1,r2⟩:=s309 a hlt hl
  exact ⟨_,h2,e1,.inl ⟨cJ hlt,by omega,r2⟩⟩
 ·obtain ⟨h2,e1,r2⟩:=s309e a hlt
  exact ⟨0,h2,e1,.inr ⟨cu (by omega),rfl,r2⟩⟩

theorem RdR.fin {hp h:List Obj} {R k B:Nat} {b:List UInt8} {x:Bool} {Z o:Obj} {X:List Obj} (r:RdR (hp++[Z]) R b k x h) (hB:B=hp.length) (hne:R ≠ B):RdR hp R b k x ((h++X).set B o):=
 ⟨(r.at_.app).ne (bw hne),(KpR.refl.app.trans r.kp).app.set (.inr (by omega)),by have:=r.le;simp at this ⊢;omega⟩
theorem RdR.bad {hp h:List Obj} {R k:Nat} {b:List UInt8} {x:Bool} {X:List Obj} (r:RdR hp R b k x h):RdR hp R b k true ((h++X).set R (RC b k true)):=
 ⟨.self (by have:=r.at_.lt;simp;omega),r.kp.app.set (.inl rfl),by have:=r.le;simp;omega⟩

abbrev Z0:Obj:=.cells [dI 0,dI 0,.str [],.imm .exact []]

theorem z17 {b:List UInt8} {dd k:Nat} {hp:List Obj} {R:Nat} {hp':List Obj} {k':Nat} {kk n:Int} {s:List UInt8} (h:rdV dd (b.drop k)=none) (hk:k'<=b.length) (r:RdR hp R b k' true hp'):ValR b dd k hp R (.agg [dI kk,dI n,.str s,.imm .exact []]) hp':=
 ⟨kk,n,s,[],.exact,rfl,by rw [nst,nstL];omega,by rw [h];exact ⟨k',hk,r⟩⟩

def LoopI (dd:Nat) (b:List UInt8) (hp:List Obj) (R B C k2 u i:Nat) (sp:Spare) (h:List Obj):Prop:=∃ (l:List CV) (y:Nat) (bd:Bool),l.length=i/\y<=b.length/\nstL l<=dd+1 /\
 ((bd=false/\(rdL (rdV dd) (u - i) (b.drop y)).map (fun p=>(l++p.1,p.2))=rdL (rdV dd) u (b.drop k2))\/(bd=true/\rdL (rdV dd) u (b.drop k2)=none)) /\
 At h R (RC b y bd)/\At h B Z0/\At h C (.cells [dI 3,dI 0,.str [],.imm sp (l.map dV)])/\Room hp.length h sp i 4/\hp.length<=h.length/\KpR R hp h

theorem s296:∀ (dd:Nat) (b:List UInt8) (hp:List Obj) (R j k:Nat),dd+j=16->At hp R (RC b k false)->k<=b.length->b.length<=900000 ->
  ∃ d hp',runS E (dL E) 296 [.loc R 0,dI j] hp=some (d,hp')/\ValR b dd k hp R d hp':=by
 intro dd
 induction dd with
 | zero=>
  intro b hp R j k hj a hk hl
  refine z4w c296 (args:=[.loc R 0,dI j]) (hp:=hp) (R:=fun d hp'=>ValR b 0 k hp R d hp') (by simp) ?_
  conv in t296=>reduce;dsimp [ah]
  have hne:R ≠ hp.length:=fun e=>by have:=a.lt;omega
  obtain ⟨B,hB⟩:∃ B,B=hp.length:=⟨_,rfl⟩
  rw [<- hB] at hne
  obtain ⟨c,H,e1,w⟩:=s309' (hp:=hp++[Z0]) a.app hk hl
  have c8:=zbr c
  rcases w with ⟨hd,hk1,rr⟩ | ⟨hd,hc,rr⟩
  ·have aR:=rr.at_
   have aB:At H B Z0:=rr.kp B _ (bw hne) (by rw [hB];simp [At])
   by_cases q1:c=1
   ·have m1:((c.toNat:Int) == 1)=true:=by rw [q1];rfl
    obtain ⟨d,H2,e2,w2⟩:=s310 aR hk1 hl
    obtain ⟨k1,hk1e⟩:∃ k1,k1=k+1:=⟨_,rfl⟩
    rw [<- hk1e] at hd hk1 rr aR w2
    have hv:rdV 0 (b.drop k)=(rdN 0 (b.drop k1)).map fun p=>(.mk 1 (sgn p.1) [] [],p.2):=by rw [hd,rdV,if_pos q1]
    have num:∃ u:Nat,d=.int .u64 (u:Nat)/\u<18446744073709551616 /\ ∀ X,ValR b 0 k hp R (.agg [dI 1,dI (sgn u),.str [],.imm .exact []]) ((H2++X).set B (.cells [dI 1,dI (sgn u),.str [],.imm .exact []])):=by
     unfold NumR at w2
     cases hN:rdN 0 (b.drop k1) with
     | none=>
      rw [hN] at w2
      obtain ⟨⟨x,rfl,hx⟩,k2,hk2,r2⟩:=w2
      exact ⟨x,rfl,hx,fun X=>z17 (by rw [hv,hN];rfl) hk2 ((rr.trans r2).fin hB hne)⟩
     | some p=>
      rw [hN] at w2
      obtain ⟨u,r⟩:=p
      obtain ⟨rfl,k2,hk2,hk2l,r2⟩:=w2
      obtain ⟨_,hu,_⟩:=z31 _ 0 u r (by omega) hN
      exact ⟨u,rfl,hu,fun X=>⟨1,sgn u,[],[],.exact,rfl,by rw [nst,nstL];omega,by rw [hv,hN];exact ⟨rfl,k2,hk2,hk2l,(rr.trans r2).fin hB hne⟩⟩⟩
    obtain ⟨u,rfl,hu,pst⟩:=num
    have r2:∃ k2 x,RdR H R b k2 x H2:=by
     unfold NumR at w2
     cases hN:rdN 0 (b.drop k1) with
     | none=>rw [hN] at w2;obtain ⟨_,k2,_,r2⟩:=w2;exact ⟨_,_,r2⟩
     | some p=>rw [hN] at w2;obtain ⟨_,k2,_,_,r2⟩:=w2;exact ⟨_,_,r2⟩
    obtain ⟨k2,x,r2⟩:=r2
    have aB2:At H2 B Z0:=r2.kp B _ (bw hne) aB
    have pst0:=pst []
    rw [aS] at pst0
    obtain ⟨p,hp'⟩:∃ p:Int,p=(u:Int) / 2:=⟨_,rfl⟩
    have w1:a7.wrap p=p:=by simp [bj,bm,bc];omega
    have w2:aA.wrap p=p:=zy ⟨by omega,by omega⟩
    have w3:aA.wrap (-p) = -p:=zy ⟨by omega,by omega⟩
    have w4:aA.wrap (-p - 1) = -p - 1:=zy ⟨by omega,by omega⟩
    have hsg:sgn u=if u % 2=1 then -p - 1 else p:=by unfold sgn;split <;> split <;> omega
    have htm:(u:Int).tmod 2=((u % 2:Nat):Int):=by rw [ej (by omega)];omega
    obtain ⟨H3,hH3⟩:∃ H3,H3=H2.set B (.cells [dI 1,dI (sgn u),.str [],.imm .exact []]):=⟨_,rfl⟩
    rw [<- hH3] at pst0
    have aB3:At H3 B (.cells [dI 1,dI (sgn u),.str [],.imm .exact []]):=by rw [hH3];exact .self aB2.lt
    by_cases hodd:u % 2=1
    ·rw [hodd] at htm
     rw [if_pos hodd] at hsg
     rw [hsg] at pst0 hH3 aB3
     simp at htm
     simp [t296,n296,<- hB,e1,m1,e2,convD,↓aB2.eq,<- hp',w1,w2,w3,w4,htm,<- hH3,↓aB3.eq,pst0]
    ·rw [if_neg hodd] at hsg
     rw [show u % 2=0 from by omega] at htm
     rw [hsg] at pst0 hH3 aB3
     simp at htm
     simp [t296,n296,<- hB,e1,m1,e2,convD,↓aB2.eq,<- hp',w1,w2,w3,w4,htm,<- hH3,↓aB3.eq,pst0]
   ·have n1 : ¬ c.toNat=1:=fun e=>q1 (ci.1 e)
    have m1:((c.toNat:Int) == 1)=false:=by simp;omega
    by_cases q2:c=2
    ·have m2:((c.toNat:Int) == 2)=true:=by rw [q2];rfl
     obtain ⟨d,H2,e2,w2⟩:=s310 aR hk1 hl
     obtain ⟨k1,hk1e⟩:∃ k1,k1=k+1:=⟨_,rfl⟩
     rw [<- hk1e] at hd hk1 rr aR w2
     have hv:rdV 0 (b.drop k)=(rdS (b.drop k1)).map fun p=>(.mk 2 0 (p.2.take p.1) [],p.2.drop p.1):=by rw [hd,rdV,if_neg q1,if_pos q2]
     unfold NumR at w2
     cases hN:rdN 0 (b.drop k1) with
     | none=>
      rw [hN] at w2
      obtain ⟨⟨x,rfl,hx⟩,k2,hk2,r2⟩:=w2
      have aB2:At H2 B Z0:=r2.kp B _ (bw hne) aB
      have aR2:=r2.at_
      have hn:rdV 0 (b.drop k)=none:=by rw [hv,rdS,hN];rfl
      obtain ⟨W,hW⟩:∃ W,W=H2++ae 19 Obj.dead:=⟨_,rfl⟩
      have aWR:At W R (RC b k2 true):=by rw [hW];exact aR2.app
      have aWB:At W B Z0:=by rw [hW];exact aB2.app
      obtain ⟨H3,hH3⟩:∃ H3,H3=W.set R (RC b k2 true):=⟨_,rfl⟩
      have aR3:At H3 R (RC b k2 true):=by rw [hH3];exact .self aWR.lt
      have aB3:At H3 B Z0:=by rw [hH3];exact aWB.ne hne
      obtain ⟨H4,hH4⟩:∃ H4,H4=H3.set B Z0:=⟨_,rfl⟩
      have aB4:At H4 B Z0:=by rw [hH4];exact .self aB3.lt
      have pst:ValR b 0 k hp R (.agg [dI 0,dI 0,.str [],.imm .exact []]) H4:=by
       have:=((rr.trans r2).bad (X:=ae 19 Obj.dead)).fin (X:=[]) (o:=Z0) hB hne
       rw [aS,<- hW,<- hH3,<- hH4] at this
       exact z17 hn hk2 this
      simp at hW
      simp [t296,n296,<- hB,e1,m1,m2,e2,<- hW,aWR.appE,aWB.appE,↓aWR.eq,↓aWB.eq,<- hH3,↓aR3.eq,↓aB3.eq,<- hH4,↓aB4.eq,pst]
     | some p=>
      rw [hN] at w2
      obtain ⟨u,r⟩:=p
      obtain ⟨rfl,k2,hk2d,hk2,r2⟩:=w2
      obtain ⟨_,hu,_⟩:=z31 _ 0 u r (by omega) hN
      have aB2:At H2 B Z0:=r2.kp B _ (bw hne) aB
      have aR2:=r2.at_
      have hrl:r.length=b.length - k2:=by rw [<- hk2d];simp
      have hu64:u<18446744073709551616:=hu
      have ws:aA.wrap ((b.length:Int) - (k2:Int))=((b.length - k2:Nat):Int):=by rw [zy ⟨by omega,by omega⟩];omega
      have wu:=z1t (n:=b.length - k2) (by omega)
      obtain ⟨z,hz⟩:∃ z:Nat,z=b.length - k2:=⟨_,rfl⟩
      rw [<- hz] at hrl ws wu
      by_cases hle:u<=r.length
      ·have hv2:rdV 0 (b.drop k)=some (.mk 2 0 ((b.drop k2).take u) [],b.drop (k2+u)):=by
        rw [hv,rdS,hN]
        simp only []
        rw [if_pos hle,<- hk2d]
        simp [ce]
       have hk3:k2+u<=b.length:=by omega
       have esl:=zrv (b:=b) (i:=k2) (n:=u) hk3
       have wc:aA.wrap (u:Int)=(u:Int):=zy ⟨by omega,by omega⟩
       have wa:aA.wrap ((k2:Int)+(u:Int))=((k2+u:Nat):Int):=by rw [zy ⟨by omega,by omega⟩];omega
       have wb:aA.wrap (((k2+u:Nat):Int) - (u:Int))=(k2:Int):=by rw [zy ⟨by omega,by omega⟩];omega
       have hgt : ¬ (z:Int)<(u:Int):=by omega
       obtain ⟨k3,hk3e⟩:∃ k3,k3=k2+u:=⟨_,rfl⟩
       rw [<- hk3e] at hv2 hk3 esl wa wb
       obtain ⟨st,hst⟩:∃ st,st=(b.drop k2).take u:=⟨_,rfl⟩
       rw [<- hst] at hv2 esl
       have b1:=z75 st
       obtain ⟨W,hW⟩:∃ W,W=H2++ae 19 Obj.dead:=⟨_,rfl⟩
       have aWR:At W R (RC b k2 false):=by rw [hW];exact aR2.app
       have aWB:At W B Z0:=by rw [hW];exact aB2.app
       obtain ⟨H3,hH3⟩:∃ H3,H3=W.set R (RC b k3 false):=⟨_,rfl⟩
       have aR3:At H3 R (RC b k3 false):=by rw [hH3];exact .self aWR.lt
       have aB3:At H3 B Z0:=by rw [hH3];exact aWB.ne hne
       obtain ⟨V,hV⟩:∃ V,V=H3++ae 19 Obj.dead:=⟨_,rfl⟩
       have aVR:At V R (RC b k3 false):=by rw [hV];exact aR3.app
       have aVB:At V B Z0:=by rw [hV];exact aB3.app
       obtain ⟨H4,hH4⟩:∃ H4,H4=V.set B (.cells [dI 2,dI 0,.str st,.imm .exact []]):=⟨_,rfl⟩
       have aB4:At H4 B (.cells [dI 2,dI 0,.str st,.imm .exact []]):=by rw [hH4];exact .self aVB.lt
       have kk:RdR (hp++[Z0]) R b k3 false H3:=by
        have:=rr.trans r2
        rw [hH3,hW]
        exact ⟨.self (by have:=this.at_.lt;simp;omega),this.kp.app.set (.inl rfl),by have:=this.le;simp at this ⊢;omega⟩
       have pst:ValR b 0 k hp R (.agg [dI 2,dI 0,.str st,.imm .exact []]) H4:=by
        refine ⟨2,0,st,[],.exact,rfl,by rw [nst,nstL];omega,?_⟩
        rw [hv2]
        refine ⟨rfl,k3,rfl,hk3,?_⟩
        rw [hH4,hV]
        exact kk.fin hB hne
       simp at hW hV
       simp [t296,n296,<- hB,e1,m1,m2,e2,ws,wu,convD,hgt,wc,wa,wb,esl,b1,z86,<- hW,aWR.appE,aWB.appE,↓aWR.eq,↓aWB.eq,<- hH3,<- hV,↓aVR.eq,↓aVB.eq,aVR.appE,↓aR3.eq,↓aB3.eq,<- hH4,↓aB4.eq,pst]
      ·have hn:rdV 0 (b.drop k)=none:=by rw [hv,rdS,hN];simp [hle]
       have hgt:(z:Int)<(u:Int):=by omega
       obtain ⟨W,hW⟩:∃ W,W=H2++ae 19 Obj.dead:=⟨_,rfl⟩
       have aWR:At W R (RC b k2 false):=by rw [hW];exact aR2.app
       have aWB:At W B Z0:=by rw [hW];exact aB2.app
       obtain ⟨H3,hH3⟩:∃ H3,H3=W.set R (RC b k2 true):=⟨_,rfl⟩
       have aR3:At H3 R (RC b k2 true):=by rw [hH3];exact .self aWR.lt
       have aB3:At H3 B Z0:=by rw [hH3];exact aWB.ne hne
       obtain ⟨H4,hH4⟩:∃ H4,H4=H3.set B Z0:=⟨_,rfl⟩
       have aB4:At H4 B Z0:=by rw [hH4];exact .self aB3.lt
       have pst:ValR b 0 k hp R (.agg [dI 0,dI 0,.str [],.imm .exact []]) H4:=by
        have:=((rr.trans r2).bad (X:=ae 19 Obj.dead)).fin (X:=[]) (o:=Z0) hB hne
        rw [aS,<- hW,<- hH3,<- hH4] at this
        exact z17 hn hk2 this
       simp at hW
       simp [t296,n296,<- hB,e1,m1,m2,e2,ws,wu,convD,hgt,<- hW,aWR.appE,aWB.appE,↓aWR.eq,↓aWB.eq,<- hH3,↓aR3.eq,↓aB3.eq,<- hH4,↓aB4.eq,pst]
    ·have n2 : ¬ c.toNat=2:=fun e=>q2 (ci.1 e)
     have m2:((c.toNat:Int) == 2)=false:=by simp;omega
     by_cases q3:c=3
     ·have m3:((c.toNat:Int) == 3)=true:=by rw [q3];rfl
      obtain ⟨d,H2,e2,w2⟩:=s310 aR hk1 hl
      obtain ⟨k1,hk1e⟩:∃ k1,k1=k+1:=⟨_,rfl⟩
      rw [<- hk1e] at hd hk1 rr aR w2
      unfold NumR at w2
      cases hN:rdN 0 (b.drop k1) with
      | none=>
       rw [hN] at w2
       obtain ⟨⟨x,rfl,hx⟩,k2,hk2,r2⟩:=w2
       have aB2:At H2 B Z0:=r2.kp B _ (bw hne) aB
       have aR2:=r2.at_
       have hn:rdV 0 (b.drop k)=none:=by rw [hd,rdV,if_neg q1,if_neg q2]
       obtain ⟨W,hW⟩:∃ W,W=H2++ae 23 Obj.dead:=⟨_,rfl⟩
       have aWR:At W R (RC b k2 true):=by rw [hW];exact aR2.app
       have aWB:At W B Z0:=by rw [hW];exact aB2.app
       obtain ⟨H3,hH3⟩:∃ H3,H3=W.set R (RC b k2 true):=⟨_,rfl⟩
       have aR3:At H3 R (RC b k2 true):=by rw [hH3];exact .self aWR.lt
       have aB3:At H3 B Z0:=by rw [hH3];exact aWB.ne hne
       obtain ⟨H4,hH4⟩:∃ H4,H4=H3.set B Z0:=⟨_,rfl⟩
       have aB4:At H4 B Z0:=by rw [hH4];exact .self aB3.lt
       have pst:ValR b 0 k hp R (.agg [dI 0,dI 0,.str [],.imm .exact []]) H4:=by
        have:=((rr.trans r2).bad (X:=ae 23 Obj.dead)).fin (X:=[]) (o:=Z0) hB hne
        rw [aS,<- hW,<- hH3,<- hH4] at this
        exact z17 hn hk2 this
       simp at hW
       simp [t296,n296,<- hB,e1,m1,m2,m3,e2,<- hW,aWR.appE,aWB.appE,↓aWR.eq,↓aWB.eq,<- hH3,↓aR3.eq,↓aB3.eq,<- hH4,↓aB4.eq,pst]
      | some p=>
       rw [hN] at w2
       obtain ⟨u,r⟩:=p
       obtain ⟨rfl,k2,hk2d,hk2,r2⟩:=w2
       obtain ⟨_,hu,_⟩:=z31 _ 0 u r (by omega) hN
       have aB2:At H2 B Z0:=r2.kp B _ (bw hne) aB
       have aR2:=r2.at_
       have hrl:r.length=b.length - k2:=by rw [<- hk2d];simp
       have hu64:u<18446744073709551616:=hu
       have ws:aA.wrap ((b.length:Int) - (k2:Int))=((b.length - k2:Nat):Int):=by rw [zy ⟨by omega,by omega⟩];omega
       have wu:=z1t (n:=b.length - k2) (by omega)
       obtain ⟨z,hz⟩:∃ z:Nat,z=b.length - k2:=⟨_,rfl⟩
       rw [<- hz] at hrl ws wu
       by_cases hle:u<=r.length
       ·have hn:rdV 0 (b.drop k)=none:=by rw [hd,rdV,if_neg q1,if_neg q2]
        have hgt : ¬ (z:Int)<(u:Int):=by omega
        have hj16:((j:Int) == 16)=true:=by simp;omega
        obtain ⟨W,hW⟩:∃ W,W=H2++ae 23 Obj.dead:=⟨_,rfl⟩
        have aWR:At W R (RC b k2 false):=by rw [hW];exact aR2.app
        have aWB:At W B Z0:=by rw [hW];exact aB2.app
        obtain ⟨H3,hH3⟩:∃ H3,H3=W.set R (RC b k2 true):=⟨_,rfl⟩
        have aR3:At H3 R (RC b k2 true):=by rw [hH3];exact .self aWR.lt
        have aB3:At H3 B Z0:=by rw [hH3];exact aWB.ne hne
        obtain ⟨H4,hH4⟩:∃ H4,H4=H3.set B Z0:=⟨_,rfl⟩
        have aB4:At H4 B Z0:=by rw [hH4];exact .self aB3.lt
        have pst:ValR b 0 k hp R (.agg [dI 0,dI 0,.str [],.imm .exact []]) H4:=by
         have:=((rr.trans r2).bad (X:=ae 23 Obj.dead)).fin (X:=[]) (o:=Z0) hB hne
         rw [aS,<- hW,<- hH3,<- hH4] at this
         exact z17 hn hk2 this
        simp at hW
        simp [t296,n296,<- hB,e1,m1,m2,m3,e2,ws,wu,convD,hgt,hj16,<- hW,aWR.appE,aWB.appE,↓aWR.eq,↓aWB.eq,<- hH3,↓aR3.eq,↓aB3.eq,<- hH4,↓aB4.eq,pst]
       ·have hn:rdV 0 (b.drop k)=none:=by rw [hd,rdV,if_neg q1,if_neg q2]
        have hgt:(z:Int)<(u:Int):=by omega
        obtain ⟨W,hW⟩:∃ W,W=H2++ae 23 Obj.dead:=⟨_,rfl⟩
        have aWR:At W R (RC b k2 false):=by rw [hW];exact aR2.app
        have aWB:At W B Z0:=by rw [hW];exact aB2.app
        obtain ⟨H3,hH3⟩:∃ H3,H3=W.set R (RC b k2 true):=⟨_,rfl⟩
        have aR3:At H3 R (RC b k2 true):=by rw [hH3];exact .self aWR.lt
        have aB3:At H3 B Z0:=by rw [hH3];exact aWB.ne hne
        obtain ⟨H4,hH4⟩:∃ H4,H4=H3.set B Z0:=⟨_,rfl⟩
        have aB4:At H4 B Z0:=by rw [hH4];exact .self aB3.lt
        have pst:ValR b 0 k hp R (.agg [dI 0,dI 0,.str [],.imm .exact []]) H4:=by
         have:=((rr.trans r2).bad (X:=ae 23 Obj.dead)).fin (X:=[]) (o:=Z0) hB hne
         rw [aS,<- hW,<- hH3,<- hH4] at this
         exact z17 hn hk2 this
        simp at hW
        simp [t296,n296,<- hB,e1,m1,m2,m3,e2,ws,wu,convD,hgt,<- hW,aWR.appE,aWB.appE,↓aWR.eq,↓aWB.eq,<- hH3,↓aR3.eq,↓aB3.eq,<- hH4,↓aB4.eq,pst]
     ·have n3 : ¬ c.toNat=3:=fun e=>q3 (ci.1 e)
      have m3:((c.toNat:Int) == 3)=false:=by simp;omega
      have hn:rdV 0 (b.drop k)=none:=by rw [hd,rdV,if_neg q1,if_neg q2]
      have aR2:=aR
      have aB2:=aB
      have hk2:=hk1
      obtain ⟨k2,hk2e⟩:∃ k2,k2=k+1:=⟨_,rfl⟩
      rw [<- hk2e] at aR2 rr hk2
      obtain ⟨W,hW⟩:∃ W,W=H++ae 0 Obj.dead:=⟨_,rfl⟩
      have aWR:At W R (RC b k2 false):=by rw [hW];exact aR2.app
      have aWB:At W B Z0:=by rw [hW];exact aB2.app
      obtain ⟨H3,hH3⟩:∃ H3,H3=W.set R (RC b k2 true):=⟨_,rfl⟩
      have aR3:At H3 R (RC b k2 true):=by rw [hH3];exact .self aWR.lt
      have aB3:At H3 B Z0:=by rw [hH3];exact aWB.ne hne
      obtain ⟨H4,hH4⟩:∃ H4,H4=H3.set B Z0:=⟨_,rfl⟩
      have aB4:At H4 B Z0:=by rw [hH4];exact .self aB3.lt
      have pst:ValR b 0 k hp R (.agg [dI 0,dI 0,.str [],.imm .exact []]) H4:=by
       have:=(rr.bad (X:=ae 0 Obj.dead)).fin (X:=[]) (o:=Z0) hB hne
       rw [aS,<- hW,<- hH3,<- hH4] at this
       exact z17 hn hk2 this
      simp at hW
      simp [t296,n296,<- hB,e1,m1,m2,m3,<- hW,aWR.appE,aWB.appE,↓aWR.eq,↓aWB.eq,<- hH3,↓aR3.eq,↓aB3.eq,<- hH4,↓aB4.eq,pst]
  ·have hn:rdV 0 (b.drop k)=none:=by rw [hd];rfl
   have aR2:=rr.at_
   have aB2:At H B Z0:=rr.kp B _ (bw hne) (by rw [hB];simp [At])
   have hk2:=hk
   have m1:((c.toNat:Int) == 1)=false:=by rw [hc];rfl
   have m2:((c.toNat:Int) == 2)=false:=by rw [hc];rfl
   have m3:((c.toNat:Int) == 3)=false:=by rw [hc];rfl
   obtain ⟨W,hW⟩:∃ W,W=H++ae 0 Obj.dead:=⟨_,rfl⟩
   have aWR:At W R (RC b k true):=by rw [hW];exact aR2.app
   have aWB:At W B Z0:=by rw [hW];exact aB2.app
   obtain ⟨H3,hH3⟩:∃ H3,H3=W.set R (RC b k true):=⟨_,rfl⟩
   have aR3:At H3 R (RC b k true):=by rw [hH3];exact .self aWR.lt
   have aB3:At H3 B Z0:=by rw [hH3];exact aWB.ne hne
   obtain ⟨H4,hH4⟩:∃ H4,H4=H3.set B Z0:=⟨_,rfl⟩
   have aB4:At H4 B Z0:=by rw [hH4];exact .self aB3.lt
   have pst:ValR b 0 k hp R (.agg [dI 0,dI 0,.str [],.imm .exact []]) H4:=by
    have:=(rr.bad (X:=ae 0 Obj.dead)).fin (X:=[]) (o:=Z0) hB hne
    rw [aS,<- hW,<- hH3,<- hH4] at this
    exact z17 hn hk2 this
   simp at hW
   simp [t296,n296,<- hB,e1,m1,m2,m3,<- hW,aWR.appE,aWB.appE,↓aWR.eq,↓aWB.eq,<- hH3,↓aR3.eq,↓aB3.eq,<- hH4,↓aB4.eq,pst]
 | succ dd ih=>
  intro b hp R j k hj a hk hl
  refine z4w c296 (args:=[.loc R 0,dI j]) (hp:=hp) (R:=fun d hp'=>ValR b (dd+1) k hp R d hp') (by simp) ?_
  conv in t296=>reduce;dsimp [ah]
  have hne:R ≠ hp.length:=fun e=>by have:=a.lt;omega
  obtain ⟨B,hB⟩:∃ B,B=hp.length:=⟨_,rfl⟩
  rw [<- hB] at hne
  obtain ⟨c,H,e1,w⟩:=s309' (hp:=hp++[Z0]) a.app hk hl
  have c8:=zbr c
  rcases w with ⟨hd,hk1,rr⟩ | ⟨hd,hc,rr⟩
  ·have aR:=rr.at_
   have aB:At H B Z0:=rr.kp B _ (bw hne) (by rw [hB];simp [At])
   by_cases q1:c=1
   ·have m1:((c.toNat:Int) == 1)=true:=by rw [q1];rfl
    obtain ⟨d,H2,e2,w2⟩:=s310 aR hk1 hl
    obtain ⟨k1,hk1e⟩:∃ k1,k1=k+1:=⟨_,rfl⟩
    rw [<- hk1e] at hd hk1 rr aR w2
    have hv:rdV (dd+1) (b.drop k)=(rdN 0 (b.drop k1)).map fun p=>(.mk 1 (sgn p.1) [] [],p.2):=by rw [hd,rdV,if_pos q1]
    have num:∃ u:Nat,d=.int .u64 (u:Nat)/\u<18446744073709551616 /\ ∀ X,ValR b (dd+1) k hp R (.agg [dI 1,dI (sgn u),.str [],.imm .exact []]) ((H2++X).set B (.cells [dI 1,dI (sgn u),.str [],.imm .exact []])):=by
     unfold NumR at w2
     cases hN:rdN 0 (b.drop k1) with
     | none=>
      rw [hN] at w2
      obtain ⟨⟨x,rfl,hx⟩,k2,hk2,r2⟩:=w2
      exact ⟨x,rfl,hx,fun X=>z17 (by rw [hv,hN];rfl) hk2 ((rr.trans r2).fin hB hne)⟩
     | some p=>
      rw [hN] at w2
      obtain ⟨u,r⟩:=p
      obtain ⟨rfl,k2,hk2,hk2l,r2⟩:=w2
      obtain ⟨_,hu,_⟩:=z31 _ 0 u r (by omega) hN
      exact ⟨u,rfl,hu,fun X=>⟨1,sgn u,[],[],.exact,rfl,by rw [nst,nstL];omega,by rw [hv,hN];exact ⟨rfl,k2,hk2,hk2l,(rr.trans r2).fin hB hne⟩⟩⟩
    obtain ⟨u,rfl,hu,pst⟩:=num
    have r2:∃ k2 x,RdR H R b k2 x H2:=by
     unfold NumR at w2
     cases hN:rdN 0 (b.drop k1) with
     | none=>rw [hN] at w2;obtain ⟨_,k2,_,r2⟩:=w2;exact ⟨_,_,r2⟩
     | some p=>rw [hN] at w2;obtain ⟨_,k2,_,_,r2⟩:=w2;exact ⟨_,_,r2⟩
    obtain ⟨k2,x,r2⟩:=r2
    have aB2:At H2 B Z0:=r2.kp B _ (bw hne) aB
    have pst0:=pst []
    rw [aS] at pst0
    obtain ⟨p,hp'⟩:∃ p:Int,p=(u:Int) / 2:=⟨_,rfl⟩
    have w1:a7.wrap p=p:=by simp [bj,bm,bc];omega
    have w2:aA.wrap p=p:=zy ⟨by omega,by omega⟩
    have w3:aA.wrap (-p) = -p:=zy ⟨by omega,by omega⟩
    have w4:aA.wrap (-p - 1) = -p - 1:=zy ⟨by omega,by omega⟩
    have hsg:sgn u=if u % 2=1 then -p - 1 else p:=by unfold sgn;split <;> split <;> omega
    have htm:(u:Int).tmod 2=((u % 2:Nat):Int):=by rw [ej (by omega)];omega
    obtain ⟨H3,hH3⟩:∃ H3,H3=H2.set B (.cells [dI 1,dI (sgn u),.str [],.imm .exact []]):=⟨_,rfl⟩
    rw [<- hH3] at pst0
    have aB3:At H3 B (.cells [dI 1,dI (sgn u),.str [],.imm .exact []]):=by rw [hH3];exact .self aB2.lt
    by_cases hodd:u % 2=1
    ·rw [hodd] at htm
     rw [if_pos hodd] at hsg
     rw [hsg] at pst0 hH3 aB3
     simp at htm
     simp [t296,n296,<- hB,e1,m1,e2,convD,↓aB2.eq,<- hp',w1,w2,w3,w4,htm,<- hH3,↓aB3.eq,pst0]
    ·rw [if_neg hodd] at hsg
     rw [show u % 2=0 from by omega] at htm
     rw [hsg] at pst0 hH3 aB3
     simp at htm
     simp [t296,n296,<- hB,e1,m1,e2,convD,↓aB2.eq,<- hp',w1,w2,w3,w4,htm,<- hH3,↓aB3.eq,pst0]
   ·have n1 : ¬ c.toNat=1:=fun e=>q1 (ci.1 e)
    have m1:((c.toNat:Int) == 1)=false:=by simp;omega
    by_cases q2:c=2
    ·have m2:((c.toNat:Int) == 2)=true:=by rw [q2];rfl
     obtain ⟨d,H2,e2,w2⟩:=s310 aR hk1 hl
     obtain ⟨k1,hk1e⟩:∃ k1,k1=k+1:=⟨_,rfl⟩
     rw [<- hk1e] at hd hk1 rr aR w2
     have hv:rdV (dd+1) (b.drop k)=(rdS (b.drop k1)).map fun p=>(.mk 2 0 (p.2.take p.1) [],p.2.drop p.1):=by rw [hd,rdV,if_neg q1,if_pos q2]
     unfold NumR at w2
     cases hN:rdN 0 (b.drop k1) with
     | none=>
      rw [hN] at w2
      obtain ⟨⟨x,rfl,hx⟩,k2,hk2,r2⟩:=w2
      have aB2:At H2 B Z0:=r2.kp B _ (bw hne) aB
      have aR2:=r2.at_
      have hn:rdV (dd+1) (b.drop k)=none:=by rw [hv,rdS,hN];rfl
      obtain ⟨W,hW⟩:∃ W,W=H2++ae 19 Obj.dead:=⟨_,rfl⟩
      have aWR:At W R (RC b k2 true):=by rw [hW];exact aR2.app
      have aWB:At W B Z0:=by rw [hW];exact aB2.app
      obtain ⟨H3,hH3⟩:∃ H3,H3=W.set R (RC b k2 true):=⟨_,rfl⟩
      have aR3:At H3 R (RC b k2 true):=by rw [hH3];exact .self aWR.lt
      have aB3:At H3 B Z0:=by rw [hH3];exact aWB.ne hne
      obtain ⟨H4,hH4⟩:∃ H4,H4=H3.set B Z0:=⟨_,rfl⟩
      have aB4:At H4 B Z0:=by rw [hH4];exact .self aB3.lt
      have pst:ValR b (dd+1) k hp R (.agg [dI 0,dI 0,.str [],.imm .exact []]) H4:=by
       have:=((rr.trans r2).bad (X:=ae 19 Obj.dead)).fin (X:=[]) (o:=Z0) hB hne
       rw [aS,<- hW,<- hH3,<- hH4] at this
       exact z17 hn hk2 this
      simp at hW
      simp [t296,n296,<- hB,e1,m1,m2,e2,<- hW,aWR.appE,aWB.appE,↓aWR.eq,↓aWB.eq,<- hH3,↓aR3.eq,↓aB3.eq,<- hH4,↓aB4.eq,pst]
     | some p=>
      rw [hN] at w2
      obtain ⟨u,r⟩:=p
      obtain ⟨rfl,k2,hk2d,hk2,r2⟩:=w2
      obtain ⟨_,hu,_⟩:=z31 _ 0 u r (by omega) hN
      have aB2:At H2 B Z0:=r2.kp B _ (bw hne) aB
      have aR2:=r2.at_
      have hrl:r.length=b.length - k2:=by rw [<- hk2d];simp
      have hu64:u<18446744073709551616:=hu
      have ws:aA.wrap ((b.length:Int) - (k2:Int))=((b.length - k2:Nat):Int):=by rw [zy ⟨by omega,by omega⟩];omega
      have wu:=z1t (n:=b.length - k2) (by omega)
      obtain ⟨z,hz⟩:∃ z:Nat,z=b.length - k2:=⟨_,rfl⟩
      rw [<- hz] at hrl ws wu
      by_cases hle:u<=r.length
      ·have hv2:rdV (dd+1) (b.drop k)=some (.mk 2 0 ((b.drop k2).take u) [],b.drop (k2+u)):=by
        rw [hv,rdS,hN]
        simp only []
        rw [if_pos hle,<- hk2d]
        simp [ce]
       have hk3:k2+u<=b.length:=by omega
       have esl:=zrv (b:=b) (i:=k2) (n:=u) hk3
       have wc:aA.wrap (u:Int)=(u:Int):=zy ⟨by omega,by omega⟩
       have wa:aA.wrap ((k2:Int)+(u:Int))=((k2+u:Nat):Int):=by rw [zy ⟨by omega,by omega⟩];omega
       have wb:aA.wrap (((k2+u:Nat):Int) - (u:Int))=(k2:Int):=by rw [zy ⟨by omega,by omega⟩];omega
       have hgt : ¬ (z:Int)<(u:Int):=by omega
       obtain ⟨k3,hk3e⟩:∃ k3,k3=k2+u:=⟨_,rfl⟩
       rw [<- hk3e] at hv2 hk3 esl wa wb
       obtain ⟨st,hst⟩:∃ st,st=(b.drop k2).take u:=⟨_,rfl⟩
       rw [<- hst] at hv2 esl
       have b1:=z75 st
       obtain ⟨W,hW⟩:∃ W,W=H2++ae 19 Obj.dead:=⟨_,rfl⟩
       have aWR:At W R (RC b k2 false):=by rw [hW];exact aR2.app
       have aWB:At W B Z0:=by rw [hW];exact aB2.app
       obtain ⟨H3,hH3⟩:∃ H3,H3=W.set R (RC b k3 false):=⟨_,rfl⟩
       have aR3:At H3 R (RC b k3 false):=by rw [hH3];exact .self aWR.lt
       have aB3:At H3 B Z0:=by rw [hH3];exact aWB.ne hne
       obtain ⟨V,hV⟩:∃ V,V=H3++ae 19 Obj.dead:=⟨_,rfl⟩
       have aVR:At V R (RC b k3 false):=by rw [hV];exact aR3.app
       have aVB:At V B Z0:=by rw [hV];exact aB3.app
       obtain ⟨H4,hH4⟩:∃ H4,H4=V.set B (.cells [dI 2,dI 0,.str st,.imm .exact []]):=⟨_,rfl⟩
       have aB4:At H4 B (.cells [dI 2,dI 0,.str st,.imm .exact []]):=by rw [hH4];exact .self aVB.lt
       have kk:RdR (hp++[Z0]) R b k3 false H3:=by
        have:=rr.trans r2
        rw [hH3,hW]
        exact ⟨.self (by have:=this.at_.lt;simp;omega),this.kp.app.set (.inl rfl),by have:=this.le;simp at this ⊢;omega⟩
       have pst:ValR b (dd+1) k hp R (.agg [dI 2,dI 0,.str st,.imm .exact []]) H4:=by
        refine ⟨2,0,st,[],.exact,rfl,by rw [nst,nstL];omega,?_⟩
        rw [hv2]
        refine ⟨rfl,k3,rfl,hk3,?_⟩
        rw [hH4,hV]
        exact kk.fin hB hne
       simp at hW hV
       simp [t296,n296,<- hB,e1,m1,m2,e2,ws,wu,convD,hgt,wc,wa,wb,esl,b1,z86,<- hW,aWR.appE,aWB.appE,↓aWR.eq,↓aWB.eq,<- hH3,<- hV,↓aVR.eq,↓aVB.eq,aVR.appE,↓aR3.eq,↓aB3.eq,<- hH4,↓aB4.eq,pst]
      ·have hn:rdV (dd+1) (b.drop k)=none:=by rw [hv,rdS,hN];simp [hle]
       have hgt:(z:Int)<(u:Int):=by omega
       obtain ⟨W,hW⟩:∃ W,W=H2++ae 19 Obj.dead:=⟨_,rfl⟩
       have aWR:At W R (RC b k2 false):=by rw [hW];exact aR2.app
       have aWB:At W B Z0:=by rw [hW];exact aB2.app
       obtain ⟨H3,hH3⟩:∃ H3,H3=W.set R (RC b k2 true):=⟨_,rfl⟩
       have aR3:At H3 R (RC b k2 true):=by rw [hH3];exact .self aWR.lt
       have aB3:At H3 B Z0:=by rw [hH3];exact aWB.ne hne
       obtain ⟨H4,hH4⟩:∃ H4,H4=H3.set B Z0:=⟨_,rfl⟩
       have aB4:At H4 B Z0:=by rw [hH4];exact .self aB3.lt
       have pst:ValR b (dd+1) k hp R (.agg [dI 0,dI 0,.str [],.imm .exact []]) H4:=by
        have:=((rr.trans r2).bad (X:=ae 19 Obj.dead)).fin (X:=[]) (o:=Z0) hB hne
        rw [aS,<- hW,<- hH3,<- hH4] at this
        exact z17 hn hk2 this
       simp at hW
       simp [t296,n296,<- hB,e1,m1,m2,e2,ws,wu,convD,hgt,<- hW,aWR.appE,aWB.appE,↓aWR.eq,↓aWB.eq,<- hH3,↓aR3.eq,↓aB3.eq,<- hH4,↓aB4.eq,pst]
    ·have n2 : ¬ c.toNat=2:=fun e=>q2 (ci.1 e)
     have m2:((c.toNat:Int) == 2)=false:=by simp;omega
     by_cases q3:c=3
     ·have m3:((c.toNat:Int) == 3)=true:=by rw [q3];rfl
      obtain ⟨d,H2,e2,w2⟩:=s310 aR hk1 hl
      obtain ⟨k1,hk1e⟩:∃ k1,k1=k+1:=⟨_,rfl⟩
      rw [<- hk1e] at hd hk1 rr aR w2
      have hv:rdV (dd+1) (b.drop k)=(rdS (b.drop k1)).bind fun p=>(rdL (rdV dd) p.1 p.2).map fun q=>(.mk 3 0 [] q.1,q.2):=by rw [hd,rdV,if_neg q1,if_neg q2,if_pos q3]
      unfold NumR at w2
      cases hN:rdN 0 (b.drop k1) with
      | none=>
       rw [hN] at w2
       obtain ⟨⟨x,rfl,hx⟩,k2,hk2,r2⟩:=w2
       have aB2:At H2 B Z0:=r2.kp B _ (bw hne) aB
       have aR2:=r2.at_
       have hn:rdV (dd+1) (b.drop k)=none:=by rw [hv,rdS,hN];rfl
       obtain ⟨W,hW⟩:∃ W,W=H2++ae 23 Obj.dead:=⟨_,rfl⟩
       have aWR:At W R (RC b k2 true):=by rw [hW];exact aR2.app
       have aWB:At W B Z0:=by rw [hW];exact aB2.app
       obtain ⟨H3,hH3⟩:∃ H3,H3=W.set R (RC b k2 true):=⟨_,rfl⟩
       have aR3:At H3 R (RC b k2 true):=by rw [hH3];exact .self aWR.lt
       have aB3:At H3 B Z0:=by rw [hH3];exact aWB.ne hne
       obtain ⟨H4,hH4⟩:∃ H4,H4=H3.set B Z0:=⟨_,rfl⟩
       have aB4:At H4 B Z0:=by rw [hH4];exact .self aB3.lt
       have pst:ValR b (dd+1) k hp R (.agg [dI 0,dI 0,.str [],.imm .exact []]) H4:=by
        have:=((rr.trans r2).bad (X:=ae 23 Obj.dead)).fin (X:=[]) (o:=Z0) hB hne
        rw [aS,<- hW,<- hH3,<- hH4] at this
        exact z17 hn hk2 this
       simp at hW
       simp [t296,n296,<- hB,e1,m1,m2,m3,e2,<- hW,aWR.appE,aWB.appE,↓aWR.eq,↓aWB.eq,<- hH3,↓aR3.eq,↓aB3.eq,<- hH4,↓aB4.eq,pst]
      | some p=>
       rw [hN] at w2
       obtain ⟨u,r⟩:=p
       obtain ⟨rfl,k2,hk2d,hk2,r2⟩:=w2
       obtain ⟨_,hu,_⟩:=z31 _ 0 u r (by omega) hN
       have aB2:At H2 B Z0:=r2.kp B _ (bw hne) aB
       have aR2:=r2.at_
       have hrl:r.length=b.length - k2:=by rw [<- hk2d];simp
       have hu64:u<18446744073709551616:=hu
       have ws:aA.wrap ((b.length:Int) - (k2:Int))=((b.length - k2:Nat):Int):=by rw [zy ⟨by omega,by omega⟩];omega
       have wu:=z1t (n:=b.length - k2) (by omega)
       obtain ⟨z,hz⟩:∃ z:Nat,z=b.length - k2:=⟨_,rfl⟩
       rw [<- hz] at hrl ws wu
       by_cases hle:u<=r.length
       ·have hgt : ¬ (z:Int)<(u:Int):=by omega
        have hv2:rdV (dd+1) (b.drop k)=(rdL (rdV dd) u (b.drop k2)).map fun q=>(.mk 3 0 [] q.1,q.2):=by
         rw [hv,rdS,hN]
         simp only []
         rw [if_pos hle,bU,<- hk2d]
        have hj16:((j:Int) == 16)=false:=by simp;omega
        obtain ⟨W,hW⟩:∃ W,W=H2++ae 23 Obj.dead:=⟨_,rfl⟩
        have aWR:At W R (RC b k2 false):=by rw [hW];exact aR2.app
        have aWB:At W B Z0:=by rw [hW];exact aB2.app
        have kW:KpR R hp W:=by rw [hW];exact ((KpR.refl.app.trans (rr.trans r2).kp)).app
        have lW:hp.length<=W.length:=by have:=(rr.trans r2).le;rw [hW];simp at this ⊢;omega
        obtain ⟨C,hC⟩:∃ C,C=W.length:=⟨_,rfl⟩
        have hRC:R ≠ C:=by have:=aWR.lt;omega
        have hBC:B ≠ C:=by have:=aWB.lt;omega
        obtain ⟨D0,hD0⟩:∃ D0,D0=W++[Z0]:=⟨_,rfl⟩
        have aDC:At D0 C Z0:=by rw [hD0,hC];simp [At]
        obtain ⟨H3,hH3⟩:∃ H3,H3=D0.set C (.cells [dI 3,dI 0,.str [],.imm .exact []]):=⟨_,rfl⟩
        have aR3:At H3 R (RC b k2 false):=by rw [hH3,hD0];exact aWR.app.ne (bw hRC)
        have aB3:At H3 B Z0:=by rw [hH3,hD0];exact aWB.app.ne (bw hBC)
        have aC3:At H3 C (.cells [dI 3,dI 0,.str [],.imm .exact []]):=by rw [hH3];exact .self aDC.lt
        have k3:KpR R hp H3:=by rw [hH3,hD0];exact kW.app.set (.inr (by omega))
        have l3:hp.length<=H3.length:=by rw [hH3,hD0];simp;omega
        have hBp:hp.length<=B:=by omega
        have hCp:hp.length<=C:=by omega
        simp at hW hD0
        simp [t296,n296,<- hB,e1,m1,m2,m3,e2,ws,wu,convD,hgt,hj16,<- hW,aWR.appE,aWB.appE,↓aWR.eq,↓aWB.eq,<- hC,<- hD0,↓aDC.eq,<- hH3]
        refine z2x u (fun i env h=>∃ (x3 x4 x8 x9 x10 x11 x12 x13 x14 x15 x16 x17 x18 x19 x20 x21 x22 x23:D) (sp:Spare),env=[.loc R 0,dI j,.loc B 0,x3,x4,.int .u64 (u:Nat),.loc C 0,.int .u64 (i:Nat),x8,x9,x10,x11,x12,x13,x14,x15,x16,x17,x18,x19,x20,x21,x22,x23]/\LoopI dd b hp R B C k2 u i sp h) 0 (by omega) ?_ ?_
        ·refine ⟨_,_,_,_,_,_,_,_,_,_,_,_,_,_,_,_,_,_,(.exact),rfl,[],k2,false,rfl,hk2,by rw [nstL];omega,.inl ⟨rfl,?_⟩,aR3,aB3,aC3,.inl rfl,l3,k3⟩
         rw [Nat.sub_zero]
         cases rdL (rdV dd) u (b.drop k2) <;> rfl
        rintro i env h hi ⟨x3,x4,x8,x9,x10,x11,x12,x13,x14,x15,x16,x17,x18,x19,x20,x21,x22,x23,sp,rfl,l,y,bd,hL,hy,hns,hrel,a1,aB1,a2,T3,hlen2,K⟩
        have fin:∀ X:List Obj,At h R (RC b y bd)->(bd=true\/i=u)->ValR b (dd+1) k hp R (.agg [dI 3,dI 0,.str [],.imm sp (l.map dV)]) (h.set B (.cells [dI 3,dI 0,.str [],.imm sp (l.map dV)])):=by
         intro X a1 hor
         have rfin:RdR hp R b y bd (h.set B (.cells [dI 3,dI 0,.str [],.imm sp (l.map dV)])):=⟨a1.ne (bw hne),K.set (.inr hBp),by simpa using hlen2⟩
         refine ⟨3,0,[],l,sp,rfl,by rw [nst];omega,?_⟩
         rcases hrel with ⟨rfl,hrel⟩ | ⟨rfl,hrel⟩
         ·have hiu:i=u:=by simpa using hor
          rw [hiu,Nat.sub_self,rdL] at hrel
          rw [hv2,<- hrel]
          simp only [af,aS]
          exact ⟨by trivial,y,rfl,hy,rfin⟩
         ·rw [hv2,hrel]
          exact ⟨y,hy,rfin⟩
        obtain ⟨HF,hHF⟩:∃ HF,HF=h.set B (.cells [dI 3,dI 0,.str [],.imm sp (l.map dV)]):=⟨_,rfl⟩
        have aHF:At HF B (.cells [dI 3,dI 0,.str [],.imm sp (l.map dV)]):=by rw [hHF];exact .self aB1.lt
        rw [<- hHF] at fin
        by_cases hlt:i<u
        ·cases hbd:bd with
         | true=>
          subst hbd
          have pst:=fin [] a1 (.inl rfl)
          simp [hlt,↓a1.eq,↓aB1.eq,↓a2.eq,<- hHF,↓aHF.eq,pst]
         | false=>
          subst hbd
          have hupu:a7.wrap ((i:Int)+1)=(i:Int)+1:=by
           have:=z1t (n:=i+1) (by omega)
           rw [show ((i:Int)+1)=((i+1:Nat):Int) from by omega];exact this
          have hjj:aA.wrap ((j:Int)+1)=((j+1:Nat):Int):=by simp [bj,bm,bc];omega
          have hrel:=(by simpa using hrel:Option.map (fun p=>(l++p.1,p.2)) (rdL (rdV dd) (u - i) (b.drop y))=rdL (rdV dd) u (b.drop k2))
          rw [show u - i=(u - (i+1))+1 from by omega,rdL] at hrel
          obtain ⟨d,o,f1,kk2,n2,s2,l2,sp2,rfl,hns2,hm⟩:=ih b [RC b y false] 0 (j+1) y (by omega) rfl hy hl
          obtain ⟨v,hvv⟩:∃ v,v=CV.mk kk2 n2 s2 l2:=⟨_,rfl⟩
          have nxt:∃ y2 bd2,y2<=b.length/\At o 0 (RC b y2 bd2)/\((bd2=false/\(rdL (rdV dd) (u - (i+1)) (b.drop y2)).map (fun p=>((l++[v])++p.1,p.2))=rdL (rdV dd) u (b.drop k2))\/(bd2=true/\rdL (rdV dd) u (b.drop k2)=none)):=by
           cases hzv:rdV dd (b.drop y) with
           | none=>
            rw [hzv] at hm hrel
            obtain ⟨y2,hy2,r2⟩:=hm
            exact ⟨y2,true,hy2,r2.at_,.inr ⟨rfl,by rw [<- hrel];rfl⟩⟩
           | some wr=>
            rw [hzv] at hm hrel
            obtain ⟨w,r⟩:=wr
            obtain ⟨hw,y2,hy2d,hy2,r2⟩:=hm
            refine ⟨y2,false,hy2,r2.at_,.inl ⟨rfl,?_⟩⟩
            rw [<- hrel,hy2d,hvv,<- hw]
            simp only []
            cases rdL (rdV dd) (u - (i+1)) r with
            | none=>rfl
            | some q=>simp
          obtain ⟨y2,bd2,hy2,f2,hrel2⟩:=nxt
          have i4:∀ X,islD (runS E (dL E)) 296 (.loc R 0) [.int .i64 ((j+1:Nat):Int)] (h++X)=some (dV v,R,RC b y2 bd2):=fun X=>by
           rw [hvv];exact isl296 a1.app f1 f2 (by omega)
          have hL':(l.map dV).length=i:=by rw [cK];exact hL
          have hap:∀ x:D,appOk E 55 (l.map dV) [x]:=fun x=>z2b (by rw [hL'];simp;omega) lv_4
          have h4:is4 (dV v):=lv_4 (l:=[v]) _ (by simp)
          have hlv:(l++[v]).map dV=l.map dV++[dV v]:=by simp
          have hll:(l++[v]).length=i+1:=by simp [hL]
          have hns3:nstL (l++[v])<=dd+1:=zay fun w hw=>by
           rcases List.mem_append.1 hw with hw | hw
           ·exact aD (z28 hw) hns
           ·rw [List.mem_singleton] at hw;rw [hw,hvv];exact hns2
          clear fin hHF aHF HF f1 hm
          generalize l.map dV=L at *
          obtain ⟨j1,hj1⟩:∃ j1:Nat,j1=j+1:=⟨_,rfl⟩
          rw [<- hj1] at hjj i4
          obtain ⟨H5,hH5⟩:∃ H5,H5=h.set R (RC b y2 bd2):=⟨_,rfl⟩
          have hsR:∀ X,(h++X).set R (RC b y2 bd2)=H5++X:=fun X=>by rw [hH5];exact zj a1.lt
          have k5:KpR R hp H5:=by rw [hH5];exact K.set (.inl rfl)
          have l5:H5.length=h.length:=by rw [hH5];simp
          have b1:At H5 R (RC b y2 bd2):=by rw [hH5];exact .self a1.lt
          have b2:At H5 C (.cells [dI 3,dI 0,.str [],.imm sp L]):=by rw [hH5];exact a2.ne hRC
          have b0:At H5 B Z0:=by rw [hH5];exact aB1.ne hne
          have alR:=b1.lt
          have alB:=b2.lt
          rcases T3 with rfl | ⟨qq,rfl,hq,hq2⟩
          ·have a3:∀ X,(H5++X)[C]? = some (.cells [dI 3,dI 0,.str [],.imm .exact L]):=fun X=>b2.app (r:=X)
           have hsB:∀ X o,(H5++X).set C o=H5.set C o++X:=fun X o=>zj alB
           simp [hlt,↓a1.eq,hupu,hjj,z1m,i4,a2.appE,zk,zg,hap,hL',h4.1,h4.2,↓hsR,l5,↓a3,↓hsB]
           refine ⟨by simp [chkT,chk1,idsNe,did];omega,.tok (h.length+7),l++[v],y2,bd2,hll,hy2,hns3,hrel2,(b1.ne (bw hRC)).app,(b0.ne (bw hBC)).app,by rw [hlv];exact (At.self alB).app,.inr ⟨_,rfl,by omega,by simp [At,<- l5]⟩,by simp;omega,(k5.set (.inr (by omega))).app⟩
          ·have q1:qq ≠ R:=fun e=>by subst e;have:=a1.symm.trans hq2;simp at this
           have q2:qq ≠ C:=fun e=>by subst e;have:=a2.symm.trans hq2;simp at this
           have q0:qq ≠ B:=fun e=>by subst e;have:=aB1.symm.trans hq2;simp at this
           have b3:At H5 qq (.tok (i*4) 4):=by rw [hH5];exact hq2.ne (bw q1)
           have hql:=b3.lt
           have b2':At (H5.set qq .dead) C (.cells [dI 3,dI 0,.str [],.imm (.tok qq) L]):=b2.ne q2
           have b1':=b1.ne (j:=qq) (x:=.dead) q1
           have b0':=b0.ne (j:=qq) (x:=.dead) q0
           have a3:∀ X,(H5.set qq .dead++X)[C]? = some (.cells [dI 3,dI 0,.str [],.imm (.tok qq) L]):=fun X=>b2'.app (r:=X)
           have hsB:∀ X o,(H5.set qq .dead++X).set C o=(H5.set qq .dead).set C o++X:=fun X o=>zj (by simpa using alB)
           have hs:∀ X o,(H5++X).set qq o=H5.set qq o++X:=fun X o=>zj hql
           have hq3:∀ X,(H5++X)[qq]? = some (.tok (i*4) 4):=fun X=>b3.app (r:=X)
           simp [hlt,↓a1.eq,hupu,hjj,z1m,i4,a2.appE,zk,zp,hap,hL',h4.1,h4.2,↓hsR,l5,hq3,↓hs,↓a3,↓hsB]
           refine ⟨by simp [chkT,chk1,idsNe,did];omega,.tok (h.length+7),l++[v],y2,bd2,hll,hy2,hns3,hrel2,(b1'.ne (bw hRC)).app,(b0'.ne (bw hBC)).app,by rw [hlv];exact (At.self b2'.lt).app,.inr ⟨_,rfl,by omega,by simp [At,<- l5]⟩,by simp;omega,((k5.set (.inr hq)).set (.inr (by omega))).app⟩
        ·have hiu:i=u:=by omega
         have pst:=fin [] a1 (.inr hiu)
         simp [hlt,↓a1.eq,↓aB1.eq,↓a2.eq,<- hHF,↓aHF.eq,pst]
       ·have hn:rdV (dd+1) (b.drop k)=none:=by rw [hv,rdS,hN];simp [hle]
        have hgt:(z:Int)<(u:Int):=by omega
        obtain ⟨W,hW⟩:∃ W,W=H2++ae 23 Obj.dead:=⟨_,rfl⟩
        have aWR:At W R (RC b k2 false):=by rw [hW];exact aR2.app
        have aWB:At W B Z0:=by rw [hW];exact aB2.app
        obtain ⟨H3,hH3⟩:∃ H3,H3=W.set R (RC b k2 true):=⟨_,rfl⟩
        have aR3:At H3 R (RC b k2 true):=by rw [hH3];exact .self aWR.lt
        have aB3:At H3 B Z0:=by rw [hH3];exact aWB.ne hne
        obtain ⟨H4,hH4⟩:∃ H4,H4=H3.set B Z0:=⟨_,rfl⟩
        have aB4:At H4 B Z0:=by rw [hH4];exact .self aB3.lt
        have pst:ValR b (dd+1) k hp R (.agg [dI 0,dI 0,.str [],.imm .exact []]) H4:=by
         have:=((rr.trans r2).bad (X:=ae 23 Obj.dead)).fin (X:=[]) (o:=Z0) hB hne
         rw [aS,<- hW,<- hH3,<- hH4] at this
         exact z17 hn hk2 this
        simp at hW
        simp [t296,n296,<- hB,e1,m1,m2,m3,e2,ws,wu,convD,hgt,<- hW,aWR.appE,aWB.appE,↓aWR.eq,↓aWB.eq,<- hH3,↓aR3.eq,↓aB3.eq,<- hH4,↓aB4.eq,pst]
     ·have n3 : ¬ c.toNat=3:=fun e=>q3 (ci.1 e)
      have m3:((c.toNat:Int) == 3)=false:=by simp;omega
      have hn:rdV (dd+1) (b.drop k)=none:=by rw [hd,rdV,if_neg q1,if_neg q2,if_neg q3]
      have aR2:=aR
      have aB2:=aB
      have hk2:=hk1
      obtain ⟨k2,hk2e⟩:∃ k2,k2=k+1:=⟨_,rfl⟩
      rw [<- hk2e] at aR2 rr hk2
      obtain ⟨W,hW⟩:∃ W,W=H++ae 0 Obj.dead:=⟨_,rfl⟩
      have aWR:At W R (RC b k2 false):=by rw [hW];exact aR2.app
      have aWB:At W B Z0:=by rw [hW];exact aB2.app
      obtain ⟨H3,hH3⟩:∃ H3,H3=W.set R (RC b k2 true):=⟨_,rfl⟩
      have aR3:At H3 R (RC b k2 true):=by rw [hH3];exact .self aWR.lt
      have aB3:At H3 B Z0:=by rw [hH3];exact aWB.ne hne
      obtain ⟨H4,hH4⟩:∃ H4,H4=H3.set B Z0:=⟨_,rfl⟩
      have aB4:At H4 B Z0:=by rw [hH4];exact .self aB3.lt
      have pst:ValR b (dd+1) k hp R (.agg [dI 0,dI 0,.str [],.imm .exact []]) H4:=by
       have:=(rr.bad (X:=ae 0 Obj.dead)).fin (X:=[]) (o:=Z0) hB hne
       rw [aS,<- hW,<- hH3,<- hH4] at this
       exact z17 hn hk2 this
      simp at hW
      simp [t296,n296,<- hB,e1,m1,m2,m3,<- hW,aWR.appE,aWB.appE,↓aWR.eq,↓aWB.eq,<- hH3,↓aR3.eq,↓aB3.eq,<- hH4,↓aB4.eq,pst]
  ·have hn:rdV (dd+1) (b.drop k)=none:=by rw [hd];rfl
   have aR2:=rr.at_
   have aB2:At H B Z0:=rr.kp B _ (bw hne) (by rw [hB];simp [At])
   have hk2:=hk
   have m1:((c.toNat:Int) == 1)=false:=by rw [hc];rfl
   have m2:((c.toNat:Int) == 2)=false:=by rw [hc];rfl
   have m3:((c.toNat:Int) == 3)=false:=by rw [hc];rfl
   obtain ⟨W,hW⟩:∃ W,W=H++ae 0 Obj.dead:=⟨_,rfl⟩
   have aWR:At W R (RC b k true):=by rw [hW];exact aR2.app
   have aWB:At W B Z0:=by rw [hW];exact aB2.app
   obtain ⟨H3,hH3⟩:∃ H3,H3=W.set R (RC b k true):=⟨_,rfl⟩
   have aR3:At H3 R (RC b k true):=by rw [hH3];exact .self aWR.lt
   have aB3:At H3 B Z0:=by rw [hH3];exact aWB.ne hne
   obtain ⟨H4,hH4⟩:∃ H4,H4=H3.set B Z0:=⟨_,rfl⟩
   have aB4:At H4 B Z0:=by rw [hH4];exact .self aB3.lt
   have pst:ValR b (dd+1) k hp R (.agg [dI 0,dI 0,.str [],.imm .exact []]) H4:=by
    have:=(rr.bad (X:=ae 0 Obj.dead)).fin (X:=[]) (o:=Z0) hB hne
    rw [aS,<- hW,<- hH3,<- hH4] at this
    exact z17 hn hk2 this
   simp at hW
   simp [t296,n296,<- hB,e1,m1,m2,m3,<- hW,aWR.appE,aWB.appE,↓aWR.eq,↓aWB.eq,<- hH3,↓aR3.eq,↓aB3.eq,<- hH4,↓aB4.eq,pst]

def decV (b:List UInt8):CV:=(deco b).getD (.mk 0 0 [] [])
def decE (b:List UInt8):Int:=match deco b with
 | some _=>0
 | none=>10

theorem zu {hp:List Obj} {n:Nat} {s:List UInt8}:frz hp (n+1) (.str s)=some (.str s):=rfl

theorem r272 (b:List UInt8) (hl:b.length<=900000):runP E (dL E) 272 [dBy b]=some (.tup [dV (decV b),dI (decE b)]):=by
 have fb:∀ (hp:List Obj) (n:Nat),frzL (frz hp (n+1)) (b.map byteD)=some (b.map byteD):=fun hp n=>zn fun x _=>rfl
 refine zi c272 (by simp) ?_
 conv in t272=>reduce;dsimp [ah]
 have a2:At [Obj.cells [dI 0,dI 0,.str [],.imm .exact []],.cells [dI 0],.cells [.imm .none (b.map byteD)]] 2 (.cells [.imm .none (b.map byteD)]):=by simp [At]
 cases hv:rdV 16 b with
 | none=>
  have hd:deco b=none:=by unfold deco;rw [hv]
  obtain ⟨d,H,e1,rfl,r',w2,w4,w3⟩:=s291n 16 b _ 2 0 (by omega) hv a2 hl
  have a0:At H 0 (.cells [dI 0,dI 0,.str [],.imm .exact []]):=w4 0 _ (by decide) (by simp [At])
  have a1:At H 1 (.cells [dI 0]):=w4 1 _ (by decide) (by simp [At])
  obtain ⟨H1,hH1⟩:∃ H1,H1=H.set 0 (.cells [dI 0,dI 0,.str [],.imm .exact []]):=⟨_,rfl⟩
  have b1:At H1 1 (.cells [dI 0]):=by rw [hH1];exact a1.ne (by decide)
  have b0:At H1 0 (.cells [dI 0,dI 0,.str [],.imm .exact []]):=by rw [hH1];exact .self a0.lt
  obtain ⟨H2,hH2⟩:∃ H2,H2=H1.set 1 (.cells [dI 10]):=⟨_,rfl⟩
  have g1:At H2 1 (.cells [dI 10]):=by rw [hH2];exact .self b1.lt
  have g0:At H2 0 (.cells [dI 0,dI 0,.str [],.imm .exact []]):=by rw [hH2];exact b0.ne (by decide)
  simp at e1
  simp [t272,n272,e1,↓a0.eq,<- hH1,↓b1.eq,<- hH2,↓g0.eq,↓g1.eq,decV,decE,hd,z9,zu]
 | some p=>
  obtain ⟨v,r⟩:=p
  obtain ⟨hbe,hf,hdp⟩:=z7u 16 b v r hv
  obtain ⟨d,H,e1,w⟩:=s291 (sizeOf v) v (ar _) hf hdp r [Obj.cells [dI 0,dI 0,.str [],.imm .exact []],.cells [dI 0],.cells [.imm .none (b.map byteD)]] 2 0 (by rw [<- hbe];exact a2) (by rw [<- hbe];exact hl) (by omega)
  obtain ⟨⟨k,n,s,l,sp,rfl,rfl⟩,w2,w3,w4⟩:=w
  have a0:At H 0 (.cells [dI 0,dI 0,.str [],.imm .exact []]):=w4 0 _ (by decide) (by simp [At])
  have a1:At H 1 (.cells [dI 0]):=w4 1 _ (by decide) (by simp [At])
  have hz:∀ o,frzL (frz o 37) (l.map dV)=some (l.map dV):=fun o=>by
   rw [fmd] at hf
   rcases hf with ⟨_,_,_,rfl⟩ | ⟨_,_,rfl⟩ | ⟨rfl,_,_,hf⟩
   ·rfl
   ·rfl
   ·rw [dep,if_pos rfl] at hdp
    exact zn fun v hv=>zkw (dep v) v (z5a hf v hv) (ar _) 37 (by have:=z71 hv;omega)
  obtain ⟨H1,hH1⟩:∃ H1,H1=H.set 0 (.cells [dI k,dI n,.str s,.imm sp (l.map dV)]):=⟨_,rfl⟩
  have b0:At H1 0 (.cells [dI k,dI n,.str s,.imm sp (l.map dV)]):=by rw [hH1];exact .self a0.lt
  have b1:At H1 1 (.cells [dI 0]):=by rw [hH1];exact a1.ne (by decide)
  have b2:At H1 2 (.cells [.imm .none (r.map byteD)]):=by rw [hH1];exact At.ne w2 (by decide)
  have mk:isMark (.agg [dI k,dI n,.str s,.imm sp (l.map dV)])=false:=rfl
  clear hbe a2
  by_cases hr:r=[]
  ·subst hr
   have hd:deco b=some (.mk k n s l):=by unfold deco;rw [hv]
   simp at e1
   simp [t272,n272,e1,↓a0.eq,<- hH1,↓b0.eq,↓b1.eq,↓b2.eq,decV,decE,hd,z9,zu,hz,s292,mk,z3i,z4a b0,z4a b1]
  ·have hd:deco b=none:=by
    unfold deco;rw [hv]
    cases r with
    | nil=>exact absurd rfl hr
    | cons c r=>rfl
   have hrl:((r.length:Int) == 0)=false:=by
    cases r with
    | nil=>exact absurd rfl hr
    | cons c r=>simp;omega
   obtain ⟨H2,hH2⟩:∃ H2,H2=H1.set 0 (.cells [dI 0,dI 0,.str [],.imm .exact []]):=⟨_,rfl⟩
   have c1:At H2 1 (.cells [dI 0]):=by rw [hH2];exact b1.ne (by decide)
   have c0:At H2 0 (.cells [dI 0,dI 0,.str [],.imm .exact []]):=by rw [hH2];exact .self b0.lt
   obtain ⟨H3,hH3⟩:∃ H3,H3=H2.set 1 (.cells [dI 10]):=⟨_,rfl⟩
   have g1:At H3 1 (.cells [dI 10]):=by rw [hH3];exact .self c1.lt
   have g0:At H3 0 (.cells [dI 0,dI 0,.str [],.imm .exact []]):=by rw [hH3];exact c0.ne (by decide)
   simp at e1
   simp [t272,n272,e1,↓a0.eq,<- hH1,↓b0.eq,↓b2.eq,decV,decE,hd,z9,zu,s292f,hrl,mk,z3i,<- hH2,↓c0.eq,↓c1.eq,<- hH3,↓g0.eq,↓g1.eq]

theorem z1p {hp:List Obj} {n:Nat} {l:List UInt8}:frzL (frz hp (n+1)) (l.map byteD)=some (l.map byteD):=zn fun x _=>rfl
theorem zbl {l:List UInt8}:(l.map byteD).all (fun d=>d.storable && d.cellsL.length == 1)=true:=za5
def killS:Spare->List Obj->List Obj
 | .tok q,h=>h.set q .dead
 | _,h=>h
theorem z42 {sp:Spare} {h:List Obj}:(killS sp h).length=h.length:=by
 unfold killS;split <;> simp
def RoomS (h:List Obj) (sp:Spare) (n sz:Nat):Prop:=sp=.exact \/ ∃ k,sp=.tok k/\At h k (.tok (n*sz) sz)
theorem RoomS.app {h r:List Obj} {sp:Spare} {n sz:Nat} (R:RoomS h sp n sz):RoomS (h++r) sp n sz:=by
 rcases R with R | ⟨k,R,a⟩
 ·exact .inl R
 ·exact .inr ⟨k,R,a.app⟩
theorem z6l {hp:List Obj} {id t e sz:Nat} {sp sp':Spare} {els new:List D} (hk:(E.ty t).k=.slice e) (hs:(E.ty e).size=sz) (hl:listOf hp (E.ty e).size (E.ty e).ag (.imm sp' new)=some new) (hap:appOk E e els new) (R:RoomS hp sp els.length sz) :
  app0 E hp id t t (.imm sp els) (.imm sp' new)=some (.imm (.tok id) (els++new),addO (killS sp hp) id (.tok ((els.length+new.length)*sz) sz)):=by
 rw [hs] at hl
 rcases R with rfl | ⟨k,rfl,a⟩
 ·rw [zg]
  simp only [hk,hl,z7,hs]
  rw [if_pos hap]
  rfl
 ·rw [zp]
  simp only [hk,hl,z7,hs]
  rw [if_pos hap,a.eq,zal,z7,if_pos ⟨rfl,rfl⟩]
  rfl
theorem RoomS.ne {h:List Obj} {sp:Spare} {n sz q:Nat} {o:Obj} (R:RoomS h sp n sz) (B:At h q o) (ho:∀ u s,o ≠ .tok u s):∀ k,sp=.tok k->k ≠ q:=by
 intro k hk e
 subst e
 rcases R with rfl | ⟨k',rfl,a⟩
 ·cases hk
 ·cases hk
  have:=a.eq.symm.trans B.eq
  cases this
  exact ho _ _ rfl
theorem zh8 {hp:List Obj} {sp:Spare} {l:List UInt8}:listOf hp (E.ty 13).size (E.ty 13).ag (.imm sp (l.map byteD))=some (l.map byteD):=by
 simp only [listOf,show (E.ty 13).size=1 from rfl]
 rw [if_pos zbl]
theorem RoomS.tok1 {h:List Obj} {sp:Spare} {n:Nat}:RoomS (killS sp h++[.tok n 1]) (.tok h.length) n 1:=by
 exact .inr ⟨h.length,rfl,by have e:=z42 (sp:=sp) (h:=h);simp [At,e]⟩

theorem zrp {n:Int} (h:i64 n) (h0:0<=n):a7.wrap (2*a7.wrap n)=(uns n:Nat):=by
 obtain ⟨h1,h2⟩:=h
 unfold uns
 rw [if_pos h0,z2y,z2y];omega
theorem zpn {n:Int} (h:i64 n) (h0 : ¬ 0<=n):a7.wrap (a7.wrap (2*a7.wrap (-(n+1)))+1)=(uns n:Nat):=by
 obtain ⟨h1,h2⟩:=h
 unfold uns
 rw [if_neg h0,z2y,z2y,z2y];omega
theorem r303 {n:Int} (h:i64 n):runP E (dL E) 303 [dI n]=some (.int .u64 (uns n:Nat)):=by
 refine zi c303 (by simp) ?_
 conv in t303=>reduce;dsimp [ah]
 by_cases h0:0<=n
 ·have e:=zrp h h0
  simp [t303,n303,h0,convD,e]
 ·have e:=zpn h h0
  obtain ⟨h1,h2⟩:=h
  have w1:aA.wrap (n+1)=n+1:=zy ⟨by omega,by omega⟩
  have w2:aA.wrap (-(n+1)) = -(n+1):=zy ⟨by omega,by omega⟩
  simp [t303,n303,h0,convD,w1,w2,e]

theorem r304':∀ (m u:Nat) (_:u<m) (_:u<18446744073709551616),runP E (dL E) 304 [.int .u64 (u:Int)]=some (dBy (num u)):=by
 intro m
 induction m with
 | zero=>intro u hm;omega
 | succ m ih=>
  intro u hm hu
  have hd:u<128 \/ ¬ u<128:=by omega
  rcases hd with h | h
  ·refine zi c304 (by simp) ?_
   conv in t304=>reduce;dsimp [ah]
   have h':(u:Int)<128:=by omega
   have e0:=z88 (n:=u)
   rw [show u % 256=u from by omega] at e0
   have e3:=mk8 (n:=u) (by omega)
   rw [z4z h]
   simp only [byteD] at e3
   simp [t304,n304,h,h',convD,e0,e3]
  ·have h' : ¬ (u:Int)<128:=by omega
   have e:=ih (u / 128) (by omega) (by omega)
   have hlen:=z3t (u:=u / 128) (by omega)
   rw [z7h h]
   have q1:a7.wrap ((u:Int).tmod 128+128)=((u % 128+128:Nat):Int):=by rw [z2y,ej (by omega)];omega
   have q2:=z88 (n:=u % 128+128)
   rw [show (u % 128+128) % 256=u % 128+128 from by omega] at q2
   have q3:a7.wrap ((u:Int) / 128)=((u / 128:Nat):Int):=by rw [z2y];omega
   obtain ⟨c,hc⟩:∃ c,c=u % 128+128:=⟨_,rfl⟩
   have e3:=mk8 (n:=c) (by omega)
   rw [<- hc] at q1 q2 ⊢
   obtain ⟨v,hv⟩:∃ v,v=u / 128:=⟨_,rfl⟩
   rw [<- hv] at q3 e hlen ⊢
   simp only [byteD] at e3
   have a1:=z10 (l:=[bX c]) (new:=(num v).map byteD) (by simp;omega)
   generalize bX c=cb at *
   generalize num v=N at *
   simp at a1
   have a2:appOk E 13 [.int .u8 cb.toNat] (N.map byteD):=a1
   have fz:∀ hp n,frzL (frz hp (n+1)) (D.int .u8 cb.toNat::N.map byteD)=some (D.int .u8 cb.toNat::N.map byteD):=fun hp n=>z1p (l:=cb::N)
   refine zi c304 (by simp) ?_
   conv in t304=>reduce;dsimp [ah]
   simp [t304,n304,h',convD,q1,q2,q3,e,e3,a2,fz,z1p]
theorem r304 {u:Nat} (h:u<18446744073709551616):runP E (dL E) 304 [.int .u64 (u:Int)]=some (dBy (num u)):=r304' (u+1) u (by omega) h

theorem r301:∀ (m:Nat) (v:CV),sizeOf v<=m->fmdOk v->runP E (dL E) 301 [dV v]=some (.bool true):=by
 intro m
 induction m with
 | zero=>intro v hm;cases v;simp at hm
 | succ m ih=>
  intro v hm hf
  obtain ⟨k,n,s,l⟩:=v
  have hf':=hf.f
  have hz:=z3n (hp:=[]) hf
  refine zi c301 (by simp) ?_
  conv in t301=>reduce;dsimp [ah]
  rw [fmd] at hf'
  rw [z9]
  rcases hf' with ⟨rfl,hn,rfl,rfl⟩ | ⟨rfl,rfl,rfl⟩ | ⟨rfl,rfl,rfl,hl⟩
  ·simp [t301,n301]
  ·simp [t301,n301]
  ·have hln:=hf.len.2
   simp [t301,n301]
   refine z2x l.length (fun i env h=>∃ (x0 x4 x5 x6 x7 x8 x9:D) ,env=[x0,.iptr [dI 3,dI 0,.str [],.imm .none (l.map dV)],.bool false,dI i,x4,x5,x6,x7,x8,x9]) 0 (by omega) ⟨_,_,_,_,_,_,_,rfl⟩ ?_
   rintro i env h hi ⟨x0,x4,x5,x6,x7,x8,x9,rfl⟩
   by_cases hlt:i<l.length
   ·have hv:=hf.sub (aP hlt)
    have e:=ih l[i] (by have:=dG (aP hlt);rw [CV.mk.sizeOf_spec] at hm;omega) hv
    have hz':=z3n (hp:=[]) hv
    have hup:=z1b hlt (by omega)
    obtain ⟨k,n,s,l',hq⟩:∃ k n s l',l[i]=CV.mk k n s l':=by
     cases h:l[i] with
     | mk k n s l'=>exact ⟨k,n,s,l',rfl⟩
    rw [hq] at e hz'
    rw [z9] at e hz'
    simp [hlt,hq,z9,e,hz',hup]
   ·have:i=l.length:=by omega
    subst this
    simp
    try trace_state

theorem r302:∀ (m:Nat) (v:CV),sizeOf v<=m->fmdOk v->runP E (dL E) 302 [dV v]=some (dI (dep v)):=by
 intro m
 induction m with
 | zero=>intro v hm;cases v;simp at hm
 | succ m ih=>
  intro v hm hf
  obtain ⟨k,n,s,l⟩:=v
  have hf':=hf.f
  have hz:=z3n (hp:=[]) hf
  refine zi c302 (by simp) ?_
  conv in t302=>reduce;dsimp [ah]
  rw [fmd] at hf'
  rw [z9]
  rcases hf' with ⟨rfl,hn,rfl,rfl⟩ | ⟨rfl,rfl,rfl⟩ | ⟨rfl,rfl,rfl,hl⟩
  ·simp [t302,n302,dep]
  ·simp [t302,n302,dep]
  ·have hln:=hf.len.2
   have hd:depL l<=15:=by have:=hf.d;rw [dep,if_pos rfl] at this;omega
   have hdw:aA.wrap ((depL l:Int)+1)=(depL l:Int)+1:=zy ⟨by omega,by omega⟩
   simp [t302,n302,dep]
   refine z2x l.length (fun i env h=>∃ (x0 x2 x5 x6:D) ,env=[x0,.iptr [dI 3,dI 0,.str [],.imm .none (l.map dV)],x2,dI (depL (l.take i)),dI i,x5,x6]) 0 (by omega) ⟨_,_,_,_,rfl⟩ ?_
   rintro i env h hi ⟨x0,x2,x5,x6,rfl⟩
   by_cases hlt:i<l.length
   ·have hv:=hf.sub (aP hlt)
    have e:=ih l[i] (by have:=dG (aP hlt);rw [CV.mk.sizeOf_spec] at hm;omega) hv
    have hz':=z3n (hp:=[]) hv
    have hup:=z1b hlt (by omega)
    obtain ⟨k,n,s,l',hq⟩:∃ k n s l',l[i]=CV.mk k n s l':=by
     cases h:l[i] with
     | mk k n s l'=>exact ⟨k,n,s,l',rfl⟩
    have hdt:=zd3 hlt
    rw [hq] at e hz' hdt
    rw [z9] at e hz'
    simp [hlt,hq,z9,e,hz',hup]
    rw [hdt]
    simp only [lG]
    split <;> split <;> omega
   ·have:i=l.length:=by omega
    subst this
    simp [hdw]

theorem r286 {v:CV} (h:fmdOk v):runP E (dL E) 286 [dV v]=some (dI 0):=by
 have e:=r301 (sizeOf v) v (ar _) h
 have e2:=r302 (sizeOf v) v (ar _) h
 have hz:=z3n (hp:=[]) h
 have hd:=h.d
 obtain ⟨k,n,s,l⟩:=v
 refine zi c286 (by simp) ?_
 conv in t286=>reduce;dsimp [ah]
 have hd' : ¬ (16:Int)<(dep (.mk k n s l):Int):=by omega
 rw [z9] at e e2 hz ⊢
 simp [t286,n286,e,e2,hz,hd']

theorem zm0 {h:List Obj} {sp sp':Spare} {l m:List UInt8} (hl:l.length+m.length<=900000000000) (R:RoomS h sp l.length 1) :
  app0 E h h.length 30 30 (.imm sp (l.map byteD)) (.imm sp' (m.map byteD))=some (.imm (.tok h.length) ((l++m).map byteD),killS sp h++[.tok (l.length+m.length) 1]):=by
 have e:=z6l (hp:=h) (id:=h.length) (t:=30) (e:=13) (sz:=1) (sp:=sp) (sp':=sp') (els:=l.map byteD) (new:=m.map byteD) rfl rfl zh8 (z10 (by simp;omega)) (by rw [cK];exact R)
 rw [e,dM]
 have e2:addO (killS sp h) h.length (.tok (((l.map byteD).length+(m.map byteD).length)*1) 1)=killS sp h++[.tok (l.length+m.length) 1]:=by
  unfold addO;rw [if_neg (by rw [z42];omega)];simp
 rw [e2]

theorem r287:∀ (m:Nat) (v:CV),sizeOf v<=m->fmdOk v->runP E (dL E) 287 [dV v]=some (dBy (enc v)):=by
 intro m
 induction m with
 | zero=>intro v hm;cases v;simp at hm
 | succ m ih=>
  intro v hm hf
  obtain ⟨k,n,s,l⟩:=v
  have hf':=hf.f
  have hn:=hf.n
  rw [fmd] at hf'
  rcases hf' with ⟨rfl,hi,rfl,rfl⟩ | ⟨rfl,rfl,rfl⟩ | ⟨rfl,rfl,rfl,hl⟩
  ·have e1:=r303 hi
   have e2:=r304 (z78 hi)
   have hlen:=z3t (z78 hi)
   rw [enc,if_pos rfl]
   generalize num (uns n)=N at *
   have a1:appOk E 13 [.int .u8 1] (N.map byteD):=z10 (l:=[1]) (by simp;omega)
   have fz:∀ hp n,frzL (frz hp (n+1)) (D.int .u8 1::N.map byteD)=some (D.int .u8 1::N.map byteD):=fun hp n=>z1p (l:=1::N)
   refine zi c287 (by simp) ?_
   conv in t287=>reduce;dsimp [ah]
   rw [z9]
   simp [t287,n287,e1,e2,a1,fz,zbl]
  ·have hsl:=hf.len.1
   have e2:=r304 (u:=s.length) (by omega)
   have hlen:=z3t (u:=s.length) (by omega)
   have hw:=z1t (n:=s.length) (by omega)
   rw [enc,if_neg (by decide),if_pos rfl]
   generalize num s.length=N at *
   have a1:appOk E 13 [.int .u8 2] (N.map byteD):=z10 (l:=[2]) (by simp;omega)
   have a2:appOk E 13 (.int .u8 2::N.map byteD) (s.map byteD):=z10 (l:=2::N) (by simp;omega)
   have fz:∀ hp n,frzL (frz hp (n+1)) (D.int .u8 2::(N.map byteD++s.map byteD))=some (D.int .u8 2::(N.map byteD++s.map byteD)):=fun hp n=>by
    have:=z1p (hp:=hp) (n:=n) (l:=2::(N++s))
    rw [List.map_cons,dM] at this
    exact this
   have hc:1+N.length=N.length+1:=Nat.add_comm _ _
   refine zi c287 (by simp) ?_
   conv in t287=>reduce;dsimp [ah]
   rw [z9]
   simp [t287,n287,convD,hw,e2,a1,a2,fz,hc]
  ·have hln:=hf.len.2
   have e2:=r304 (u:=l.length) (by omega)
   have hlen:=z3t (u:=l.length) (by omega)
   have hw:=z1t (n:=l.length) (by omega)
   rw [enc,if_neg (by decide),if_neg (by decide)] at hn ⊢
   generalize num l.length=N at *
   have a1:appOk E 13 [.int .u8 3] (N.map byteD):=z10 (l:=[3]) (by simp;omega)
   refine zi c287 (by simp) ?_
   conv in t287=>reduce;dsimp [ah]
   rw [z9]
   simp [t287,n287,convD,hw,e2,a1,zbl]
   refine z2x l.length (fun i env h=>∃ (x0 x2 x5 x6 x7 x8 x9 x10 x11 x12 x13:D) (sp:Spare) (O:List UInt8),env=[x0,.iptr [dI 3,dI 0,.str [],.imm .none (l.map dV)],x2,.imm sp (O.map byteD),dI i,x5,x6,x7,x8,x9,x10,x11,x12,x13]/\O=3::(N++encL (l.take i))/\RoomS h sp O.length 1) 0 (by omega) ⟨_,_,_,_,_,_,_,_,_,_,_,.tok 0,3::N,by rfl,by simp [encL],.inr ⟨0,rfl,by simp [At];omega⟩⟩ ?_
   rintro i env h hi ⟨x0,x2,x5,x6,x7,x8,x9,x10,x11,x12,x13,sp,O,rfl,hO,R⟩
   by_cases hlt:i<l.length
   ·have hv:=hf.sub (aP hlt)
    have e:=ih l[i] (by have:=dG (aP hlt);rw [CV.mk.sizeOf_spec] at hm;omega) hv
    have hz':=z3n (hp:=[]) hv
    have hup:=z1b hlt (by omega)
    have hsp:encL (l.take (i+1))=encL (l.take i)++enc l[i]:=by
     rw [aY hlt,z3p];simp [encL]
    have htk:encL l=encL (l.take (i+1))++encL (l.drop (i+1)):=by rw [<- z3p,b7]
    have hO2:O++enc l[i]=3::(N++encL (l.take (i+1))):=by rw [hO,hsp];simp
    have hol:O.length+(enc l[i]).length<=900000000000:=by
     have:=congrArg dZ hO2
     rw [htk] at hn
     simp only [aN,bn] at this hn
     omega
    have ap:=zm0 (sp':=.none) hol R
    obtain ⟨k,n,s,l',hq⟩:∃ k n s l',l[i]=CV.mk k n s l':=by
     cases h:l[i] with
     | mk k n s l'=>exact ⟨k,n,s,l',rfl⟩
    rw [hq] at e hz' hO2 ap
    rw [z9] at e hz'
    generalize enc (.mk k n s l')=X at *
    have hR:RoomS (killS sp h++[.tok (O.length+X.length) 1]) (.tok h.length) (O++X).length 1:=by
     rw [aN];exact RoomS.tok1
    generalize O++X=Q at *
    simp [-zp,-zg,hlt,hq,z9,e,hz',hup,ap]
    exact ⟨_,_,_,_,_,_,_,_,_,_,_,_,Q,⟨rfl,rfl,⟨rfl,rfl⟩,rfl,rfl,rfl,rfl,rfl,rfl,rfl,rfl,rfl⟩,hO2,hR⟩
   ·have:i=l.length:=by omega
    subst this
    rw [bp] at hO
    rw [<- hO]
    simp [z1p]

theorem r270 {v:CV} (h:fmdOk v):runP E (dL E) 270 [dV v]=some (.tup [dBy (enc v),dI 0]):=by
 have e:=r286 h
 have e2:=r287 (sizeOf v) v (ar _) h
 have hz:=z3n (hp:=[]) h
 obtain ⟨k,n,s,l⟩:=v
 refine zi c270 (by simp) ?_
 conv in t270=>reduce;dsimp [ah]
 rw [z9] at e e2 hz ⊢
 simp [t270,n270,e,e2,hz,z1p]

theorem r277 (b:List UInt8) (hl:b.length<=900000):runP E (dL E) 277 [dBy b]=some (.tup [dV (decV b),dI (decE b)]):=by
 refine zi c277 (by simp) ?_
 conv in t277=>reduce;dsimp [ah]
 obtain ⟨d,H,e1,kk,n,s,l,sp,rfl,hns,hm⟩:=s296 16 b [Z0,RC b 0 false] 1 0 0 (by omega) (by simp [At]) (by omega) hl
 rw [List.drop_zero] at hm
 obtain ⟨C,hC⟩:∃ C,C=H.length:=⟨_,rfl⟩
 obtain ⟨W,hW⟩:∃ W,W=H++(Obj.cells [dI kk,dI n,.str s,.imm sp (l.map dV)]::ae 26 Obj.dead):=⟨_,rfl⟩
 have aCW:At W C (.cells [dI kk,dI n,.str s,.imm sp (l.map dV)]):=by rw [hW,hC];simp [At]
 have e1:runS E (dL E) 296 [.loc 1 0,.int .i64 0] [Obj.cells [.int .i64 0,.int .i64 0,.str [],.imm .exact []],Obj.cells [.imm .none (b.map byteD),.int .i64 0,.bool false]]=some (.agg [dI kk,dI n,.str s,.imm sp (l.map dV)],H):=e1
 have nm:noMark (some (D.agg [dI kk,dI n,.str s,.imm sp (l.map dV)],H))=some (.agg [dI kk,dI n,.str s,.imm sp (l.map dV)],H):=zq rfl
 have key:∀ (k':Nat) (x:Bool),RdR [Z0,RC b 0 false] 1 b k' x H->At W 0 Z0/\At W 1 (RC b k' x)/\1 ≠ C/\0 ≠ C:=by
  intro k' x r
  have a0:At H 0 Z0:=r.kp 0 _ (by decide) (by simp [At])
  have a1:=r.at_
  have:=a1.lt
  have h1:1 ≠ C:=by omega
  have h0:0 ≠ C:=by omega
  refine ⟨?_,?_,h1,h0⟩
  ·rw [hW];exact a0.app
  ·rw [hW];exact a1.app
 have hz:frz [] 40 (.agg [dI kk,dI n,.str s,.imm sp (l.map dV)])=some (dV (.mk kk n s l)):=by
  rw [<- zh (hp:=[]) 17 (.mk kk n s l) hns 40 (by omega),z9];rfl
 cases hv:rdV 16 b with
 | none=>
  rw [hv] at hm
  obtain ⟨k',hk',r⟩:=hm
  obtain ⟨aW0,aW1,h1C,h0C⟩:=key _ _ r
  have hd:deco b=none:=by unfold deco;rw [hv]
  simp at hW
  simp [t277,n277,e1,nm,<- hC,<- hW,↓aW1.eq,aW1.appE,↓aW0.eq,z4a aW0,decV,decE,hd,z9,zu]
 | some p=>
  obtain ⟨v,r⟩:=p
  rw [hv] at hm
  obtain ⟨rfl,k',hkd,hk',rr⟩:=hm
  obtain ⟨aW0,aW1,h1C,h0C⟩:=key _ _ rr
  obtain ⟨hbe,hf,hdp⟩:=z7u 16 b _ r hv
  by_cases hr:r=[]
  ·subst hr
   have hd:deco b=some (.mk kk n s l):=by unfold deco;rw [hv]
   rw [aS] at hbe
   have hkb:k'=b.length:=by
    have:=congrArg dZ hkd
    simp at this;omega
   have fo:fmdOk (.mk kk n s l):=⟨hf,hdp,by rw [<- hbe];omega⟩
   have e2:=r286 fo
   have e3:=r287 (sizeOf (CV.mk kk n s l)) _ (ar _) fo
   rw [<- hbe] at e3
   rw [z9] at e2 e3 hz
   have b1:=z75 b
   subst hkb
   have ag:ofCells true [dI kk,dI n,.str s,.imm sp (l.map dV)]=some (.agg [dI kk,dI n,.str s,.imm sp (l.map dV)]):=rfl
   obtain ⟨H5,hH5⟩:∃ H5,H5=W.set 0 (.cells [dI kk,dI n,.str s,.imm sp (l.map dV)]):=⟨_,rfl⟩
   have a50:At H5 0 (.cells [dI kk,dI n,.str s,.imm sp (l.map dV)]):=by rw [hH5];exact .self aW0.lt
   have hz5:frz H5 39 (.agg [dI kk,dI n,.str s,.imm sp (l.map dV)])=some (dV (.mk kk n s l)):=by
    rw [<- zh (hp:=H5) 17 (.mk kk n s l) hns 39 (by omega),z9];rfl
   rw [z9] at hz5
   simp at hW
   have hdV:dV (decV b)=.agg [dI kk,dI n,.str s,.imm .none (l.map dV)]:=by simp [decV,hd,z9]
   have hdE:decE b=0:=by unfold decE;rw [hd]
   rw [hdV,hdE]
   generalize l.map dV=L at *
   simp [-z8,t277,n277,e1,nm,<- hC,<- hW,↓aW1.eq,aW1.appE,↓aW0.eq,↓aCW.eq,aCW.appE,hz,e2,e3,b1,<- hH5,↓a50.eq,hz5]
  ·have hd:deco b=none:=by
    unfold deco;rw [hv]
    cases r with
    | nil=>exact absurd rfl hr
    | cons c r=>rfl
   have hkb : ¬ k'=b.length:=by
    intro h
    rw [h,jP] at hkd
    exact hr hkd.symm
   have hne : ¬ (k':Int)=(b.length:Int):=by omega
   simp at hW
   simp [t277,n277,e1,nm,<- hC,<- hW,↓aW1.eq,aW1.appE,↓aW0.eq,z4a aW0,decV,decE,hd,z9,zu,hne]

theorem r284 (n:Int):runP E (dL E) 284 [dI n]=some (dV (cI n)):=by
 refine zi c284 (by simp) ?_
 conv in t284=>reduce;dsimp [ah]
 simp [t284,n284,zst,zu]
theorem r289 (n:Int):runP E (dL E) 289 [dI n]=some (dV (cI n)):=by
 refine zi c289 (by simp) ?_
 conv in t289=>reduce;dsimp [ah]
 simp [t289,n289,zst,zu]

def ciL (l:List Int):CV:=cL (l.map cI)

theorem r283 (vs:List Int) (hv:vs.length<=900000):runP E (dL E) 283 [dInts vs,.fn 284 []]=some (dV (ciL vs)):=by
 obtain ⟨cs,hcs⟩:∃ cs,cs=vs.map cI:=⟨_,rfl⟩
 have hcl:cs.length=vs.length:=by rw [hcs];simp
 have hce:∀ i (h:i<vs.length),runP E (dL E) 284 [dI vs[i]]=some (dV (cs[i]'(by omega))):=fun i h=>by
  rw [r284];simp [hcs]
 have hzz:∀ h,frzL (frz h 38) (cs.map dV)=some (cs.map dV):=fun h=>zn fun v hv=>by
  rw [hcs] at hv
  obtain ⟨n,_,rfl⟩:=aT.1 hv
  exact zh 1 _ (by unfold cI;rw [nst,nstL];omega) 38 (by omega)
 have hres:dV (ciL vs)=.agg [dI 3,dI 0,.str [],.imm .none (cs.map dV)]:=by unfold ciL cL;rw [z9,hcs]
 rw [hres]
 refine zi c283 (by simp) ?_
 conv in t283=>reduce;dsimp [ah]
 simp [t283,n283]
 refine z2x vs.length (fun i env h=>∃ (x4 x8 x9:D) (sp:Spare),env=[dInts vs,.fn 284 [],.loc 0 0,.loc 1 0,x4,dInts vs,dI vs.length,dI i,x8,x9]/\At h 0 Z0/\At h 1 (.cells [dI 3,dI 0,.str [],.imm sp (Lv cs i)])/\Room 2 h sp i 4/\2<=h.length) 0 (by omega) ?_ ?_
 ·exact ⟨_,_,_,(.exact),rfl,by simp [At],by rw [z9i];simp [At],.inl rfl,by simp⟩
 rintro i env h hi ⟨x4,x8,x9,sp,rfl,a1,a2,T3,hlen2⟩
 have hL:(Lv cs i).length=i:=zad (by omega)
 by_cases hlt:i<vs.length
 ·have hup:=z1b hlt (by omega)
  have hap:∀ x:D,appOk E 55 (Lv cs i) [x]:=fun x=>z2b (by rw [hL];simp;omega) Lv_4
  have hlt':i<cs.length:=by omega
  have hsp:=Lv_s hlt'
  have h4:is4 (dV cs[i]):=Lv_4 (l:=cs) (i:=i+1) _ (by rw [hsp];simp)
  have e1:=hce i hlt
  generalize dV cs[i]=Y at *
  have alB:1<h.length:=a2.lt
  rcases T3 with rfl | ⟨q,rfl,hq,hq2⟩
  ·have a3:∀ X,(h++X)[1]? = some (.cells [dI 3,dI 0,.str [],.imm .exact (Lv cs i)]):=fun X=>a2.app (r:=X)
   have hsB:∀ X o,(h++X).set 1 o=h.set 1 o++X:=fun X o=>zj alB
   simp [hlt,hup,e1,↓a3,zk,zg,hap,hL,h4.1,h4.2,↓hsB]
   exact ⟨(a1.ne (by decide)).app,.tok (h.length+6),by rw [hsp];exact (At.self alB).app,.inr ⟨_,rfl,by omega,by simp [At]⟩⟩
  ·have a3:∀ X,(h++X)[1]? = some (.cells [dI 3,dI 0,.str [],.imm (.tok q) (Lv cs i)]):=fun X=>a2.app (r:=X)
   have hq3:∀ X,(h++X)[q]? = some (.tok (i*4) 4):=fun X=>hq2.app (r:=X)
   have hs:∀ X o,(h++X).set q o=h.set q o++X:=fun X o=>zj hq2.lt
   have b2:=a2.ne (j:=q) (x:=Obj.dead) (by omega)
   have b1:=a1.ne (j:=q) (x:=Obj.dead) (by omega)
   have b3:∀ X,(h.set q .dead++X)[1]? = some (.cells [dI 3,dI 0,.str [],.imm (.tok q) (Lv cs i)]):=fun X=>b2.app (r:=X)
   have hsB:∀ X o,(h.set q .dead++X).set 1 o=(h.set q .dead).set 1 o++X:=fun X o=>zj (by simpa using alB)
   simp [hlt,hup,e1,↓a3,zk,zp,hap,hL,h4.1,h4.2,↓hq3,↓hs,↓b3,↓hsB]
   exact ⟨(b1.ne (by decide)).app,.tok (h.length+6),by rw [hsp];exact (At.self b2.lt).app,.inr ⟨_,rfl,by omega,by simp [At]⟩⟩
 ·have:i=vs.length:=by omega
  subst this
  rw [<- hcl,zae] at a2
  obtain ⟨HF,hHF⟩:∃ HF,HF=h.set 0 (.cells [dI 3,dI 0,.str [],.imm sp (cs.map dV)]):=⟨_,rfl⟩
  have aHF:At HF 0 (.cells [dI 3,dI 0,.str [],.imm sp (cs.map dV)]):=by rw [hHF];exact .self a1.lt
  simp [↓a1.eq,↓a2.eq,<- hHF,↓aHF.eq,hzz,zu]
theorem z2i {l:List Int}:nst (ciL l)<=2:=by
 unfold ciL cL
 rw [nst]
 have:nstL (l.map cI)<=1:=zay fun v hv=>by
  obtain ⟨n,_,rfl⟩:=aT.1 hv
  unfold cI;rw [nst,nstL];omega
 omega
theorem r266 (vs:List Int) (hv:vs.length<=900000):runP E (dL E) 266 [dInts vs]=some (dV (ciL vs)):=by
 have e:=r283 vs hv
 have hz:∀ h,frz h 40 (dV (ciL vs))=some (dV (ciL vs)):=fun h=>zh 2 _ z2i 40 (by omega)
 obtain ⟨k,n,s,l,hq⟩:∃ k n s l,ciL vs=CV.mk k n s l:=⟨3,0,[],vs.map cI,rfl⟩
 rw [hq,z9] at e hz ⊢
 refine zi c266 (by simp) ?_
 conv in t266=>reduce;dsimp [ah]
 obtain ⟨L,hL⟩:∃ L,L=l.map dV:=⟨_,rfl⟩
 rw [<- hL] at e hz ⊢
 simp [-z8,t266,n266,e,hz]

theorem r285 (vs:List (List Int)) (hv:vs.length<=900000) (hvs:∀ v ∈ vs,v.length<=900000):runP E (dL E) 285 [.imm .none (vs.map dInts),.fn 266 []]=some (dV (cL (vs.map ciL))):=by
 obtain ⟨cs,hcs⟩:∃ cs,cs=vs.map ciL:=⟨_,rfl⟩
 have hcl:cs.length=vs.length:=by rw [hcs];simp
 have hce:∀ i (h:i<vs.length),runP E (dL E) 266 [dInts vs[i]]=some (dV (cs[i]'(by omega))):=fun i h=>by
  rw [r266 _ (hvs _ (aP h))];simp [hcs]
 have hzz:∀ h,frzL (frz h 38) (cs.map dV)=some (cs.map dV):=fun h=>zn fun v hv=>by
  rw [hcs] at hv
  obtain ⟨n,_,rfl⟩:=aT.1 hv
  exact zh 2 _ z2i 38 (by omega)
 have hres:dV (cL (vs.map ciL))=.agg [dI 3,dI 0,.str [],.imm .none (cs.map dV)]:=by unfold cL;rw [z9,hcs]
 rw [hres]
 refine zi c285 (by simp) ?_
 conv in t285=>reduce;dsimp [ah]
 simp [t285,n285]
 refine z2x vs.length (fun i env h=>∃ (x4 x8 x9:D) (sp:Spare),env=[.imm .none (vs.map dInts),.fn 266 [],.loc 0 0,.loc 1 0,x4,.imm .none (vs.map dInts),dI vs.length,dI i,x8,x9]/\At h 0 Z0/\At h 1 (.cells [dI 3,dI 0,.str [],.imm sp (Lv cs i)])/\Room 2 h sp i 4/\2<=h.length) 0 (by omega) ?_ ?_
 ·exact ⟨_,_,_,(.exact),rfl,by simp [At],by rw [z9i];simp [At],.inl rfl,by simp⟩
 rintro i env h hi ⟨x4,x8,x9,sp,rfl,a1,a2,T3,hlen2⟩
 have hL:(Lv cs i).length=i:=zad (by omega)
 by_cases hlt:i<vs.length
 ·have hup:=z1b hlt (by omega)
  have hap:∀ x:D,appOk E 55 (Lv cs i) [x]:=fun x=>z2b (by rw [hL];simp;omega) Lv_4
  have hlt':i<cs.length:=by omega
  have hsp:=Lv_s hlt'
  have h4:is4 (dV cs[i]):=Lv_4 (l:=cs) (i:=i+1) _ (by rw [hsp];simp)
  have e1:=hce i hlt
  generalize dV cs[i]=Y at *
  have alB:1<h.length:=a2.lt
  rcases T3 with rfl | ⟨q,rfl,hq,hq2⟩
  ·have a3:∀ X,(h++X)[1]? = some (.cells [dI 3,dI 0,.str [],.imm .exact (Lv cs i)]):=fun X=>a2.app (r:=X)
   have hsB:∀ X o,(h++X).set 1 o=h.set 1 o++X:=fun X o=>zj alB
   simp [hlt,hup,e1,↓a3,zk,zg,hap,hL,h4.1,h4.2,↓hsB]
   exact ⟨(a1.ne (by decide)).app,.tok (h.length+6),by rw [hsp];exact (At.self alB).app,.inr ⟨_,rfl,by omega,by simp [At]⟩⟩
  ·have a3:∀ X,(h++X)[1]? = some (.cells [dI 3,dI 0,.str [],.imm (.tok q) (Lv cs i)]):=fun X=>a2.app (r:=X)
   have hq3:∀ X,(h++X)[q]? = some (.tok (i*4) 4):=fun X=>hq2.app (r:=X)
   have hs:∀ X o,(h++X).set q o=h.set q o++X:=fun X o=>zj hq2.lt
   have b2:=a2.ne (j:=q) (x:=Obj.dead) (by omega)
   have b1:=a1.ne (j:=q) (x:=Obj.dead) (by omega)
   have b3:∀ X,(h.set q .dead++X)[1]? = some (.cells [dI 3,dI 0,.str [],.imm (.tok q) (Lv cs i)]):=fun X=>b2.app (r:=X)
   have hsB:∀ X o,(h.set q .dead++X).set 1 o=(h.set q .dead).set 1 o++X:=fun X o=>zj (by simpa using alB)
   simp [hlt,hup,e1,↓a3,zk,zp,hap,hL,h4.1,h4.2,↓hq3,↓hs,↓b3,↓hsB]
   exact ⟨(b1.ne (by decide)).app,.tok (h.length+6),by rw [hsp];exact (At.self b2.lt).app,.inr ⟨_,rfl,by omega,by simp [At]⟩⟩
 ·have:i=vs.length:=by omega
  subst this
  rw [<- hcl,zae] at a2
  obtain ⟨HF,hHF⟩:∃ HF,HF=h.set 0 (.cells [dI 3,dI 0,.str [],.imm sp (cs.map dV)]):=⟨_,rfl⟩
  have aHF:At HF 0 (.cells [dI 3,dI 0,.str [],.imm sp (cs.map dV)]):=by rw [hHF];exact .self a1.lt
  simp [↓a1.eq,↓a2.eq,<- hHF,↓aHF.eq,hzz,zu]

structure Leaf where
 branch:List Int
 kind:Int
 mult:List (List Int)

structure Cert where
 best:List Int
 value:List Int
 leaves:List Leaf
abbrev dLeaf (l:Leaf):D:=.agg [dInts l.branch,dI l.kind,.imm .none (l.mult.map dInts)]
theorem z29 {hp:List Obj} {n:Nat} {l:List Leaf}:frzL (frz hp (n+4)) (l.map dLeaf)=some (l.map dLeaf):=zn fun x _=>by
 rw [z8]
 simp only [z19,z1n,z7,z18,z94,z95,af,z1f]

abbrev dCert (c:Cert):D:=.agg [dInts c.best,dInts c.value,.imm .none (c.leaves.map dLeaf)]
def cert0:Cert:=⟨[],[],[]⟩

theorem zev {i n:Nat} (h:i<n) (hn:n<=9223372036854775807):aA.wrap ((i:Int)+1)=(i:Int)+1:=zy ⟨by omega,by omega⟩
def fewL (l:Leaf):Bool:=l.mult.all (fun m=>decide (m.length<=20)) && (decide (l.branch.length<=20) && decide (l.mult.length<=8))
def fewCe (c:Cert):Bool:=c.leaves.all fewL && ((decide (c.best.length<=20) && decide (c.value.length<=20)) && decide (c.leaves.length<=400))
theorem r223 (l:Leaf) (hl:l.mult.length<=9223372036854775807):runP E (dL E) 223 [dLeaf l]=some (.bool (fewL l)):=by
 refine zi c223 (by simp) ?_
 conv in t223=>reduce;dsimp [ah]
 simp [t223,n223]
 refine zj1 l.mult.length (fun i=>∀ h:i<l.mult.length,l.mult[i].length<=20)
  (fun i env hp=>∃ (x4 x5:D) ,env=[dLeaf l,.loc 0 0,.bool false,dI i,x4,x5]/\At hp 0 (.cells (dLeaf l).cellsL))
  ⟨_,_,rfl,rfl⟩ ?_ ?_
 ·rintro i env hp hi ⟨x4,x5,rfl,a1⟩ hall
  by_cases h:l.mult[i].length<=20
  ·have h' : ¬ (20:Int)<l.mult[i].length:=by omega
   simp [hi,a1.eq,h,h',zev hi hl]
   exact a1
  ·have h':(20:Int)<l.mult[i].length:=by omega
   have e:fewL l=false:=by
    unfold fewL
    have:(l.mult.all fun m=>decide (m.length<=20))=false:=by
     rw [jC]
     exact ⟨_,aP hi,by simpa using h⟩
    rw [this];rfl
   simp [hi,a1.eq,h',e]
 ·rintro env hp ⟨x4,x5,rfl,a1⟩ hall
  have e:fewL l=(decide (l.branch.length<=20) && decide (l.mult.length<=8)):=by
   unfold fewL
   have:(l.mult.all fun m=>decide (m.length<=20))=true:=by
    rw [aw]
    intro m hm
    obtain ⟨i,hi,rfl⟩:=eU hm
    simpa using hall i hi hi
   rw [this];rfl
  rw [e]
  by_cases k1:l.branch.length<=20
  ·have k1':(l.branch.length:Int)<=20:=by omega
   by_cases k2:l.mult.length<=8
   ·have k2':(l.mult.length:Int)<=8:=by omega
    simp [a1.eq,k1,k1',k2,k2']
   ·have k2' : ¬ (l.mult.length:Int)<=8:=by omega
    simp [a1.eq,k1,k1',k2,k2']
  ·have k1' : ¬ (l.branch.length:Int)<=20:=by omega
   simp [a1.eq,k1,k1']

theorem r213 (c:Cert) (hc:c.leaves.length<=9223372036854775807) (hl:∀ l,l ∈ c.leaves->l.mult.length<=9223372036854775807):runP E (dL E) 213 [dCert c]=some (.bool (fewCe c)):=by
 refine zi c213 (by simp) ?_
 conv in t213=>reduce;dsimp [ah]
 simp [t213,n213]
 refine zj1 c.leaves.length (fun i=>∀ h:i<c.leaves.length,fewL c.leaves[i]=true)
  (fun i env hp=>∃ (x4 x5:D) ,env=[dCert c,.loc 0 0,.bool false,dI i,x4,x5]/\At hp 0 (.cells (dCert c).cellsL))
  ⟨_,_,rfl,rfl⟩ ?_ ?_
 ·rintro i env hp hi ⟨x4,x5,rfl,a1⟩ hall
  have h223:=r223 c.leaves[i] (hl _ (aP hi))
  simp only [dLeaf,dInts] at h223
  cases h:fewL c.leaves[i] with
  | true=>
   rw [h] at h223
   simp [hi,a1.eq,h223,zev hi hc,h]
   exact a1
  | false=>
   rw [h] at h223
   have e:fewCe c=false:=by
    unfold fewCe
    have:c.leaves.all fewL=false:=by
     rw [jC]
     exact ⟨_,aP hi,by rw [h];simp⟩
    rw [this];rfl
   simp [hi,a1.eq,h223,e]
 ·rintro env hp ⟨x4,x5,rfl,a1⟩ hall
  have e:fewCe c=((decide (c.best.length<=20) && decide (c.value.length<=20)) && decide (c.leaves.length<=400)):=by
   unfold fewCe
   have:c.leaves.all fewL=true:=by
    rw [aw]
    intro m hm
    obtain ⟨i,hi,rfl⟩:=eU hm
    exact hall i hi hi
   rw [this];rfl
  rw [e]
  by_cases k1:c.best.length<=20
  ·have k1':(c.best.length:Int)<=20:=by omega
   by_cases k2:c.value.length<=20
   ·have k2':(c.value.length:Int)<=20:=by omega
    by_cases k3:c.leaves.length<=400
    ·have k3':(c.leaves.length:Int)<=400:=by omega
     simp [a1.eq,k1,k1',k2,k2',k3,k3']
    ·have k3' : ¬ (c.leaves.length:Int)<=400:=by omega
     simp [a1.eq,k1,k1',k2,k2',k3,k3']
   ·have k2' : ¬ (c.value.length:Int)<=20:=by omega
    simp [a1.eq,k1,k1',k2,k2']
  ·have k1' : ¬ (c.best.length:Int)<=20:=by omega
   simp [a1.eq,k1,k1']

end Dv
