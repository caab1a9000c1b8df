/- Texts that a proof of this claim uses, joined: Lw.Wp, Lw.Tidy, Lw.TidyOk, Lw.TidyOk2, Lw.TidyFn, Lw.Use, Lw.Eval, Lw.Ev2, Lw.Ev3, Lw.Ev4, Lw.Enc, Lw.Base. -/
import Derived.Test.YtfagnjchgplecaaDoorDvd
import Derived.Test.YtfagnjchgplecaaDoorDvb
import Derived.Test.YtfagnjchgplecaaDoorCode
set_option linter.all false
open Bool renaming and_eq_true->ao,false_eq_true->aM,not_eq_true'->bN,or_eq_true->bS
open Go renaming BinOp->gQ,IntKind->aT
open Go.IntKind renaming i64->ay
open Go.IntWalk renaming i64_in->fX
open List renaming all_eq_true->aC,any_eq_true->iv,getD_eq_getElem?_getD->ah,getElem?_eq_getElem->ae,getElem?_eq_some_iff->ac,getElem?_set_ne->a8,getElem?_set_self->aQ,idxOf_lt_length_of_mem->hO,isEmpty_iff->eY,map_cons->av,map_nil->aO,map_replicate->eu,mem_append->aW,mem_cons->az,mem_filter->iQ,mem_flatMap->bH,mem_map->aV,mem_map_of_mem->jK,mem_of_getElem?->bi,replicate->af
open Nat renaming add_zero->dp
open Ne renaming symm->dQ
open Option renaming isNone_iff_eq_none->fG,map_eq_some_iff->ab,map_none->aS,map_some->aj
open Option.some renaming injEq->aa
open Prod.mk renaming injEq->aq
namespace Dv

section
variable{E:Env}

def wp(E:Env)(c:DC)(st:St)(Q:Ex->St->Prop):Prop:=∃ ex st',dL E c st=some (ex,st')/\Q ex st'

def wpR(E:Env)(os:List y12)(st:St)(Q:St->Prop):Prop:=∃ st',ye E (y1i E (dL E)) (y16 E (dL E)) (y2w (dL E)) os st=some st'/\Q st'

theorem zem{c:DC}{st:St}{Q Q':Ex->St->Prop}(h:wp E c st Q)(hq:∀ ex st',Q ex st'->Q' ex st'):wp E c st Q':=by
 obtain⟨ex,st',h1,h2⟩:=h
 exact⟨ex,st',h1,hq _ _ h2⟩

theorem zrn{st:St}{Q}:wp E .skip st Q ↔ Q .normal st:=by
 constructor
 ·rintro⟨ex,st',h1,h2⟩
  rw[z9v] at h1;simp at h1;obtain⟨rfl,rfl⟩:=h1;exact h2
 ·intro h;exact⟨_,_,z9v,h⟩
theorem zub{st:St}{Q}:wp E .ret st Q ↔ Q .ret st:=by
 constructor
 ·rintro⟨ex,st',h1,h2⟩
  rw[z5h] at h1;simp at h1;obtain⟨rfl,rfl⟩:=h1;exact h2
 ·intro h;exact⟨_,_,z5h,h⟩
theorem zrp{id:Nat}{st:St}{Q}:wp E (.exit id) st Q ↔ Q (.exit id) st:=by
 constructor
 ·rintro⟨ex,st',h1,h2⟩
  rw[zmu] at h1;simp at h1;obtain⟨rfl,rfl⟩:=h1;exact h2
 ·intro h;exact⟨_,_,zmu,h⟩

theorem zua{a b:DC}{st:St}{Q}:wp E (.seq a b) st Q ↔ wp E a st (fun ex st'=>match ex with | .normal=>wp E b st' Q | ex=>Q ex st'):=by
 constructor
 ·rintro⟨ex,st',h1,h2⟩
  rw[z7y] at h1
  split at h1
  ·rename_i st1 ha
   exact⟨_,_,ha,ex,st',h1,h2⟩
  ·rename_i r hne
   refine⟨_,_,h1,?_⟩
   cases ex with
   |normal=>exact absurd h1 (hne st')
   |exit id=>exact h2
   |ret=>exact h2
 ·rintro⟨ex,st',h1,h2⟩
  cases ex with
  |normal=>
   obtain⟨ex2,st2,h3,h4⟩:=h2
   exact⟨ex2,st2,by rw[z7y,h1];exact h3,h4⟩
  |exit id=>exact⟨_,_,by rw[z7y,h1],h2⟩
  |ret=>exact⟨_,_,by rw[z7y,h1],h2⟩

theorem zrq{c:Opd}{x y:DC}{st:St}{Q}{b:Bool}(h:ym st.sl c=.bool b):wp E (.cond c x y) st Q ↔ (b=true->wp E x st Q)/\(b=false->wp E y st Q):=by
 unfold wp
 rw[z4t,h]
 cases b <;> simp

theorem zqo{c:Opd}{x y:DC}{st:St}{Q}:wp E (.ifp c x y) st Q ↔ if yp (ym st.sl c)=true then wp E x st Q else wp E y st Q:=by
 unfold wp
 rw[ze9]
 split <;> exact Iff.rfl

theorem znu{id:Nat}{a:DC}{st:St}{Q}:wp E (.block id a) st Q ↔ wp E a st (fun ex st'=>match ex with | .exit i=>Q (if i=id then .normal else .exit i) st' | ex=>Q ex st'):=by
 constructor
 ·rintro⟨ex,st',h1,h2⟩
  rw[z8e] at h1
  cases ha:dL E a st with
  |none=>rw[ha] at h1;simp at h1
  |some r=>
   obtain⟨ex1,st1⟩:=r
   rw[ha] at h1
   refine⟨ex1,st1,ha,?_⟩
   cases ex1 with
   |normal=>simp at h1;obtain⟨rfl,rfl⟩:=h1;exact h2
   |ret=>simp at h1;obtain⟨rfl,rfl⟩:=h1;exact h2
   |exit i=>simp at h1;obtain⟨rfl,rfl⟩:=h1;exact h2
 ·rintro⟨ex,st',h1,h2⟩
  cases ex with
  |normal=>exact⟨_,_,by rw[z8e,h1],h2⟩
  |ret=>exact⟨_,_,by rw[z8e,h1],h2⟩
  |exit i=>exact⟨_,_,by rw[z8e,h1],h2⟩

theorem zk9{ap:List (Nat × Nat)}{ops:List y12}{st:St}{Q}:wp E (.region false ap ops) st Q ↔ wpR E ops st (Q .normal):=by
 unfold wp wpR
 rw[z4s]
 constructor
 ·rintro⟨ex,st',h1,h2⟩
  simp only[ab,aq] at h1
  obtain⟨st1,h3,rfl,rfl⟩:=h1
  exact⟨_,h3,h2⟩
 ·rintro⟨st',h1,h2⟩
  exact⟨_,_,by rw[h1];rfl,h2⟩

theorem zro{b:DC}{Q:Ex->St->Prop}(I:Nat->St->Prop)
  (step:∀ k st,I k st->wp E b st (fun ex st'=>match ex with | .normal=>∃ k',k'<k/\I k' st' | ex=>Q ex st')):∀(k:Nat) (st:St),I k st->wp E (.loop b) st Q:=by
 intro k
 induction k using Nat.strongRecOn with
 |_ k ih=>
  intro st hI
  obtain⟨ex,st',h1,h2⟩:=step k st hI
  cases ex with
  |normal=>
   obtain⟨k',hk,hI'⟩:=h2
   obtain⟨ex2,st2,h3,h4⟩:=ih k' hk st' hI'
   exact⟨ex2,st2,by rw[zfu,h1];exact h3,h4⟩
  |exit i=>exact⟨_,_,by rw[zfu,h1],h2⟩
  |ret=>exact⟨_,_,by rw[zfu,h1],h2⟩

end
end Dv

namespace Dv

mutual
inductive Xp where
 |v (i:Nat)
 |c (d:D)
 |n (op:DOp) (ks:Xs)
 |ite (c a b:Xp)
inductive Xs where
 |nil
 |cons (s:Nat) (x:Xp) (r:Xs)
end

def kv(n:Nat):List (Nat × D)->D
 |[]=>.undef
 |p::r=>if n=p.1 then p.2 else kv n r

def gOf(vs:List (Nat × D)):Opd->D
 |.t n=>kv n vs
 |.c d=>d
 |.f k=>.fn k []

mutual
def xv(E:Env)(cP:Nat->List D->Option D)(env:List D)(hp:List Obj):Xp->Option D
 |.v i=>env[i]?
 |.c d=>some d
 |.n op ks=>(match xvs E cP env hp ks with
  |some vs=>(match yb E cP 0 (gOf vs) hp op with
   |some e=>some e.d
   |none=>none)
  |none=>none)
 |.ite c a b=>(match xv E cP env hp c with
  |some (.bool true)=>xv E cP env hp a
  |some (.bool false)=>xv E cP env hp b
  |_=>none)
def xvs(E:Env)(cP:Nat->List D->Option D)(env:List D)(hp:List Obj):Xs->Option (List (Nat × D))
 |.nil=>some []
 |.cons s x r=>(match xv E cP env hp x,xvs E cP env hp r with
  |some d,some l=>some ((s,d)::l)
  |_,_=>none)
end

def vop(op:DOp):Bool:=y18 op || (match op with
 |.load _ _=>true
 |.lookup _ _ _ _=>true
 |.len _ _=>true
 |_=>false)

mutual
def y59(i:Option Nat)(h:Bool):Xp->Bool
 |.v j=>!(i == some j)
 |.c _=>true
 |.n op ks=>(!h || y18 op) && y74 i h ks
 |.ite c a b=>y59 i h c && y59 i h a && y59 i h b
def y74(i:Option Nat)(h:Bool):Xs->Bool
 |.nil=>true
 |.cons _ x r=>y59 i h x && y74 i h r
end

inductive TS where
 |asg (i:Nat) (x:Xp)
 |eff (gd:Option (Xp × Bool)) (dst:Option Nat) (op:DOp) (ks:Xs) (k:Option Nat)

inductive TC where
 |skip
 |ret
 |exit (id:Nat)
 |run (pad:Nat) (l:List TS)
 |seq (a b:TC)
 |cond (i:Nat) (a b:TC)
 |ifp (i:Nat) (a b:TC)
 |dead
 |block (id:Nat) (a:TC)
 |loop (a:TC)
 |rfunc (i:Nat) (ps:List Nat) (a b:TC)
 |chk (l:List (Nat × Nat))


def gdT(E:Env)(cP:Nat->List D->Option D)(env:List D)(hp:List Obj):Option (Xp × Bool)->Option Bool
 |none=>some true
 |some (x,b)=>(match xv E cP env hp x with
  |some (.bool c)=>some (c == b)
  |some _=>some false
  |none=>none)

def y7w(env:List D):Option Nat->D->List D
 |none,_=>env
 |some i,d=>env.set i d

def rTS(E:Env)(cP:Nat->List D->Option D)(cS cY:Nat->List D->List Obj->Option (D × List Obj))(base:Nat):List TS->List D->List Obj->Option (List D × List Obj)
 |[],env,hp=>some (env,hp)
 |.asg i x::r,env,hp=>(match xv E cP env hp x with
  |some d=>rTS E cP cS cY base r (env.set i d) hp
  |none=>none)
 |.eff gd dst op ks k::r,env,hp=>(match gdT E cP env hp gd with
  |some true=>(match xvs E cP env hp ks with
   |some vs=>(match yd E cP cS cY (match k with | some k=>base+k | none=>hp.length) (gOf vs) hp op with
    |some (d,hp')=>rTS E cP cS cY base r (y7w env dst d) hp'
    |none=>none)
   |none=>none)
  |some false=>rTS E cP cS cY base r (y7w env dst .undef) hp
  |none=>none)

noncomputable def rTL(E:Env):Nat->List TS->List D->List Obj->Option (List D × List Obj):=rTS E (y1i E (dL E)) (y16 E (dL E)) (y2w (dL E))

def ybd(env:List D)(p:Nat × Nat):Bool:=match env[p.1]?,env[p.2]? with
 |some a,some b=>y6i (did a) (did b)
 |_,_=>false
def yar(env:List D)(l:List (Nat × Nat)):Bool:=l.all (ybd env)

def yag(L:Bool->Option Ex->Obj):Prop:=∃ sl ps asg body,L=fun b p=>.loop b sl ps asg body p

def wT(E:Env):TC->(Ex->List D->List Obj->Prop)->List D->List Obj->Prop
 |.skip,Q,env,hp=>Q .normal env hp
 |.ret,Q,env,hp=>Q .ret env hp
 |.exit id,Q,env,hp=>Q (.exit id) env hp
 |.run pad l,Q,env,hp=>(match rTL E hp.length l env (hp++af pad .dead) with
  |some (env',hp')=>Q .normal env' hp'
  |none=>False)
 |.chk l,Q,env,hp=>yar env l=true/\Q .normal env hp
 |.seq a b,Q,env,hp=>wT E a (fun ex env' hp'=>match ex with
  |.normal=>wT E b Q env' hp'
  |ex=>Q ex env' hp') env hp
 |.cond i a b,Q,env,hp=>(match env[i]? with
  |some (.bool t)=>if t=true then wT E a Q env hp else wT E b Q env hp
  |_=>False)
 |.ifp i a b,Q,env,hp=>(match env[i]? with
  |some d=>if yp d=true then wT E a Q env hp else wT E b Q env hp
  |none=>False)
 |.dead,_,_,_=>False
 |.block id a,Q,env,hp=>wT E a (fun ex env' hp'=>match ex with
  |.exit i=>Q (if i=id then .normal else .exit i) env' hp'
  |ex=>Q ex env' hp') env hp
 |.loop a,Q,env,hp=>∃(I:Nat->List D->List Obj->Prop) (k:Nat),I k env hp /\ ∀ k env hp,I k env hp->wT E a (fun ex env' hp'=>match ex with
  |.normal=>∃ k',k'<k/\I k' env' hp'
  |ex=>Q ex env' hp') env hp
 |.rfunc i ps a b,Q,env,hp=>∃ k caps,(env[i]?).map (y4z E)=some (.fn k caps) /\ ∀(L:Bool->Option Ex->Obj),yag L ->
  (∀(args:List D) (hp1:List Obj) (K:Bool->List Obj->Prop),args.length=ps.length->hp1[hp.length]? = some (L false none) ->
   wT E a (fun ex env1 hp2=>ex=.normal/\hp2[hp.length]? = some (L false none) /\
    wT E b (fun ex _ hp3=>hp3[hp.length]? = some (L true none)/\(match ex with
     |.normal=>K true (hp3.set hp.length (L false none))
     |ex=>K false (hp3.set hp.length (L false (some ex))))) env1 (hp2.set hp.length (L true none))) (y27 env ps args) hp1 ->
   ∃ t hp2,y2w (dL E) hp.length args hp1=some (.bool t,hp2)/\K t hp2) ->
  ∃ d hp',y16 E (dL E) k (.yld hp.length::caps) (hp++[L false none])=some (d,hp') /\
   ((hp'[hp.length]? = some (L false none)/\Q .normal env (hp'.set hp.length .dead)) \/ ∃ ex,hp'[hp.length]? = some (L false (some ex))/\Q ex env (hp'.set hp.length .dead))


structure SV where
 g:List (Nat × Bool)
 x:Xp

abbrev Ab:=Nat->Option SV

def ybx(a b:List (Nat × Bool)):Bool:=a.all b.contains

def y7l(A:Ab)(G:List (Nat × Bool)):Opd->Option Xp
 |.c d=>some (.c d)
 |.f k=>some (.c (.fn k []))
 |.t s=>(match A s with
  |some sv=>if ybx sv.g G then some sv.x else none
  |none=>none)

def y4i(A:Ab)(G:List (Nat × Bool)):List Opd->Option Xs
 |[]=>some .nil
 |.t s::r=>(match y7l A G (.t s),y4i A G r with
  |some x,some ks=>some (.cons s x ks)
  |_,_=>none)
 |_::r=>y4i A G r

def y7h(A:Ab)(G:List (Nat × Bool))(op:DOp):Option Xp:=
 match op with
 |.move x=>y7l A G x
 |.assign x=>y7l A G x
 |.pick (.t c) a b=>(match y7l A G (.t c),y7l A ((c,true)::G) a,y7l A ((c,false)::G) b with
  |some x,some y,some z=>some (.ite x y z)
  |_,_,_=>none)
 |op=>if vop op then(match y4i A G (yv op) with
  |some ks=>some (.n op ks)
  |none=>none) else none

def y90:Opd->List Nat
 |.t s=>[s]
 |_=>[]

def y5e(G:List (Nat × Bool))(op:DOp):List (Nat × List (Nat × Bool)):=
 match op with
 |.move x=>(y90 x).map fun s=>(s,G)
 |.assign x=>(y90 x).map fun s=>(s,G)
 |.pick (.t c) a b=>(c,G)::((y90 a).map fun s=>(s,(c,true)::G))++((y90 b).map fun s=>(s,(c,false)::G))
 |op=>(yv op).flatMap fun o=>(y90 o).map fun s=>(s,G)

def y85(G:List (Nat × Bool))(op:DOp):List (Nat × List (Nat × Bool)):=(yv op).flatMap fun o=>(y90 o).map fun s=>(s,G)

def y8a:DOp->Bool
 |.move _=>true
 |.assign _=>true
 |_=>false

def y6g(A:Ab)(i:Option Nat)(h:Bool):Ab:=fun s=>match A s with
 |some sv=>if sv.g.isEmpty && y59 i h sv.x then some sv else none
 |none=>none

def y68(A:Ab)(s:Nat)(sv:SV):Ab:=fun n=>if n=s then some sv else A n

def y9f(nm:List Nat)(A:Ab):Option Nat->Ab
 |none=>A
 |some d=>y68 A d ⟨[],.v (nm.idxOf d)⟩

def y78(A:Ab)(i:Option Nat)(h:Bool)(dst:Option Nat)(dm:List (Nat × List (Nat × Bool))):List (Nat × List (Nat × Bool)):=
 dm.filter fun p=>p.2.isEmpty && !(dst == some p.1) && (y6g A i h p.1).isSome

def gdX(A:Ab):Option (Nat × Bool)->Option (Option (Xp × Bool))
 |none=>some none
 |some (j,b)=>(match y7l A [] (.t j) with
  |some x=>some (some (x,b))
  |none=>none)

def y4y(A:Ab):Option (Nat × Bool)->Option (List (Nat × Bool))
 |none=>some []
 |some (j,b)=>(match A j with
  |some sv=>some ((j,b)::sv.g)
  |none=>none)

def y92(nm:List Nat)(N:Nat):Option Nat->Bool
 |none=>true
 |some d=>nm.contains d && decide (d<N)

def y8u(nm:List Nat)(N:Nat)(dr:Bool):Nat->List y12->Ab->Option (List TS × List (Nat × List (Nat × Bool)))
 |_,[],_=>some ([],[])
 |pos,o::os,A=>
  if vop o.op then
   (match o.dst,y4y A o.gd with
   |some d,some G=>(match y7h A G o.op with
    |some x=>
     if nm.contains d then
      (if G.isEmpty && decide (d<N) then
       (match y8u nm N dr (pos+1) os (y9f nm (y6g A (some (nm.idxOf d)) false) (some d)) with
       |some (ts,dm)=>some (.asg (nm.idxOf d) x::ts,y5e [] o.op++y78 A (some (nm.idxOf d)) false (some d) dm)
       |none=>none) else none)
     else
      (if(A d).isNone && decide (d<N) then
       (match y8u nm N dr (pos+1) os (y68 A d ⟨G,x⟩) with
       |some (ts,dm)=>
        if dm.any (fun p=>p.1 == d && ybx p.2 G) then some (ts,y5e G o.op++dm.filter fun p=>!(p.1 == d))
        else if y8a o.op then some (ts,dm.filter fun p=>!(p.1 == d)) else none
       |none=>none) else none)
    |none=>none)
   |_,_=>none)
  else
   (if y92 nm N o.dst then
    (match gdX A o.gd,y4i A o.gd.toList (yv o.op) with
    |some gd,some ks=>(match y8u nm N dr (pos+1) os (y9f nm (y6g A (o.dst.map nm.idxOf) true) o.dst) with
     |some (ts,dm)=>some (.eff gd (o.dst.map nm.idxOf) o.op ks (if dr then some pos else none)::ts,
       y85 o.gd.toList o.op++y78 A (o.dst.map nm.idxOf) true o.dst dm)
     |none=>none)
    |_,_=>none) else none)

def y83(nm:List Nat):Ab:=fun s=>if nm.contains s then some ⟨[],.v (nm.idxOf s)⟩ else none

def y91(nm:List Nat):Opd->Option (Option Nat)
 |.t s=>if nm.contains s then some (some (nm.idxOf s)) else none
 |.c d=>if(did d).isNone then some none else none
 |.f _=>some none

def y8z(nm:List Nat)(x y:Opd):Option (List (Nat × Nat)):=match y91 nm x,y91 nm y with
 |some (some i),some (some j)=>some [(i,j)]
 |some (some _),some none=>some []
 |some none,some _=>some []
 |_,_=>none

def y89{A:Type}:List (Option (List A))->Option (List A)
 |[]=>some []
 |x::r=>(match x,y89 r with
  |some a,some b=>some (a++b)
  |_,_=>none)

def apX1(nm:List Nat)(a b:Option y12):Option (List (Nat × Nat)):=match a,b with
 |some a,some b=>y89 ((y1b a.op).flatMap fun x=>(y1b b.op).map fun y=>y8z nm x y)
 |_,_=>none

def apX(nm:List Nat)(ops:List y12)(ap:List (Nat × Nat)):Option (List (Nat × Nat)):=y89 (ap.map fun p=>apX1 nm ops[p.1]? ops[p.2]?)

def y29(nm:List Nat)(N:Nat):DC->Option TC
 |.skip=>some .skip
 |.ret=>some .ret
 |.exit id=>some (.exit id)
 |.region dr ap ops=>(match y8u nm N dr 0 ops (y83 nm) with
  |some (ts,_)=>if dr && !ap.isEmpty then(match apX nm ops ap with
    |some l=>some (.seq (.run ops.length ts) (.chk l))
    |none=>none)
   else some (.run (if dr then ops.length else 0) ts)
  |none=>none)
 |.seq a b=>(match y29 nm N a,y29 nm N b with
  |some x,some y=>some (.seq x y)
  |_,_=>none)
 |.cond (.t k) a b=>if nm.contains k then(match y29 nm N a,y29 nm N b with
  |some x,some y=>some (.cond (nm.idxOf k) x y)
  |_,_=>none) else none
 |.cond (.c .undef) _ _=>some .dead
 |.ifp (.t k) a b=>if nm.contains k then(match y29 nm N a,y29 nm N b with
  |some x,some y=>some (.ifp (nm.idxOf k) x y)
  |_,_=>none) else none
 |.block id a=>(match y29 nm N a with
  |some x=>some (.block id x)
  |none=>none)
 |.loop a=>(match y29 nm N a with
  |some x=>some (.loop x)
  |none=>none)
 |.rfunc (.t f) ps a b=>if nm.contains f && ps.all (fun p=>nm.contains p && decide (p<N)) then(match y29 nm N a,y29 nm N b with
  |some x,some y=>some (.rfunc (nm.idxOf f) (ps.map nm.idxOf) x y)
  |_,_=>none) else none
 |_=>none

end Dv

namespace Dv

section
variable{E:Env}{cP:Nat->List D->Option D}{cS cY:Nat->List D->List Obj->Option (D × List Obj)}{env env':List D}{hp hp':List Obj}{A:Ab}{N:Nat}{nm:List Nat}{sl:List D}

theorem zrz{op:DOp}(h:vop op=true):op.fin=false:=by
 unfold vop at h
 rw[bS] at h
 rcases h with h | h
 ·exact z6k h
 ·cases op <;> first | rfl | simp at h

theorem zug{op:DOp}{id id':Nat}{g:Opd->D}(h:vop op=true):yb E cP id g hp op=yb E cP id' g hp op:=by
 unfold vop at h
 rw[bS] at h
 rcases h with h | h
 ·exact z73 h
 ·cases op <;> first | rfl | simp at h

theorem znw{op:DOp}{id:Nat}{g:Opd->D}{e:Ef}(h:vop op=true)(hp:yb E cP id g hp op=some e):e.new=none/\e.kill=none:=by
 unfold vop at h
 rw[bS] at h
 rcases h with h | h
 ·exact z74 h hp
 ·cases op <;> first
   |(simp at h;done)
   |(simp only[yb,ab] at hp;obtain⟨_,_,rfl⟩:=hp;exact⟨rfl,rfl⟩)

theorem zg7{op:DOp}{id:Nat}{g:Opd->D}{e:Ef}(h:vop op=true)(he:yb E cP id g hp op=some e):yd E cP cS cY id g hp op=some (e.d,hp):=by
 obtain⟨h1,h2⟩:=znw h he
 unfold yd
 rw[zrz h]
 simp only[he,aj,yg,h1,h2]

mutual
theorem z2s{i:Option Nat}{h:Bool}(hh:h=false->hp'=hp)(he:∀ j,some j ≠ i->env'[j]? = env[j]?):∀(x:Xp),y59 i h x=true->xv E cP env' hp' x=xv E cP env hp x
 |.v j,hk=>by
  simp only[y59,bN,beq_eq_false_iff_ne] at hk
  simp only[xv]
  exact he j (fun e=>hk e.symm)
 |.c d,_=>by simp only[xv]
 |.n op ks,hk=>by
  simp only[y59,ao,bS,bN] at hk
  simp only[xv,z8j hh he ks hk.2]
  rcases hk.1 with h1 | h1
  ·rw[hh h1]
  ·simp only[z73 (hp:=hp') (hp':=hp) (id':=0) h1]
 |.ite c a b,hk=>by
  simp only[y59,ao] at hk
  simp only[xv,z2s hh he c hk.1.1,z2s hh he a hk.1.2,z2s hh he b hk.2]
theorem z8j{i:Option Nat}{h:Bool}(hh:h=false->hp'=hp)(he:∀ j,some j ≠ i->env'[j]? = env[j]?):∀(ks:Xs),y74 i h ks=true->xvs E cP env' hp' ks=xvs E cP env hp ks
 |.nil,_=>by simp only[xvs]
 |.cons s x r,hk=>by
  simp only[y74,ao] at hk
  simp only[xvs,z2s hh he x hk.1,z8j hh he r hk.2]
end

def gok(E:Env)(cP:Nat->List D->Option D)(env:List D)(hp:List Obj)(A:Ab)(G:List (Nat × Bool)):Prop:=
 ∀ p,p ∈ G->∃ sv,A p.1=some sv/\xv E cP env hp sv.x=some (.bool p.2)

theorem z37:gok E cP env hp A []:=fun p hp=>by cases hp

theorem zfm{g G:List (Nat × Bool)}(h:ybx g G=true)(hG:gok E cP env hp A G):gok E cP env hp A g:=fun p hp=>
 hG p (by simpa using aC.1 h p hp)

theorem z2q{p:Nat × Bool}{G:List (Nat × Bool)}:gok E cP env hp A (p::G) ↔ (∃ sv,A p.1=some sv/\xv E cP env hp sv.x=some (.bool p.2))/\gok E cP env hp A G:=by
 constructor
 ·exact fun h=>⟨h p (by simp),fun q hq=>h q (by simp[hq])⟩
 ·rintro⟨h1,h2⟩ q hq
  rcases az.1 hq with rfl | hq
  ·exact h1
  ·exact h2 q hq

structure y7s(E:Env)(cP:Nat->List D->Option D)(A:Ab)(N:Nat)(env:List D)(hp:List Obj)(sl:List D):Prop where
 len:sl.length=N
 ok:∀ s sv,A s=some sv->s<N/\(gok E cP env hp A sv.g->xv E cP env hp sv.x=some (sl.getD s .undef))/\(¬ gok E cP env hp A sv.g->sl.getD s .undef=.undef)
 cl:∀ s sv,A s=some sv->∀ p,p ∈ sv.g->A p.1 ≠ none

theorem z6a(R:y7s E cP A N env hp sl){G:List (Nat × Bool)}{o:Opd}{x:Xp}(h:y7l A G o=some x)(hG:gok E cP env hp A G):xv E cP env hp x=some (ym sl o):=by
 cases o with
 |c d=>simp only[y7l,aa] at h;subst h;simp only[xv,ym]
 |f k=>simp only[y7l,aa] at h;subst h;simp only[xv,ym]
 |t s=>
  simp only[y7l] at h
  split at h
  ·rename_i sv hs
   split at h
   ·rename_i hg
    simp only[aa] at h;subst h
    exact(R.ok s sv hs).2.1 (zfm hg hG)
   ·cases h
  ·cases h

theorem zby{G:List (Nat × Bool)}{s:Nat}{x:Xp}(h:y7l A G (.t s)=some x):∃ sv,A s=some sv/\sv.x=x/\ybx sv.g G=true:=by
 simp only[y7l] at h
 split at h
 ·rename_i sv hs
  split at h
  ·rename_i hg
   simp only[aa] at h
   exact⟨sv,hs,h,hg⟩
  ·cases h
 ·cases h

theorem ye2{vs:List (Nat × D)}{f:Nat->D}(h:∀ p,p ∈ vs->p.2=f p.1){s:Nat}(hs:s ∈ vs.map (·.1)):kv s vs=f s:=by
 induction vs with
 |nil=>cases hs
 |cons p r ih=>
  simp only[kv]
  by_cases e:s=p.1
  ·rw[if_pos e,h p (by simp),e]
  ·rw[if_neg e]
   refine ih (fun q hq=>h q (by simp[hq])) ?_
   simp only[av,az] at hs
   exact hs.resolve_left e

theorem z9e(R:y7s E cP A N env hp sl){G:List (Nat × Bool)}(hG:gok E cP env hp A G):∀{os:List Opd} {ks:Xs},y4i A G os=some ks ->
  ∃ vs,xvs E cP env hp ks=some vs/\(∀ p,p ∈ vs->p.2=sl.getD p.1 .undef) /\ ∀ s,.t s ∈ os->s ∈ vs.map (·.1)
 |[],ks,h=>by
  simp only[y4i,aa] at h;subst h
  exact⟨[],by simp only[xvs],(fun p hq=>by cases hq),(fun s hs=>by cases hs)⟩
 |.t s::r,ks,h=>by
  simp only[y4i] at h
  split at h
  ·rename_i x k h1 h2
   simp only[aa] at h;subst h
   obtain⟨vs,e1,e2,e3⟩:=z9e R hG h2
   refine⟨(s,sl.getD s .undef)::vs,by simp only[xvs,z6a R h1 hG,e1,ym],?_,?_⟩
   ·intro p hq
    rcases az.1 hq with rfl | hq
    ·rfl
    ·exact e2 p hq
   ·intro s' hs'
    rcases az.1 hs' with e | hs'
    ·simp only[Opd.t.injEq] at e;subst e;simp
    ·exact List.mem_cons_of_mem _ (e3 s' hs')
  ·cases h
 |.c d::r,ks,h=>by
  simp only[y4i] at h
  obtain⟨vs,e1,e2,e3⟩:=z9e R hG h
  exact⟨vs,e1,e2,fun s hs=>by
   rcases az.1 hs with e | hs
   ·cases e
   ·exact e3 s hs⟩
 |.f k::r,ks,h=>by
  simp only[y4i] at h
  obtain⟨vs,e1,e2,e3⟩:=z9e R hG h
  exact⟨vs,e1,e2,fun s hs=>by
   rcases az.1 hs with e | hs
   ·cases e
   ·exact e3 s hs⟩

theorem zr4{vs:List (Nat × D)}{os:List Opd}(h:∀ p,p ∈ vs->p.2=sl.getD p.1 .undef)(h':∀ s,.t s ∈ os->s ∈ vs.map (·.1)):∀ o,o ∈ os->gOf vs o=ym sl o:=by
 intro o ho
 cases o with
 |c d=>rfl
 |f k=>rfl
 |t s=>
  unfold gOf ym
  simp only
  exact ye2 (f:=fun s=>sl.getD s .undef) h (h' s ho)

theorem z4o{G:List (Nat × Bool)}:∀{os:List Opd} {ks:Xs} {vs:List (Nat × D)},y4i A G os=some ks->xvs E cP env hp ks=some vs->∀ s,.t s ∈ os->∃ sv,A s=some sv /\ ∃ d,xv E cP env hp sv.x=some d
 |[],ks,vs,h,hv,s,hs=>by cases hs
 |.t s'::r,ks,vs,h,hv,s,hs=>by
  simp only[y4i] at h
  split at h
  ·rename_i x k h1 h2
   simp only[aa] at h;subst h
   simp only[xvs] at hv
   split at hv
   ·rename_i d l e1 e2
    rcases az.1 hs with e | hs
    ·simp only[Opd.t.injEq] at e;subst e
     obtain⟨sv,g1,g2,_⟩:=zby h1
     exact⟨sv,g1,d,by rw[g2];exact e1⟩
    ·exact z4o h2 e2 s hs
   ·cases hv
  ·cases h
 |.c d::r,ks,vs,h,hv,s,hs=>by
  simp only[y4i] at h
  rcases az.1 hs with e | hs
  ·cases e
  ·exact z4o h hv s hs
 |.f d::r,ks,vs,h,hv,s,hs=>by
  simp only[y4i] at h
  rcases az.1 hs with e | hs
  ·cases e
  ·exact z4o h hv s hs

theorem zqr(R:y7s E cP A N env hp sl){G:List (Nat × Bool)}{op:DOp}{x:Xp}{d:D}{id:Nat}(h:y7h A G op=some x)(hG:gok E cP env hp A G)(hx:xv E cP env hp x=some d) :
  ∃ e,yb E cP id (ym sl) hp op=some e/\e.d=d:=by
 unfold y7h at h
 split at h
 ·rw[z6a R h hG] at hx
  exact⟨_,rfl,by simpa using hx⟩
 ·rw[z6a R h hG] at hx
  exact⟨_,rfl,by simpa using hx⟩
 ·rename_i c a b
  split at h
  ·rename_i xc xa xb h1 h2 h3
   simp only[aa] at h;subst h
   have e1:=z6a R h1 hG
   obtain⟨sv,g1,g2,_⟩:=zby h1
   simp only[xv,e1] at hx
   split at hx
   ·rename_i hb
    simp only[aa] at hb
    have hG':gok E cP env hp A ((c,true)::G):=z2q.2 ⟨⟨sv,g1,by rw[g2,e1,hb]⟩,hG⟩
    rw[z6a R h2 hG'] at hx
    exact⟨⟨ym sl a,none,none⟩,by simp only[yb,hb,if_true],by simpa using hx⟩
   ·rename_i hb
    simp only[aa] at hb
    have hG':gok E cP env hp A ((c,false)::G):=z2q.2 ⟨⟨sv,g1,by rw[g2,e1,hb]⟩,hG⟩
    rw[z6a R h3 hG'] at hx
    exact⟨⟨ym sl b,none,none⟩,by simp only[yb,hb,aM,if_false],by simpa using hx⟩
   ·cases hx
  ·cases h
 ·split at h
  ·rename_i hv
   split at h
   ·rename_i ks hk
    simp only[aa] at h;subst h
    obtain⟨vs,e1,e2,e3⟩:=z9e R hG hk
    simp only[xv,e1] at hx
    split at hx
    ·rename_i e he
     rw[z3c (zr4 e2 e3)] at he
     rw[zug hv] at he
     exact⟨e,he,by simpa using hx⟩
    ·cases hx
   ·cases h
  ·cases h

theorem z52{o:Opd}{s:Nat}:s ∈ y90 o ↔ o=.t s:=by
 cases o <;> simp[y90,eq_comm]

theorem zgi{G:List (Nat × Bool)}{op:DOp}{x:Xp}{d:D}(h:y7h A G op=some x)(hx:xv E cP env hp x=some d) :
  ∀ p,p ∈ y5e G op->gok E cP env hp A p.2->∀ sv,A p.1=some sv->∃ d,xv E cP env hp sv.x=some d:=by
 intro p hm hg sv hs
 unfold y7h at h
 split at h
 ·simp only[y5e,aV] at hm
  obtain⟨s,h1,rfl⟩:=hm
  rw[z52] at h1;subst h1
  obtain⟨sv',g1,g2,_⟩:=zby h
  rw[hs] at g1;simp only[aa] at g1;subst g1
  exact⟨d,by rw[g2];exact hx⟩
 ·simp only[y5e,aV] at hm
  obtain⟨s,h1,rfl⟩:=hm
  rw[z52] at h1;subst h1
  obtain⟨sv',g1,g2,_⟩:=zby h
  rw[hs] at g1;simp only[aa] at g1;subst g1
  exact⟨d,by rw[g2];exact hx⟩
 ·rename_i c a b
  split at h
  ·rename_i xc xa xb h1 h2 h3
   simp only[aa] at h;subst h
   simp only[y5e,aW,az,aV] at hm
   obtain⟨svc,g1,g2,_⟩:=zby h1
   simp only[xv] at hx
   have hc:∃ t,xv E cP env hp xc=some (.bool t):=by
    split at hx
    ·exact⟨_,by assumption⟩
    ·exact⟨_,by assumption⟩
    ·cases hx
   obtain⟨t,ht⟩:=hc
   rcases hm with(rfl | ⟨s,hs',rfl⟩) | ⟨s,hs',rfl⟩
   ·rw[hs] at g1;simp only[aa] at g1;subst g1
    exact⟨_,by rw[g2];exact ht⟩
   ·rw[z52] at hs';subst hs'
    obtain⟨sva,q1,q2,_⟩:=zby h2
    rw[hs] at q1;simp only[aa] at q1;subst q1
    obtain⟨⟨sv2,r1,r2⟩,_⟩:=z2q.1 hg
    simp only at r1 r2
    rw[g1] at r1;simp only[aa] at r1;subst r1
    rw[g2,ht] at r2
    simp only[aa,D.bool.injEq] at r2;subst r2
    rw[ht] at hx
    exact⟨d,by rw[q2];exact hx⟩
   ·rw[z52] at hs';subst hs'
    obtain⟨sva,q1,q2,_⟩:=zby h3
    rw[hs] at q1;simp only[aa] at q1;subst q1
    obtain⟨⟨sv2,r1,r2⟩,_⟩:=z2q.1 hg
    simp only at r1 r2
    rw[g1] at r1;simp only[aa] at r1;subst r1
    rw[g2,ht] at r2
    simp only[aa,D.bool.injEq] at r2;subst r2
    rw[ht] at hx
    exact⟨d,by rw[q2];exact hx⟩
  ·cases h
 ·rename_i hm1 hm2 hm3
  split at h
  ·rename_i hv
   split at h
   ·rename_i ks hk
    simp only[aa] at h;subst h
    have hn:y5e G op=(yv op).flatMap fun o=>(y90 o).map fun s=>(s,G):=by
     unfold y5e
     split
     ·exact absurd rfl (hm1 _)
     ·exact absurd rfl (hm2 _)
     ·exact absurd rfl (hm3 _ _ _)
     ·rfl
    rw[hn] at hm
    simp only[bH,aV] at hm
    obtain⟨o,h1,s,h2,rfl⟩:=hm
    rw[z52] at h2;subst h2
    simp only[xv] at hx
    split at hx
    ·rename_i vs e1
     obtain⟨sv',q1,q2⟩:=z4o hk e1 s h1
     rw[hs] at q1;simp only[aa] at q1;subst q1
     exact q2
    ·cases hx
   ·cases h
  ·cases h

theorem zss{G:List (Nat × Bool)}{op:DOp}:∀ p,p ∈ y5e G op->gok E cP env hp A p.2->gok E cP env hp A G:=by
 intro p hm hg
 unfold y5e at hm
 split at hm
 ·simp only[aV] at hm
  obtain⟨s,_,rfl⟩:=hm;exact hg
 ·simp only[aV] at hm
  obtain⟨s,_,rfl⟩:=hm;exact hg
 ·simp only[aW,az,aV] at hm
  rcases hm with(rfl | ⟨s,_,rfl⟩) | ⟨s,_,rfl⟩
  ·exact hg
  ·exact(z2q.1 hg).2
  ·exact(z2q.1 hg).2
 ·simp only[bH,aV] at hm
  obtain⟨o,_,s,_,rfl⟩:=hm;exact hg

def Dem(E:Env)(cP:Nat->List D->Option D)(env:List D)(hp:List Obj)(A:Ab)(dm:List (Nat × List (Nat × Bool))):Prop:=
 ∀ p,p ∈ dm->gok E cP env hp A p.2->∀ sv,A p.1=some sv->∃ d,xv E cP env hp sv.x=some d

theorem zb0{i:Option Nat}{h:Bool}{s:Nat}{sv:SV}(hk:y6g A i h s=some sv):A s=some sv/\sv.g=[]/\y59 i h sv.x=true:=by
 unfold y6g at hk
 split at hk
 ·rename_i sv' hs
  split at hk
  ·rename_i hc
   simp only[aa] at hk;subst hk
   simp only[ao,eY] at hc
   exact⟨hs,hc.1,hc.2⟩
  ·cases hk
 ·cases hk

theorem zsj{o:Option Nat}{s:Nat}(h:∀ d,o=some d->s ≠ d):y9f nm A o s=A s:=by
 cases o with
 |none=>rfl
 |some d=>simp only[y9f,y68];rw[if_neg (h d rfl)]

theorem z6m{d:Nat}{sv:SV}{G:List (Nat × Bool)}(hd:A d=none)(h:gok E cP env hp A G):gok E cP env hp (y68 A d sv) G:=by
 intro p hm
 obtain⟨s,h1,h2⟩:=h p hm
 refine⟨s,?_,h2⟩
 unfold y68
 rw[if_neg (fun e=>by rw[e,hd] at h1;cases h1)]
 exact h1

theorem z9f{i dst:Option Nat}{h:Bool}{dm:List (Nat × List (Nat × Bool))}(hh:h=false->hp'=hp)(he:∀ j,some j ≠ i->env'[j]? = env[j]?)
  (D1:Dem E cP env' hp' (y9f nm (y6g A i h) dst) dm):Dem E cP env hp A (y78 A i h dst dm):=by
 intro p hm hg sv hs
 simp only[y78,iQ,ao,eY,bN,beq_eq_false_iff_ne] at hm
 obtain⟨h1,⟨h2,h3⟩,h4⟩:=hm
 obtain⟨sv',h5⟩:=Option.isSome_iff_exists.1 h4
 obtain⟨k1,k2,k3⟩:=zb0 h5
 rw[hs] at k1;simp only[aa] at k1;subst k1
 obtain⟨d,hd⟩:=D1 p h1 (by rw[h2];exact z37) sv (by
  rw[zsj (fun d hd e=>h3 (by rw[hd,e]))];exact h5)
 exact⟨d,by rw[<- z2s hh he sv.x k3];exact hd⟩

theorem z8t{i:Nat}{d:D}:∀ j,some j ≠ some i->(env.set i d)[j]? = env[j]?:=fun j h=>by
 rw[a8 (fun e=>h (by rw[e]))]

theorem zao{i:Option Nat}{d:D}:∀ j,some j ≠ i->(y7w env i d)[j]? = env[j]?:=by
 cases i with
 |none=>intro j _;rfl
 |some i=>exact z8t

theorem zi4{G:List (Nat × Bool)}{op:DOp}{p:Nat × List (Nat × Bool)}(h:p ∈ y85 G op):p.2=G /\ .t p.1 ∈ yv op:=by
 simp only[y85,bH,aV] at h
 obtain⟨o,h1,s,h2,rfl⟩:=h
 rw[z52] at h2;subst h2
 exact⟨rfl,h1⟩

theorem z9u{base:Nat}{dr:Bool}:∀{os:List y12} {pos:Nat} {A:Ab} {ts:List TS} {dm:List (Nat × List (Nat × Bool))},y8u nm N dr pos os A=some (ts,dm) ->
  ∀{env:List D} {hp:List Obj} {r:List D × List Obj},rTS E cP cS cY base ts env hp=some r->Dem E cP env hp A dm
 |[],pos,A,ts,dm,hc,env,hp,r,hr=>by
  simp only[y8u,aa,aq] at hc
  obtain⟨_,rfl⟩:=hc
  intro p hm;cases hm
 |o::os,pos,A,ts,dm,hc,env,hp,r,hr=>by
  simp only[y8u] at hc
  split at hc
  ·rename_i hv
   split at hc
   ·rename_i d G hd hG
    split at hc
    ·rename_i x hx
     split at hc
     ·split at hc
      ·rename_i hcond
       simp only[ao,eY] at hcond
       split at hc
       ·rename_i ts' dm' hc'
        simp only[aa,aq] at hc
        obtain⟨rfl,rfl⟩:=hc
        simp only[rTS] at hr
        split at hr
        ·rename_i v hxv
         have IH:=z9u hc' hr
         intro p hm hg sv hs
         rcases aW.1 hm with hm | hm
         ·exact zgi (G:=[]) (by rw[hcond.1] at hx;exact hx) hxv p hm hg sv hs
         ·exact z9f (fun _=>rfl) z8t IH p hm hg sv hs
        ·cases hr
       ·cases hc
      ·cases hc
     ·split at hc
      ·rename_i hcond
       simp only[ao,fG] at hcond
       split at hc
       ·rename_i ts' dm' hc'
        have filt:Dem E cP env hp (y68 A d ⟨G,x⟩) dm'->Dem E cP env hp A (dm'.filter fun p=>!(p.1 == d)):=by
         intro IH p hm hg sv hs
         simp only[iQ,bN,beq_eq_false_iff_ne] at hm
         exact IH p hm.1 (z6m hcond.1 hg) sv (by unfold y68;rw[if_neg hm.2];exact hs)
        split at hc
        ·rename_i hany
         simp only[aa,aq] at hc
         obtain⟨rfl,rfl⟩:=hc
         have IH:=z9u hc' hr
         intro p hm hg sv hs
         rcases aW.1 hm with hm | hm
         ·obtain⟨q,q1,q2⟩:=iv.1 hany
          simp only[ao,beq_iff_eq] at q2
          have hG1:gok E cP env hp A G:=zss p hm hg
          obtain⟨v,hxv⟩:=IH q q1 (zfm q2.2 (z6m hcond.1 hG1)) ⟨G,x⟩ (by unfold y68;rw[if_pos q2.1])
          exact zgi hx hxv p hm hg sv hs
         ·exact filt IH p hm hg sv hs
        ·split at hc
         ·simp only[aa,aq] at hc
          obtain⟨rfl,rfl⟩:=hc
          exact filt (z9u hc' hr)
         ·cases hc
       ·cases hc
      ·cases hc
    ·cases hc
   ·cases hc
  ·split at hc
   ·split at hc
    ·rename_i gd ks hgd hks
     split at hc
     ·rename_i ts' dm' hc'
      simp only[aa,aq] at hc
      obtain⟨rfl,rfl⟩:=hc
      simp only[rTS] at hr
      intro p hm hg sv hs
      rcases aW.1 hm with hm | hm
      ·obtain⟨n1,n2⟩:=zi4 hm
       -- the guard holds
       have hgt:gdT E cP env hp gd=some true:=by
        cases hog:o.gd with
        |none=>rw[hog] at hgd;simp only[gdX,aa] at hgd;subst hgd;rfl
        |some q=>
         obtain⟨j,b⟩:=q
         rw[hog] at hgd n1
         simp only[gdX] at hgd
         split at hgd
         ·rename_i xg hxg
          simp only[aa] at hgd;subst hgd
          obtain⟨svj,g1,g2,_⟩:=zby hxg
          rw[n1] at hg
          obtain⟨sv2,r1,r2⟩:=hg (j,b) (by simp)
          simp only at r1 r2
          rw[g1] at r1;simp only[aa] at r1;subst r1
          rw[g2] at r2
          simp only[gdT,r2,beq_self_eq_true]
         ·cases hgd
       rw[hgt] at hr
       simp only at hr
       split at hr
       ·rename_i vs e1
        obtain⟨sv',q1,q2⟩:=z4o hks e1 p.1 n2
        rw[hs] at q1;simp only[aa] at q1;subst q1
        exact q2
       ·cases hr
      ·split at hr
       ·split at hr
        ·split at hr
         ·exact z9f (fun h=>by cases h) zao (z9u hc' hr) p hm hg sv hs
         ·cases hr
        ·cases hr
       ·exact z9f (fun h=>by cases h) zao (z9u hc' hr) p hm hg sv hs
       ·cases hr
     ·cases hc
    ·cases hc
   ·cases hc

end
end Dv

namespace Dv

section
variable{E:Env}{cP:Nat->List D->Option D}{cS cY:Nat->List D->List Obj->Option (D × List Obj)}{env env':List D}{hp hp':List Obj}{A:Ab}{N:Nat}{nm:List Nat}{sl:List D}

def y52(nm:List Nat)(env sl:List D):Prop:=env.length=nm.length /\ ∀(i s:Nat),nm[i]? = some s->env[i]? = some (sl.getD s .undef)

theorem y52.get(S:y52 nm env sl){s:Nat}(h:nm.contains s=true):nm.idxOf s<env.length/\env[nm.idxOf s]? = some (sl.getD s .undef):=by
 have hm:s ∈ nm:=by simpa using h
 have hlt:=hO hm
 refine⟨by rw[S.1];exact hlt,S.2 _ _ ?_⟩
 rw[ae hlt]
 simp

theorem z9k{n:Nat}{d e:D}(h:n<sl.length):(sl.set n d).getD n e=d:=by
 rw[ah,aQ h];rfl

theorem y52.set(nd:nm.Nodup)(S:y52 nm env sl){s:Nat}{d:D}(h:nm.contains s=true)(hs:s<sl.length):y52 nm (env.set (nm.idxOf s) d) (sl.set s d):=by
 have hm:s ∈ nm:=by simpa using h
 have hlt:=hO hm
 refine⟨by simpa using S.1,fun i s' h'=>?_⟩
 by_cases e:i=nm.idxOf s
 ·subst e
  have:s'=s:=by
   rw[ae hlt] at h'
   simp at h';exact h'.symm
  subst this
  rw[aQ (by rw[S.1];exact hlt),z9k hs]
 ·rw[a8 (dQ e)]
  have hne:s ≠ s':=by
   rintro rfl
   apply e
   have hi:=(ac.1 h').1
   have h1:nm[i]=s:=(ac.1 h').2
   have h2:nm[nm.idxOf s]=s:=by simp
   exact(List.getElem_inj nd).1 (h1.trans h2.symm)
  rw[getD_set_ne hne]
  exact S.2 i s' h'

theorem y52.other(S:y52 nm env sl){s:Nat}{d:D}(h:nm.contains s=false):y52 nm env (sl.set s d):=by
 refine⟨S.1,fun i s' h'=>?_⟩
 have hne:s ≠ s':=by
  rintro rfl
  have:=bi h'
  simp at h;exact h this
 rw[getD_set_ne hne];exact S.2 i s' h'

theorem zkl(hl:sl.length=N)(hN:nm.all (fun s=>decide (s<N))=true)(S:y52 nm env sl):y7s E cP (y83 nm) N env hp sl:=by
 refine⟨hl,fun s sv h=>?_,fun s sv h p hp=>?_⟩
 all_goals unfold y83 at h
 all_goals split at h
 rotate_left 2
 ·simp only[aa] at h;subst h;cases hp
 ·cases h
 ·rename_i hc
  simp only[aa] at h;subst h
  have hm:s ∈ nm:=by simpa using hc
  refine⟨by simpa using aC.1 hN s hm,fun _=>?_,fun h=>absurd z37 h⟩
  simp only[xv]
  exact(S.get hc).2
 ·cases h

def y5b(dr:Bool)(E:Env)(cP:Nat->List D->Option D)(cS cY:Nat->List D->List Obj->Option (D × List Obj))(id:Nat)(os:List y12)(st:St):Option St:=
 if dr then yx E cP cS cY id os st else ye E cP cS cY os st

theorem zhk{dr:Bool}{id:Nat}{o:y12}{os:List y12}{st:St}:y5b dr E cP cS cY id (o::os) st =
  (if yh st.sl o.gd then
   (match yd E cP cS cY (if dr then id else st.hp.length) (ym st.sl) st.hp o.op with
   |some (d,hp)=>y5b dr E cP cS cY (id+1) os ⟨y1u st.sl o.dst d,hp⟩
   |none=>none)
  else y5b dr E cP cS cY (id+1) os ⟨y1u st.sl o.dst .undef,st.hp⟩):=by
 cases dr with
 |true=>simp only[y5b,if_true,yx];rfl
 |false=>simp only[y5b,aM,if_false,ye];rfl

theorem ziz(R:y7s E cP A N env hp sl){gd:Option (Nat × Bool)}{G:List (Nat × Bool)}(h:y4y A gd=some G):yh sl gd=true ↔ gok E cP env hp A G:=by
 cases gd with
 |none=>
  simp only[y4y,aa] at h;subst h
  exact⟨fun _=>z37,fun _=>rfl⟩
 |some p=>
  obtain⟨j,b⟩:=p
  simp only[y4y] at h
  split at h
  ·rename_i sv hj
   simp only[aa] at h;subst h
   obtain⟨_,k1,k2⟩:=R.ok j sv hj
   constructor
   ·intro hw
    unfold yh at hw
    simp only at hw
    by_cases hg:gok E cP env hp A sv.g
    ·refine z2q.2 ⟨⟨sv,hj,?_⟩,hg⟩
     rw[k1 hg]
     split at hw
     ·rename_i c hc
      rw[hc]
      simp only[beq_iff_eq] at hw;rw[hw]
     ·cases hw
    ·rw[k2 hg] at hw;simp at hw
   ·intro hG
    obtain⟨⟨sv',h1,h2⟩,h3⟩:=z2q.1 hG
    simp only at h1 h2
    rw[hj] at h1;simp only[aa] at h1;subst h1
    rw[k1 h3] at h2
    simp only[aa] at h2
    unfold yh
    simp only[h2,beq_self_eq_true]
  ·cases h

theorem z87(R:y7s E cP A N env hp sl){i:Option Nat}{h:Bool}(hh:h=false->hp'=hp)(he:∀ j,some j ≠ i->env'[j]? = env[j]?){s:Nat}{sv:SV}(hk:y6g A i h s=some sv) :
  s<N/\sv.g=[]/\xv E cP env' hp' sv.x=some (sl.getD s .undef):=by
 obtain⟨k1,k2,k3⟩:=zb0 hk
 obtain⟨h1,h2,_⟩:=R.ok s sv k1
 exact⟨h1,k2,by rw[z2s hh he sv.x k3];exact h2 (by rw[k2];exact z37)⟩

theorem zbv(nd:nm.Nodup)(R:y7s E cP A N env hp sl)(S:y52 nm env sl){dst:Option Nat}{h:Bool}{d:D}(hh:h=false->hp'=hp)(hd:y92 nm N dst=true) :
  y7s E cP (y9f nm (y6g A (dst.map nm.idxOf) h) dst) N (y7w env (dst.map nm.idxOf) d) hp' (y1u sl dst d)/\y52 nm (y7w env (dst.map nm.idxOf) d) (y1u sl dst d):=by
 cases dst with
 |none=>
  refine⟨⟨R.len,fun s sv hs=>?_,fun s sv hs p hp=>?_⟩,S⟩
  rotate_left
  ·obtain⟨_,h2,_⟩:=z87 (env':=env) R hh (fun _ _=>rfl) hs
   rw[h2] at hp;cases hp
  obtain⟨h1,h2,h3⟩:=z87 (env':=env) R hh (fun _ _=>rfl) hs
  exact⟨h1,fun _=>h3,fun hn=>absurd (by rw[h2];exact z37) hn⟩
 |some n=>
  simp only[y92,ao,decide_eq_true_eq] at hd
  have hlen:n<sl.length:=by rw[R.len];exact hd.2
  have S':=S.set nd (d:=d) hd.1 hlen
  refine⟨⟨by simp[y1u,R.len],fun s sv hs=>?_,fun s sv hs p hp=>?_⟩,S'⟩
  rotate_left
  ·simp only[y9f,y68] at hs
   split at hs
   ·simp only[aa] at hs;subst hs;cases hp
   ·obtain⟨_,h2,_⟩:=z87 (env':=env) R hh (fun _ _=>rfl) hs
    rw[h2] at hp;cases hp
  simp only[y9f,y68] at hs
  split at hs
  ·rename_i e;subst e
   simp only[aa] at hs;subst hs
   refine⟨hd.2,fun _=>?_,fun hn=>absurd z37 hn⟩
   simp only[xv]
   exact(S'.get hd.1).2
  ·rename_i e
   obtain⟨h1,h2,h3⟩:=z87 R hh (z8t (i:=nm.idxOf n) (d:=d)) hs
   refine⟨h1,fun _=>?_,fun hn=>absurd (by rw[h2];exact z37) hn⟩
   simp only[aj,y7w,y1u]
   rw[getD_set_ne (dQ e)];exact h3

theorem zks(R:y7s E cP A N env hp sl){n:Nat}{G:List (Nat × Bool)}{x:Xp}{d:D}(hn:A n=none)(hN:n<N)(hG:∀ p,p ∈ G->A p.1 ≠ none)(h1:gok E cP env hp A G->xv E cP env hp x=some d)(h2 : ¬ gok E cP env hp A G->d=.undef) :
  y7s E cP (y68 A n ⟨G,x⟩) N env hp (sl.set n d):=by
 have hlen:n<sl.length:=by rw[R.len];exact hN
 have back:∀{g:List (Nat × Bool)},(∀ p,p ∈ g->A p.1 ≠ none)->gok E cP env hp (y68 A n ⟨G,x⟩) g->gok E cP env hp A g:=by
  intro g hg h p hp
  obtain⟨sv,q1,q2⟩:=h p hp
  unfold y68 at q1
  rw[if_neg (fun e=>hg p hp (by rw[e,hn]))] at q1
  exact⟨sv,q1,q2⟩
 refine⟨by simp[R.len],fun s sv hs=>?_,fun s sv hs p hp=>?_⟩
 ·unfold y68 at hs
  split at hs
  ·rename_i e;subst e
   simp only[aa] at hs;subst hs
   rw[z9k hlen]
   exact⟨hN,fun hg=>h1 (back hG hg),fun hg=>h2 (fun hG=>hg (z6m hn hG))⟩
  ·rename_i e
   obtain⟨q0,q1,q2⟩:=R.ok s sv hs
   rw[getD_set_ne (dQ e)]
   exact⟨q0,fun hg=>q1 (back (R.cl s sv hs) hg),fun hg=>q2 (fun h=>hg (z6m hn h))⟩
 ·have:A p.1 ≠ none:=by
   unfold y68 at hs
   split at hs
   ·simp only[aa] at hs;subst hs;exact hG p hp
   ·exact R.cl s sv hs p hp
  unfold y68
  split
  ·simp
  ·exact this

theorem zdz(R:y7s E cP A N env hp sl){gd:Option (Nat × Bool)}{G:List (Nat × Bool)}(h:y4y A gd=some G):∀ p,p ∈ G->A p.1 ≠ none:=by
 cases gd with
 |none=>simp only[y4y,aa] at h;subst h;intro p hp;cases hp
 |some q=>
  obtain⟨j,b⟩:=q
  simp only[y4y] at h
  split at h
  ·rename_i sv hj
   simp only[aa] at h;subst h
   intro p hp
   rcases az.1 hp with rfl | hp
   ·simp only[hj];simp
   ·exact R.cl j sv hj p hp
  ·cases h

theorem zst(R:y7s E cP A N env hp sl){G:List (Nat × Bool)}{op:DOp}{x:Xp}(h:y7h A G op=some x)(hG:gok E cP env hp A G)(hm:y8a op=true):∃ d,xv E cP env hp x=some d:=by
 cases op <;> simp[y8a] at hm
 ·exact⟨_,z6a R h hG⟩
 ·exact⟨_,z6a R h hG⟩

theorem z7e(nd:nm.Nodup){base:Nat}{dr:Bool}:∀{os:List y12} {pos:Nat} {A:Ab} {ts:List TS} {dm:List (Nat × List (Nat × Bool))},y8u nm N dr pos os A=some (ts,dm) ->
  ∀{env:List D} {hp:List Obj} {sl:List D} {env':List D} {hp':List Obj},y7s E cP A N env hp sl->y52 nm env sl->rTS E cP cS cY base ts env hp=some (env',hp') ->
  ∃ sl',y5b dr E cP cS cY (base+pos) os ⟨sl,hp⟩=some ⟨sl',hp'⟩/\sl'.length=N/\y52 nm env' sl'
 |[],pos,A,ts,dm,hc,env,hp,sl,env',hp',R,S,hr=>by
  simp only[y8u,aa,aq] at hc
  obtain⟨rfl,_⟩:=hc
  simp only[rTS,aa,aq] at hr
  obtain⟨rfl,rfl⟩:=hr
  exact⟨sl,by cases dr <;> rfl,R.len,S⟩
 |o::os,pos,A,ts,dm,hc,env,hp,sl,env',hp',R,S,hr=>by
  have hdem:=z9u hc hr
  rw[zhk]
  simp only[y8u] at hc
  split at hc
  ·rename_i hv
   split at hc
   ·rename_i d G hd hG
    have hgt:=ziz R hG
    split at hc
    ·rename_i x hx
     split at hc
     ·rename_i hnm
      split at hc
      ·rename_i hcond
       simp only[ao,eY,decide_eq_true_eq] at hcond
       split at hc
       ·rename_i ts' dm' hc'
        simp only[aa,aq] at hc
        obtain⟨rfl,rfl⟩:=hc
        simp only[rTS] at hr
        split at hr
        ·rename_i v hxv
         have hGn:gok E cP env hp A G:=by rw[hcond.1];exact z37
         rw[if_pos (hgt.2 hGn)]
         obtain⟨e,he,hed⟩:=zqr R (id:=if dr then base+pos else hp.length) hx hGn hxv
         rw[zg7 hv he,hd]
         simp only
         have hem:=zbv (h:=false) (hp':=hp) (d:=v) (dst:=some d) nd R S (fun _=>rfl) (by simp only[y92,ao,decide_eq_true_eq];exact⟨hnm,hcond.2⟩)
         rw[hed]
         exact z7e nd hc' hem.1 hem.2 hr
        ·cases hr
       ·cases hc
      ·cases hc
     ·rename_i hnm
      split at hc
      ·rename_i hcond
       simp only[ao,fG,decide_eq_true_eq] at hcond
       split at hc
       ·rename_i ts' dm' hc'
        have hnm':nm.contains d=false:=by simpa using hnm
        have hts:ts=ts':=by
         split at hc
         ·simp only[aa,aq] at hc;exact hc.1.symm
         ·split at hc
          ·simp only[aa,aq] at hc;exact hc.1.symm
          ·cases hc
        subst hts
        by_cases hg:gok E cP env hp A G
        ·rw[if_pos (hgt.2 hg)]
         have hsome:∃ v,xv E cP env hp x=some v:=by
          split at hc
          ·rename_i hany
           have D1:=z9u (base:=base) hc' hr
           obtain⟨q,q1,q2⟩:=iv.1 hany
           simp only[ao,beq_iff_eq] at q2
           exact D1 q q1 (zfm q2.2 (z6m hcond.1 hg)) ⟨G,x⟩ (by unfold y68;rw[if_pos q2.1])
          ·split at hc
           ·exact zst R hx hg (by assumption)
           ·cases hc
         obtain⟨v,hxv⟩:=hsome
         obtain⟨e,he,hed⟩:=zqr R (id:=if dr then base+pos else hp.length) hx hg hxv
         rw[zg7 hv he,hd]
         simp only
         rw[hed]
         exact z7e nd hc' (zks R hcond.1 hcond.2 (zdz R hG) (fun _=>hxv) (fun h=>absurd hg h)) (S.other hnm') hr
        ·rw[if_neg (fun h=>hg (hgt.1 h)),hd]
         exact z7e nd hc' (zks R hcond.1 hcond.2 (zdz R hG) (fun h=>absurd h hg) (fun _=>rfl)) (S.other hnm') hr
       ·cases hc
      ·cases hc
    ·cases hc
   ·cases hc
  ·split at hc
   ·rename_i hdst
    split at hc
    ·rename_i gd ks hgd hks
     split at hc
     ·rename_i ts' dm' hc'
      simp only[aa,aq] at hc
      obtain⟨rfl,rfl⟩:=hc
      simp only[rTS] at hr
      have hgv:gdT E cP env hp gd=some (yh sl o.gd)/\(yh sl o.gd=true->gok E cP env hp A o.gd.toList):=by
       cases hog:o.gd with
       |none=>
        rw[hog] at hgd;simp only[gdX,aa] at hgd;subst hgd
        exact⟨rfl,fun _=>z37⟩
       |some q=>
        obtain⟨j,b⟩:=q
        rw[hog] at hgd
        simp only[gdX] at hgd
        split at hgd
        ·rename_i xg hxg
         simp only[aa] at hgd;subst hgd
         have e1:=z6a R hxg z37
         obtain⟨svj,g1,g2,_⟩:=zby hxg
         simp only[ym] at e1
         unfold yh gdT
         simp only[e1]
         refine⟨?_,fun hw=>?_⟩
         ·split <;> simp_all
         ·refine z2q.2 ⟨⟨svj,g1,?_⟩,z37⟩
          rw[g2,e1]
          split at hw
          ·rename_i c hc;rw[hc];simp only[beq_iff_eq] at hw;rw[hw]
          ·cases hw
        ·cases hgd
      rw[hgv.1] at hr
      cases hw:yh sl o.gd with
      |true=>
       rw[hw] at hr
       simp only at hr
       simp only[if_true]
       split at hr
       ·rename_i vs e1
        obtain⟨vs',f1,f2,f3⟩:=z9e R (hgv.2 hw) hks
        rw[e1] at f1;simp only[aa] at f1;subst f1
        split at hr
        ·rename_i d hp1 hst
         have hst':yd E cP cS cY (if dr=true then base+pos else hp.length) (gOf vs) hp o.op=some (d,hp1):=by
          cases dr <;> exact hst
         rw[z7l (zr4 f2 f3)] at hst'
         rw[hst']
         have hem:=zbv (h:=true) (hp':=hp1) (d:=d) nd R S (fun h=>by cases h) hdst
         exact z7e nd hc' hem.1 hem.2 hr
        ·cases hr
       ·cases hr
      |false=>
       rw[hw] at hr
       simp only at hr
       simp only[aM,if_false]
       have hem:=zbv (h:=true) (hp':=hp) (d:=.undef) nd R S (fun h=>by cases h) hdst
       exact z7e nd hc' hem.1 hem.2 hr
     ·cases hc
    ·cases hc
   ·cases hc

theorem z8u(nd:nm.Nodup):∀(ps:List Nat) (args sl env:List D),ps.all (fun p=>nm.contains p && decide (p<N))=true->sl.length=N->y52 nm env sl ->
  (y27 sl ps args).length=N/\y52 nm (y27 env (ps.map nm.idxOf) args) (y27 sl ps args)
 |[],args,sl,env,_,hl,S=>⟨by simpa[y27] using hl,by simpa[y27] using S⟩
 |p::ps,[],sl,env,_,hl,S=>⟨by simpa[y27] using hl,by simpa[y27] using S⟩
 |p::ps,v::vs,sl,env,h,hl,S=>by
  simp only[List.all_cons,ao,decide_eq_true_eq] at h
  simp only[y27,av]
  exact z8u nd ps vs _ _ (by simpa using h.2) (by simpa using hl) (S.set nd h.1.1 (by rw[hl];exact h.1.2))

theorem zfi{A:Type}:∀{ls:List (Option (List A))} {r:List A},y89 ls=some r->∀ x,x ∈ ls->∃ r',x=some r' /\ ∀ y,y ∈ r'->y ∈ r
 |[],_,_,x,hx=>by cases hx
 |x::ls,r,h,z,hz=>by
  simp only[y89] at h
  split at h
  ·rename_i a b h1
   simp only[aa] at h;subst h
   rcases az.1 hz with rfl | hz
   ·exact⟨a,rfl,fun y hy=>List.mem_append_left _ hy⟩
   ·obtain⟨r',e1,e2⟩:=zfi h1 z hz
    exact⟨r',e1,fun y hy=>List.mem_append_right _ (e2 y hy)⟩
  ·cases h

theorem zsp{env sl:List D}(S:y52 nm env sl){x y:Opd}{r:List (Nat × Nat)}(h:y8z nm x y=some r)(hc:∀ p,p ∈ r->ybd env p=true):y6i (did (ym sl x)) (did (ym sl y))=true:=by
 have none1:∀{o:Option Nat},y6i none o=true:=fun {o}=>by cases o <;> rfl
 have none2:∀{o:Option Nat},y6i o none=true:=fun {o}=>by cases o <;> rfl
 have key:∀{z:Opd},y91 nm z=some none->did (ym sl z)=none:=by
  intro z hz
  cases z with
  |t s=>simp only[y91] at hz;split at hz <;> simp at hz
  |c d=>
   simp only[y91] at hz
   split at hz
   ·rename_i h1;simpa[ym] using h1
   ·cases hz
  |f k=>rfl
 have key2:∀{z:Opd} {i:Nat},y91 nm z=some (some i)->env[i]? = some (ym sl z):=by
  intro z i hz
  cases z with
  |t s=>
   simp only[y91] at hz
   split at hz
   ·rename_i h1
    simp only[aa] at hz;subst hz
    exact(S.get h1).2
   ·cases hz
  |c d=>simp only[y91] at hz;split at hz <;> simp at hz
  |f k=>simp[y91] at hz
 unfold y8z at h
 split at h
 ·rename_i i j h1 h2
  simp only[aa] at h;subst h
  have:=hc (i,j) (by simp)
  simp only[ybd,key2 h1,key2 h2] at this
  exact this
 ·rename_i h2
  rw[key h2];exact none2
 ·rename_i h1 h2
  rw[key h1];exact none1
 ·cases h

theorem zqk{env sl:List D}(S:y52 nm env sl){ops:List y12}{ap l:List (Nat × Nat)}(h:apX nm ops ap=some l)(hc:yar env l=true):y6m sl ops ap=true:=by
 unfold yar at hc
 rw[aC] at hc
 unfold y6m
 rw[aC]
 intro p hp
 obtain⟨r,e1,e2⟩:=zfi h _ (jK hp)
 unfold apX1 at e1
 unfold y8i
 split at e1
 ·rename_i a b h1 h2
  rw[h1,h2]
  simp only[]
  rw[aC]
  intro x hx
  rw[aC]
  intro y hy
  obtain⟨r2,f1,f2⟩:=zfi e1 (y8z nm x y) (bH.2 ⟨x,hx,jK hy⟩)
  exact zsp S f1 fun q hq=>hc q (e2 q (f2 q hq))
 ·cases e1

theorem zh6(nd:nm.Nodup)(hN:nm.all (fun s=>decide (s<N))=true):∀{dc:DC} {tc:TC},y29 nm N dc=some tc->∀{Q:Ex->List D->List Obj->Prop} {env:List D} {hp:List Obj} {sl:List D},
  sl.length=N->y52 nm env sl->wT E tc Q env hp->wp E dc ⟨sl,hp⟩ (fun ex st'=>st'.sl.length=N /\ ∃ env',y52 nm env' st'.sl/\Q ex env' st'.hp):=by
 intro dc
 induction dc with
 |skip=>
  intro tc hc Q env hp sl hl S h
  simp only[y29,aa] at hc;subst hc
  exact zrn.2 ⟨hl,env,S,h⟩
 |ret=>
  intro tc hc Q env hp sl hl S h
  simp only[y29,aa] at hc;subst hc
  exact zub.2 ⟨hl,env,S,h⟩
 |exit id=>
  intro tc hc Q env hp sl hl S h
  simp only[y29,aa] at hc;subst hc
  exact zrp.2 ⟨hl,env,S,h⟩
 |region dr ap ops=>
  intro tc hc Q env hp sl hl S h
  simp only[y29] at hc
  split at hc
  ·rename_i ts dm hcc
   have base:∀{Q:Ex->List D->List Obj->Prop},wT E (.run (if dr then ops.length else 0) ts) Q env hp->∃ sl' hp' env',y5b dr E (y1i E (dL E)) (y16 E (dL E)) (y2w (dL E)) (hp.length+0) ops ⟨sl,hp++af (if dr then ops.length else 0) .dead⟩=some ⟨sl',hp'⟩/\sl'.length=N/\y52 nm env' sl'/\Q .normal env' hp':=by
    intro Q h
    simp only[wT] at h
    split at h
    ·rename_i env' hp' hr
     obtain⟨sl',h1,h2,h3⟩:=z7e nd (base:=hp.length) hcc (zkl hl hN S) S hr
     exact⟨sl',hp',env',h1,h2,h3,h⟩
    ·exact h.elim
   split at hc
   ·rename_i hda
    simp only[ao,bN] at hda
    obtain⟨rfl,hap⟩:=hda
    split at hc
    ·rename_i l hX
     simp only[aa] at hc;subst hc
     obtain⟨sl',hp',env',h1,h2,h3,h4⟩:=base (Q:=fun ex env' hp'=>match ex with
      |.normal=>wT E (.chk l) Q env' hp'
      |ex=>Q ex env' hp') h
     simp only[wT] at h4
     refine⟨.normal,⟨sl',hp'⟩,?_,h2,env',h3,h4.2⟩
     rw[zmv]
     simp only[y5b,if_true,dp] at h1
     simp only[h1,y21,zqk h3 hX h4.1,if_true,aj]
    ·cases hc
   ·rename_i hda
    simp only[aa] at hc;subst hc
    obtain⟨sl',hp',env',h1,h2,h3,h4⟩:=base h
    cases dr with
    |false=>
     refine zk9.2 ⟨⟨sl',hp'⟩,?_,h2,env',h3,h4⟩
     simpa[y5b] using h1
    |true=>
     have hap':ap=[]:=by simpa using hda
     subst hap'
     refine⟨.normal,⟨sl',hp'⟩,?_,h2,env',h3,h4⟩
     rw[zmv]
     simp only[y5b,if_true,dp] at h1
     simp only[h1,y21,y6m,List.all_nil,if_true,aj]
  ·cases hc
 |seq a b iha ihb=>
  intro tc hc Q env hp sl hl S h
  simp only[y29] at hc
  split at hc
  ·rename_i x y hx hy
   simp only[aa] at hc;subst hc
   simp only[wT] at h
   refine zua.2 (zem (iha hx hl S h) ?_)
   rintro ex st' ⟨hl',env',S',hq⟩
   cases ex with
   |normal=>exact ihb hy hl' S' hq
   |exit i=>exact⟨hl',env',S',hq⟩
   |ret=>exact⟨hl',env',S',hq⟩
  ·cases hc
 |cond c a b iha ihb=>
  intro tc hc Q env hp sl hl S h
  cases c with
  |c d=>
   cases d with
   |undef=>
    simp only[y29,aa] at hc
    subst hc
    exact h.elim
   |_=>simp[y29] at hc
  |f k=>simp[y29] at hc
  |t k=>
   simp only[y29] at hc
   split at hc
   ·rename_i hk
    split at hc
    ·rename_i x y hx hy
     simp only[aa] at hc;subst hc
     simp only[wT,(S.get hk).2] at h
     split at h
     ·rename_i t ht
      simp only[aa] at ht
      refine(zrq (b:=t) (by simp only[ym];exact ht)).2 ⟨fun e=>?_,fun e=>?_⟩
      ·subst e;simp only[if_true] at h;exact iha hx hl S h
      ·subst e;simp only[aM,if_false] at h;exact ihb hy hl S h
     ·exact h.elim
    ·cases hc
   ·cases hc
 |ifp c a b iha ihb=>
  intro tc hc Q env hp sl hl S h
  cases c with
  |c d=>simp[y29] at hc
  |f k=>simp[y29] at hc
  |t k=>
   simp only[y29] at hc
   split at hc
   ·rename_i hk
    split at hc
    ·rename_i x y hx hy
     simp only[aa] at hc;subst hc
     simp only[wT,(S.get hk).2] at h
     split at h
     ·rename_i hm;exact zqo.2 ((if_pos (show yp (ym sl (.t k))=true from hm)).mpr (iha hx hl S h))
     ·rename_i hm;exact zqo.2 ((if_neg (show ¬ yp (ym sl (.t k))=true from hm)).mpr (ihb hy hl S h))
    ·cases hc
   ·cases hc
 |block id a iha=>
  intro tc hc Q env hp sl hl S h
  simp only[y29] at hc
  split at hc
  ·rename_i x hx
   simp only[aa] at hc;subst hc
   simp only[wT] at h
   refine znu.2 (zem (iha hx hl S h) ?_)
   rintro ex st' ⟨hl',env',S',hq⟩
   cases ex with
   |normal=>exact⟨hl',env',S',hq⟩
   |exit i=>exact⟨hl',env',S',hq⟩
   |ret=>exact⟨hl',env',S',hq⟩
  ·cases hc
 |loop a iha=>
  intro tc hc Q env hp sl hl S h
  simp only[y29] at hc
  split at hc
  ·rename_i x hx
   simp only[aa] at hc;subst hc
   simp only[wT] at h
   obtain⟨I,k,hI,step⟩:=h
   refine zro (fun k st=>st.sl.length=N /\ ∃ env,y52 nm env st.sl/\I k env st.hp) ?_ k ⟨sl,hp⟩ ⟨hl,env,S,hI⟩
   rintro k ⟨sl,hp⟩ ⟨hl,env,S,hI⟩
   refine zem (iha hx hl S (step k env hp hI)) ?_
   rintro ex st' ⟨hl',env',S',hq⟩
   cases ex with
   |normal=>
    obtain⟨k',hk,hI'⟩:=hq
    exact⟨k',hk,hl',env',S',hI'⟩
   |exit i=>exact⟨hl',env',S',hq⟩
   |ret=>exact⟨hl',env',S',hq⟩
  ·cases hc
 |rfunc f ps asg body iha ihb=>
  intro tc hc Q env hp sl hl S h
  cases f with
  |c d=>simp[y29] at hc
  |f k=>simp[y29] at hc
  |t f=>
   simp only[y29] at hc
   split at hc
   ·rename_i hk
    simp only[ao] at hk
    split at hc
    ·rename_i x y hx hy
     simp only[aa] at hc;subst hc
     simp only[wT] at h
     obtain⟨k,caps,h1,h2⟩:=h
     have hf:y4z E (sl.getD f .undef)=.fn k caps:=by
      have:=(S.get hk.1).2
      rw[this] at h1;simpa using h1
     obtain⟨d,hp',h3,h4⟩:=h2 (fun b p=>.loop b sl ps asg body p) ⟨_,_,_,_,rfl⟩ (by
      intro args hp1 K hlen hat hw
      have hlen':args.length=ps.length:=by simpa using hlen
      obtain⟨hsl,S1⟩:=z8u nd ps args sl env hk.2 hl S
      obtain⟨ex,st1,r1,hl1,env1,S1',rfl,hat1,hw1⟩:=iha hx hsl S1 hw
      obtain⟨ex2,st2,r2,hl2,env2,S2',hat2,hK⟩:=ihb hy (sl:=st1.sl) (hp:=st1.hp.set hp.length (.loop true sl ps asg body none)) hl1 S1' hw1
      unfold y2w
      simp only[hat,hlen',if_true,r1,hat1,r2,hat2]
      cases ex2 with
      |normal=>exact⟨_,_,rfl,hK⟩
      |exit i=>exact⟨_,_,rfl,hK⟩
      |ret=>exact⟨_,_,rfl,hK⟩)
     rcases h4 with⟨h5,h6⟩ | ⟨ex,h5,h6⟩
     ·refine⟨.normal,⟨sl,hp'.set hp.length .dead⟩,?_,hl,env,S,h6⟩
      rw[zh5]
      simp only[ym,hf,h3,h5]
     ·refine⟨ex,⟨sl,hp'.set hp.length .dead⟩,?_,hl,env,S,h6⟩
      rw[zh5]
      simp only[ym,hf,h3,h5]
    ·cases hc
   ·cases hc

end
end Dv

namespace Dv

def y2v(E:Env)(env:List D)(hp:List Obj):List (Nat × Option Nat)->Option (List D)
 |[]=>some []
 |(i,none)::r=>(match env[i]?,y2v E env hp r with
  |some d,some l=>some (d::l)
  |_,_=>none)
 |(i,some t)::r=>(match env[i]? with
  |some a=>(match y11 E hp t a,y2v E env hp r with
   |some d,some l=>some (d::l)
   |_,_=>none)
  |none=>none)

def y7v(nm:List Nat):List RV->List (Nat × Option Nat)->Bool
 |[],[]=>true
 |.tmp t::r,(i,none)::is=>nm.contains t && nm.idxOf t == i && y7v nm r is
 |.cell a t::r,(i,some t')::is=>nm.contains a && nm.idxOf a == i && t == t' && y7v nm r is
 |_,_=>false

def Ret(E:Env)(is:List (Nat × Option Nat))(R:D->List Obj->Prop):Ex->List D->List Obj->Prop:=fun ex env hp=>(ex=.ret\/ex=.normal) /\ ∃ l,y2v E env hp is=some l/\R (y25 l) hp

section
variable{E:Env}

structure TF(E:Env)(f:Nat)(nm:List Nat)(is:List (Nat × Option Nat))(tc:TC)(N:Nat):Prop where
 ex:∃ F,E.fn f=some F/\F.ntmps=N/\y29 nm F.ntmps F.body=some tc/\nm.Nodup/\nm.all (fun s=>decide (s<F.ntmps))=true/\y7v nm F.results is=true

def y77:List Nat->Bool
 |[]=>true
 |x::r=>!r.contains x && y77 r

theorem zdr:∀{l:List Nat},y77 l=true->l.Nodup
 |[],_=>List.nodup_nil
 |x::r,h=>by
  simp only[y77,ao,bN] at h
  exact List.nodup_cons.2 ⟨by simpa using h.1,zdr h.2⟩

theorem zu{f:Nat}{nm:List Nat}{is:List (Nat × Option Nat)}{tc:TC}{F:DFn}(h:E.fn f=some F)(hc:y29 nm F.ntmps F.body=some tc)(hb:(y77 nm && nm.all (fun s=>decide (s<F.ntmps)) && y7v nm F.results is)=true):TF E f nm is tc F.ntmps:=by
 simp only[ao] at hb
 exact⟨F,h,rfl,hc,zdr hb.1.1,hb.1.2,hb.2⟩

theorem zdi{nm:List Nat}{env:List D}{st:St}(S:y52 nm env st.sl):∀{rs:List RV} {is:List (Nat × Option Nat)} {l:List D},y7v nm rs is=true->y2v E env st.hp is=some l->y3y E st rs=some l
 |[],[],l,_,h=>by simp only[y2v,aa] at h;subst h;rfl
 |.tmp t::r,(i,none)::is,l,h,h'=>by
  simp only[y7v,ao,beq_iff_eq] at h
  simp only[y2v] at h'
  split at h'
  ·rename_i d l' h1 h2
   simp only[aa] at h';subst h'
   have:=(S.get h.1.1).2
   rw[h.1.2,h1] at this
   simp only[aa] at this
   simp only[y3y,zdi S h.2 h2,this]
  ·cases h'
 |.cell a t::r,(i,some t')::is,l,h,h'=>by
  simp only[y7v,ao,beq_iff_eq] at h
  simp only[y2v] at h'
  split at h'
  ·rename_i p hp
   split at h'
   ·rename_i d l' h1 h2
    simp only[aa] at h';subst h'
    have:=(S.get h.1.1.1).2
    rw[h.1.1.2,hp] at this
    simp only[aa] at this
    rw[<- h.1.2,this] at h1
    simp only[y3y,zdi S h.2 h2,h1]
   ·cases h'
  ·cases h'
 |.cell _ _::_,[],_,h,_=>by simp[y7v] at h
 |.cell _ _::_,(_,none)::_,_,h,_=>by simp[y7v] at h
 |[],_::_,_,h,_=>by simp[y7v] at h
 |.tmp _::_,[],_,h,_=>by simp[y7v] at h
 |.tmp _::_,(_,some _)::_,_,h,_=>by simp[y7v] at h

def y3g(nm:List Nat)(args:List D):List D:=nm.map fun s=>args.getD s .undef

theorem zam{nm:List Nat}{args:List D}{N:Nat}:y52 nm (y3g nm args) (args++af (N - args.length) .undef):=by
 refine⟨by simp[y3g],fun i s h=>?_⟩
 simp only[y3g,List.getElem?_map,h,aj,aa]
 simp only[ah]
 by_cases hs:s<args.length
 ·rw[List.getElem?_append_left hs]
 ·rw[List.getElem?_append_right (by omega),List.getElem?_eq_none (by omega)]
  cases h2:(af (N - args.length) D.undef)[s - args.length]? with
  |none=>rfl
  |some d=>
   have:=bi h2
   rw[List.mem_replicate] at this
   rw[this.2];rfl

theorem z31{f:Nat}{nm:List Nat}{is:List (Nat × Option Nat)}{tc:TC}{N:Nat}(t:TF E f nm is tc N){args:List D}{hp:List Obj}{R:D->List Obj->Prop}(hl:args.length<=N)
  (h:wT E tc (Ret E is R) (y3g nm args) hp) (hb:E.mp f=false:=by rfl):∃ d hp',y16 E (dL E) f args hp=some (d,hp')/\R d hp':=by
 obtain⟨F,hF,rfl,hc,nd,hN,hr⟩:=t.ex
 obtain⟨ex,st',h1,h2,env',S,⟨hx,l,hg,hR⟩⟩:=zh6 nd hN hc (sl:=args++af (F.ntmps - args.length) .undef) (by simp;omega) zam h
 have hres:=zdi (E:=E) S hr hg
 refine⟨y25 l,st'.hp,?_,hR⟩
 unfold y16
 simp only[hF,yi,h1,hb,y20]
 rcases hx with rfl | rfl <;> simp only[y1f,hres,aj]

theorem zx{f:Nat}{nm:List Nat}{is:List (Nat × Option Nat)}{tc:TC}{N:Nat}(t:TF E f nm is tc N){args:List D}{r:D}(hl:args.length<=N)
  (h:wT E tc (Ret E is fun d hp=>frz hp depth d=some r) (y3g nm args) []) (hk:E.keep f=false:=by rfl) (hb:E.mp f=false:=by rfl):y1i E (dL E) f args=some r:=by
 obtain⟨d,hp',h1,h2⟩:=z31 t hl h hb
 unfold y1i
 simp only[h1,hk,y95,h2]

def y9m(E:Env)(nm:List Nat)(is:List (Nat × Option Nat))(R:D->List Obj->Prop):Ex->List D->List Obj->Prop:=fun ex env hp=>match ex with
 |.exit i=>y5c<=i/\nm.contains (i - y5c)=true /\ ∃ d,env[nm.idxOf (i - y5c)]? = some d/\yp d=true/\R d hp
 |ex=>Ret E is (fun d hp=>yp d=false/\R d hp) ex env hp
theorem z8v{f:Nat}{nm:List Nat}{is:List (Nat × Option Nat)}{tc:TC}{N:Nat}(t:TF E f nm is tc N){args:List D}{hp:List Obj}{R:D->List Obj->Prop}(hl:args.length<=N)
  (h:wT E tc (y9m E nm is R) (y3g nm args) hp) (hb:E.mp f=true:=by rfl):∃ d hp',y16 E (dL E) f args hp=some (d,hp')/\R d hp':=by
 obtain⟨F,hF,rfl,hc,nd,hN,hr⟩:=t.ex
 obtain⟨ex,st',h1,h2,env',S,hq⟩:=zh6 nd hN hc (sl:=args++af (F.ntmps - args.length) .undef) (by simp;omega) zam h
 unfold y16
 simp only[hF,yi,h1,hb,y20]
 cases ex with
 |exit i=>
  obtain⟨q1,q2,d,q3,q4,q5⟩:=hq
  have:=(S.get q2).2
  rw[q3] at this
  simp only[aa] at this
  simp only[y35]
  rw[<- this,if_pos ⟨q1,q4⟩]
  exact⟨_,_,rfl,q5⟩
 |normal=>
  obtain⟨hx,l,hg,q1,q2⟩:=hq
  have hres:=zdi (E:=E) S hr hg
  simp only[y35,hres,aj,zk q1]
  exact⟨_,_,rfl,q2⟩
 |ret=>
  obtain⟨hx,l,hg,q1,q2⟩:=hq
  have hres:=zdi (E:=E) S hr hg
  simp only[y35,hres,aj,zk q1]
  exact⟨_,_,rfl,q2⟩
end
end Dv

namespace Dv

section
variable{E:Env}{Q:Ex->List D->List Obj->Prop}{env:List D}{hp:List Obj}

theorem zrv:wT E .skip Q env hp=Q .normal env hp:=rfl
theorem zuf:wT E .ret Q env hp=Q .ret env hp:=rfl
theorem zrx{id:Nat}:wT E (.exit id) Q env hp=Q (.exit id) env hp:=rfl
theorem zue{a b:TC}:wT E (.seq a b) Q env hp=wT E a (fun ex env' hp'=>match ex with
  |.normal=>wT E b Q env' hp'
  |ex=>Q ex env' hp') env hp:=rfl
theorem znv{id:Nat}{a:TC}:wT E (.block id a) Q env hp=wT E a (fun ex env' hp'=>match ex with
  |.exit i=>Q (if i=id then .normal else .exit i) env' hp'
  |ex=>Q ex env' hp') env hp:=rfl

theorem wK{l:List (Nat × Nat)}:wT E (.chk l) Q env hp=(yar env l=true/\Q .normal env hp):=rfl
theorem zrw:∀{c:TC} {Q Q':Ex->List D->List Obj->Prop} {env:List D} {hp:List Obj},(∀ ex env hp,Q ex env hp->Q' ex env hp)->wT E c Q env hp->wT E c Q' env hp:=by
 intro c
 induction c with
 |skip=>intro Q Q' env hp hq h;exact hq _ _ _ h
 |ret=>intro Q Q' env hp hq h;exact hq _ _ _ h
 |exit id=>intro Q Q' env hp hq h;exact hq _ _ _ h
 |run pad l=>
  intro Q Q' env hp hq h
  simp only[wT] at h ⊢
  split at h
  ·exact hq _ _ _ h
  ·exact h.elim
 |seq a b iha ihb=>
  intro Q Q' env hp hq h
  refine iha (fun ex env hp h=>?_) h
  cases ex with
  |normal=>exact ihb hq h
  |exit i=>exact hq _ _ _ h
  |ret=>exact hq _ _ _ h
 |cond i a b iha ihb=>
  intro Q Q' env hp hq h
  simp only[wT] at h ⊢
  split at h
  ·split at h
   ·rename_i ht;rw[if_pos ht];exact iha hq h
   ·rename_i ht;rw[if_neg ht];exact ihb hq h
  ·exact h.elim
 |ifp i a b iha ihb=>
  intro Q Q' env hp hq h
  simp only[wT] at h ⊢
  split at h
  ·split at h
   ·rename_i ht;rw[if_pos ht];exact iha hq h
   ·rename_i ht;rw[if_neg ht];exact ihb hq h
  ·exact h.elim
 |dead=>intro Q Q' env hp hq h;exact h.elim
 |block id a iha=>
  intro Q Q' env hp hq h
  refine iha (fun ex env hp h=>?_) h
  cases ex <;> exact hq _ _ _ h
 |loop a iha=>
  intro Q Q' env hp hq h
  obtain⟨I,k,hI,step⟩:=h
  refine⟨I,k,hI,fun k env hp hI=>iha (fun ex env hp h=>?_) (step k env hp hI)⟩
  cases ex with
  |normal=>exact h
  |exit i=>exact hq _ _ _ h
  |ret=>exact hq _ _ _ h
 |chk l=>intro Q Q' env hp hq h;exact⟨h.1,hq _ _ _ h.2⟩
 |rfunc i ps a b iha ihb=>
  intro Q Q' env hp hq h
  obtain⟨k,caps,h1,h2⟩:=h
  refine⟨k,caps,h1,fun L hL hcb=>?_⟩
  obtain⟨d,hp',h3,h4⟩:=h2 L hL hcb
  refine⟨d,hp',h3,?_⟩
  rcases h4 with⟨h5,h6⟩ | ⟨ex,h5,h6⟩
  ·exact .inl ⟨h5,hq _ _ _ h6⟩
  ·exact .inr ⟨ex,h5,hq _ _ _ h6⟩

theorem z4v{E:Env}{c:TC}{Q:Ex->List D->List Obj->Prop}{env env':List D}{hp hp':List Obj}(h:env=env')(h':hp=hp'):wT E c Q env hp=wT E c Q env' hp':=by rw[h,h']

theorem z21{a:TC}(n:Nat)(I:Nat->List D->List Obj->Prop)(i:Nat)(hi:i<=n)(h0:I i env hp)
  (step:∀ i env hp,i<=n->I i env hp->wT E a (fun ex env' hp'=>match ex with
   |.normal=>i<n/\I (i+1) env' hp'
   |ex=>Q ex env' hp') env hp):wT E (.loop a) Q env hp:=by
 refine⟨fun k env hp=>∃ i,i<=n/\k=n - i/\I i env hp,n - i,⟨i,hi,rfl,h0⟩,?_⟩
 rintro k env hp ⟨i,hi,rfl,hI⟩
 refine zrw (fun ex env' hp' h=>?_) (step i env hp hi hI)
 cases ex with
 |normal=>exact⟨n - (i+1),by omega,i+1,by omega,rfl,h.2⟩
 |exit _=>exact h
 |ret=>exact h

end
end Dv

namespace Dv

def ob{A B:Type}(x:Option A)(f:A->Option B):Option B:=x.bind f
def obP{A:Type}(x:Option A)(f:A->Prop):Prop:=match x with | some a=>f a | none=>False
theorem z7{A B:Type}{a:A}{f:A->Option B}:ob (some a) f=f a:=rfl
theorem zom{A:Type}{a:A}{f:A->Prop}:obP (some a) f=f a:=rfl
theorem z51{A B:Type}{x y:Option A}{f:A->Option B}(h:x=y):ob x f=ob y f:=by rw[h]
theorem z3n{A:Type}{x y:Option A}{f:A->Prop}(h:x=y):obP x f=obP y f:=by rw[h]

section
variable{E:Env}{cP:Nat->List D->Option D}{env:List D}{hp:List Obj}

theorem zp{X:Option D}:(match Option.map (fun x=>(⟨x,none,none⟩:Ef)) X with | some e=>some e.d | none=>none)=X:=by cases X <;> rfl
theorem xv_v{i:Nat}:xv E cP env hp (.v i)=env[i]?:=by simp only[xv]
theorem xv_c{d:D}:xv E cP env hp (.c d)=some d:=by simp only[xv]
def yao(t:D)(a b:Option D):Option D:=match t with
 |.bool t=>if t=true then a else b
 |_=>none
theorem zv4{t:Bool}{a b:Option D}:yao (.bool t) a b=if t=true then a else b:=rfl
theorem zu6{c a b:Xp}:xv E cP env hp (.ite c a b)=ob (xv E cP env hp c) fun t=>yao t (xv E cP env hp a) (xv E cP env hp b):=by
 simp only[xv]
 cases h:xv E cP env hp c with
 |none=>rfl
 |some d=>
  cases d with
  |bool t=>cases t <;> rfl
  |_=>rfl

theorem zk3{op:gQ}{t:Nat}{a:Nat}{b:Nat}{x0:Xp}{x1:Xp}(h10:b ≠ a):xv E cP env hp (.n (.bin op t (.t a) (.t b)) (.cons a x0 (.cons b x1 .nil)))=ob (xv E cP env hp x0) fun u0=>ob (xv E cP env hp x1) fun u1=>y2e E op t u0 u1:=by
 simp only[xv,xvs]
 cases xv E cP env hp x0 <;> try rfl
 cases xv E cP env hp x1 <;> try rfl
 simp only[yb,av,aO,aj,aS,gOf,kv,z7,if_true,if_false,h10,↓reduceIte]
 exact zp

theorem zk4{op:gQ}{t:Nat}{a:Nat}{x0:Xp}{d1:D}  : xv E cP env hp (.n (.bin op t (.t a) (.c d1)) (.cons a x0 .nil))=ob (xv E cP env hp x0) fun u0=>y2e E op t u0 d1:=by
 simp only[xv,xvs]
 cases xv E cP env hp x0 <;> try rfl
 simp only[yb,av,aO,aj,aS,gOf,kv,z7,if_true,if_false,↓reduceIte]
 exact zp

theorem zk5{op:gQ}{t:Nat}{b:Nat}{x1:Xp}{d0:D}  : xv E cP env hp (.n (.bin op t (.c d0) (.t b)) (.cons b x1 .nil))=ob (xv E cP env hp x1) fun u1=>y2e E op t d0 u1:=by
 simp only[xv,xvs]
 cases xv E cP env hp x1 <;> try rfl
 simp only[yb,av,aO,aj,aS,gOf,kv,z7,if_true,if_false,↓reduceIte]
 exact zp

theorem zk6{op:gQ}{t:Nat}{d0:D}{d1:D}  : xv E cP env hp (.n (.bin op t (.c d0) (.c d1)) .nil)=y2e E op t d0 d1:=by
 simp only[xv,xvs]
 simp only[yb,av,aO,aj,aS,gOf,kv,z7,if_true,if_false,↓reduceIte]
 exact zp

theorem zrh{op:Go.UnOp}{a:Nat}{x0:Xp}  : xv E cP env hp (.n (.un op (.t a)) (.cons a x0 .nil))=ob (xv E cP env hp x0) fun u0=>unD op u0:=by
 simp only[xv,xvs]
 cases xv E cP env hp x0 <;> try rfl
 simp only[yb,av,aO,aj,aS,gOf,kv,z7,if_true,if_false,↓reduceIte]
 exact zp

theorem zk1{s1 s2:Nat}{a:Nat}{x0:Xp}  : xv E cP env hp (.n (.conv s1 s2 (.t a)) (.cons a x0 .nil))=ob (xv E cP env hp x0) fun u0=>y2n E s1 s2 u0:=by
 simp only[xv,xvs]
 cases xv E cP env hp x0 <;> try rfl
 simp only[yb,av,aO,aj,aS,gOf,kv,z7,if_true,if_false,↓reduceIte]
 exact zp

theorem zrk{t:Nat}{a:Nat}{x0:Xp}  : xv E cP env hp (.n (.load t (.t a)) (.cons a x0 .nil))=ob (xv E cP env hp x0) fun u0=>y11 E hp t u0:=by
 simp only[xv,xvs]
 cases xv E cP env hp x0 <;> try rfl
 simp only[yb,av,aO,aj,aS,gOf,kv,z7,if_true,if_false,↓reduceIte]
 exact zp

theorem zu5{t:Nat}{a:Nat}{x0:Xp}  : xv E cP env hp (.n (.len t (.t a)) (.cons a x0 .nil))=ob (xv E cP env hp x0) fun u0=>y5t E hp t u0:=by
 simp only[xv,xvs]
 cases xv E cP env hp x0 <;> try rfl
 simp only[yb,av,aO,aj,aS,gOf,kv,z7,if_true,if_false,↓reduceIte]
 exact zp

theorem znq{t f:Nat}{a:Nat}{x0:Xp}  : xv E cP env hp (.n (.faddr t (.t a) f) (.cons a x0 .nil))=ob (xv E cP env hp x0) fun u0=>y4s E t u0 f:=by
 simp only[xv,xvs]
 cases xv E cP env hp x0 <;> try rfl
 simp only[yb,av,aO,aj,aS,gOf,kv,z7,if_true,if_false,↓reduceIte]
 exact zp

theorem znp{t f:Nat}{a:Nat}{x0:Xp}  : xv E cP env hp (.n (.field t (.t a) f) (.cons a x0 .nil))=ob (xv E cP env hp x0) fun u0=>y7b E t u0 f:=by
 simp only[xv,xvs]
 cases xv E cP env hp x0 <;> try rfl
 simp only[yb,av,aO,aj,aS,gOf,kv,z7,if_true,if_false,↓reduceIte]
 exact zp

theorem zei{t:Nat}{a:Nat}{b:Nat}{x0:Xp}{x1:Xp}(h10:b ≠ a):xv E cP env hp (.n (.iaddr t (.t a) (.t b)) (.cons a x0 (.cons b x1 .nil)))=ob (xv E cP env hp x0) fun u0=>ob (xv E cP env hp x1) fun u1=>y2z E t u0 u1:=by
 simp only[xv,xvs]
 cases xv E cP env hp x0 <;> try rfl
 cases xv E cP env hp x1 <;> try rfl
 simp only[yb,av,aO,aj,aS,gOf,kv,z7,if_true,if_false,h10,↓reduceIte]
 exact zp

theorem zej{t:Nat}{a:Nat}{x0:Xp}{d1:D}  : xv E cP env hp (.n (.iaddr t (.t a) (.c d1)) (.cons a x0 .nil))=ob (xv E cP env hp x0) fun u0=>y2z E t u0 d1:=by
 simp only[xv,xvs]
 cases xv E cP env hp x0 <;> try rfl
 simp only[yb,av,aO,aj,aS,gOf,kv,z7,if_true,if_false,↓reduceIte]
 exact zp

theorem zeg{t:Nat}{a:Nat}{b:Nat}{x0:Xp}{x1:Xp}(h10:b ≠ a):xv E cP env hp (.n (.index t (.t a) (.t b)) (.cons a x0 (.cons b x1 .nil)))=ob (xv E cP env hp x0) fun u0=>ob (xv E cP env hp x1) fun u1=>y4x E t u0 u1:=by
 simp only[xv,xvs]
 cases xv E cP env hp x0 <;> try rfl
 cases xv E cP env hp x1 <;> try rfl
 simp only[yb,av,aO,aj,aS,gOf,kv,z7,if_true,if_false,h10,↓reduceIte]
 exact zp

theorem zeh{t:Nat}{a:Nat}{x0:Xp}{d1:D}  : xv E cP env hp (.n (.index t (.t a) (.c d1)) (.cons a x0 .nil))=ob (xv E cP env hp x0) fun u0=>y4x E t u0 d1:=by
 simp only[xv,xvs]
 cases xv E cP env hp x0 <;> try rfl
 simp only[yb,av,aO,aj,aS,gOf,kv,z7,if_true,if_false,↓reduceIte]
 exact zp

theorem zct{t:Nat}{ok:Bool}{a:Nat}{b:Nat}{x0:Xp}{x1:Xp}(h10:b ≠ a):xv E cP env hp (.n (.lookup t (.t a) (.t b) ok) (.cons a x0 (.cons b x1 .nil)))=ob (xv E cP env hp x0) fun u0=>ob (xv E cP env hp x1) fun u1=>y22 E hp t u0 u1 ok:=by
 simp only[xv,xvs]
 cases xv E cP env hp x0 <;> try rfl
 cases xv E cP env hp x1 <;> try rfl
 simp only[yb,av,aO,aj,aS,gOf,kv,z7,if_true,if_false,h10,↓reduceIte]
 exact zp

theorem zjw  {a:Nat} {b:Nat} {x0:Xp} {x1:Xp} (h10:b ≠ a):xv E cP env hp (.n (.maxi [(.t a),(.t b)]) (.cons a x0 (.cons b x1 .nil)))=ob (xv E cP env hp x0) fun u0=>ob (xv E cP env hp x1) fun u1=>y6b [u0,u1]:=by
 simp only[xv,xvs]
 cases xv E cP env hp x0 <;> try rfl
 cases xv E cP env hp x1 <;> try rfl
 simp only[yb,av,aO,aj,aS,gOf,kv,z7,if_true,if_false,h10,↓reduceIte]
 exact zp

theorem zjt  {a:Nat} {b:Nat} {x0:Xp} {x1:Xp} (h10:b ≠ a):xv E cP env hp (.n (.mini [(.t a),(.t b)]) (.cons a x0 (.cons b x1 .nil)))=ob (xv E cP env hp x0) fun u0=>ob (xv E cP env hp x1) fun u1=>y7m [u0,u1]:=by
 simp only[xv,xvs]
 cases xv E cP env hp x0 <;> try rfl
 cases xv E cP env hp x1 <;> try rfl
 simp only[yb,av,aO,aj,aS,gOf,kv,z7,if_true,if_false,h10,↓reduceIte]
 exact zp

theorem zjx  {a:Nat} {x0:Xp} {d1:D}  : xv E cP env hp (.n (.maxi [(.t a),(.c d1)]) (.cons a x0 .nil))=ob (xv E cP env hp x0) fun u0=>y6b [u0,d1]:=by
 simp only[xv,xvs]
 cases xv E cP env hp x0 <;> try rfl
 simp only[yb,av,aO,aj,aS,gOf,kv,z7,if_true,if_false,↓reduceIte]
 exact zp

theorem zju  {a:Nat} {x0:Xp} {d1:D}  : xv E cP env hp (.n (.mini [(.t a),(.c d1)]) (.cons a x0 .nil))=ob (xv E cP env hp x0) fun u0=>y7m [u0,d1]:=by
 simp only[xv,xvs]
 cases xv E cP env hp x0 <;> try rfl
 simp only[yb,av,aO,aj,aS,gOf,kv,z7,if_true,if_false,↓reduceIte]
 exact zp

theorem zjy  {b:Nat} {x1:Xp} {d0:D}  : xv E cP env hp (.n (.maxi [(.c d0),(.t b)]) (.cons b x1 .nil))=ob (xv E cP env hp x1) fun u1=>y6b [d0,u1]:=by
 simp only[xv,xvs]
 cases xv E cP env hp x1 <;> try rfl
 simp only[yb,av,aO,aj,aS,gOf,kv,z7,if_true,if_false,↓reduceIte]
 exact zp

theorem zjv  {b:Nat} {x1:Xp} {d0:D}  : xv E cP env hp (.n (.mini [(.c d0),(.t b)]) (.cons b x1 .nil))=ob (xv E cP env hp x1) fun u1=>y7m [d0,u1]:=by
 simp only[xv,xvs]
 cases xv E cP env hp x1 <;> try rfl
 simp only[yb,av,aO,aj,aS,gOf,kv,z7,if_true,if_false,↓reduceIte]
 exact zp

theorem zbh{t:Nat}{a:Nat}{b:Nat}{x0:Xp}{x1:Xp}(h10:b ≠ a):xv E cP env hp (.n (.slice t (.t a) (some (.t b)) none none) (.cons a x0 (.cons b x1 .nil)))=ob (xv E cP env hp x0) fun u0=>ob (xv E cP env hp x1) fun u1=>y13 E t u0 (some u1) none none:=by
 simp only[xv,xvs]
 cases xv E cP env hp x0 <;> try rfl
 cases xv E cP env hp x1 <;> try rfl
 simp only[yb,av,aO,aj,aS,gOf,kv,z7,if_true,if_false,h10,↓reduceIte]
 exact zp

theorem zbi{t:Nat}{a:Nat}{x0:Xp}{d1:D}  : xv E cP env hp (.n (.slice t (.t a) (some (.c d1)) none none) (.cons a x0 .nil))=ob (xv E cP env hp x0) fun u0=>y13 E t u0 (some d1) none none:=by
 simp only[xv,xvs]
 cases xv E cP env hp x0 <;> try rfl
 simp only[yb,av,aO,aj,aS,gOf,kv,z7,if_true,if_false,↓reduceIte]
 exact zp

theorem zbj{t:Nat}{a:Nat}{b:Nat}{x0:Xp}{x1:Xp}(h10:b ≠ a):xv E cP env hp (.n (.slice t (.t a) none (some (.t b)) none) (.cons a x0 (.cons b x1 .nil)))=ob (xv E cP env hp x0) fun u0=>ob (xv E cP env hp x1) fun u1=>y13 E t u0 none (some u1) none:=by
 simp only[xv,xvs]
 cases xv E cP env hp x0 <;> try rfl
 cases xv E cP env hp x1 <;> try rfl
 simp only[yb,av,aO,aj,aS,gOf,kv,z7,if_true,if_false,h10,↓reduceIte]
 exact zp

theorem zcs{t:Nat}{a:Nat}{x0:Xp}  : xv E cP env hp (.n (.slice t (.t a) none none none) (.cons a x0 .nil))=ob (xv E cP env hp x0) fun u0=>y13 E t u0 none none none:=by
 simp only[xv,xvs]
 cases xv E cP env hp x0 <;> try rfl
 simp only[yb,av,aO,aj,aS,gOf,kv,z7,if_true,if_false,↓reduceIte]
 exact zp


theorem zhf{a:Nat}{x:Xp}{i:Nat}:xv E cP env hp (.n (.extract (.t a) i) (.cons a x .nil))=ob (xv E cP env hp x) fun u=>match u with | .tup vs=>vs[i]? | _=>none:=by
 simp only[xv,xvs]
 cases xv E cP env hp x with
 |none=>rfl
 |some d=>
  simp only[yb,gOf,kv,z7,if_true]
  cases d <;> try rfl
  rename_i vs
  simp only[]
  cases vs[i]? <;> rfl

def y9a(cP:Nat->List D->Option D)(f:D)(args:List D):Option D:=match f with
 |.fn k caps=>(match y1k (frz [] depth) (args++caps) with
  |some vs=>cP k vs
  |none=>none)
 |_=>none

theorem zrm{f:Opd}{as:List Opd}{ks:Xs}:xv E cP env hp (.n (.call 0 f as) ks)=ob (xvs E cP env hp ks) fun vs=>y9a cP (gOf vs f) (as.map (gOf vs)):=by
 simp only[xv]
 cases xvs E cP env hp ks with
 |none=>rfl
 |some vs=>
  simp only[yb,z7,y9a]
  cases gOf vs f <;> try rfl
  rename_i k caps
  simp only[]
  cases y1k (frz [] depth) (as.map (gOf vs)++caps) with
  |none=>rfl
  |some l=>simp only[];cases cP k l <;> rfl

theorem zrg:xvs E cP env hp .nil=some []:=by simp only[xvs]
theorem znm{s:Nat}{x:Xp}{r:Xs}:xvs E cP env hp (.cons s x r)=ob (xv E cP env hp x) fun d=>ob (xvs E cP env hp r) fun l=>some ((s,d)::l):=by
 simp only[xvs]
 cases xv E cP env hp x with
 |none=>rfl
 |some d=>simp only[z7];cases xvs E cP env hp r <;> rfl

def y6x(E:Env)(t len:Nat)(ps:List (Nat × D)):Option D:=match (E.ty t).k with
 |.slice e=>(match y1s E e with
  |some z=>if len*(E.ty e).size<=16777216 then(match y4u (E.ty e).size (af len z) ps with
   |some els=>some (.imm .exact els)
   |none=>none) else none
  |none=>none)
 |_=>none
theorem zk2{t len:Nat}{ps:List (Nat × Opd)}{ks:Xs}:xv E cP env hp (.n (.bslice false t len ps) ks)=ob (xvs E cP env hp ks) fun vs=>y6x E t len (ps.map fun p=>(p.1,gOf vs p.2)):=by
 simp only[xv]
 cases xvs E cP env hp ks with
 |none=>rfl
 |some vs=>
  simp only[yb,z7,y6x,aM,false_and,if_false]
  cases (E.ty t).k <;> try rfl
  rename_i e
  simp only[]
  cases hz:y1s E e with
  |none=>rfl
  |some z=>
   by_cases hh:len*(E.ty e).size<=16777216
   ·simp only[hh,if_true]
    cases y4u (E.ty e).size (af len z) (ps.map fun p=>(p.1,gOf vs p.2)) <;> rfl
   ·simp only[hh,if_false]

def y8h(E:Env)(t:Nat)(ps:List (Nat × D)):Option D:=if(E.ty t).zero.length=(E.ty t).size/\(E.ty t).size ≠ 0 then y6k E t ps else none
theorem znr{t:Nat}{ps:List (Nat × Opd)}{ks:Xs}:xv E cP env hp (.n (.build t ps) ks)=ob (xvs E cP env hp ks) fun vs=>y8h E t (ps.map fun p=>(p.1,gOf vs p.2)):=by
 simp only[xv]
 cases xvs E cP env hp ks with
 |none=>rfl
 |some vs=>
  simp only[yb,z7,y8h]
  by_cases hh:(E.ty t).zero.length=(E.ty t).size/\(E.ty t).size ≠ 0
  ·simp only[if_pos hh];exact zp
  ·simp only[if_neg hh]

theorem zrj{f:Nat}{cs:List Opd}{ks:Xs}:xv E cP env hp (.n (.mkfn f cs) ks)=ob (xvs E cP env hp ks) fun vs=>some (.fn f (cs.map (gOf vs))):=by
 simp only[xv]
 cases xvs E cP env hp ks <;> rfl

variable{cS cY:Nat->List D->List Obj->Option (D × List Obj)}{base:Nat}

theorem zsm:rTS E cP cS cY base [] env hp=some (env,hp):=rfl
theorem zso{i:Nat}{x:Xp}{r:List TS}:rTS E cP cS cY base (.asg i x::r) env hp=ob (xv E cP env hp x) fun d=>rTS E cP cS cY base r (env.set i d) hp:=by
 simp only[rTS]
 cases xv E cP env hp x <;> rfl
theorem zsn{dst:Option Nat}{op:DOp}{ks:Xs}{r:List TS}:rTS E cP cS cY base (.eff none dst op ks none::r) env hp=ob (xvs E cP env hp ks) fun vs=>ob (yd E cP cS cY hp.length (gOf vs) hp op) fun p=>rTS E cP cS cY base r (y7w env dst p.1) p.2:=by
 simp only[rTS,gdT]
 cases xvs E cP env hp ks with
 |none=>rfl
 |some vs=>simp only[z7];cases yd E cP cS cY hp.length (gOf vs) hp op <;> rfl
theorem zob{k:Nat}{dst:Option Nat}{op:DOp}{ks:Xs}{r:List TS}:rTS E cP cS cY base (.eff none dst op ks (some k)::r) env hp=ob (xvs E cP env hp ks) fun vs=>ob (yd E cP cS cY (base+k) (gOf vs) hp op) fun p=>rTS E cP cS cY base r (y7w env dst p.1) p.2:=by
 simp only[rTS,gdT]
 cases xvs E cP env hp ks with
 |none=>rfl
 |some vs=>simp only[z7];cases yd E cP cS cY (base+k) (gOf vs) hp op <;> rfl

variable{Q:Ex->List D->List Obj->Prop}

theorem wR{l:List TS}:wT E (.run 0 l) Q env hp=obP (rTS E (y1i E (dL E)) (y16 E (dL E)) (y2w (dL E)) hp.length l env hp) fun p=>Q .normal p.1 p.2:=by
 simp only[wT,List.replicate_zero,List.append_nil,rTL]
 cases rTS E (y1i E (dL E)) (y16 E (dL E)) (y2w (dL E)) hp.length l env hp <;> rfl
theorem wRp{n:Nat}{l:List TS}:wT E (.run n l) Q env hp=obP (rTS E (y1i E (dL E)) (y16 E (dL E)) (y2w (dL E)) hp.length l env (hp++af n .dead)) fun p=>Q .normal p.1 p.2:=by
 simp only[wT,rTL]
 cases rTS E (y1i E (dL E)) (y16 E (dL E)) (y2w (dL E)) hp.length l env (hp++af n .dead) <;> rfl

def y98(t:D)(a b:Prop):Prop:=match t with
 |.bool t=>if t=true then a else b
 |_=>False
theorem ztk{t:Bool}{a b:Prop}:y98 (.bool t) a b=if t=true then a else b:=rfl
theorem z2c{t t':D}{a b:Prop}(h:t=t'):y98 t a b=y98 t' a b:=by rw[h]
theorem z2u{t t':D}{a b:Option D}(h:t=t'):yao t a b=yao t' a b:=by rw[h]
theorem wC{i:Nat}{a b:TC}:wT E (.cond i a b) Q env hp=obP env[i]? fun t=>y98 t (wT E a Q env hp) (wT E b Q env hp):=by
 simp only[wT]
 cases env[i]? with
 |none=>rfl
 |some d=>cases d <;> rfl

end
end Dv

namespace Dv

section
variable{E:Env}{cP:Nat->List D->Option D}{cS cY:Nat->List D->List Obj->Option (D × List Obj)}{env:List D}{hp:List Obj}{t id:Nat}{g:Opd->D}

theorem zqb{k:aT}{a b:Int}:y2e E .add t (.int k a) (.int k b)=some (.int k (k.wrap (a+b))):=by simp[y2e,y2h]
theorem zq1{k:aT}{a b:Int}:y2e E .sub t (.int k a) (.int k b)=some (.int k (k.wrap (a - b))):=by simp[y2e,y2h]
theorem zq4{k:aT}{a b:Int}:y2e E .mul t (.int k a) (.int k b)=some (.int k (k.wrap (a*b))):=by simp[y2e,y2h]
theorem zq9{k:aT}{a b:Int}:y2e E .eql t (.int k a) (.int k b)=some (.bool (a == b)):=by simp[y2e,y2h]
theorem zq3{k:aT}{a b:Int}:y2e E .neq t (.int k a) (.int k b)=some (.bool (a != b)):=by simp[y2e,y2h]
theorem zq5{k:aT}{a b:Int}:y2e E .lss t (.int k a) (.int k b)=some (.bool (decide (a<b))):=by simp[y2e,y2h]
theorem zq6{k:aT}{a b:Int}:y2e E .leq t (.int k a) (.int k b)=some (.bool (decide (a<=b))):=by simp[y2e,y2h]
theorem zq7{k:aT}{a b:Int}:y2e E .gtr t (.int k a) (.int k b)=some (.bool (decide (b<a))):=by simp[y2e,y2h]
theorem zq8{k:aT}{a b:Int}:y2e E .geq t (.int k a) (.int k b)=some (.bool (decide (b<=a))):=by simp[y2e,y2h]
theorem zvm{a b:Bool}:y2e E .eql t (.bool a) (.bool b)=(match (E.ty t).k with | .bool=>some (.bool (a == b)) | _=>none):=by
 simp only[y2e]
 cases (E.ty t).k <;> rfl
theorem znc{a b:Bool}:y2e E .neq t (.bool a) (.bool b)=(match (E.ty t).k with | .bool=>some (.bool (!(a == b))) | _=>none):=by
 simp only[y2e]
 cases (E.ty t).k <;> rfl
theorem znd{a b:List D}:y2e E .eql t (.agg a) (.agg b)=if(E.ty t).eqc=true/\y1j a (E.ty t).zero=true then ob (eqL a b) (fun r=>some (.bool r)) else none:=by
 simp only[y2e]
 split
 ·cases eqL a b <;> rfl
 ·rfl
theorem za0{a b:List D}:y2e E .neq t (.agg a) (.agg b)=if(E.ty t).eqc=true/\y1j a (E.ty t).zero=true then ob (eqL a b) (fun r=>some (.bool (!r))) else none:=by
 simp only[y2e]
 split
 ·cases eqL a b <;> rfl
 ·rfl
theorem zs3{b:Bool}:unD .not (.bool b)=some (.bool (!b)):=rfl
theorem zs4{k:aT}{n:Int}:unD .neg (.int k n)=some (.int k (k.wrap (0 - n))):=rfl
theorem zot{sp:y1t}{els:List D}:y5t E hp t (.imm sp els)=(match (E.ty t).k with | .slice _=>some (.int .i64 els.length) | .arr n _=>some (.int .i64 n) | _=>none):=by
 unfold y5t
 cases (E.ty t).k <;> rfl
theorem zsv{i off len sz:Nat}{ag gr:Bool}:y5t E hp t (.sl i off len sz ag gr)=(match (E.ty t).k with | .slice _=>some (.int .i64 len) | .arr n _=>some (.int .i64 n) | _=>none):=by
 unfold y5t
 cases (E.ty t).k <;> rfl
theorem zor{s:List UInt8}:y5t E hp t (.str s)=(match (E.ty t).k with | .str=>some (.int .i64 s.length) | .arr n _=>some (.int .i64 n) | _=>none):=by
 unfold y5t
 cases (E.ty t).k <;> rfl
def y84(o:Option Obj):Option (List D):=match o with
 |some (.cells cs)=>some cs
 |some (.frozen cs)=>some cs
 |_=>none
theorem z8x{cs:List D}:y84 (some (.cells cs))=some cs:=rfl
theorem z7p{cs:List D}:y84 (some (.frozen cs))=some cs:=rfl
theorem z16{i off:Nat}:y11 E hp t (.loc i off)=ob (y84 hp[i]?) fun cs=>ob (y1x cs off (E.ty t).size) (yk (E.ty t).ag):=by
 simp only[y11]
 cases hp[i]? with
 |none=>rfl
 |some o=>cases o <;> rfl
theorem z56{cs:List D}:y11 E hp t (.iptr cs)=ob (y1x cs 0 (E.ty t).size) (yk (E.ty t).ag):=rfl
theorem ziv{sp:y1t}{els:List D}{k:aT}{n:Int}:y2z E t (.imm sp els) (.int k n)=(match (E.ty t).k with | .slice e=>if 0<=n then ob els[n.toNat]? (fun d=>if d.cellsL.length=(E.ty e).size then some (.iptr d.cellsL) else none) else none | _=>none):=by
 unfold y2z
 cases (E.ty t).k <;> try rfl
 by_cases h:0<=n
 ·simp only[h,if_true];cases els[n.toNat]? <;> rfl
 ·simp only[h,if_false]
theorem zlv{i off len sz:Nat}{ag gr:Bool}{k:aT}{n:Int}:y2z E t (.sl i off len sz ag gr) (.int k n)=(match (E.ty t).k with | .slice e=>if 0<=n/\n<len/\sz=(E.ty e).size then some (.loc i (off+n.toNat*sz)) else none | _=>none):=by
 unfold y2z
 cases (E.ty t).k <;> rfl
theorem ziu{i off:Nat}{k:aT}{n:Int}:y2z E t (.loc i off) (.int k n)=(match (E.ty t).k with | .arr len e=>if 0<=n/\n<len then some (.loc i (off+n.toNat*(E.ty e).size)) else none | _=>none):=by
 unfold y2z
 cases (E.ty t).k <;> rfl
theorem zb6{i off f:Nat}:y4s E t (.loc i off) f=(match (E.ty t).k with | .struct fs=>ob fs[f]? (fun p=>if(E.ty p.2).size=0 then none else some (.loc i (off+p.1))) | _=>none):=by
 unfold y4s
 cases (E.ty t).k <;> try rfl
 rename_i fs
 simp only[]
 cases fs[f]? <;> rfl
theorem zfs{cs:List D}{f:Nat}:y4s E t (.iptr cs) f=(match (E.ty t).k with | .struct fs=>ob fs[f]? (fun p=>if(E.ty p.2).size=0 then none else some (.iptr (cs.drop p.1))) | _=>none):=by
 unfold y4s
 cases (E.ty t).k <;> try rfl
 rename_i fs
 simp only[]
 cases fs[f]? <;> rfl
theorem zis{cs:List D}{k:aT}{n:Int}:y4x E t (.agg cs) (.int k n)=(match (E.ty t).k with | .arr len e=>if 0<=n/\n<len then ob (y1x cs (n.toNat*(E.ty e).size) (E.ty e).size) (yk (E.ty e).ag) else none | _=>none):=by
 unfold y4x
 cases (E.ty t).k <;> rfl
theorem zfz{b:Bool}:D.cellsL (.bool b)=[.bool b]:=rfl
theorem zkj{b:Bool}:D.storable (.bool b)=true:=rfl
theorem zng{b:Bool}:D.atom (.bool b)=true:=rfl
theorem zjm{k:aT}{n:Int}:D.cellsL (.int k n)=[.int k n]:=rfl
theorem zo4{k:aT}{n:Int}:D.storable (.int k n)=true:=rfl
theorem zqf{k:aT}{n:Int}:D.atom (.int k n)=true:=rfl
theorem zjj{s:List UInt8}:D.cellsL (.str s)=[.str s]:=rfl
theorem zo1{s:List UInt8}:D.storable (.str s)=true:=rfl
theorem zqc{s:List UInt8}:D.atom (.str s)=true:=rfl
theorem zjn{sp:y1t}{els:List D}:D.cellsL (.imm sp els)=[.imm sp els]:=rfl
theorem zo5{sp:y1t}{els:List D}:D.storable (.imm sp els)=true:=rfl
theorem zqg{sp:y1t}{els:List D}:D.atom (.imm sp els)=true:=rfl
theorem zn1{i off len sz:Nat}{ag gr:Bool}:D.cellsL (.sl i off len sz ag gr)=[.sl i off len sz ag gr]:=rfl
theorem zsf{i off len sz:Nat}{ag gr:Bool}:D.storable (.sl i off len sz ag gr)=true:=rfl
theorem zts{i off len sz:Nat}{ag gr:Bool}:D.atom (.sl i off len sz ag gr)=true:=rfl
theorem zjl{i off:Nat}:D.cellsL (.loc i off)=[.loc i off]:=rfl
theorem zo3{i off:Nat}:D.storable (.loc i off)=true:=rfl
theorem zqe{i off:Nat}:D.atom (.loc i off)=true:=rfl
theorem zfy{cs:List D}:D.cellsL (.iptr cs)=[.iptr cs]:=rfl
theorem zki{cs:List D}:D.storable (.iptr cs)=true:=rfl
theorem znf{cs:List D}:D.atom (.iptr cs)=true:=rfl
theorem zjk{m:Option Nat}:D.cellsL (.map m)=[.map m]:=rfl
theorem zo2{m:Option Nat}:D.storable (.map m)=true:=rfl
theorem zqd{m:Option Nat}:D.atom (.map m)=true:=rfl
theorem zn2{f:Nat}{cs:List D}:D.cellsL (.fn f cs)=[.fn f cs]:=rfl
theorem zsg{f:Nat}{cs:List D}:D.storable (.fn f cs)=true:=rfl
theorem ztt{f:Nat}{cs:List D}:D.atom (.fn f cs)=true:=rfl
theorem zjo{cs:List D}:D.cellsL (.agg cs)=cs:=rfl
theorem zo6{cs:List D}:D.storable (.agg cs)=cs.all D.atom:=rfl
theorem zed:D.cellsL .nilfn=[.nilfn]:=rfl
theorem zhh:D.storable .nilfn=true:=rfl
theorem zjr:D.atom .nilfn=true:=rfl
theorem zfx:D.cellsL .nilp=[.nilp]:=rfl
theorem zkh:D.storable .nilp=true:=rfl
theorem zne:D.atom .nilp=true:=rfl
theorem zs7{cs:List D}{o:Nat}:y1x cs o 0=some []:=rfl
theorem zs8{cs:List D}{o n:Nat}:y1x cs o (n+1)=ob cs[o]? fun c=>ob (y1x cs (o+1) n) fun r=>some (c::r):=by
 simp only[y1x]
 cases cs[o]? with
 |none=>rfl
 |some c=>simp only[z7];cases y1x cs (o+1) n <;> rfl
theorem zi2{cs:List D}:yk true cs=some (.agg cs):=rfl
theorem zf4{c:D}:yk false [c]=some c:=rfl
theorem ztz  {s b:Nat} {z:List D} {q:Bool}:TI.ag ⟨.bool ,s,b,z,q⟩=false:=rfl
theorem zvq{k:aT}{s b:Nat}{z:List D}{q:Bool}:TI.ag ⟨.int k,s,b,z,q⟩=false:=rfl
theorem zvn  {s b:Nat} {z:List D} {q:Bool}:TI.ag ⟨.str ,s,b,z,q⟩=false:=rfl
theorem zqn{e:Nat}{s b:Nat}{z:List D}{q:Bool}:TI.ag ⟨.slice e,s,b,z,q⟩=false:=rfl
theorem znk{fs:List (Nat × Nat)}{s b:Nat}{z:List D}{q:Bool}:TI.ag ⟨.struct fs,s,b,z,q⟩=true:=rfl
theorem zvr{n e:Nat}{s b:Nat}{z:List D}{q:Bool}:TI.ag ⟨.arr n e,s,b,z,q⟩=true:=rfl
theorem zvp{k e:Nat}{s b:Nat}{z:List D}{q:Bool}:TI.ag ⟨.map k e,s,b,z,q⟩=false:=rfl
theorem zvo{e:Nat}{s b:Nat}{z:List D}{q:Bool}:TI.ag ⟨.ptr e,s,b,z,q⟩=false:=rfl
theorem zty  {s b:Nat} {z:List D} {q:Bool}:TI.ag ⟨.func ,s,b,z,q⟩=false:=rfl
theorem ye5{vs:List (Nat × D)}{n:Nat}:gOf vs (.t n)=kv n vs:=rfl
theorem ye7{vs:List (Nat × D)}{d:D}:gOf vs (.c d)=d:=rfl
theorem ye6{vs:List (Nat × D)}{k:Nat}:gOf vs (.f k)=.fn k []:=rfl
theorem zsz{n m:Nat}{d:D}{r:List (Nat × D)}:kv n ((m,d)::r)=if n=m then d else kv n r:=rfl
theorem zkz{i:Nat}{d:D}:y7w env (some i) d=env.set i d:=rfl
theorem zl0{d:D}:y7w env none d=env:=rfl
theorem zhz{d:D}:y25 [d]=d:=rfl
theorem zhy{a b:D}:y25 [a,b]=.tup [a,b]:=rfl
theorem zdq{a b c:D}:y25 [a,b,c]=.tup [a,b,c]:=rfl
theorem zj2:y2v E env hp []=some []:=rfl
theorem zp1{i:Nat}{r:List (Nat × Option Nat)}:y2v E env hp ((i,none)::r)=ob env[i]? fun d=>ob (y2v E env hp r) fun l=>some (d::l):=by
 simp only[y2v]
 cases env[i]? with
 |none=>rfl
 |some d=>simp only[z7];cases y2v E env hp r <;> rfl
theorem zp2{i t:Nat}{r:List (Nat × Option Nat)}:y2v E env hp ((i,some t)::r)=ob env[i]? fun a=>ob (y11 E hp t a) fun d=>ob (y2v E env hp r) fun l=>some (d::l):=by
 simp only[y2v]
 cases env[i]? with
 |none=>rfl
 |some a=>
  simp only[z7]
  cases y11 E hp t a with
  |none=>rfl
  |some d=>simp only[z7];cases y2v E env hp r <;> rfl
theorem zla{k:aT}{a b:Int}:y6b [.int k a,.int k b]=some (.int k (if a<b then b else a)):=by simp[y6b,y6w]
def extV(d:D)(i:Nat):Option D:=match d with
 |.tup vs=>vs[i]?
 |_=>none
theorem zpj{vs:List D}{i:Nat}:extV (.tup vs) i=vs[i]?:=rfl
theorem zu7{a:Nat}{x:Xp}{i:Nat}:xv E cP env hp (.n (.extract (.t a) i) (.cons a x .nil))=ob (xv E cP env hp x) fun u=>extV u i:=zhf
theorem zhj{x:Opd}:yd E cP cS cY id g hp (.box t x)=if(g x).storable=true then some (.loc id 0,y2g hp id (.cells (g x).cellsL)) else none:=by
 simp only[yd,DOp.fin,yb]
 split <;> rfl
theorem zd9:yd E cP cS cY id g hp (.alloc t)=if(E.ty t).zero.all D.atom=true/\(E.ty t).zero.length=(E.ty t).size/\(E.ty t).size ≠ 0 then some (.loc id 0,y2g hp id (.cells (E.ty t).zero)) else none:=by
 simp only[yd,DOp.fin,yb]
 split <;> rfl
theorem zd0{a x:Opd}:yd E cP cS cY id g hp (.store t a x)=(y3h E hp t (g a) (g x)).map (.undef,·):=rfl
def writeO(o:Option Obj):Option (List D):=match o with
 |some (.cells cs)=>some cs
 |_=>none
theorem zcu{cs:List D}:writeO (some (.cells cs))=some cs:=rfl
theorem zai{i off:Nat}{x:D}:y3h E hp t (.loc i off) x=ob (writeO hp[i]?) fun cs=>if x.storable=true/\x.cellsL.length=(E.ty t).size/\off+(E.ty t).size<=cs.length then some (hp.set i (.cells (setCells cs off x.cellsL))) else none:=by
 simp only[y3h]
 cases hp[i]? with
 |none=>rfl
 |some o=>cases o <;> rfl
theorem zdd{cs:List D}{o:Nat}:setCells cs o []=cs:=rfl
theorem zbq{cs:List D}{o:Nat}{v:D}{r:List D}:setCells cs o (v::r)=setCells (cs.set o v) (o+1) r:=rfl
theorem zd1:yd E cP cS cY id g hp (.mkmap t)=some (.map (some id),y2g hp id (.map [])):=rfl
theorem zbo{m k v:Opd}:yd E cP cS cY id g hp (.mapset t m k v)=(y2y E hp t (g m) (g k) (g v)).map (.undef,·):=rfl
theorem zd8{f:Opd}{as:List Opd}:yd E cP cS cY id g hp (.call 1 f as)=(match g f with | .fn k caps=>ob (y1k (frz hp depth) (as.map g++caps)) (fun vs=>(cP k vs).map (·,yt hp ((as.map g++caps).flatMap (ids hp depth)))) | _=>none):=by
 simp only[yd,DOp.fin,yj]
 cases g f <;> try rfl
 rename_i k caps
 simp only[]
 cases y1k (frz hp depth) (as.map g++caps) <;> rfl
theorem zd7{f:Opd}{as:List Opd}:yd E cP cS cY id g hp (.call 2 f as)=(match g f with | .fn k caps=>y14 (cS k (as.map g++caps) hp) | .bfn k r=>y14 (cS k (r::as.map g) hp) | .yld l=>cY l (as.map g) hp | _=>none):=rfl
theorem zer{t2:Nat}{x y:Opd}:yd E cP cS cY id g hp (.append 2 t t2 x y)=y2k E hp t t2 (g x) (g y):=rfl
theorem zes{t2:Nat}{x y:Opd}:yd E cP cS cY id g hp (.append 1 t t2 x y)=(y1p E hp id t t2 (g x) (g y)).map fun e=>(e.d,yg hp id e):=rfl
theorem zbp{len:Nat}{ps:List (Nat × Opd)}:yd E cP cS cY id g hp (.bslice true t (len+1) ps)=(match (E.ty t).k with | .slice e=>ob (y1s E e) (fun z=>if(len+1)*(E.ty e).size<=16777216 then ob (y4u (E.ty e).size (af (len+1) z) (ps.map fun p=>(p.1,g p.2))) (fun els=>some (.sl id 0 (len+1) (E.ty e).size (E.ty e).ag true,y2g hp id (.cells (yn els)))) else none) | _=>none):=by
 simp only[yd,DOp.fin,yb]
 cases (E.ty t).k <;> try rfl
 rename_i e
 simp only[]
 cases y1s E e with
 |none=>rfl
 |some z=>
  simp only[z7]
  by_cases hh:(len+1)*(E.ty e).size<=16777216
  ·simp only[hh,if_true]
   cases y4u (E.ty e).size (af (len+1) z) (ps.map fun p=>(p.1,g p.2)) <;> rfl
  ·simp only[hh,if_false];rfl
def ye0(o:Option Obj):Option (List (D × D)):=match o with
 |some (.map es)=>some es
 |_=>none
theorem zc4{es:List (D × D)}:ye0 (some (.map es))=some es:=rfl
theorem zdu{i:Nat}{k:D}:y22 E hp t (.map (some i)) k false=(match (E.ty t).k with | .map kt e=>if y3z E kt k=true then ob (ye0 hp[i]?) (fun es=>ob (y17 k es) fun r=>match r with | some v=>some v | none=>y1s E e) else none | _=>none):=by
 unfold y22
 cases (E.ty t).k <;> try rfl
 rename_i kt e
 by_cases h:y3z E kt k=true
 ·simp only[h,if_true]
  cases hp[i]? with
  |none=>rfl
  |some o=>
   cases o <;> try rfl
   rename_i es
   simp only[zc4,z7]
   cases y17 k es with
   |none=>rfl
   |some r=>
    cases r with
    |some v=>rfl
    |none=>simp only[z7];cases y1s E e <;> rfl
 ·simp only[h,if_false];rfl
theorem zds{i:Nat}{k v:D}:y2y E hp t (.map (some i)) k v=(match (E.ty t).k with | .map kt e=>if y3z E kt k=true/\v.storable=true/\v.cellsL.length=(E.ty e).size then ob (ye0 hp[i]?) (fun es=>ob (y1o k v es) fun es=>some (hp.set i (.map es))) else none | _=>none):=by
 unfold y2y
 cases (E.ty t).k <;> try rfl
 rename_i kt e
 by_cases h:y3z E kt k=true/\v.storable=true/\v.cellsL.length=(E.ty e).size
 ·simp only[if_pos h]
  cases hp[i]? with
  |none=>rfl
  |some o=>
   cases o <;> try rfl
   rename_i es
   simp only[zc4,z7]
   cases y1o k v es <;> rfl
 ·simp only[if_neg h]
theorem zln{xs:List D}:y3z E t (.agg xs)=((E.ty t).eqc && y1j xs (E.ty t).zero):=rfl
theorem zie:y1j [] []=true:=rfl
theorem zfh{a b:Bool}{r s:List D}:y1j (.bool a::r) (.bool b::s)=y1j r s:=rfl
theorem zif{k:aT}{a b:Int}{r s:List D}:y1j (.int k a::r) (.int k b::s)=y1j r s:=by simp[y1j]
theorem ztc:eqL [] []=some true:=rfl
theorem zpl{x y:D}{r s:List D}:eqL (x::r) (y::s)=ob (y1w x y) fun a=>ob (eqL r s) fun b=>some (a && b):=by
 simp only[eqL]
 cases y1w x y with
 |none=>rfl
 |some a=>simp only[z7];cases eqL r s <;> rfl
theorem zg0{a b:Bool}:y1w (.bool a) (.bool b)=some (a == b):=rfl
theorem zjs{k:aT}{a b:Int}:y1w (.int k a) (.int k b)=some (a == b):=by simp[y1w]
theorem zr5{n off i len sz:Nat}{ag gr:Bool}:frz hp (n+1) (.sl i off len sz ag gr)=ob (y84 hp[i]?) fun cs=>ob (y2o sz ag len (cs.drop off)) fun els=>(y1k (frz hp n) els).map (.imm .none):=by
 simp only[frz,yw]
 cases hp[i]? with
 |none=>rfl
 |some o=>
  cases o <;> try rfl
  ·simp only[z8x,z7];cases y2o sz ag len _ <;> rfl
  ·simp only[z7p,z7];cases y2o sz ag len _ <;> rfl
def ybl(o:Option Obj):Option (Nat × Nat):=match o with
 |some (.tok u s)=>some (u,s)
 |_=>none
def y32(E:Env)(e:Nat)(els new:List D):Prop:=(els.length+new.length)*((E.ty e).bytes+1)<=yl/\(E.ty e).bytes<=65536/\(y1s E e).isSome=true/\y30 (E.ty e).size els=true
instance{e:Nat}{els new:List D}:Decidable (y32 E e els new):=inferInstanceAs (Decidable (_/\_))
def yas(E:Env)(hp:List Obj)(id t t2:Nat)(x y:D):Option (D × List Obj):=(y2j E hp id t t2 x y).map fun e=>(e.d,yg hp id e)
def ydf(E:Env)(e:Nat)(y:D):Option (List D):=match y with
 |.str s=>if 1=(E.ty e).size/\(E.ty e).ag=false then some (s.map ya) else none
 |_=>none
theorem zbn{e:Nat}{s:List UInt8}:ydf E e (.str s)=if 1=(E.ty e).size/\(E.ty e).ag=false then some (s.map ya) else none:=rfl
theorem zg8{u s:Nat}:ybl (some (.tok u s))=some (u,s):=rfl
theorem zl{t2:Nat}{x y:Opd}:yd E cP cS cY id g hp (.append 0 t t2 x y)=yas E hp id t t2 (g x) (g y):=rfl
theorem z1b{t2:Nat}{els:List D}{y:D}:yas E hp id t t2 (.imm .exact els) y=(match (E.ty t).k,(E.ty t2).k with | .slice e,.slice _=>ob (y15 hp (E.ty e).size (E.ty e).ag y) (fun new=>if y32 E e els new then some (.imm (.tok id) (els++new),y2g hp id (.tok ((els.length+new.length)*(E.ty e).size) (E.ty e).size)) else none) | .slice e,.str=>ob (ydf E e y) (fun new=>if y32 E e els new then some (.imm (.tok id) (els++new),y2g hp id (.tok ((els.length+new.length)*(E.ty e).size) (E.ty e).size)) else none) | _,_=>none):=by
 have key:∀(e:Nat) (new:List D),((y2a E hp id e .exact els new).map fun e=>(e.d,yg hp id e))=if y32 E e els new then some (.imm (.tok id) (els++new),y2g hp id (.tok ((els.length+new.length)*(E.ty e).size) (E.ty e).size)) else none:=fun e new=>by
  unfold y2a
  by_cases hh:y32 E e els new
  ·have h1:(els.length+new.length)*((E.ty e).bytes+1)<=yl/\(E.ty e).bytes<=65536/\(y1s E e).isSome=true/\y30 (E.ty e).size els=true:=hh
   rw[if_pos h1,if_pos hh];rfl
  ·have h1 : ¬ ((els.length+new.length)*((E.ty e).bytes+1)<=yl/\(E.ty e).bytes<=65536/\(y1s E e).isSome=true/\y30 (E.ty e).size els=true):=hh
   rw[if_neg h1,if_neg hh];rfl
 unfold yas y2j
 cases (E.ty t).k <;> try rfl
 cases (E.ty t2).k <;> try rfl
 ·simp only[]
  cases y <;> try rfl
  rename_i e s
  simp only[zbn]
  by_cases hs:1=(E.ty e).size/\(E.ty e).ag=false
  ·simp only[if_pos hs,z7];exact key _ _
  ·simp only[if_neg hs];rfl
 ·rename_i e e2
  simp only[]
  cases y15 hp (E.ty e).size (E.ty e).ag y with
  |none=>rfl
  |some new=>simp only[z7];exact key _ _
theorem z1o{t2 k:Nat}{els:List D}{y:D}:yas E hp id t t2 (.imm (.tok k) els) y=(match (E.ty t).k,(E.ty t2).k with | .slice e,.slice _=>ob (y15 hp (E.ty e).size (E.ty e).ag y) (fun new=>if y32 E e els new then ob (ybl hp[k]?) (fun u=>if u.1=els.length*(E.ty e).size/\u.2=(E.ty e).size then some (.imm (.tok id) (els++new),y2g (hp.set k .dead) id (.tok ((els.length+new.length)*(E.ty e).size) (E.ty e).size)) else none) else none) | .slice e,.str=>ob (ydf E e y) (fun new=>if y32 E e els new then ob (ybl hp[k]?) (fun u=>if u.1=els.length*(E.ty e).size/\u.2=(E.ty e).size then some (.imm (.tok id) (els++new),y2g (hp.set k .dead) id (.tok ((els.length+new.length)*(E.ty e).size) (E.ty e).size)) else none) else none) | _,_=>none):=by
 have key:∀(e:Nat) (new:List D),((y2a E hp id e (.tok k) els new).map fun e=>(e.d,yg hp id e))=if y32 E e els new then ob (ybl hp[k]?) (fun u=>if u.1=els.length*(E.ty e).size/\u.2=(E.ty e).size then some (.imm (.tok id) (els++new),y2g (hp.set k .dead) id (.tok ((els.length+new.length)*(E.ty e).size) (E.ty e).size)) else none) else none:=fun e new=>by
  unfold y2a
  by_cases hh:y32 E e els new
  ·have h1:(els.length+new.length)*((E.ty e).bytes+1)<=yl/\(E.ty e).bytes<=65536/\(y1s E e).isSome=true/\y30 (E.ty e).size els=true:=hh
   rw[if_pos h1,if_pos hh]
   simp only[]
   cases hp[k]? with
   |none=>rfl
   |some o=>
    cases o <;> try rfl
    rename_i u s
    simp only[zg8,z7]
    by_cases h2:u=els.length*(E.ty e).size/\s=(E.ty e).size
    ·simp only[if_pos h2];rfl
    ·simp only[if_neg h2];rfl
  ·have h1 : ¬ ((els.length+new.length)*((E.ty e).bytes+1)<=yl/\(E.ty e).bytes<=65536/\(y1s E e).isSome=true/\y30 (E.ty e).size els=true):=hh
   rw[if_neg h1,if_neg hh];rfl
 unfold yas y2j
 cases (E.ty t).k <;> try rfl
 cases (E.ty t2).k <;> try rfl
 ·simp only[]
  cases y <;> try rfl
  rename_i e s
  simp only[zbn]
  by_cases hs:1=(E.ty e).size/\(E.ty e).ag=false
  ·simp only[if_pos hs,z7];exact key _ _
  ·simp only[if_neg hs];rfl
 ·rename_i e e2
  simp only[]
  cases y15 hp (E.ty e).size (E.ty e).ag y with
  |none=>rfl
  |some new=>simp only[z7];exact key _ _
theorem zi0:y25 []=.tup []:=rfl
theorem zia{sz:Nat}{ag:Bool}{sp:y1t}{els:List D}:y15 hp sz ag (.imm sp els)=if(els.all fun d=>d.storable && d.cellsL.length == sz)=true then some els else none:=rfl

end
end Dv

namespace Dv

section
variable{E:Env}{cP:Nat->List D->Option D}{cS cY:Nat->List D->List Obj->Option (D × List Obj)}{env:List D}{hp:List Obj}{t id base:Nat}{g:Opd->D}

theorem zqa{k:aT}{a b:Int}:y2e E .and t (.int k a) (.int k b)=some (.int k (y7x k a b)):=by simp[y2e,y2h]
theorem znb{k:aT}{a b:Int}:y2e E .or t (.int k a) (.int k b)=some (.int k (y8r k a b)):=by simp[y2e,y2h]
theorem zq0{k:aT}{a b:Int}:y2e E .xor t (.int k a) (.int k b)=some (.int k (y65 k a b)):=by simp[y2e,y2h]
theorem zd6{f:Opd}{as:List Opd}:yd E cP cS cY id g hp (.call 3 f as)=(match g f with | .fn k caps=>ob (y1k (frz hp depth) (as.map g++caps)) (fun vs=>ob (cP k vs) fun d=>if d.closed=true then some (d,hp) else none) | _=>none):=by
 simp only[yd,DOp.fin,yj]
 cases g f <;> try rfl
 rename_i k caps
 simp only[]
 cases y1k (frz hp depth) (as.map g++caps) with
 |none=>rfl
 |some vs=>simp only[z7];cases cP k vs <;> rfl
theorem zfw{b:Bool}:D.closed (.bool b)=true:=rfl
theorem zjg{k:aT}{n:Int}:D.closed (.int k n)=true:=rfl
theorem zje{l:List D}:D.closed (.tup l)=l.all D.flatB:=rfl
theorem zj5{b:Bool}:D.flatB (.bool b)=true:=rfl
theorem zmh{k:aT}{n:Int}:D.flatB (.int k n)=true:=rfl
def gdV{A:Type}(u:D)(b:Bool)(x y:Option A):Option A:=match u with
 |.bool c=>if c=b then x else y
 |_=>y
theorem zvb{A:Type}{c b:Bool}{x y:Option A}:gdV (.bool c) b x y=if c=b then x else y:=rfl
theorem z3o{A:Type}{u u':D}{b:Bool}{x y:Option A}(h:u=u'):gdV u b x y=gdV u' b x y:=by rw[h]
theorem zoc{x:Xp}{b:Bool}{dst:Option Nat}{op:DOp}{ks:Xs}{r:List TS}:rTS E cP cS cY base (.eff (some (x,b)) dst op ks none::r) env hp=ob (xv E cP env hp x) fun u=>gdV u b (ob (xvs E cP env hp ks) fun vs=>ob (yd E cP cS cY hp.length (gOf vs) hp op) fun p=>rTS E cP cS cY base r (y7w env dst p.1) p.2) (rTS E cP cS cY base r (y7w env dst .undef) hp):=by
 simp only[rTS,gdT]
 cases xv E cP env hp x with
 |none=>rfl
 |some u=>
  simp only[z7]
  cases u with
  |bool c=>
   simp only[zvb]
   by_cases h:c=b
   ·subst h
    simp only[beq_self_eq_true,if_true]
    cases xvs E cP env hp ks with
    |none=>rfl
    |some vs=>simp only[z7];cases yd E cP cS cY hp.length (gOf vs) hp op <;> rfl
   ·have:(c == b)=false:=by simpa using h
    simp only[this,if_neg h]
  |_=>rfl
theorem zef{t a b c:Nat}{x0 x1 x2:Xp}(h1:b ≠ a)(h2:c ≠ a)(h3:c ≠ b):xv E cP env hp (.n (.slice t (.t a) none (some (.t b)) (some (.t c))) (.cons a x0 (.cons b x1 (.cons c x2 .nil))))=ob (xv E cP env hp x0) fun u0=>ob (xv E cP env hp x1) fun u1=>ob (xv E cP env hp x2) fun u2=>y13 E t u0 none (some u1) (some u2):=by
 simp only[xv,xvs]
 cases xv E cP env hp x0 <;> try rfl
 cases xv E cP env hp x1 <;> try rfl
 cases xv E cP env hp x2 <;> try rfl
 simp only[yb,aj,aS,gOf,kv,z7,if_true,if_false,h1,h2,h3,↓reduceIte]
 exact zp
theorem zp8{n:Nat}{cs:List D}:ya5 hp (n+1) (.tup cs)=(y1k (y8s hp n) cs).map .tup:=rfl
theorem zj3{n:Nat}{cs:List D}:ya5 hp (n+1) (.imm .exact cs)=(y1k (frz hp n) cs).map (.imm .exact):=rfl
theorem zj4{n:Nat}{cs:List D}:y8s hp (n+1) (.imm .exact cs)=(y1k (frz hp n) cs).map (.imm .exact):=rfl
theorem zma{n:Nat}{cs:List D}:y8s hp (n+1) (.imm .none cs)=(y1k (frz hp n) cs).map (.imm .none):=rfl
theorem zpd{n:Nat}{k:aT}{i:Int}:y8s hp (n+1) (.int k i)=some (.int k i):=rfl

theorem zfk{b:Bool}:yp (.bool b)=false:=rfl
theorem zim{k:aT}{n:Int}:yp (.int k n)=false:=rfl
theorem zik{b:List UInt8}:yp (.str b)=false:=rfl
theorem zin{sp:y1t}{l:List D}:yp (.imm sp l)=false:=rfl
theorem zls{a b c d:Nat}{e f:Bool}:yp (.sl a b c d e f)=false:=rfl
theorem zlt{a:Nat}{l:List D}:yp (.fn a l)=false:=rfl
theorem zil{a b:Nat}:yp (.loc a b)=false:=rfl
theorem zdy:yp .undef=false:=rfl
def isU:D->Bool
 |.undef=>true
 |_=>false
theorem zio{d:D}{r:List D}:yp (.agg (d::r))=isU d:=by cases d <;> rfl
theorem zfj:yp (.tup [])=false:=rfl
theorem zfl:yp (.agg [])=false:=rfl
theorem zlr:isU .undef=true:=rfl
theorem zov{b:Bool}:isU (.bool b)=false:=rfl
theorem zt2{k:aT}{n:Int}:isU (.int k n)=false:=rfl
theorem zt0{b:List UInt8}:isU (.str b)=false:=rfl
theorem zt3{sp:y1t}{l:List D}:isU (.imm sp l)=false:=rfl
theorem zt4{l:List D}:isU (.agg l)=false:=rfl
theorem zv6{a:Nat}{l:List D}:isU (.fn a l)=false:=rfl
theorem zt1{a b:Nat}:isU (.loc a b)=false:=rfl
theorem zv5{a b c d:Nat}{e f:Bool}:isU (.sl a b c d e f)=false:=rfl
theorem zon{d:D}{h:List Obj}:y14 (some (d,h))=if yp d=true then none else some (d,h):=rfl
def y6c(d:D)(a b:Prop):Prop:=if yp d=true then a else b
theorem zc3{d:D}{a b:Prop}(h:yp d=false):y6c d a b=b:=by simp[y6c,h]
theorem z28{t t':D}{a b:Prop}(h:t=t'):y6c t a b=y6c t' a b:=by rw[h]
theorem wI{i:Nat}{a b:TC}{Q:Ex->List D->List Obj->Prop}:wT E (.ifp i a b) Q env hp=obP env[i]? fun d=>y6c d (wT E a Q env hp) (wT E b Q env hp):=by
 simp only[wT]
 cases env[i]? with
 |none=>rfl
 |some d=>rfl
theorem zry{Q:Ex->List D->List Obj->Prop}:wT E .dead Q env hp=False:=rfl
theorem zd5{f:Opd}{as:List Opd}:yd E cP cS cY id g hp (.call 6 f as)=(match g f with | .fn k caps=>if E.mp k=true then cS k (as.map g++caps) hp else none | _=>none):=rfl
def y9x(d:D):Option D:=match d with
 |.loc i o=>some (.loc i o)
 |.iptr cs=>some (.iptr cs)
 |_=>none
theorem zl7{i o:Nat}:y9x (.loc i o)=some (.loc i o):=rfl
theorem zi3{l:List D}:y9x (.iptr l)=some (.iptr l):=rfl
def y86(b:Bool)(d:D):Option D:=match b,d with
 |false,.int .i64 n=>some (.tup [.undef,.int .i64 n])
 |true,.agg [.int .i64 n]=>some (.tup [.undef,.agg [.int .i64 n]])
 |_,_=>none
theorem zlb{n:Int}:y86 false (.int .i64 n)=some (.tup [.undef,.int .i64 n]):=rfl
theorem zlc{n:Int}:y86 true (.agg [.int .i64 n])=some (.tup [.undef,.agg [.int .i64 n]]):=rfl
theorem zoq{b:Bool}{d:D}:(match (match b,d with
  |false,.int .i64 n=>some (⟨.tup [.undef,.int .i64 n],none,none⟩:Ef)
  |true,.agg [.int .i64 n]=>some ⟨.tup [.undef,.agg [.int .i64 n]],none,none⟩
  |_,_=>none) with | some e=>some e.d | none=>none)=y86 b d:=by
 unfold y86
 cases b
 ·cases d <;> try rfl
  rename_i k n
  cases k <;> rfl
 ·cases d <;> try rfl
  rename_i l
  cases l with
  |nil=>rfl
  |cons x l=>cases l with
   |nil=>
    cases x <;> try rfl
    rename_i k n
    cases k <;> rfl
   |cons y l=>
    cases x <;> try rfl
    rename_i k n
    cases k <;> rfl
theorem zjz{b:Bool}{d:D}:xv E cP env hp (.n (.mark b (.c d)) .nil)=y86 b d:=by
 simp only[xv,xvs,yb,gOf]
 exact zoq
theorem zri{a:Nat}{x:Xp}:xv E cP env hp (.n (.nilc (.t a)) (.cons a x .nil))=ob (xv E cP env hp x) fun u=>y9x u:=by
 simp only[xv,xvs]
 cases xv E cP env hp x with
 |none=>rfl
 |some d=>
  simp only[yb,gOf,kv,z7,if_true]
  cases d <;> rfl

end
end Dv

namespace Dv

section
variable{E:Env}{cP:Nat->List D->Option D}{cS cY:Nat->List D->List Obj->Option (D × List Obj)}{env:List D}{hp:List Obj}{t t2 id base:Nat}{g:Opd->D}

theorem z60{f:Opd}{as:List Opd}:yd E cP cS cY id g hp (.mkcall f as)=(match g f with | .fn k caps=>ob (y1k (frz [] depth) (as.map g++caps)) (fun vs=>y5g cS k vs hp) | _=>none):=by
 simp only[yd,DOp.fin,yj]
 cases g f <;> try rfl
 rename_i k caps
 simp only[]
 cases y1k (frz [] depth) (as.map g++caps) <;> rfl
theorem zd2{x y:Opd}:yd E cP cS cY id g hp (.mkcap t x y)=y4r E hp t (g x) (g y):=rfl
theorem za6{x y:Opd}:yd E cP cS cY id g hp (.reslice t x y)=y2l E hp t (g x) (g y):=rfl
theorem zhi{x:Opd}:yd E cP cS cY id g hp (.clr t x)=y9j E hp t (g x):=rfl
theorem zeq{x y:Opd}:yd E cP cS cY id g hp (.copy t t2 x y)=y5k E hp t t2 (g x) (g y):=rfl

theorem z9y:∀(l:List UInt8),y3d (l.map ya)=some l
 |[]=>rfl
 |b::l=>by
  simp only[av,ya,y3d,z9y l]
  have:UInt8.ofNat ((b.toNat:Int)).toNat=b:=by simp
  rw[this]
theorem z6t{sp:y1t}{l:List UInt8}:yaa E t t2 (.imm sp (l.map ya))=(match (E.ty t).k,(E.ty t2).k with | .slice e,.str=>if y4w E e=true then some (.str l) else none | _,_=>none):=by
 unfold yaa
 cases (E.ty t).k <;> try rfl
 cases (E.ty t2).k <;> try rfl
 simp only[z9y,aj]
theorem zo9{s:List UInt8}:yak E t t2 (.str s)=(match (E.ty t).k,(E.ty t2).k with | .str,.slice e=>if y4w E e=true then some (.imm .none (s.map ya)) else none | _,_=>none):=by
 unfold yak
 cases (E.ty t).k <;> try rfl
 cases (E.ty t2).k <;> rfl
theorem zu8{a:Nat}{x:Xp}:xv E cP env hp (.n (.b2s t t2 (.t a)) (.cons a x .nil))=ob (xv E cP env hp x) fun u=>yaa E t t2 u:=by
 simp only[xv,xvs]
 cases xv E cP env hp x <;> try rfl
 simp only[yb,gOf,kv,if_true,z7]
 exact zp
theorem zu4{a:Nat}{x:Xp}:xv E cP env hp (.n (.s2b t t2 (.t a)) (.cons a x .nil))=ob (xv E cP env hp x) fun u=>yak E t t2 u:=by
 simp only[xv,xvs]
 cases xv E cP env hp x <;> try rfl
 simp only[yb,gOf,kv,if_true,z7]
 exact zp
theorem znn{a f:Nat}{x:Xp}:xv E cP env hp (.n (.mkbfn f (.t a)) (.cons a x .nil))=ob (xv E cP env hp x) fun u=>some (.bfn f u):=by
 simp only[xv,xvs]
 cases xv E cP env hp x <;> try rfl
 simp only[yb,gOf,kv,if_true,z7]
theorem ziw{cs:List D}{k:aT}{n:Int}{m e:Nat}(h:(E.ty t).k=.arr m e):y2z E t (.iptr cs) (.int k n)=if 0<=n/\n<m then some (.iptr (cs.drop (n.toNat*(E.ty e).size))) else none:=by
 simp only[y2z,h]
theorem zna{a b:List UInt8}:y2e E .eql t (.str a) (.str b)=some (.bool (a == b)):=rfl
theorem zn9{a b:List UInt8}:y2e E .neq t (.str a) (.str b)=some (.bool (!(a == b))):=rfl
theorem zs2{k:aT}{n:Int}:unD .xor (.int k n)=some (.int k (y65 k (if k.signed then -1 else k.max) n)):=rfl
theorem zha{k k':aT}{a b:Int}:y2e E .shl t (.int k a) (.int k' b)=if 0<=b then some (.int k (k.wrap (a*2 ^ (min b.toNat k.bits)))) else none:=rfl
theorem zq2{k k':aT}{a b:Int}:y2e E .shr t (.int k a) (.int k' b)=if 0<=b then some (.int k (a.fdiv (2 ^ (min b.toNat k.bits)))) else none:=rfl

def ya4(d:D):Option D:=if d.storable=true then some (.iptr d.cellsL) else none
theorem zrl{a:Nat}{x:Xp}:xv E cP env hp (.n (.ibox t (.t a)) (.cons a x .nil))=ob (xv E cP env hp x) fun u=>ya4 u:=by
 simp only[xv,xvs]
 cases xv E cP env hp x <;> try rfl
 rename_i d
 simp only[yb,gOf,kv,if_true,z7,ya4]
 by_cases hh:d.storable=true
 ·simp only[hh,if_true]
 ·simp only[hh];rfl
theorem zno{a:Nat}{x:Xp}:xv E cP env hp (.n (.iload t (.t a)) (.cons a x .nil))=ob (xv E cP env hp x) fun u=>y48 E t u:=by
 simp only[xv,xvs]
 cases xv E cP env hp x <;> try rfl
 simp only[yb,gOf,kv,if_true,z7]
 exact zp
theorem z1q{cs:List D}:y48 E t (.iptr cs)=ob (y1x cs 0 (E.ty t).size) fun r=>yk (E.ty t).ag r:=rfl

end
end Dv

namespace Dv

structure Cell where
 airport:Bool
 index:Int
 minute:Int
deriving DecidableEq

structure Use where
 cell:Cell
 places:Int

structure y8q where
 delay:Int
 cost:Int
 changes:Int
 uses:List Use

structure Var where
 a:Int
 b:Int
 leaves:List Int
 choices:List y8q

structure Prob where
 cells:List Cell
 capacity:List (List Int)
 vars:List Var

abbrev dI(n:Int):D:=.int .i64 n
abbrev y63(c:Cell):D:=.agg [.bool c.airport,dI c.index,dI c.minute]
abbrev y97(u:Use):D:=.agg [.bool u.cell.airport,dI u.cell.index,dI u.cell.minute,dI u.places]
abbrev y3s(l:List Int):D:=.imm .none (l.map dI)
abbrev y3b(c:y8q):D:=.agg [dI c.delay,dI c.cost,dI c.changes,.imm .none (c.uses.map y97)]
abbrev y96(v:Var):D:=.agg [dI v.a,dI v.b,y3s v.leaves,.imm .none (v.choices.map y3b)]
abbrev y7o(p:Prob):D:=.agg [.imm .none (p.cells.map y63),.imm .none (p.capacity.map y3s),.imm .none (p.vars.map y96)]

def i64(n:Int):Prop:=-9223372036854775808<=n/\n<=9223372036854775807

theorem zuc{n:Int}(h:(Go.Lit.int .i64 n).wf=true):i64 n:=by
 simp[Go.Lit.wf] at h
 obtain⟨h1,h2⟩:=h
 have e1:ay.min = -9223372036854775808:=by decide
 have e2:ay.max=9223372036854775807:=by decide
 first
  |exact⟨by omega,by omega⟩
  |(rw[e1] at h1;exact⟨h1,by first | exact h2 | (rw[e2] at h2;exact h2)⟩)

theorem zfc{A:Type}{f:A->D}{R:A->Prop}:∀{els:List D},(∀ x,x ∈ els->∃ a,x=f a/\R a)->∃ l:List A,els=l.map f /\ ∀ a,a ∈ l->R a
 |[],_=>⟨[],rfl,fun a h=>by cases h⟩
 |x::els,h=>by
  obtain⟨a,h1,h2⟩:=h x (by simp)
  obtain⟨l,h3,h4⟩:=zfc (els:=els) fun y hy=>h y (by simp[hy])
  exact⟨a::l,by simp[h1,h3],fun b hb=>by
   rcases az.1 hb with rfl | hb
   ·exact h2
   ·exact h4 b hb⟩

end Dv

namespace Dv

theorem zaf{c:Nat}{ds:List D}(h:DTc E c ds)(hk:(E.ty c).k=.int .i64):∃ n,ds=[dI n]/\i64 n:=by
 cases h with
 |int h hw=>rw[hk] at h;cases h;exact⟨_,rfl,zuc hw⟩
 |bool h=>rw[hk] at h;cases h
 |str h=>rw[hk] at h;cases h
 |slice h _ _ _=>rw[hk] at h;cases h
 |struct h _ _=>rw[hk] at h;cases h
 |arr h _ _=>rw[hk] at h;cases h

theorem zny{c e:Nat}{ds:List D}(h:DTc E c ds)(hk:(E.ty c).k=.slice e):∃ els,ds=[.imm .none els]/\els.length<=Go.maxLen /\ ∀ x,x ∈ els->y71 E e x:=by
 cases h with
 |slice h hl he ho=>rw[hk] at h;cases h;exact⟨_,rfl,hl,fun x hx=>⟨he x hx,ho x hx⟩⟩
 |bool h=>rw[hk] at h;cases h
 |int h hw=>rw[hk] at h;cases h
 |str h=>rw[hk] at h;cases h
 |struct h _ _=>rw[hk] at h;cases h
 |arr h _ _=>rw[hk] at h;cases h

theorem z8n{c:Nat}{fs:List (Nat × Nat)}{ds:List D}(h:DTc E c ds)(hk:(E.ty c).k=.struct fs):ds.length=(E.ty c).size /\ ∀(i:Nat) p,fs[i]? = some p->DTc E p.2 ((ds.drop p.1).take (E.ty p.2).size):=by
 cases h with
 |struct h hl hf=>rw[hk] at h;cases h;exact⟨hl,hf⟩
 |bool h=>rw[hk] at h;cases h
 |int h hw=>rw[hk] at h;cases h
 |str h=>rw[hk] at h;cases h
 |slice h _ _ _=>rw[hk] at h;cases h
 |arr h _ _=>rw[hk] at h;cases h

theorem zum{c n e:Nat}{ds:List D}(h:DTc E c ds)(hk:(E.ty c).k=.arr n e):ds.length=(E.ty c).size /\ ∀ i,i<n->DTc E e ((ds.drop (i*(E.ty e).size)).take (E.ty e).size):=by
 cases h with
 |arr h hl hf=>rw[hk] at h;cases h;exact⟨hl,hf⟩
 |bool h=>rw[hk] at h;cases h
 |int h hw=>rw[hk] at h;cases h
 |str h=>rw[hk] at h;cases h
 |slice h _ _ _=>rw[hk] at h;cases h
 |struct h _ _=>rw[hk] at h;cases h

end Dv

namespace Dv

theorem yde{ds:List D}(h:ds.length=3):∃ a b c,ds=[a,b,c]:=by
 match ds,h with
 |[a,b,c],_=>exact⟨a,b,c,rfl⟩

theorem zcw{c:Nat}{x:D}(h:y71 E c x)(ha:(E.ty c).ag=true):∃ ds,x=.agg ds/\DTc E c ds:=by
 obtain⟨h1,h2⟩:=h
 rw[ha] at h2
 simp[yk] at h2
 exact⟨x.cellsL,h2.symm,h1⟩

end Dv

namespace Dv

theorem zf{n:Int}(h:i64 n):ay.wrap n=n:=fX n h

theorem zq{i n:Nat}(h:i<n)(hn:n<=1000000000000):ay.wrap ((i:Int)+1)=(i:Int)+1:=zf ⟨by omega,by omega⟩

theorem z9s{A:Type}{l:List A}{i:Nat}(h:i<l.length):l.drop i=l[i]::l.drop (i+1):=List.drop_eq_getElem_cons h

section
variable{hp:List Obj}

theorem zp6{n:Nat}{b:Bool}:frz hp (n+1) (.bool b)=some (.bool b):=rfl
theorem z79{n:Nat}{k:aT}{x:Int}:frz hp (n+1) (.int k x)=some (.int k x):=rfl
theorem z47{n:Nat}{sp:y1t}{els:List D}:frz hp (n+1) (.imm sp els)=(y1k (frz hp n) els).map (.imm .none):=rfl
theorem z9l{n:Nat}{els:List D}:frz hp (n+1) (.agg els)=(y1k (frz hp n) els).map .agg:=rfl
theorem zt8{n:Nat}{els:List D}:frz hp (n+1) (.tup els)=(y1k (frz hp n) els).map .tup:=rfl
theorem zvd{n:Nat}{f:Nat}{els:List D}:frz hp (n+1) (.fn f els)=(y1k (frz hp n) els).map (.fn f):=rfl
theorem zp5{n:Nat}{els:List D}:frz hp (n+1) (.iptr els)=(y1k (frz hp n) els).map .iptr:=rfl
theorem z8a{f:D->Option D}:y1k f []=some []:=rfl
theorem z48{f:D->Option D}{d:D}{r:List D}:y1k f (d::r)=ob (f d) fun d=>ob (y1k f r) fun r=>some (d::r):=by
 simp only[y1k]
 cases f d with
 |none=>rfl
 |some d=>simp only[z7];cases y1k f r <;> rfl
theorem z10{A:Type}{f:D->Option D}{g:A->D}:∀{l:List A},(∀ x,x ∈ l->f (g x)=some (g x))->y1k f (l.map g)=some (l.map g)
 |[],_=>rfl
 |x::l,h=>by
  simp only[av,z48,h x (by simp),z7,z10 (l:=l) fun y hy=>h y (by simp[hy])]

theorem zfo{n:Nat}{l:List Int}:y1k (frz hp (n+1)) (l.map dI)=some (l.map dI):=z10 fun x _=>z79
theorem zm8{n:Nat}{l:List Cell}:y1k (frz hp (n+2)) (l.map y63)=some (l.map y63):=z10 fun x _=>rfl
theorem zgv{n:Nat}{l:List Use}:y1k (frz hp (n+2)) (l.map y97)=some (l.map y97):=z10 fun x _=>rfl
theorem zm7{n:Nat}{l:List (List Int)}:y1k (frz hp (n+2)) (l.map y3s)=some (l.map y3s):=z10 fun x _=>by
 rw[z47,zfo];rfl
theorem z9m{n:Nat}{l:List y8q}:y1k (frz hp (n+4)) (l.map y3b)=some (l.map y3b):=z10 fun x _=>by
 rw[z9l]
 simp only[z48,z79,z7,z47,zgv,aj,z8a]
theorem zpa{n:Nat}{l:List Var}:y1k (frz hp (n+6)) (l.map y96)=some (l.map y96):=z10 fun x _=>by
 rw[z9l]
 simp only[z48,z79,z7,z47,zfo,z9m,aj,z8a]

end

theorem zmf{l:List Int}:yn (l.map dI)=l.map dI:=by
 induction l with
 |nil=>rfl
 |cons x r ih=>simp only[av,yn,List.flatMap_cons] at ih ⊢;rw[ih];rfl
theorem zpf{n:Nat}{x:Int}:yn (af n (.int .i64 x))=(af n x).map dI:=by
 have:=zmf (l:=af n x)
 rw[eu] at this
 rw[eu];exact this
theorem zh8:∀{l:List Int},y2o 1 false l.length (l.map dI)=some (l.map dI)
 |[]=>rfl
 |x::r=>by
  simp only[List.length_cons,av,y2o,y1x,List.getElem?_cons_zero,yk,List.drop_succ_cons,List.drop_zero,zh8]

theorem zpz{cP:Nat->List D->Option D}{k:Nat}{caps args:List D}:y9a cP (.fn k caps) args=ob (y1k (frz [] depth) (args++caps)) fun vs=>cP k vs:=by
 simp only[y9a]
 cases y1k (frz [] depth) (args++caps) <;> rfl

end Dv
