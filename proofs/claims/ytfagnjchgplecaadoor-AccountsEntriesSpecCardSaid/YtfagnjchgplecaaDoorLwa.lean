/- Texts that a proof of this claim uses, joined: Lw.Wp, Lw.Tidy, Lw.TidyOk, Lw.TidyOk2, Lw.TidyFn, Lw.Use, Lw.Eval, Lw.Ev2, Lw.Ev3, Lw.Ev4, Lw.Enc, Lw.Base. -/
import Derived.Test.YtfagnjchgplecaaDoorDvd
import Derived.Test.YtfagnjchgplecaaDoorDvb
import Derived.Test.YtfagnjchgplecaaDoorCode
set_option linter.all false
open Bool renaming and_eq_true->ai,false_eq_true->aN,not_eq_true'->bD,or_eq_true->bS
open Go renaming BinOp->ii,IntKind->aX
open Go.IntKind renaming i64->aC
open Go.IntWalk renaming i64_in->gu
open List renaming all_eq_true->ax,any_eq_true->gS,getD_eq_getElem?_getD->aj,getElem?_eq_getElem->ae,getElem?_eq_some_iff->ac,getElem?_set_ne->a8,getElem?_set_self->aT,idxOf_lt_length_of_mem->iD,isEmpty_iff->eT,map_cons->au,map_nil->aO,map_replicate->ej,mem_append->aQ,mem_cons->aw,mem_filter->fR,mem_flatMap->bA,mem_map->aV,mem_map_of_mem->ka,mem_of_getElem?->ba,replicate->ah
open Nat renaming add_zero->cU
open Ne renaming symm->eL
open Option renaming isNone_iff_eq_none->fP,map_eq_some_iff->ab,map_none->aU,map_some->ao
open Option.some renaming injEq->aa
open Prod.mk renaming injEq->al
namespace Dv

section
variable{E:Env}

def wp(E:Env)(c:DC)(st:St)(Q:Ex->St->Prop):Prop:=∃ ex st',dL E c st=some (ex,st')/\Q ex st'

def wpR(E:Env)(os:List y13)(st:St)(Q:St->Prop):Prop:=∃ st',ye E (y17 E (dL E)) (y1n E (dL E)) (y38 (dL E)) os st=some st'/\Q st'

theorem zfl{c:DC}{st:St}{Q Q':Ex->St->Prop}(h:wp E c st Q)(hq:∀ ex st',Q ex st'->Q' ex st'):wp E c st Q':=by
 obtain⟨ex,st',h1,h2⟩:=h
 exact⟨ex,st',h1,hq _ _ h2⟩

theorem zu3{st:St}{Q}:wp E .skip st Q ↔ Q .normal st:=by
 constructor
 ·rintro⟨ex,st',h1,h2⟩
  rw[z81] at h1;simp at h1;obtain⟨rfl,rfl⟩:=h1;exact h2
 ·intro h;exact⟨_,_,z81,h⟩
theorem zx0{st:St}{Q}:wp E .ret st Q ↔ Q .ret st:=by
 constructor
 ·rintro⟨ex,st',h1,h2⟩
  rw[z62] at h1;simp at h1;obtain⟨rfl,rfl⟩:=h1;exact h2
 ·intro h;exact⟨_,_,z62,h⟩
theorem zu5{id:Nat}{st:St}{Q}:wp E (.exit id) st Q ↔ Q (.exit id) st:=by
 constructor
 ·rintro⟨ex,st',h1,h2⟩
  rw[zoz] at h1;simp at h1;obtain⟨rfl,rfl⟩:=h1;exact h2
 ·intro h;exact⟨_,_,zoz,h⟩

theorem zwz{a b:DC}{st:St}{Q}:wp E (.seq a b) st Q ↔ wp E a st (fun ex st'=>match ex with | .normal=>wp E b st' Q | ex=>Q ex st'):=by
 constructor
 ·rintro⟨ex,st',h1,h2⟩
  rw[z8n] at h1
  split at h1
  ·rename_i st1 ha
   exact⟨_,_,ha,ex,st',h1,h2⟩
  ·rename_i r hne
   refine⟨_,_,h1,?_⟩
   cases ex with
   |normal=>exact absurd h1 (hne st')
   |exit id=>exact h2
   |ret=>exact h2
 ·rintro⟨ex,st',h1,h2⟩
  cases ex with
  |normal=>
   obtain⟨ex2,st2,h3,h4⟩:=h2
   exact⟨ex2,st2,by rw[z8n,h1];exact h3,h4⟩
  |exit id=>exact⟨_,_,by rw[z8n,h1],h2⟩
  |ret=>exact⟨_,_,by rw[z8n,h1],h2⟩

theorem zu6{c:Opd}{x y:DC}{st:St}{Q}{b:Bool}(h:yn st.sl c=.bool b):wp E (.cond c x y) st Q ↔ (b=true->wp E x st Q)/\(b=false->wp E y st Q):=by
 unfold wp
 rw[z4s,h]
 cases b <;> simp

theorem zt8{c:Opd}{x y:DC}{st:St}{Q}:wp E (.ifp c x y) st Q ↔ if yt (yn st.sl c)=true then wp E x st Q else wp E y st Q:=by
 unfold wp
 rw[zf5]
 split <;> exact Iff.rfl

theorem zpy{id:Nat}{a:DC}{st:St}{Q}:wp E (.block id a) st Q ↔ wp E a st (fun ex st'=>match ex with | .exit i=>Q (if i=id then .normal else .exit i) st' | ex=>Q ex st'):=by
 constructor
 ·rintro⟨ex,st',h1,h2⟩
  rw[z93] at h1
  cases ha:dL E a st with
  |none=>rw[ha] at h1;simp at h1
  |some r=>
   obtain⟨ex1,st1⟩:=r
   rw[ha] at h1
   refine⟨ex1,st1,ha,?_⟩
   cases ex1 with
   |normal=>simp at h1;obtain⟨rfl,rfl⟩:=h1;exact h2
   |ret=>simp at h1;obtain⟨rfl,rfl⟩:=h1;exact h2
   |exit i=>simp at h1;obtain⟨rfl,rfl⟩:=h1;exact h2
 ·rintro⟨ex,st',h1,h2⟩
  cases ex with
  |normal=>exact⟨_,_,by rw[z93,h1],h2⟩
  |ret=>exact⟨_,_,by rw[z93,h1],h2⟩
  |exit i=>exact⟨_,_,by rw[z93,h1],h2⟩

theorem zly{ap:List (Nat × Nat)}{ops:List y13}{st:St}{Q}:wp E (.region false ap ops) st Q ↔ wpR E ops st (Q .normal):=by
 unfold wp wpR
 rw[z5i]
 constructor
 ·rintro⟨ex,st',h1,h2⟩
  simp only[ab,al] at h1
  obtain⟨st1,h3,rfl,rfl⟩:=h1
  exact⟨_,h3,h2⟩
 ·rintro⟨st',h1,h2⟩
  exact⟨_,_,by rw[h1];rfl,h2⟩

theorem zu4{b:DC}{Q:Ex->St->Prop}(I:Nat->St->Prop)
  (step:∀ k st,I k st->wp E b st (fun ex st'=>match ex with | .normal=>∃ k',k'<k/\I k' st' | ex=>Q ex st')):∀(k:Nat) (st:St),I k st->wp E (.loop b) st Q:=by
 intro k
 induction k using Nat.strongRecOn with
 |_ k ih=>
  intro st hI
  obtain⟨ex,st',h1,h2⟩:=step k st hI
  cases ex with
  |normal=>
   obtain⟨k',hk,hI'⟩:=h2
   obtain⟨ex2,st2,h3,h4⟩:=ih k' hk st' hI'
   exact⟨ex2,st2,by rw[zh0,h1];exact h3,h4⟩
  |exit i=>exact⟨_,_,by rw[zh0,h1],h2⟩
  |ret=>exact⟨_,_,by rw[zh0,h1],h2⟩

end
end Dv

namespace Dv

mutual
inductive Xp where
 |v (i:Nat)
 |c (d:D)
 |n (op:DOp) (ks:Xs)
 |ite (c a b:Xp)
inductive Xs where
 |nil
 |cons (s:Nat) (x:Xp) (r:Xs)
end

def kv(n:Nat):List (Nat × D)->D
 |[]=>.undef
 |p::r=>if n=p.1 then p.2 else kv n r

def gOf(vs:List (Nat × D)):Opd->D
 |.t n=>kv n vs
 |.c d=>d
 |.f k=>.fn k []

mutual
def xv(E:Env)(cP:Nat->List D->Option D)(env:List D)(hp:List Obj):Xp->Option D
 |.v i=>env[i]?
 |.c d=>some d
 |.n op ks=>(match xvs E cP env hp ks with
  |some vs=>(match ya E cP 0 (gOf vs) hp op with
   |some e=>some e.d
   |none=>none)
  |none=>none)
 |.ite c a b=>(match xv E cP env hp c with
  |some (.bool true)=>xv E cP env hp a
  |some (.bool false)=>xv E cP env hp b
  |_=>none)
def xvs(E:Env)(cP:Nat->List D->Option D)(env:List D)(hp:List Obj):Xs->Option (List (Nat × D))
 |.nil=>some []
 |.cons s x r=>(match xv E cP env hp x,xvs E cP env hp r with
  |some d,some l=>some ((s,d)::l)
  |_,_=>none)
end

def vop(op:DOp):Bool:=y1c op || (match op with
 |.load _ _=>true
 |.lookup _ _ _ _=>true
 |.len _ _=>true
 |_=>false)

mutual
def y5z(i:Option Nat)(h:Bool):Xp->Bool
 |.v j=>!(i == some j)
 |.c _=>true
 |.n op ks=>(!h || y1c op) && y86 i h ks
 |.ite c a b=>y5z i h c && y5z i h a && y5z i h b
def y86(i:Option Nat)(h:Bool):Xs->Bool
 |.nil=>true
 |.cons _ x r=>y5z i h x && y86 i h r
end

inductive TS where
 |asg (i:Nat) (x:Xp)
 |eff (gd:Option (Xp × Bool)) (dst:Option Nat) (op:DOp) (ks:Xs) (k:Option Nat)

inductive TC where
 |skip
 |ret
 |exit (id:Nat)
 |run (pad:Nat) (l:List TS)
 |seq (a b:TC)
 |cond (i:Nat) (a b:TC)
 |ifp (i:Nat) (a b:TC)
 |dead
 |block (id:Nat) (a:TC)
 |loop (a:TC)
 |rfunc (i:Nat) (ps:List Nat) (a b:TC)
 |chk (l:List (Nat × Nat))


def gdT(E:Env)(cP:Nat->List D->Option D)(env:List D)(hp:List Obj):Option (Xp × Bool)->Option Bool
 |none=>some true
 |some (x,b)=>(match xv E cP env hp x with
  |some (.bool c)=>some (c == b)
  |some _=>some false
  |none=>none)

def y93(env:List D):Option Nat->D->List D
 |none,_=>env
 |some i,d=>env.set i d

def rTS(E:Env)(cP:Nat->List D->Option D)(cS cY:Nat->List D->List Obj->Option (D × List Obj))(base:Nat):List TS->List D->List Obj->Option (List D × List Obj)
 |[],env,hp=>some (env,hp)
 |.asg i x::r,env,hp=>(match xv E cP env hp x with
  |some d=>rTS E cP cS cY base r (env.set i d) hp
  |none=>none)
 |.eff gd dst op ks k::r,env,hp=>(match gdT E cP env hp gd with
  |some true=>(match xvs E cP env hp ks with
   |some vs=>(match yd E cP cS cY (match k with | some k=>base+k | none=>hp.length) (gOf vs) hp op with
    |some (d,hp')=>rTS E cP cS cY base r (y93 env dst d) hp'
    |none=>none)
   |none=>none)
  |some false=>rTS E cP cS cY base r (y93 env dst .undef) hp
  |none=>none)

noncomputable def rTL(E:Env):Nat->List TS->List D->List Obj->Option (List D × List Obj):=rTS E (y17 E (dL E)) (y1n E (dL E)) (y38 (dL E))

def yfo(env:List D)(p:Nat × Nat):Bool:=match env[p.1]?,env[p.2]? with
 |some a,some b=>y8s (did a) (did b)
 |_,_=>false
def yd8(env:List D)(l:List (Nat × Nat)):Bool:=l.all (yfo env)

def ybq(L:Bool->Option Ex->Obj):Prop:=∃ sl ps asg body,L=fun b p=>.loop b sl ps asg body p

def wT(E:Env):TC->(Ex->List D->List Obj->Prop)->List D->List Obj->Prop
 |.skip,Q,env,hp=>Q .normal env hp
 |.ret,Q,env,hp=>Q .ret env hp
 |.exit id,Q,env,hp=>Q (.exit id) env hp
 |.run pad l,Q,env,hp=>(match rTL E hp.length l env (hp++ah pad .dead) with
  |some (env',hp')=>Q .normal env' hp'
  |none=>False)
 |.chk l,Q,env,hp=>yd8 env l=true/\Q .normal env hp
 |.seq a b,Q,env,hp=>wT E a (fun ex env' hp'=>match ex with
  |.normal=>wT E b Q env' hp'
  |ex=>Q ex env' hp') env hp
 |.cond i a b,Q,env,hp=>(match env[i]? with
  |some (.bool t)=>if t=true then wT E a Q env hp else wT E b Q env hp
  |_=>False)
 |.ifp i a b,Q,env,hp=>(match env[i]? with
  |some d=>if yt d=true then wT E a Q env hp else wT E b Q env hp
  |none=>False)
 |.dead,_,_,_=>False
 |.block id a,Q,env,hp=>wT E a (fun ex env' hp'=>match ex with
  |.exit i=>Q (if i=id then .normal else .exit i) env' hp'
  |ex=>Q ex env' hp') env hp
 |.loop a,Q,env,hp=>∃(I:Nat->List D->List Obj->Prop) (k:Nat),I k env hp /\ ∀ k env hp,I k env hp->wT E a (fun ex env' hp'=>match ex with
  |.normal=>∃ k',k'<k/\I k' env' hp'
  |ex=>Q ex env' hp') env hp
 |.rfunc i ps a b,Q,env,hp=>∃ k caps,(env[i]?).map (y5n E)=some (.fn k caps) /\ ∀(L:Bool->Option Ex->Obj),ybq L ->
  (∀(args:List D) (hp1:List Obj) (K:Bool->List Obj->Prop),args.length=ps.length->hp1[hp.length]? = some (L false none) ->
   wT E a (fun ex env1 hp2=>ex=.normal/\hp2[hp.length]? = some (L false none) /\
    wT E b (fun ex _ hp3=>hp3[hp.length]? = some (L true none)/\(match ex with
     |.normal=>K true (hp3.set hp.length (L false none))
     |ex=>K false (hp3.set hp.length (L false (some ex))))) env1 (hp2.set hp.length (L true none))) (y2f env ps args) hp1 ->
   ∃ t hp2,y38 (dL E) hp.length args hp1=some (.bool t,hp2)/\K t hp2) ->
  ∃ d hp',y1n E (dL E) k (.yld hp.length::caps) (hp++[L false none])=some (d,hp') /\
   ((hp'[hp.length]? = some (L false none)/\Q .normal env (hp'.set hp.length .dead)) \/ ∃ ex,hp'[hp.length]? = some (L false (some ex))/\Q ex env (hp'.set hp.length .dead))


structure SV where
 g:List (Nat × Bool)
 x:Xp

abbrev Ab:=Nat->Option SV

def yd7(a b:List (Nat × Bool)):Bool:=a.all b.contains

def y8q(A:Ab)(G:List (Nat × Bool)):Opd->Option Xp
 |.c d=>some (.c d)
 |.f k=>some (.c (.fn k []))
 |.t s=>(match A s with
  |some sv=>if yd7 sv.g G then some sv.x else none
  |none=>none)

def y53(A:Ab)(G:List (Nat × Bool)):List Opd->Option Xs
 |[]=>some .nil
 |.t s::r=>(match y8q A G (.t s),y53 A G r with
  |some x,some ks=>some (.cons s x ks)
  |_,_=>none)
 |_::r=>y53 A G r

def y8m(A:Ab)(G:List (Nat × Bool))(op:DOp):Option Xp:=
 match op with
 |.move x=>y8q A G x
 |.assign x=>y8q A G x
 |.pick (.t c) a b=>(match y8q A G (.t c),y8q A ((c,true)::G) a,y8q A ((c,false)::G) b with
  |some x,some y,some z=>some (.ite x y z)
  |_,_,_=>none)
 |op=>if vop op then(match y53 A G (yv op) with
  |some ks=>some (.n op ks)
  |none=>none) else none

def ya6:Opd->List Nat
 |.t s=>[s]
 |_=>[]

def y61(G:List (Nat × Bool))(op:DOp):List (Nat × List (Nat × Bool)):=
 match op with
 |.move x=>(ya6 x).map fun s=>(s,G)
 |.assign x=>(ya6 x).map fun s=>(s,G)
 |.pick (.t c) a b=>(c,G)::((ya6 a).map fun s=>(s,(c,true)::G))++((ya6 b).map fun s=>(s,(c,false)::G))
 |op=>(yv op).flatMap fun o=>(ya6 o).map fun s=>(s,G)

def y9c(G:List (Nat × Bool))(op:DOp):List (Nat × List (Nat × Bool)):=(yv op).flatMap fun o=>(ya6 o).map fun s=>(s,G)

def y9g:DOp->Bool
 |.move _=>true
 |.assign _=>true
 |_=>false

def y7e(A:Ab)(i:Option Nat)(h:Bool):Ab:=fun s=>match A s with
 |some sv=>if sv.g.isEmpty && y5z i h sv.x then some sv else none
 |none=>none

def y72(A:Ab)(s:Nat)(sv:SV):Ab:=fun n=>if n=s then some sv else A n

def yah(nm:List Nat)(A:Ab):Option Nat->Ab
 |none=>A
 |some d=>y72 A d ⟨[],.v (nm.idxOf d)⟩

def y89(A:Ab)(i:Option Nat)(h:Bool)(dst:Option Nat)(dm:List (Nat × List (Nat × Bool))):List (Nat × List (Nat × Bool)):=
 dm.filter fun p=>p.2.isEmpty && !(dst == some p.1) && (y7e A i h p.1).isSome

def gdX(A:Ab):Option (Nat × Bool)->Option (Option (Xp × Bool))
 |none=>some none
 |some (j,b)=>(match y8q A [] (.t j) with
  |some x=>some (some (x,b))
  |none=>none)

def y5m(A:Ab):Option (Nat × Bool)->Option (List (Nat × Bool))
 |none=>some []
 |some (j,b)=>(match A j with
  |some sv=>some ((j,b)::sv.g)
  |none=>none)

def ya8(nm:List Nat)(N:Nat):Option Nat->Bool
 |none=>true
 |some d=>nm.contains d && decide (d<N)

def y9y(nm:List Nat)(N:Nat)(dr:Bool):Nat->List y13->Ab->Option (List TS × List (Nat × List (Nat × Bool)))
 |_,[],_=>some ([],[])
 |pos,o::os,A=>
  if vop o.op then
   (match o.dst,y5m A o.gd with
   |some d,some G=>(match y8m A G o.op with
    |some x=>
     if nm.contains d then
      (if G.isEmpty && decide (d<N) then
       (match y9y nm N dr (pos+1) os (yah nm (y7e A (some (nm.idxOf d)) false) (some d)) with
       |some (ts,dm)=>some (.asg (nm.idxOf d) x::ts,y61 [] o.op++y89 A (some (nm.idxOf d)) false (some d) dm)
       |none=>none) else none)
     else
      (if(A d).isNone && decide (d<N) then
       (match y9y nm N dr (pos+1) os (y72 A d ⟨G,x⟩) with
       |some (ts,dm)=>
        if dm.any (fun p=>p.1 == d && yd7 p.2 G) then some (ts,y61 G o.op++dm.filter fun p=>!(p.1 == d))
        else if y9g o.op then some (ts,dm.filter fun p=>!(p.1 == d)) else none
       |none=>none) else none)
    |none=>none)
   |_,_=>none)
  else
   (if ya8 nm N o.dst then
    (match gdX A o.gd,y53 A o.gd.toList (yv o.op) with
    |some gd,some ks=>(match y9y nm N dr (pos+1) os (yah nm (y7e A (o.dst.map nm.idxOf) true) o.dst) with
     |some (ts,dm)=>some (.eff gd (o.dst.map nm.idxOf) o.op ks (if dr then some pos else none)::ts,
       y9c o.gd.toList o.op++y89 A (o.dst.map nm.idxOf) true o.dst dm)
     |none=>none)
    |_,_=>none) else none)

def y99(nm:List Nat):Ab:=fun s=>if nm.contains s then some ⟨[],.v (nm.idxOf s)⟩ else none

def ya7(nm:List Nat):Opd->Option (Option Nat)
 |.t s=>if nm.contains s then some (some (nm.idxOf s)) else none
 |.c d=>if(did d).isNone then some none else none
 |.f _=>some none

def ya5(nm:List Nat)(x y:Opd):Option (List (Nat × Nat)):=match ya7 nm x,ya7 nm y with
 |some (some i),some (some j)=>some [(i,j)]
 |some (some _),some none=>some []
 |some none,some _=>some []
 |_,_=>none

def y9f{A:Type}:List (Option (List A))->Option (List A)
 |[]=>some []
 |x::r=>(match x,y9f r with
  |some a,some b=>some (a++b)
  |_,_=>none)

def apX1(nm:List Nat)(a b:Option y13):Option (List (Nat × Nat)):=match a,b with
 |some a,some b=>y9f ((y1f a.op).flatMap fun x=>(y1f b.op).map fun y=>ya5 nm x y)
 |_,_=>none

def apX(nm:List Nat)(ops:List y13)(ap:List (Nat × Nat)):Option (List (Nat × Nat)):=y9f (ap.map fun p=>apX1 nm ops[p.1]? ops[p.2]?)

def y2n(nm:List Nat)(N:Nat):DC->Option TC
 |.skip=>some .skip
 |.ret=>some .ret
 |.exit id=>some (.exit id)
 |.region dr ap ops=>(match y9y nm N dr 0 ops (y99 nm) with
  |some (ts,_)=>if dr && !ap.isEmpty then(match apX nm ops ap with
    |some l=>some (.seq (.run ops.length ts) (.chk l))
    |none=>none)
   else some (.run (if dr then ops.length else 0) ts)
  |none=>none)
 |.seq a b=>(match y2n nm N a,y2n nm N b with
  |some x,some y=>some (.seq x y)
  |_,_=>none)
 |.cond (.t k) a b=>if nm.contains k then(match y2n nm N a,y2n nm N b with
  |some x,some y=>some (.cond (nm.idxOf k) x y)
  |_,_=>none) else none
 |.cond (.c .undef) _ _=>some .dead
 |.ifp (.t k) a b=>if nm.contains k then(match y2n nm N a,y2n nm N b with
  |some x,some y=>some (.ifp (nm.idxOf k) x y)
  |_,_=>none) else none
 |.block id a=>(match y2n nm N a with
  |some x=>some (.block id x)
  |none=>none)
 |.loop a=>(match y2n nm N a with
  |some x=>some (.loop x)
  |none=>none)
 |.rfunc (.t f) ps a b=>if nm.contains f && ps.all (fun p=>nm.contains p && decide (p<N)) then(match y2n nm N a,y2n nm N b with
  |some x,some y=>some (.rfunc (nm.idxOf f) (ps.map nm.idxOf) x y)
  |_,_=>none) else none
 |_=>none

end Dv

namespace Dv

section
variable{E:Env}{cP:Nat->List D->Option D}{cS cY:Nat->List D->List Obj->Option (D × List Obj)}{env env':List D}{hp hp':List Obj}{A:Ab}{N:Nat}{nm:List Nat}{sl:List D}

theorem zue{op:DOp}(h:vop op=true):op.fin=false:=by
 unfold vop at h
 rw[bS] at h
 rcases h with h | h
 ·exact z79 h
 ·cases op <;> first | rfl | simp at h

theorem zx5{op:DOp}{id id':Nat}{g:Opd->D}(h:vop op=true):ya E cP id g hp op=ya E cP id' g hp op:=by
 unfold vop at h
 rw[bS] at h
 rcases h with h | h
 ·exact z7s h
 ·cases op <;> first | rfl | simp at h

theorem zq0{op:DOp}{id:Nat}{g:Opd->D}{e:Ef}(h:vop op=true)(hp:ya E cP id g hp op=some e):e.new=none/\e.kill=none:=by
 unfold vop at h
 rw[bS] at h
 rcases h with h | h
 ·exact z7t h hp
 ·cases op <;> first
   |(simp at h;done)
   |(simp only[ya,ab] at hp;obtain⟨_,_,rfl⟩:=hp;exact⟨rfl,rfl⟩)

theorem zhj{op:DOp}{id:Nat}{g:Opd->D}{e:Ef}(h:vop op=true)(he:ya E cP id g hp op=some e):yd E cP cS cY id g hp op=some (e.d,hp):=by
 obtain⟨h1,h2⟩:=zq0 h he
 unfold yd
 rw[zue h]
 simp only[he,ao,yg,h1,h2]

mutual
theorem z2z{i:Option Nat}{h:Bool}(hh:h=false->hp'=hp)(he:∀ j,some j ≠ i->env'[j]? = env[j]?):∀(x:Xp),y5z i h x=true->xv E cP env' hp' x=xv E cP env hp x
 |.v j,hk=>by
  simp only[y5z,bD,beq_eq_false_iff_ne] at hk
  simp only[xv]
  exact he j (fun e=>hk e.symm)
 |.c d,_=>by simp only[xv]
 |.n op ks,hk=>by
  simp only[y5z,ai,bS,bD] at hk
  simp only[xv,z99 hh he ks hk.2]
  rcases hk.1 with h1 | h1
  ·rw[hh h1]
  ·simp only[z7s (hp:=hp') (hp':=hp) (id':=0) h1]
 |.ite c a b,hk=>by
  simp only[y5z,ai] at hk
  simp only[xv,z2z hh he c hk.1.1,z2z hh he a hk.1.2,z2z hh he b hk.2]
theorem z99{i:Option Nat}{h:Bool}(hh:h=false->hp'=hp)(he:∀ j,some j ≠ i->env'[j]? = env[j]?):∀(ks:Xs),y86 i h ks=true->xvs E cP env' hp' ks=xvs E cP env hp ks
 |.nil,_=>by simp only[xvs]
 |.cons s x r,hk=>by
  simp only[y86,ai] at hk
  simp only[xvs,z2z hh he x hk.1,z99 hh he r hk.2]
end

def gok(E:Env)(cP:Nat->List D->Option D)(env:List D)(hp:List Obj)(A:Ab)(G:List (Nat × Bool)):Prop:=
 ∀ p,p ∈ G->∃ sv,A p.1=some sv/\xv E cP env hp sv.x=some (.bool p.2)

theorem z3g:gok E cP env hp A []:=fun p hp=>by cases hp

theorem zgq{g G:List (Nat × Bool)}(h:yd7 g G=true)(hG:gok E cP env hp A G):gok E cP env hp A g:=fun p hp=>
 hG p (by simpa using ax.1 h p hp)

theorem z2x{p:Nat × Bool}{G:List (Nat × Bool)}:gok E cP env hp A (p::G) ↔ (∃ sv,A p.1=some sv/\xv E cP env hp sv.x=some (.bool p.2))/\gok E cP env hp A G:=by
 constructor
 ·exact fun h=>⟨h p (by simp),fun q hq=>h q (by simp[hq])⟩
 ·rintro⟨h1,h2⟩ q hq
  rcases aw.1 hq with rfl | hq
  ·exact h1
  ·exact h2 q hq

structure y8z(E:Env)(cP:Nat->List D->Option D)(A:Ab)(N:Nat)(env:List D)(hp:List Obj)(sl:List D):Prop where
 len:sl.length=N
 ok:∀ s sv,A s=some sv->s<N/\(gok E cP env hp A sv.g->xv E cP env hp sv.x=some (sl.getD s .undef))/\(¬ gok E cP env hp A sv.g->sl.getD s .undef=.undef)
 cl:∀ s sv,A s=some sv->∀ p,p ∈ sv.g->A p.1 ≠ none

theorem z6w(R:y8z E cP A N env hp sl){G:List (Nat × Bool)}{o:Opd}{x:Xp}(h:y8q A G o=some x)(hG:gok E cP env hp A G):xv E cP env hp x=some (yn sl o):=by
 cases o with
 |c d=>simp only[y8q,aa] at h;subst h;simp only[xv,yn]
 |f k=>simp only[y8q,aa] at h;subst h;simp only[xv,yn]
 |t s=>
  simp only[y8q] at h
  split at h
  ·rename_i sv hs
   split at h
   ·rename_i hg
    simp only[aa] at h;subst h
    exact(R.ok s sv hs).2.1 (zgq hg hG)
   ·cases h
  ·cases h

theorem zcu{G:List (Nat × Bool)}{s:Nat}{x:Xp}(h:y8q A G (.t s)=some x):∃ sv,A s=some sv/\sv.x=x/\yd7 sv.g G=true:=by
 simp only[y8q] at h
 split at h
 ·rename_i sv hs
  split at h
  ·rename_i hg
   simp only[aa] at h
   exact⟨sv,hs,h,hg⟩
  ·cases h
 ·cases h

theorem yf9{vs:List (Nat × D)}{f:Nat->D}(h:∀ p,p ∈ vs->p.2=f p.1){s:Nat}(hs:s ∈ vs.map (·.1)):kv s vs=f s:=by
 induction vs with
 |nil=>cases hs
 |cons p r ih=>
  simp only[kv]
  by_cases e:s=p.1
  ·rw[if_pos e,h p (by simp),e]
  ·rw[if_neg e]
   refine ih (fun q hq=>h q (by simp[hq])) ?_
   simp only[au,aw] at hs
   exact hs.resolve_left e

theorem za9(R:y8z E cP A N env hp sl){G:List (Nat × Bool)}(hG:gok E cP env hp A G):∀{os:List Opd} {ks:Xs},y53 A G os=some ks ->
  ∃ vs,xvs E cP env hp ks=some vs/\(∀ p,p ∈ vs->p.2=sl.getD p.1 .undef) /\ ∀ s,.t s ∈ os->s ∈ vs.map (·.1)
 |[],ks,h=>by
  simp only[y53,aa] at h;subst h
  exact⟨[],by simp only[xvs],(fun p hq=>by cases hq),(fun s hs=>by cases hs)⟩
 |.t s::r,ks,h=>by
  simp only[y53] at h
  split at h
  ·rename_i x k h1 h2
   simp only[aa] at h;subst h
   obtain⟨vs,e1,e2,e3⟩:=za9 R hG h2
   refine⟨(s,sl.getD s .undef)::vs,by simp only[xvs,z6w R h1 hG,e1,yn],?_,?_⟩
   ·intro p hq
    rcases aw.1 hq with rfl | hq
    ·rfl
    ·exact e2 p hq
   ·intro s' hs'
    rcases aw.1 hs' with e | hs'
    ·simp only[Opd.t.injEq] at e;subst e;simp
    ·exact List.mem_cons_of_mem _ (e3 s' hs')
  ·cases h
 |.c d::r,ks,h=>by
  simp only[y53] at h
  obtain⟨vs,e1,e2,e3⟩:=za9 R hG h
  exact⟨vs,e1,e2,fun s hs=>by
   rcases aw.1 hs with e | hs
   ·cases e
   ·exact e3 s hs⟩
 |.f k::r,ks,h=>by
  simp only[y53] at h
  obtain⟨vs,e1,e2,e3⟩:=za9 R hG h
  exact⟨vs,e1,e2,fun s hs=>by
   rcases aw.1 hs with e | hs
   ·cases e
   ·exact e3 s hs⟩

theorem zti{vs:List (Nat × D)}{os:List Opd}(h:∀ p,p ∈ vs->p.2=sl.getD p.1 .undef)(h':∀ s,.t s ∈ os->s ∈ vs.map (·.1)):∀ o,o ∈ os->gOf vs o=yn sl o:=by
 intro o ho
 cases o with
 |c d=>rfl
 |f k=>rfl
 |t s=>
  unfold gOf yn
  simp only
  exact yf9 (f:=fun s=>sl.getD s .undef) h (h' s ho)

theorem z5f{G:List (Nat × Bool)}:∀{os:List Opd} {ks:Xs} {vs:List (Nat × D)},y53 A G os=some ks->xvs E cP env hp ks=some vs->∀ s,.t s ∈ os->∃ sv,A s=some sv /\ ∃ d,xv E cP env hp sv.x=some d
 |[],ks,vs,h,hv,s,hs=>by cases hs
 |.t s'::r,ks,vs,h,hv,s,hs=>by
  simp only[y53] at h
  split at h
  ·rename_i x k h1 h2
   simp only[aa] at h;subst h
   simp only[xvs] at hv
   split at hv
   ·rename_i d l e1 e2
    rcases aw.1 hs with e | hs
    ·simp only[Opd.t.injEq] at e;subst e
     obtain⟨sv,g1,g2,_⟩:=zcu h1
     exact⟨sv,g1,d,by rw[g2];exact e1⟩
    ·exact z5f h2 e2 s hs
   ·cases hv
  ·cases h
 |.c d::r,ks,vs,h,hv,s,hs=>by
  simp only[y53] at h
  rcases aw.1 hs with e | hs
  ·cases e
  ·exact z5f h hv s hs
 |.f d::r,ks,vs,h,hv,s,hs=>by
  simp only[y53] at h
  rcases aw.1 hs with e | hs
  ·cases e
  ·exact z5f h hv s hs

theorem zta(R:y8z E cP A N env hp sl){G:List (Nat × Bool)}{op:DOp}{x:Xp}{d:D}{id:Nat}(h:y8m A G op=some x)(hG:gok E cP env hp A G)(hx:xv E cP env hp x=some d) :
  ∃ e,ya E cP id (yn sl) hp op=some e/\e.d=d:=by
 unfold y8m at h
 split at h
 ·rw[z6w R h hG] at hx
  exact⟨_,rfl,by simpa using hx⟩
 ·rw[z6w R h hG] at hx
  exact⟨_,rfl,by simpa using hx⟩
 ·rename_i c a b
  split at h
  ·rename_i xc xa xb h1 h2 h3
   simp only[aa] at h;subst h
   have e1:=z6w R h1 hG
   obtain⟨sv,g1,g2,_⟩:=zcu h1
   simp only[xv,e1] at hx
   split at hx
   ·rename_i hb
    simp only[aa] at hb
    have hG':gok E cP env hp A ((c,true)::G):=z2x.2 ⟨⟨sv,g1,by rw[g2,e1,hb]⟩,hG⟩
    rw[z6w R h2 hG'] at hx
    exact⟨⟨yn sl a,none,none⟩,by simp only[ya,hb,if_true],by simpa using hx⟩
   ·rename_i hb
    simp only[aa] at hb
    have hG':gok E cP env hp A ((c,false)::G):=z2x.2 ⟨⟨sv,g1,by rw[g2,e1,hb]⟩,hG⟩
    rw[z6w R h3 hG'] at hx
    exact⟨⟨yn sl b,none,none⟩,by simp only[ya,hb,aN,if_false],by simpa using hx⟩
   ·cases hx
  ·cases h
 ·split at h
  ·rename_i hv
   split at h
   ·rename_i ks hk
    simp only[aa] at h;subst h
    obtain⟨vs,e1,e2,e3⟩:=za9 R hG hk
    simp only[xv,e1] at hx
    split at hx
    ·rename_i e he
     rw[z3n (zti e2 e3)] at he
     rw[zx5 hv] at he
     exact⟨e,he,by simpa using hx⟩
    ·cases hx
   ·cases h
  ·cases h

theorem z5r{o:Opd}{s:Nat}:s ∈ ya6 o ↔ o=.t s:=by
 cases o <;> simp[ya6,eq_comm]

theorem zhw{G:List (Nat × Bool)}{op:DOp}{x:Xp}{d:D}(h:y8m A G op=some x)(hx:xv E cP env hp x=some d) :
  ∀ p,p ∈ y61 G op->gok E cP env hp A p.2->∀ sv,A p.1=some sv->∃ d,xv E cP env hp sv.x=some d:=by
 intro p hm hg sv hs
 unfold y8m at h
 split at h
 ·simp only[y61,aV] at hm
  obtain⟨s,h1,rfl⟩:=hm
  rw[z5r] at h1;subst h1
  obtain⟨sv',g1,g2,_⟩:=zcu h
  rw[hs] at g1;simp only[aa] at g1;subst g1
  exact⟨d,by rw[g2];exact hx⟩
 ·simp only[y61,aV] at hm
  obtain⟨s,h1,rfl⟩:=hm
  rw[z5r] at h1;subst h1
  obtain⟨sv',g1,g2,_⟩:=zcu h
  rw[hs] at g1;simp only[aa] at g1;subst g1
  exact⟨d,by rw[g2];exact hx⟩
 ·rename_i c a b
  split at h
  ·rename_i xc xa xb h1 h2 h3
   simp only[aa] at h;subst h
   simp only[y61,aQ,aw,aV] at hm
   obtain⟨svc,g1,g2,_⟩:=zcu h1
   simp only[xv] at hx
   have hc:∃ t,xv E cP env hp xc=some (.bool t):=by
    split at hx
    ·exact⟨_,by assumption⟩
    ·exact⟨_,by assumption⟩
    ·cases hx
   obtain⟨t,ht⟩:=hc
   rcases hm with(rfl | ⟨s,hs',rfl⟩) | ⟨s,hs',rfl⟩
   ·rw[hs] at g1;simp only[aa] at g1;subst g1
    exact⟨_,by rw[g2];exact ht⟩
   ·rw[z5r] at hs';subst hs'
    obtain⟨sva,q1,q2,_⟩:=zcu h2
    rw[hs] at q1;simp only[aa] at q1;subst q1
    obtain⟨⟨sv2,r1,r2⟩,_⟩:=z2x.1 hg
    simp only at r1 r2
    rw[g1] at r1;simp only[aa] at r1;subst r1
    rw[g2,ht] at r2
    simp only[aa,D.bool.injEq] at r2;subst r2
    rw[ht] at hx
    exact⟨d,by rw[q2];exact hx⟩
   ·rw[z5r] at hs';subst hs'
    obtain⟨sva,q1,q2,_⟩:=zcu h3
    rw[hs] at q1;simp only[aa] at q1;subst q1
    obtain⟨⟨sv2,r1,r2⟩,_⟩:=z2x.1 hg
    simp only at r1 r2
    rw[g1] at r1;simp only[aa] at r1;subst r1
    rw[g2,ht] at r2
    simp only[aa,D.bool.injEq] at r2;subst r2
    rw[ht] at hx
    exact⟨d,by rw[q2];exact hx⟩
  ·cases h
 ·rename_i hm1 hm2 hm3
  split at h
  ·rename_i hv
   split at h
   ·rename_i ks hk
    simp only[aa] at h;subst h
    have hn:y61 G op=(yv op).flatMap fun o=>(ya6 o).map fun s=>(s,G):=by
     unfold y61
     split
     ·exact absurd rfl (hm1 _)
     ·exact absurd rfl (hm2 _)
     ·exact absurd rfl (hm3 _ _ _)
     ·rfl
    rw[hn] at hm
    simp only[bA,aV] at hm
    obtain⟨o,h1,s,h2,rfl⟩:=hm
    rw[z5r] at h2;subst h2
    simp only[xv] at hx
    split at hx
    ·rename_i vs e1
     obtain⟨sv',q1,q2⟩:=z5f hk e1 s h1
     rw[hs] at q1;simp only[aa] at q1;subst q1
     exact q2
    ·cases hx
   ·cases h
  ·cases h

theorem zv8{G:List (Nat × Bool)}{op:DOp}:∀ p,p ∈ y61 G op->gok E cP env hp A p.2->gok E cP env hp A G:=by
 intro p hm hg
 unfold y61 at hm
 split at hm
 ·simp only[aV] at hm
  obtain⟨s,_,rfl⟩:=hm;exact hg
 ·simp only[aV] at hm
  obtain⟨s,_,rfl⟩:=hm;exact hg
 ·simp only[aQ,aw,aV] at hm
  rcases hm with(rfl | ⟨s,_,rfl⟩) | ⟨s,_,rfl⟩
  ·exact hg
  ·exact(z2x.1 hg).2
  ·exact(z2x.1 hg).2
 ·simp only[bA,aV] at hm
  obtain⟨o,_,s,_,rfl⟩:=hm;exact hg

def Dem(E:Env)(cP:Nat->List D->Option D)(env:List D)(hp:List Obj)(A:Ab)(dm:List (Nat × List (Nat × Bool))):Prop:=
 ∀ p,p ∈ dm->gok E cP env hp A p.2->∀ sv,A p.1=some sv->∃ d,xv E cP env hp sv.x=some d

theorem zbu{i:Option Nat}{h:Bool}{s:Nat}{sv:SV}(hk:y7e A i h s=some sv):A s=some sv/\sv.g=[]/\y5z i h sv.x=true:=by
 unfold y7e at hk
 split at hk
 ·rename_i sv' hs
  split at hk
  ·rename_i hc
   simp only[aa] at hk;subst hk
   simp only[ai,eT] at hc
   exact⟨hs,hc.1,hc.2⟩
  ·cases hk
 ·cases hk

theorem zuz{o:Option Nat}{s:Nat}(h:∀ d,o=some d->s ≠ d):yah nm A o s=A s:=by
 cases o with
 |none=>rfl
 |some d=>simp only[yah,y72];rw[if_neg (h d rfl)]

theorem z7b{d:Nat}{sv:SV}{G:List (Nat × Bool)}(hd:A d=none)(h:gok E cP env hp A G):gok E cP env hp (y72 A d sv) G:=by
 intro p hm
 obtain⟨s,h1,h2⟩:=h p hm
 refine⟨s,?_,h2⟩
 unfold y72
 rw[if_neg (fun e=>by rw[e,hd] at h1;cases h1)]
 exact h1

theorem zaa{i dst:Option Nat}{h:Bool}{dm:List (Nat × List (Nat × Bool))}(hh:h=false->hp'=hp)(he:∀ j,some j ≠ i->env'[j]? = env[j]?)
  (D1:Dem E cP env' hp' (yah nm (y7e A i h) dst) dm):Dem E cP env hp A (y89 A i h dst dm):=by
 intro p hm hg sv hs
 simp only[y89,fR,ai,eT,bD,beq_eq_false_iff_ne] at hm
 obtain⟨h1,⟨h2,h3⟩,h4⟩:=hm
 obtain⟨sv',h5⟩:=Option.isSome_iff_exists.1 h4
 obtain⟨k1,k2,k3⟩:=zbu h5
 rw[hs] at k1;simp only[aa] at k1;subst k1
 obtain⟨d,hd⟩:=D1 p h1 (by rw[h2];exact z3g) sv (by
  rw[zuz (fun d hd e=>h3 (by rw[hd,e]))];exact h5)
 exact⟨d,by rw[<- z2z hh he sv.x k3];exact hd⟩

theorem z9n{i:Nat}{d:D}:∀ j,some j ≠ some i->(env.set i d)[j]? = env[j]?:=fun j h=>by
 rw[a8 (fun e=>h (by rw[e]))]

theorem zbj{i:Option Nat}{d:D}:∀ j,some j ≠ i->(y93 env i d)[j]? = env[j]?:=by
 cases i with
 |none=>intro j _;rfl
 |some i=>exact z9n

theorem zjt{G:List (Nat × Bool)}{op:DOp}{p:Nat × List (Nat × Bool)}(h:p ∈ y9c G op):p.2=G /\ .t p.1 ∈ yv op:=by
 simp only[y9c,bA,aV] at h
 obtain⟨o,h1,s,h2,rfl⟩:=h
 rw[z5r] at h2;subst h2
 exact⟨rfl,h1⟩

theorem zaq{base:Nat}{dr:Bool}:∀{os:List y13} {pos:Nat} {A:Ab} {ts:List TS} {dm:List (Nat × List (Nat × Bool))},y9y nm N dr pos os A=some (ts,dm) ->
  ∀{env:List D} {hp:List Obj} {r:List D × List Obj},rTS E cP cS cY base ts env hp=some r->Dem E cP env hp A dm
 |[],pos,A,ts,dm,hc,env,hp,r,hr=>by
  simp only[y9y,aa,al] at hc
  obtain⟨_,rfl⟩:=hc
  intro p hm;cases hm
 |o::os,pos,A,ts,dm,hc,env,hp,r,hr=>by
  simp only[y9y] at hc
  split at hc
  ·rename_i hv
   split at hc
   ·rename_i d G hd hG
    split at hc
    ·rename_i x hx
     split at hc
     ·split at hc
      ·rename_i hcond
       simp only[ai,eT] at hcond
       split at hc
       ·rename_i ts' dm' hc'
        simp only[aa,al] at hc
        obtain⟨rfl,rfl⟩:=hc
        simp only[rTS] at hr
        split at hr
        ·rename_i v hxv
         have IH:=zaq hc' hr
         intro p hm hg sv hs
         rcases aQ.1 hm with hm | hm
         ·exact zhw (G:=[]) (by rw[hcond.1] at hx;exact hx) hxv p hm hg sv hs
         ·exact zaa (fun _=>rfl) z9n IH p hm hg sv hs
        ·cases hr
       ·cases hc
      ·cases hc
     ·split at hc
      ·rename_i hcond
       simp only[ai,fP] at hcond
       split at hc
       ·rename_i ts' dm' hc'
        have filt:Dem E cP env hp (y72 A d ⟨G,x⟩) dm'->Dem E cP env hp A (dm'.filter fun p=>!(p.1 == d)):=by
         intro IH p hm hg sv hs
         simp only[fR,bD,beq_eq_false_iff_ne] at hm
         exact IH p hm.1 (z7b hcond.1 hg) sv (by unfold y72;rw[if_neg hm.2];exact hs)
        split at hc
        ·rename_i hany
         simp only[aa,al] at hc
         obtain⟨rfl,rfl⟩:=hc
         have IH:=zaq hc' hr
         intro p hm hg sv hs
         rcases aQ.1 hm with hm | hm
         ·obtain⟨q,q1,q2⟩:=gS.1 hany
          simp only[ai,beq_iff_eq] at q2
          have hG1:gok E cP env hp A G:=zv8 p hm hg
          obtain⟨v,hxv⟩:=IH q q1 (zgq q2.2 (z7b hcond.1 hG1)) ⟨G,x⟩ (by unfold y72;rw[if_pos q2.1])
          exact zhw hx hxv p hm hg sv hs
         ·exact filt IH p hm hg sv hs
        ·split at hc
         ·simp only[aa,al] at hc
          obtain⟨rfl,rfl⟩:=hc
          exact filt (zaq hc' hr)
         ·cases hc
       ·cases hc
      ·cases hc
    ·cases hc
   ·cases hc
  ·split at hc
   ·split at hc
    ·rename_i gd ks hgd hks
     split at hc
     ·rename_i ts' dm' hc'
      simp only[aa,al] at hc
      obtain⟨rfl,rfl⟩:=hc
      simp only[rTS] at hr
      intro p hm hg sv hs
      rcases aQ.1 hm with hm | hm
      ·obtain⟨n1,n2⟩:=zjt hm
       -- the guard holds
       have hgt:gdT E cP env hp gd=some true:=by
        cases hog:o.gd with
        |none=>rw[hog] at hgd;simp only[gdX,aa] at hgd;subst hgd;rfl
        |some q=>
         obtain⟨j,b⟩:=q
         rw[hog] at hgd n1
         simp only[gdX] at hgd
         split at hgd
         ·rename_i xg hxg
          simp only[aa] at hgd;subst hgd
          obtain⟨svj,g1,g2,_⟩:=zcu hxg
          rw[n1] at hg
          obtain⟨sv2,r1,r2⟩:=hg (j,b) (by simp)
          simp only at r1 r2
          rw[g1] at r1;simp only[aa] at r1;subst r1
          rw[g2] at r2
          simp only[gdT,r2,beq_self_eq_true]
         ·cases hgd
       rw[hgt] at hr
       simp only at hr
       split at hr
       ·rename_i vs e1
        obtain⟨sv',q1,q2⟩:=z5f hks e1 p.1 n2
        rw[hs] at q1;simp only[aa] at q1;subst q1
        exact q2
       ·cases hr
      ·split at hr
       ·split at hr
        ·split at hr
         ·exact zaa (fun h=>by cases h) zbj (zaq hc' hr) p hm hg sv hs
         ·cases hr
        ·cases hr
       ·exact zaa (fun h=>by cases h) zbj (zaq hc' hr) p hm hg sv hs
       ·cases hr
     ·cases hc
    ·cases hc
   ·cases hc

end
end Dv

namespace Dv

section
variable{E:Env}{cP:Nat->List D->Option D}{cS cY:Nat->List D->List Obj->Option (D × List Obj)}{env env':List D}{hp hp':List Obj}{A:Ab}{N:Nat}{nm:List Nat}{sl:List D}

def y5s(nm:List Nat)(env sl:List D):Prop:=env.length=nm.length /\ ∀(i s:Nat),nm[i]? = some s->env[i]? = some (sl.getD s .undef)

theorem y5s.get(S:y5s nm env sl){s:Nat}(h:nm.contains s=true):nm.idxOf s<env.length/\env[nm.idxOf s]? = some (sl.getD s .undef):=by
 have hm:s ∈ nm:=by simpa using h
 have hlt:=iD hm
 refine⟨by rw[S.1];exact hlt,S.2 _ _ ?_⟩
 rw[ae hlt]
 simp

theorem zah{n:Nat}{d e:D}(h:n<sl.length):(sl.set n d).getD n e=d:=by
 rw[aj,aT h];rfl

theorem y5s.set(nd:nm.Nodup)(S:y5s nm env sl){s:Nat}{d:D}(h:nm.contains s=true)(hs:s<sl.length):y5s nm (env.set (nm.idxOf s) d) (sl.set s d):=by
 have hm:s ∈ nm:=by simpa using h
 have hlt:=iD hm
 refine⟨by simpa using S.1,fun i s' h'=>?_⟩
 by_cases e:i=nm.idxOf s
 ·subst e
  have:s'=s:=by
   rw[ae hlt] at h'
   simp at h';exact h'.symm
  subst this
  rw[aT (by rw[S.1];exact hlt),zah hs]
 ·rw[a8 (eL e)]
  have hne:s ≠ s':=by
   rintro rfl
   apply e
   have hi:=(ac.1 h').1
   have h1:nm[i]=s:=(ac.1 h').2
   have h2:nm[nm.idxOf s]=s:=by simp
   exact(List.getElem_inj nd).1 (h1.trans h2.symm)
  rw[getD_set_ne hne]
  exact S.2 i s' h'

theorem y5s.other(S:y5s nm env sl){s:Nat}{d:D}(h:nm.contains s=false):y5s nm env (sl.set s d):=by
 refine⟨S.1,fun i s' h'=>?_⟩
 have hne:s ≠ s':=by
  rintro rfl
  have:=ba h'
  simp at h;exact h this
 rw[getD_set_ne hne];exact S.2 i s' h'

theorem zmc(hl:sl.length=N)(hN:nm.all (fun s=>decide (s<N))=true)(S:y5s nm env sl):y8z E cP (y99 nm) N env hp sl:=by
 refine⟨hl,fun s sv h=>?_,fun s sv h p hp=>?_⟩
 all_goals unfold y99 at h
 all_goals split at h
 rotate_left 2
 ·simp only[aa] at h;subst h;cases hp
 ·cases h
 ·rename_i hc
  simp only[aa] at h;subst h
  have hm:s ∈ nm:=by simpa using hc
  refine⟨by simpa using ax.1 hN s hm,fun _=>?_,fun h=>absurd z3g h⟩
  simp only[xv]
  exact(S.get hc).2
 ·cases h

def y60(dr:Bool)(E:Env)(cP:Nat->List D->Option D)(cS cY:Nat->List D->List Obj->Option (D × List Obj))(id:Nat)(os:List y13)(st:St):Option St:=
 if dr then yy E cP cS cY id os st else ye E cP cS cY os st

theorem zj5{dr:Bool}{id:Nat}{o:y13}{os:List y13}{st:St}:y60 dr E cP cS cY id (o::os) st =
  (if yh st.sl o.gd then
   (match yd E cP cS cY (if dr then id else st.hp.length) (yn st.sl) st.hp o.op with
   |some (d,hp)=>y60 dr E cP cS cY (id+1) os ⟨y22 st.sl o.dst d,hp⟩
   |none=>none)
  else y60 dr E cP cS cY (id+1) os ⟨y22 st.sl o.dst .undef,st.hp⟩):=by
 cases dr with
 |true=>simp only[y60,if_true,yy];rfl
 |false=>simp only[y60,aN,if_false,ye];rfl

theorem zkq(R:y8z E cP A N env hp sl){gd:Option (Nat × Bool)}{G:List (Nat × Bool)}(h:y5m A gd=some G):yh sl gd=true ↔ gok E cP env hp A G:=by
 cases gd with
 |none=>
  simp only[y5m,aa] at h;subst h
  exact⟨fun _=>z3g,fun _=>rfl⟩
 |some p=>
  obtain⟨j,b⟩:=p
  simp only[y5m] at h
  split at h
  ·rename_i sv hj
   simp only[aa] at h;subst h
   obtain⟨_,k1,k2⟩:=R.ok j sv hj
   constructor
   ·intro hw
    unfold yh at hw
    simp only at hw
    by_cases hg:gok E cP env hp A sv.g
    ·refine z2x.2 ⟨⟨sv,hj,?_⟩,hg⟩
     rw[k1 hg]
     split at hw
     ·rename_i c hc
      rw[hc]
      simp only[beq_iff_eq] at hw;rw[hw]
     ·cases hw
    ·rw[k2 hg] at hw;simp at hw
   ·intro hG
    obtain⟨⟨sv',h1,h2⟩,h3⟩:=z2x.1 hG
    simp only at h1 h2
    rw[hj] at h1;simp only[aa] at h1;subst h1
    rw[k1 h3] at h2
    simp only[aa] at h2
    unfold yh
    simp only[h2,beq_self_eq_true]
  ·cases h

theorem z8x(R:y8z E cP A N env hp sl){i:Option Nat}{h:Bool}(hh:h=false->hp'=hp)(he:∀ j,some j ≠ i->env'[j]? = env[j]?){s:Nat}{sv:SV}(hk:y7e A i h s=some sv) :
  s<N/\sv.g=[]/\xv E cP env' hp' sv.x=some (sl.getD s .undef):=by
 obtain⟨k1,k2,k3⟩:=zbu hk
 obtain⟨h1,h2,_⟩:=R.ok s sv k1
 exact⟨h1,k2,by rw[z2z hh he sv.x k3];exact h2 (by rw[k2];exact z3g)⟩

theorem zcr(nd:nm.Nodup)(R:y8z E cP A N env hp sl)(S:y5s nm env sl){dst:Option Nat}{h:Bool}{d:D}(hh:h=false->hp'=hp)(hd:ya8 nm N dst=true) :
  y8z E cP (yah nm (y7e A (dst.map nm.idxOf) h) dst) N (y93 env (dst.map nm.idxOf) d) hp' (y22 sl dst d)/\y5s nm (y93 env (dst.map nm.idxOf) d) (y22 sl dst d):=by
 cases dst with
 |none=>
  refine⟨⟨R.len,fun s sv hs=>?_,fun s sv hs p hp=>?_⟩,S⟩
  rotate_left
  ·obtain⟨_,h2,_⟩:=z8x (env':=env) R hh (fun _ _=>rfl) hs
   rw[h2] at hp;cases hp
  obtain⟨h1,h2,h3⟩:=z8x (env':=env) R hh (fun _ _=>rfl) hs
  exact⟨h1,fun _=>h3,fun hn=>absurd (by rw[h2];exact z3g) hn⟩
 |some n=>
  simp only[ya8,ai,decide_eq_true_eq] at hd
  have hlen:n<sl.length:=by rw[R.len];exact hd.2
  have S':=S.set nd (d:=d) hd.1 hlen
  refine⟨⟨by simp[y22,R.len],fun s sv hs=>?_,fun s sv hs p hp=>?_⟩,S'⟩
  rotate_left
  ·simp only[yah,y72] at hs
   split at hs
   ·simp only[aa] at hs;subst hs;cases hp
   ·obtain⟨_,h2,_⟩:=z8x (env':=env) R hh (fun _ _=>rfl) hs
    rw[h2] at hp;cases hp
  simp only[yah,y72] at hs
  split at hs
  ·rename_i e;subst e
   simp only[aa] at hs;subst hs
   refine⟨hd.2,fun _=>?_,fun hn=>absurd z3g hn⟩
   simp only[xv]
   exact(S'.get hd.1).2
  ·rename_i e
   obtain⟨h1,h2,h3⟩:=z8x R hh (z9n (i:=nm.idxOf n) (d:=d)) hs
   refine⟨h1,fun _=>?_,fun hn=>absurd (by rw[h2];exact z3g) hn⟩
   simp only[ao,y93,y22]
   rw[getD_set_ne (eL e)];exact h3

theorem zmk(R:y8z E cP A N env hp sl){n:Nat}{G:List (Nat × Bool)}{x:Xp}{d:D}(hn:A n=none)(hN:n<N)(hG:∀ p,p ∈ G->A p.1 ≠ none)(h1:gok E cP env hp A G->xv E cP env hp x=some d)(h2 : ¬ gok E cP env hp A G->d=.undef) :
  y8z E cP (y72 A n ⟨G,x⟩) N env hp (sl.set n d):=by
 have hlen:n<sl.length:=by rw[R.len];exact hN
 have back:∀{g:List (Nat × Bool)},(∀ p,p ∈ g->A p.1 ≠ none)->gok E cP env hp (y72 A n ⟨G,x⟩) g->gok E cP env hp A g:=by
  intro g hg h p hp
  obtain⟨sv,q1,q2⟩:=h p hp
  unfold y72 at q1
  rw[if_neg (fun e=>hg p hp (by rw[e,hn]))] at q1
  exact⟨sv,q1,q2⟩
 refine⟨by simp[R.len],fun s sv hs=>?_,fun s sv hs p hp=>?_⟩
 ·unfold y72 at hs
  split at hs
  ·rename_i e;subst e
   simp only[aa] at hs;subst hs
   rw[zah hlen]
   exact⟨hN,fun hg=>h1 (back hG hg),fun hg=>h2 (fun hG=>hg (z7b hn hG))⟩
  ·rename_i e
   obtain⟨q0,q1,q2⟩:=R.ok s sv hs
   rw[getD_set_ne (eL e)]
   exact⟨q0,fun hg=>q1 (back (R.cl s sv hs) hg),fun hg=>q2 (fun h=>hg (z7b hn h))⟩
 ·have:A p.1 ≠ none:=by
   unfold y72 at hs
   split at hs
   ·simp only[aa] at hs;subst hs;exact hG p hp
   ·exact R.cl s sv hs p hp
  unfold y72
  split
  ·simp
  ·exact this

theorem zev(R:y8z E cP A N env hp sl){gd:Option (Nat × Bool)}{G:List (Nat × Bool)}(h:y5m A gd=some G):∀ p,p ∈ G->A p.1 ≠ none:=by
 cases gd with
 |none=>simp only[y5m,aa] at h;subst h;intro p hp;cases hp
 |some q=>
  obtain⟨j,b⟩:=q
  simp only[y5m] at h
  split at h
  ·rename_i sv hj
   simp only[aa] at h;subst h
   intro p hp
   rcases aw.1 hp with rfl | hp
   ·simp only[hj];simp
   ·exact R.cl j sv hj p hp
  ·cases h

theorem zv9(R:y8z E cP A N env hp sl){G:List (Nat × Bool)}{op:DOp}{x:Xp}(h:y8m A G op=some x)(hG:gok E cP env hp A G)(hm:y9g op=true):∃ d,xv E cP env hp x=some d:=by
 cases op <;> simp[y9g] at hm
 ·exact⟨_,z6w R h hG⟩
 ·exact⟨_,z6w R h hG⟩

theorem z82(nd:nm.Nodup){base:Nat}{dr:Bool}:∀{os:List y13} {pos:Nat} {A:Ab} {ts:List TS} {dm:List (Nat × List (Nat × Bool))},y9y nm N dr pos os A=some (ts,dm) ->
  ∀{env:List D} {hp:List Obj} {sl:List D} {env':List D} {hp':List Obj},y8z E cP A N env hp sl->y5s nm env sl->rTS E cP cS cY base ts env hp=some (env',hp') ->
  ∃ sl',y60 dr E cP cS cY (base+pos) os ⟨sl,hp⟩=some ⟨sl',hp'⟩/\sl'.length=N/\y5s nm env' sl'
 |[],pos,A,ts,dm,hc,env,hp,sl,env',hp',R,S,hr=>by
  simp only[y9y,aa,al] at hc
  obtain⟨rfl,_⟩:=hc
  simp only[rTS,aa,al] at hr
  obtain⟨rfl,rfl⟩:=hr
  exact⟨sl,by cases dr <;> rfl,R.len,S⟩
 |o::os,pos,A,ts,dm,hc,env,hp,sl,env',hp',R,S,hr=>by
  have hdem:=zaq hc hr
  rw[zj5]
  simp only[y9y] at hc
  split at hc
  ·rename_i hv
   split at hc
   ·rename_i d G hd hG
    have hgt:=zkq R hG
    split at hc
    ·rename_i x hx
     split at hc
     ·rename_i hnm
      split at hc
      ·rename_i hcond
       simp only[ai,eT,decide_eq_true_eq] at hcond
       split at hc
       ·rename_i ts' dm' hc'
        simp only[aa,al] at hc
        obtain⟨rfl,rfl⟩:=hc
        simp only[rTS] at hr
        split at hr
        ·rename_i v hxv
         have hGn:gok E cP env hp A G:=by rw[hcond.1];exact z3g
         rw[if_pos (hgt.2 hGn)]
         obtain⟨e,he,hed⟩:=zta R (id:=if dr then base+pos else hp.length) hx hGn hxv
         rw[zhj hv he,hd]
         simp only
         have hem:=zcr (h:=false) (hp':=hp) (d:=v) (dst:=some d) nd R S (fun _=>rfl) (by simp only[ya8,ai,decide_eq_true_eq];exact⟨hnm,hcond.2⟩)
         rw[hed]
         exact z82 nd hc' hem.1 hem.2 hr
        ·cases hr
       ·cases hc
      ·cases hc
     ·rename_i hnm
      split at hc
      ·rename_i hcond
       simp only[ai,fP,decide_eq_true_eq] at hcond
       split at hc
       ·rename_i ts' dm' hc'
        have hnm':nm.contains d=false:=by simpa using hnm
        have hts:ts=ts':=by
         split at hc
         ·simp only[aa,al] at hc;exact hc.1.symm
         ·split at hc
          ·simp only[aa,al] at hc;exact hc.1.symm
          ·cases hc
        subst hts
        by_cases hg:gok E cP env hp A G
        ·rw[if_pos (hgt.2 hg)]
         have hsome:∃ v,xv E cP env hp x=some v:=by
          split at hc
          ·rename_i hany
           have D1:=zaq (base:=base) hc' hr
           obtain⟨q,q1,q2⟩:=gS.1 hany
           simp only[ai,beq_iff_eq] at q2
           exact D1 q q1 (zgq q2.2 (z7b hcond.1 hg)) ⟨G,x⟩ (by unfold y72;rw[if_pos q2.1])
          ·split at hc
           ·exact zv9 R hx hg (by assumption)
           ·cases hc
         obtain⟨v,hxv⟩:=hsome
         obtain⟨e,he,hed⟩:=zta R (id:=if dr then base+pos else hp.length) hx hg hxv
         rw[zhj hv he,hd]
         simp only
         rw[hed]
         exact z82 nd hc' (zmk R hcond.1 hcond.2 (zev R hG) (fun _=>hxv) (fun h=>absurd hg h)) (S.other hnm') hr
        ·rw[if_neg (fun h=>hg (hgt.1 h)),hd]
         exact z82 nd hc' (zmk R hcond.1 hcond.2 (zev R hG) (fun h=>absurd h hg) (fun _=>rfl)) (S.other hnm') hr
       ·cases hc
      ·cases hc
    ·cases hc
   ·cases hc
  ·split at hc
   ·rename_i hdst
    split at hc
    ·rename_i gd ks hgd hks
     split at hc
     ·rename_i ts' dm' hc'
      simp only[aa,al] at hc
      obtain⟨rfl,rfl⟩:=hc
      simp only[rTS] at hr
      have hgv:gdT E cP env hp gd=some (yh sl o.gd)/\(yh sl o.gd=true->gok E cP env hp A o.gd.toList):=by
       cases hog:o.gd with
       |none=>
        rw[hog] at hgd;simp only[gdX,aa] at hgd;subst hgd
        exact⟨rfl,fun _=>z3g⟩
       |some q=>
        obtain⟨j,b⟩:=q
        rw[hog] at hgd
        simp only[gdX] at hgd
        split at hgd
        ·rename_i xg hxg
         simp only[aa] at hgd;subst hgd
         have e1:=z6w R hxg z3g
         obtain⟨svj,g1,g2,_⟩:=zcu hxg
         simp only[yn] at e1
         unfold yh gdT
         simp only[e1]
         refine⟨?_,fun hw=>?_⟩
         ·split <;> simp_all
         ·refine z2x.2 ⟨⟨svj,g1,?_⟩,z3g⟩
          rw[g2,e1]
          split at hw
          ·rename_i c hc;rw[hc];simp only[beq_iff_eq] at hw;rw[hw]
          ·cases hw
        ·cases hgd
      rw[hgv.1] at hr
      cases hw:yh sl o.gd with
      |true=>
       rw[hw] at hr
       simp only at hr
       simp only[if_true]
       split at hr
       ·rename_i vs e1
        obtain⟨vs',f1,f2,f3⟩:=za9 R (hgv.2 hw) hks
        rw[e1] at f1;simp only[aa] at f1;subst f1
        split at hr
        ·rename_i d hp1 hst
         have hst':yd E cP cS cY (if dr=true then base+pos else hp.length) (gOf vs) hp o.op=some (d,hp1):=by
          cases dr <;> exact hst
         rw[z8b (zti f2 f3)] at hst'
         rw[hst']
         have hem:=zcr (h:=true) (hp':=hp1) (d:=d) nd R S (fun h=>by cases h) hdst
         exact z82 nd hc' hem.1 hem.2 hr
        ·cases hr
       ·cases hr
      |false=>
       rw[hw] at hr
       simp only at hr
       simp only[aN,if_false]
       have hem:=zcr (h:=true) (hp':=hp) (d:=.undef) nd R S (fun h=>by cases h) hdst
       exact z82 nd hc' hem.1 hem.2 hr
     ·cases hc
    ·cases hc
   ·cases hc

theorem z9o(nd:nm.Nodup):∀(ps:List Nat) (args sl env:List D),ps.all (fun p=>nm.contains p && decide (p<N))=true->sl.length=N->y5s nm env sl ->
  (y2f sl ps args).length=N/\y5s nm (y2f env (ps.map nm.idxOf) args) (y2f sl ps args)
 |[],args,sl,env,_,hl,S=>⟨by simpa[y2f] using hl,by simpa[y2f] using S⟩
 |p::ps,[],sl,env,_,hl,S=>⟨by simpa[y2f] using hl,by simpa[y2f] using S⟩
 |p::ps,v::vs,sl,env,h,hl,S=>by
  simp only[List.all_cons,ai,decide_eq_true_eq] at h
  simp only[y2f,au]
  exact z9o nd ps vs _ _ (by simpa using h.2) (by simpa using hl) (S.set nd h.1.1 (by rw[hl];exact h.1.2))

theorem zgl{A:Type}:∀{ls:List (Option (List A))} {r:List A},y9f ls=some r->∀ x,x ∈ ls->∃ r',x=some r' /\ ∀ y,y ∈ r'->y ∈ r
 |[],_,_,x,hx=>by cases hx
 |x::ls,r,h,z,hz=>by
  simp only[y9f] at h
  split at h
  ·rename_i a b h1
   simp only[aa] at h;subst h
   rcases aw.1 hz with rfl | hz
   ·exact⟨a,rfl,fun y hy=>List.mem_append_left _ hy⟩
   ·obtain⟨r',e1,e2⟩:=zgl h1 z hz
    exact⟨r',e1,fun y hy=>List.mem_append_right _ (e2 y hy)⟩
  ·cases h

theorem zv5{env sl:List D}(S:y5s nm env sl){x y:Opd}{r:List (Nat × Nat)}(h:ya5 nm x y=some r)(hc:∀ p,p ∈ r->yfo env p=true):y8s (did (yn sl x)) (did (yn sl y))=true:=by
 have none1:∀{o:Option Nat},y8s none o=true:=fun {o}=>by cases o <;> rfl
 have none2:∀{o:Option Nat},y8s o none=true:=fun {o}=>by cases o <;> rfl
 have key:∀{z:Opd},ya7 nm z=some none->did (yn sl z)=none:=by
  intro z hz
  cases z with
  |t s=>simp only[ya7] at hz;split at hz <;> simp at hz
  |c d=>
   simp only[ya7] at hz
   split at hz
   ·rename_i h1;simpa[yn] using h1
   ·cases hz
  |f k=>rfl
 have key2:∀{z:Opd} {i:Nat},ya7 nm z=some (some i)->env[i]? = some (yn sl z):=by
  intro z i hz
  cases z with
  |t s=>
   simp only[ya7] at hz
   split at hz
   ·rename_i h1
    simp only[aa] at hz;subst hz
    exact(S.get h1).2
   ·cases hz
  |c d=>simp only[ya7] at hz;split at hz <;> simp at hz
  |f k=>simp[ya7] at hz
 unfold ya5 at h
 split at h
 ·rename_i i j h1 h2
  simp only[aa] at h;subst h
  have:=hc (i,j) (by simp)
  simp only[yfo,key2 h1,key2 h2] at this
  exact this
 ·rename_i h2
  rw[key h2];exact none2
 ·rename_i h1 h2
  rw[key h1];exact none1
 ·cases h

theorem zt1{env sl:List D}(S:y5s nm env sl){ops:List y13}{ap l:List (Nat × Nat)}(h:apX nm ops ap=some l)(hc:yd8 env l=true):y7l sl ops ap=true:=by
 unfold yd8 at hc
 rw[ax] at hc
 unfold y7l
 rw[ax]
 intro p hp
 obtain⟨r,e1,e2⟩:=zgl h _ (ka hp)
 unfold apX1 at e1
 unfold y9p
 split at e1
 ·rename_i a b h1 h2
  rw[h1,h2]
  simp only[]
  rw[ax]
  intro x hx
  rw[ax]
  intro y hy
  obtain⟨r2,f1,f2⟩:=zgl e1 (ya5 nm x y) (bA.2 ⟨x,hx,ka hy⟩)
  exact zv5 S f1 fun q hq=>hc q (e2 q (f2 q hq))
 ·cases e1

theorem zsb(nd:nm.Nodup)(hN:nm.all (fun s=>decide (s<N))=true):∀{dc:DC} {tc:TC},y2n nm N dc=some tc->∀{Q:Ex->List D->List Obj->Prop} {env:List D} {hp:List Obj} {sl:List D},
  sl.length=N->y5s nm env sl->wT E tc Q env hp->wp E dc ⟨sl,hp⟩ (fun ex st'=>st'.sl.length=N /\ ∃ env',y5s nm env' st'.sl/\Q ex env' st'.hp):=by
 intro dc
 induction dc with
 |skip=>
  intro tc hc Q env hp sl hl S h
  simp only[y2n,aa] at hc;subst hc
  exact zu3.2 ⟨hl,env,S,h⟩
 |ret=>
  intro tc hc Q env hp sl hl S h
  simp only[y2n,aa] at hc;subst hc
  exact zx0.2 ⟨hl,env,S,h⟩
 |exit id=>
  intro tc hc Q env hp sl hl S h
  simp only[y2n,aa] at hc;subst hc
  exact zu5.2 ⟨hl,env,S,h⟩
 |region dr ap ops=>
  intro tc hc Q env hp sl hl S h
  simp only[y2n] at hc
  split at hc
  ·rename_i ts dm hcc
   have base:∀{Q:Ex->List D->List Obj->Prop},wT E (.run (if dr then ops.length else 0) ts) Q env hp->∃ sl' hp' env',y60 dr E (y17 E (dL E)) (y1n E (dL E)) (y38 (dL E)) (hp.length+0) ops ⟨sl,hp++ah (if dr then ops.length else 0) .dead⟩=some ⟨sl',hp'⟩/\sl'.length=N/\y5s nm env' sl'/\Q .normal env' hp':=by
    intro Q h
    simp only[wT] at h
    split at h
    ·rename_i env' hp' hr
     obtain⟨sl',h1,h2,h3⟩:=z82 nd (base:=hp.length) hcc (zmc hl hN S) S hr
     exact⟨sl',hp',env',h1,h2,h3,h⟩
    ·exact h.elim
   split at hc
   ·rename_i hda
    simp only[ai,bD] at hda
    obtain⟨rfl,hap⟩:=hda
    split at hc
    ·rename_i l hX
     simp only[aa] at hc;subst hc
     obtain⟨sl',hp',env',h1,h2,h3,h4⟩:=base (Q:=fun ex env' hp'=>match ex with
      |.normal=>wT E (.chk l) Q env' hp'
      |ex=>Q ex env' hp') h
     simp only[wT] at h4
     refine⟨.normal,⟨sl',hp'⟩,?_,h2,env',h3,h4.2⟩
     rw[zp0]
     simp only[y60,if_true,cU] at h1
     simp only[h1,y28,zt1 h3 hX h4.1,if_true,ao]
    ·cases hc
   ·rename_i hda
    simp only[aa] at hc;subst hc
    obtain⟨sl',hp',env',h1,h2,h3,h4⟩:=base h
    cases dr with
    |false=>
     refine zly.2 ⟨⟨sl',hp'⟩,?_,h2,env',h3,h4⟩
     simpa[y60] using h1
    |true=>
     have hap':ap=[]:=by simpa using hda
     subst hap'
     refine⟨.normal,⟨sl',hp'⟩,?_,h2,env',h3,h4⟩
     rw[zp0]
     simp only[y60,if_true,cU] at h1
     simp only[h1,y28,y7l,List.all_nil,if_true,ao]
  ·cases hc
 |seq a b iha ihb=>
  intro tc hc Q env hp sl hl S h
  simp only[y2n] at hc
  split at hc
  ·rename_i x y hx hy
   simp only[aa] at hc;subst hc
   simp only[wT] at h
   refine zwz.2 (zfl (iha hx hl S h) ?_)
   rintro ex st' ⟨hl',env',S',hq⟩
   cases ex with
   |normal=>exact ihb hy hl' S' hq
   |exit i=>exact⟨hl',env',S',hq⟩
   |ret=>exact⟨hl',env',S',hq⟩
  ·cases hc
 |cond c a b iha ihb=>
  intro tc hc Q env hp sl hl S h
  cases c with
  |c d=>
   cases d with
   |undef=>
    simp only[y2n,aa] at hc
    subst hc
    exact h.elim
   |_=>simp[y2n] at hc
  |f k=>simp[y2n] at hc
  |t k=>
   simp only[y2n] at hc
   split at hc
   ·rename_i hk
    split at hc
    ·rename_i x y hx hy
     simp only[aa] at hc;subst hc
     simp only[wT,(S.get hk).2] at h
     split at h
     ·rename_i t ht
      simp only[aa] at ht
      refine(zu6 (b:=t) (by simp only[yn];exact ht)).2 ⟨fun e=>?_,fun e=>?_⟩
      ·subst e;simp only[if_true] at h;exact iha hx hl S h
      ·subst e;simp only[aN,if_false] at h;exact ihb hy hl S h
     ·exact h.elim
    ·cases hc
   ·cases hc
 |ifp c a b iha ihb=>
  intro tc hc Q env hp sl hl S h
  cases c with
  |c d=>simp[y2n] at hc
  |f k=>simp[y2n] at hc
  |t k=>
   simp only[y2n] at hc
   split at hc
   ·rename_i hk
    split at hc
    ·rename_i x y hx hy
     simp only[aa] at hc;subst hc
     simp only[wT,(S.get hk).2] at h
     split at h
     ·rename_i hm;exact zt8.2 ((if_pos (show yt (yn sl (.t k))=true from hm)).mpr (iha hx hl S h))
     ·rename_i hm;exact zt8.2 ((if_neg (show ¬ yt (yn sl (.t k))=true from hm)).mpr (ihb hy hl S h))
    ·cases hc
   ·cases hc
 |block id a iha=>
  intro tc hc Q env hp sl hl S h
  simp only[y2n] at hc
  split at hc
  ·rename_i x hx
   simp only[aa] at hc;subst hc
   simp only[wT] at h
   refine zpy.2 (zfl (iha hx hl S h) ?_)
   rintro ex st' ⟨hl',env',S',hq⟩
   cases ex with
   |normal=>exact⟨hl',env',S',hq⟩
   |exit i=>exact⟨hl',env',S',hq⟩
   |ret=>exact⟨hl',env',S',hq⟩
  ·cases hc
 |loop a iha=>
  intro tc hc Q env hp sl hl S h
  simp only[y2n] at hc
  split at hc
  ·rename_i x hx
   simp only[aa] at hc;subst hc
   simp only[wT] at h
   obtain⟨I,k,hI,step⟩:=h
   refine zu4 (fun k st=>st.sl.length=N /\ ∃ env,y5s nm env st.sl/\I k env st.hp) ?_ k ⟨sl,hp⟩ ⟨hl,env,S,hI⟩
   rintro k ⟨sl,hp⟩ ⟨hl,env,S,hI⟩
   refine zfl (iha hx hl S (step k env hp hI)) ?_
   rintro ex st' ⟨hl',env',S',hq⟩
   cases ex with
   |normal=>
    obtain⟨k',hk,hI'⟩:=hq
    exact⟨k',hk,hl',env',S',hI'⟩
   |exit i=>exact⟨hl',env',S',hq⟩
   |ret=>exact⟨hl',env',S',hq⟩
  ·cases hc
 |rfunc f ps asg body iha ihb=>
  intro tc hc Q env hp sl hl S h
  cases f with
  |c d=>simp[y2n] at hc
  |f k=>simp[y2n] at hc
  |t f=>
   simp only[y2n] at hc
   split at hc
   ·rename_i hk
    simp only[ai] at hk
    split at hc
    ·rename_i x y hx hy
     simp only[aa] at hc;subst hc
     simp only[wT] at h
     obtain⟨k,caps,h1,h2⟩:=h
     have hf:y5n E (sl.getD f .undef)=.fn k caps:=by
      have:=(S.get hk.1).2
      rw[this] at h1;simpa using h1
     obtain⟨d,hp',h3,h4⟩:=h2 (fun b p=>.loop b sl ps asg body p) ⟨_,_,_,_,rfl⟩ (by
      intro args hp1 K hlen hat hw
      have hlen':args.length=ps.length:=by simpa using hlen
      obtain⟨hsl,S1⟩:=z9o nd ps args sl env hk.2 hl S
      obtain⟨ex,st1,r1,hl1,env1,S1',rfl,hat1,hw1⟩:=iha hx hsl S1 hw
      obtain⟨ex2,st2,r2,hl2,env2,S2',hat2,hK⟩:=ihb hy (sl:=st1.sl) (hp:=st1.hp.set hp.length (.loop true sl ps asg body none)) hl1 S1' hw1
      unfold y38
      simp only[hat,hlen',if_true,r1,hat1,r2,hat2]
      cases ex2 with
      |normal=>exact⟨_,_,rfl,hK⟩
      |exit i=>exact⟨_,_,rfl,hK⟩
      |ret=>exact⟨_,_,rfl,hK⟩)
     rcases h4 with⟨h5,h6⟩ | ⟨ex,h5,h6⟩
     ·refine⟨.normal,⟨sl,hp'.set hp.length .dead⟩,?_,hl,env,S,h6⟩
      rw[zim]
      simp only[yn,hf,h3,h5]
     ·refine⟨ex,⟨sl,hp'.set hp.length .dead⟩,?_,hl,env,S,h6⟩
      rw[zim]
      simp only[yn,hf,h3,h5]
    ·cases hc
   ·cases hc

end
end Dv

namespace Dv

def y3a(E:Env)(env:List D)(hp:List Obj):List (Nat × Option Nat)->Option (List D)
 |[]=>some []
 |(i,none)::r=>(match env[i]?,y3a E env hp r with
  |some d,some l=>some (d::l)
  |_,_=>none)
 |(i,some t)::r=>(match env[i]? with
  |some a=>(match yx E hp t a,y3a E env hp r with
   |some d,some l=>some (d::l)
   |_,_=>none)
  |none=>none)

def y92(nm:List Nat):List RV->List (Nat × Option Nat)->Bool
 |[],[]=>true
 |.tmp t::r,(i,none)::is=>nm.contains t && nm.idxOf t == i && y92 nm r is
 |.cell a t::r,(i,some t')::is=>nm.contains a && nm.idxOf a == i && t == t' && y92 nm r is
 |_,_=>false

def Ret(E:Env)(is:List (Nat × Option Nat))(R:D->List Obj->Prop):Ex->List D->List Obj->Prop:=fun ex env hp=>(ex=.ret\/ex=.normal) /\ ∃ l,y3a E env hp is=some l/\R (y29 l) hp

section
variable{E:Env}

structure TF(E:Env)(f:Nat)(nm:List Nat)(is:List (Nat × Option Nat))(tc:TC)(N:Nat):Prop where
 ex:∃ F,E.fn f=some F/\F.ntmps=N/\y2n nm F.ntmps F.body=some tc/\nm.Nodup/\nm.all (fun s=>decide (s<F.ntmps))=true/\y92 nm F.results is=true

def y88:List Nat->Bool
 |[]=>true
 |x::r=>!r.contains x && y88 r

theorem zen:∀{l:List Nat},y88 l=true->l.Nodup
 |[],_=>List.nodup_nil
 |x::r,h=>by
  simp only[y88,ai,bD] at h
  exact List.nodup_cons.2 ⟨by simpa using h.1,zen h.2⟩

theorem zk{f:Nat}{nm:List Nat}{is:List (Nat × Option Nat)}{tc:TC}{F:DFn}(h:E.fn f=some F)(hc:y2n nm F.ntmps F.body=some tc)(hb:(y88 nm && nm.all (fun s=>decide (s<F.ntmps)) && y92 nm F.results is)=true):TF E f nm is tc F.ntmps:=by
 simp only[ai] at hb
 exact⟨F,h,rfl,hc,zen hb.1.1,hb.1.2,hb.2⟩

theorem zmj{nm:List Nat}{env:List D}{st:St}(S:y5s nm env st.sl):∀{rs:List RV} {is:List (Nat × Option Nat)} {l:List D},y92 nm rs is=true->y3a E env st.hp is=some l->y4e E st rs=some l
 |[],[],l,_,h=>by simp only[y3a,aa] at h;subst h;rfl
 |.tmp t::r,(i,none)::is,l,h,h'=>by
  simp only[y92,ai,beq_iff_eq] at h
  simp only[y3a] at h'
  split at h'
  ·rename_i d l' h1 h2
   simp only[aa] at h';subst h'
   have:=(S.get h.1.1).2
   rw[h.1.2,h1] at this
   simp only[aa] at this
   simp only[y4e,zmj S h.2 h2,this]
  ·cases h'
 |.cell a t::r,(i,some t')::is,l,h,h'=>by
  simp only[y92,ai,beq_iff_eq] at h
  simp only[y3a] at h'
  split at h'
  ·rename_i p hp
   split at h'
   ·rename_i d l' h1 h2
    simp only[aa] at h';subst h'
    have:=(S.get h.1.1.1).2
    rw[h.1.1.2,hp] at this
    simp only[aa] at this
    rw[<- h.1.2,this] at h1
    simp only[y4e,zmj S h.2 h2,h1]
   ·cases h'
  ·cases h'
 |.cell _ _::_,[],_,h,_=>by simp[y92] at h
 |.cell _ _::_,(_,none)::_,_,h,_=>by simp[y92] at h
 |[],_::_,_,h,_=>by simp[y92] at h
 |.tmp _::_,[],_,h,_=>by simp[y92] at h
 |.tmp _::_,(_,some _)::_,_,h,_=>by simp[y92] at h

def y3t(nm:List Nat)(args:List D):List D:=nm.map fun s=>args.getD s .undef

theorem zj8{nm:List Nat}{args:List D}{N:Nat}:y5s nm (y3t nm args) (args++ah (N - args.length) .undef):=by
 refine⟨by simp[y3t],fun i s h=>?_⟩
 simp only[y3t,List.getElem?_map,h,ao,aa]
 simp only[aj]
 by_cases hs:s<args.length
 ·rw[List.getElem?_append_left hs]
 ·rw[List.getElem?_append_right (by omega),List.getElem?_eq_none (by omega)]
  cases h2:(ah (N - args.length) D.undef)[s - args.length]? with
  |none=>rfl
  |some d=>
   have:=ba h2
   rw[List.mem_replicate] at this
   rw[this.2];rfl

theorem z2q{f:Nat}{nm:List Nat}{is:List (Nat × Option Nat)}{tc:TC}{N:Nat}(t:TF E f nm is tc N){args:List D}{hp:List Obj}{R:D->List Obj->Prop}(hl:args.length<=N)
  (h:wT E tc (Ret E is R) (y3t nm args) hp) (hb:E.mp f=false:=by rfl):∃ d hp',y1n E (dL E) f args hp=some (d,hp')/\R d hp':=by
 obtain⟨F,hF,rfl,hc,nd,hN,hr⟩:=t.ex
 obtain⟨ex,st',h1,h2,env',S,⟨hx,l,hg,hR⟩⟩:=zsb nd hN hc (sl:=args++ah (F.ntmps - args.length) .undef) (by simp;omega) zj8 h
 have hres:=zmj (E:=E) S hr hg
 refine⟨y29 l,st'.hp,?_,hR⟩
 unfold y1n
 simp only[hF,yl,h1,hb,y2a]
 rcases hx with rfl | rfl <;> simp only[y1o,hres,ao]

theorem zg{f:Nat}{nm:List Nat}{is:List (Nat × Option Nat)}{tc:TC}{N:Nat}(t:TF E f nm is tc N){args:List D}{r:D}(hl:args.length<=N)
  (h:wT E tc (Ret E is fun d hp=>frz hp depth d=some r) (y3t nm args) []) (hk:E.keep f=false:=by rfl) (hb:E.mp f=false:=by rfl):y17 E (dL E) f args=some r:=by
 obtain⟨d,hp',h1,h2⟩:=z2q t hl h hb
 unfold y17
 simp only[h1,hk,yal,h2]

end
end Dv

namespace Dv

section
variable{E:Env}{Q:Ex->List D->List Obj->Prop}{env:List D}{hp:List Obj}

theorem zub:wT E .skip Q env hp=Q .normal env hp:=rfl
theorem zx4:wT E .ret Q env hp=Q .ret env hp:=rfl
theorem zuc{id:Nat}:wT E (.exit id) Q env hp=Q (.exit id) env hp:=rfl
theorem zx3{a b:TC}:wT E (.seq a b) Q env hp=wT E a (fun ex env' hp'=>match ex with
  |.normal=>wT E b Q env' hp'
  |ex=>Q ex env' hp') env hp:=rfl
theorem zpz{id:Nat}{a:TC}:wT E (.block id a) Q env hp=wT E a (fun ex env' hp'=>match ex with
  |.exit i=>Q (if i=id then .normal else .exit i) env' hp'
  |ex=>Q ex env' hp') env hp:=rfl

theorem wK{l:List (Nat × Nat)}:wT E (.chk l) Q env hp=(yd8 env l=true/\Q .normal env hp):=rfl
theorem z7k:∀{c:TC} {Q Q':Ex->List D->List Obj->Prop} {env:List D} {hp:List Obj},(∀ ex env hp,Q ex env hp->Q' ex env hp)->wT E c Q env hp->wT E c Q' env hp:=by
 intro c
 induction c with
 |skip=>intro Q Q' env hp hq h;exact hq _ _ _ h
 |ret=>intro Q Q' env hp hq h;exact hq _ _ _ h
 |exit id=>intro Q Q' env hp hq h;exact hq _ _ _ h
 |run pad l=>
  intro Q Q' env hp hq h
  simp only[wT] at h ⊢
  split at h
  ·exact hq _ _ _ h
  ·exact h.elim
 |seq a b iha ihb=>
  intro Q Q' env hp hq h
  refine iha (fun ex env hp h=>?_) h
  cases ex with
  |normal=>exact ihb hq h
  |exit i=>exact hq _ _ _ h
  |ret=>exact hq _ _ _ h
 |cond i a b iha ihb=>
  intro Q Q' env hp hq h
  simp only[wT] at h ⊢
  split at h
  ·split at h
   ·rename_i ht;rw[if_pos ht];exact iha hq h
   ·rename_i ht;rw[if_neg ht];exact ihb hq h
  ·exact h.elim
 |ifp i a b iha ihb=>
  intro Q Q' env hp hq h
  simp only[wT] at h ⊢
  split at h
  ·split at h
   ·rename_i ht;rw[if_pos ht];exact iha hq h
   ·rename_i ht;rw[if_neg ht];exact ihb hq h
  ·exact h.elim
 |dead=>intro Q Q' env hp hq h;exact h.elim
 |block id a iha=>
  intro Q Q' env hp hq h
  refine iha (fun ex env hp h=>?_) h
  cases ex <;> exact hq _ _ _ h
 |loop a iha=>
  intro Q Q' env hp hq h
  obtain⟨I,k,hI,step⟩:=h
  refine⟨I,k,hI,fun k env hp hI=>iha (fun ex env hp h=>?_) (step k env hp hI)⟩
  cases ex with
  |normal=>exact h
  |exit i=>exact hq _ _ _ h
  |ret=>exact hq _ _ _ h
 |chk l=>intro Q Q' env hp hq h;exact⟨h.1,hq _ _ _ h.2⟩
 |rfunc i ps a b iha ihb=>
  intro Q Q' env hp hq h
  obtain⟨k,caps,h1,h2⟩:=h
  refine⟨k,caps,h1,fun L hL hcb=>?_⟩
  obtain⟨d,hp',h3,h4⟩:=h2 L hL hcb
  refine⟨d,hp',h3,?_⟩
  rcases h4 with⟨h5,h6⟩ | ⟨ex,h5,h6⟩
  ·exact .inl ⟨h5,hq _ _ _ h6⟩
  ·exact .inr ⟨ex,h5,hq _ _ _ h6⟩

theorem z48{E:Env}{c:TC}{Q:Ex->List D->List Obj->Prop}{env env':List D}{hp hp':List Obj}(h:env=env')(h':hp=hp'):wT E c Q env hp=wT E c Q env' hp':=by rw[h,h']

theorem zr{a:TC}(n:Nat)(I:Nat->List D->List Obj->Prop)(i:Nat)(hi:i<=n)(h0:I i env hp)
  (step:∀ i env hp,i<=n->I i env hp->wT E a (fun ex env' hp'=>match ex with
   |.normal=>i<n/\I (i+1) env' hp'
   |ex=>Q ex env' hp') env hp):wT E (.loop a) Q env hp:=by
 refine⟨fun k env hp=>∃ i,i<=n/\k=n - i/\I i env hp,n - i,⟨i,hi,rfl,h0⟩,?_⟩
 rintro k env hp ⟨i,hi,rfl,hI⟩
 refine z7k (fun ex env' hp' h=>?_) (step i env hp hi hI)
 cases ex with
 |normal=>exact⟨n - (i+1),by omega,i+1,by omega,rfl,h.2⟩
 |exit _=>exact h
 |ret=>exact h

end
end Dv

namespace Dv

def ob{A B:Type}(x:Option A)(f:A->Option B):Option B:=x.bind f
def obP{A:Type}(x:Option A)(f:A->Prop):Prop:=match x with | some a=>f a | none=>False
theorem z8{A B:Type}{a:A}{f:A->Option B}:ob (some a) f=f a:=rfl
theorem zqr{A:Type}{a:A}{f:A->Prop}:obP (some a) f=f a:=rfl
theorem z4j{A B:Type}{x y:Option A}{f:A->Option B}(h:x=y):ob x f=ob y f:=by rw[h]
theorem z3b{A:Type}{x y:Option A}{f:A->Prop}(h:x=y):obP x f=obP y f:=by rw[h]

section
variable{E:Env}{cP:Nat->List D->Option D}{env:List D}{hp:List Obj}

theorem zz{X:Option D}:(match Option.map (fun x=>(⟨x,none,none⟩:Ef)) X with | some e=>some e.d | none=>none)=X:=by cases X <;> rfl
theorem xv_v{i:Nat}:xv E cP env hp (.v i)=env[i]?:=by simp only[xv]
theorem xv_c{d:D}:xv E cP env hp (.c d)=some d:=by simp only[xv]
def ybw(t:D)(a b:Option D):Option D:=match t with
 |.bool t=>if t=true then a else b
 |_=>none
theorem zxs{t:Bool}{a b:Option D}:ybw (.bool t) a b=if t=true then a else b:=rfl
theorem zwv{c a b:Xp}:xv E cP env hp (.ite c a b)=ob (xv E cP env hp c) fun t=>ybw t (xv E cP env hp a) (xv E cP env hp b):=by
 simp only[xv]
 cases h:xv E cP env hp c with
 |none=>rfl
 |some d=>
  cases d with
  |bool t=>cases t <;> rfl
  |_=>rfl

theorem zlu{op:ii}{t:Nat}{a:Nat}{b:Nat}{x0:Xp}{x1:Xp}(h10:b ≠ a):xv E cP env hp (.n (.bin op t (.t a) (.t b)) (.cons a x0 (.cons b x1 .nil)))=ob (xv E cP env hp x0) fun u0=>ob (xv E cP env hp x1) fun u1=>y2s E op t u0 u1:=by
 simp only[xv,xvs]
 cases xv E cP env hp x0 <;> try rfl
 cases xv E cP env hp x1 <;> try rfl
 simp only[ya,au,aO,ao,aU,gOf,kv,z8,if_true,if_false,h10,↓reduceIte]
 exact zz

theorem zlv{op:ii}{t:Nat}{a:Nat}{x0:Xp}{d1:D}  : xv E cP env hp (.n (.bin op t (.t a) (.c d1)) (.cons a x0 .nil))=ob (xv E cP env hp x0) fun u0=>y2s E op t u0 d1:=by
 simp only[xv,xvs]
 cases xv E cP env hp x0 <;> try rfl
 simp only[ya,au,aO,ao,aU,gOf,kv,z8,if_true,if_false,↓reduceIte]
 exact zz

theorem zlw{op:ii}{t:Nat}{b:Nat}{x1:Xp}{d0:D}  : xv E cP env hp (.n (.bin op t (.c d0) (.t b)) (.cons b x1 .nil))=ob (xv E cP env hp x1) fun u1=>y2s E op t d0 u1:=by
 simp only[xv,xvs]
 cases xv E cP env hp x1 <;> try rfl
 simp only[ya,au,aO,ao,aU,gOf,kv,z8,if_true,if_false,↓reduceIte]
 exact zz

theorem zlx{op:ii}{t:Nat}{d0:D}{d1:D}  : xv E cP env hp (.n (.bin op t (.c d0) (.c d1)) .nil)=y2s E op t d0 d1:=by
 simp only[xv,xvs]
 simp only[ya,au,aO,ao,aU,gOf,kv,z8,if_true,if_false,↓reduceIte]
 exact zz

theorem ztx{op:Go.UnOp}{a:Nat}{x0:Xp}  : xv E cP env hp (.n (.un op (.t a)) (.cons a x0 .nil))=ob (xv E cP env hp x0) fun u0=>unD op u0:=by
 simp only[xv,xvs]
 cases xv E cP env hp x0 <;> try rfl
 simp only[ya,au,aO,ao,aU,gOf,kv,z8,if_true,if_false,↓reduceIte]
 exact zz

theorem zls{s1 s2:Nat}{a:Nat}{x0:Xp}  : xv E cP env hp (.n (.conv s1 s2 (.t a)) (.cons a x0 .nil))=ob (xv E cP env hp x0) fun u0=>y3o E s1 s2 u0:=by
 simp only[xv,xvs]
 cases xv E cP env hp x0 <;> try rfl
 simp only[ya,au,aO,ao,aU,gOf,kv,z8,if_true,if_false,↓reduceIte]
 exact zz

theorem zu0{t:Nat}{a:Nat}{x0:Xp}  : xv E cP env hp (.n (.load t (.t a)) (.cons a x0 .nil))=ob (xv E cP env hp x0) fun u0=>yx E hp t u0:=by
 simp only[xv,xvs]
 cases xv E cP env hp x0 <;> try rfl
 simp only[ya,au,aO,ao,aU,gOf,kv,z8,if_true,if_false,↓reduceIte]
 exact zz

theorem zwu{t:Nat}{a:Nat}{x0:Xp}  : xv E cP env hp (.n (.len t (.t a)) (.cons a x0 .nil))=ob (xv E cP env hp x0) fun u0=>y6k E hp t u0:=by
 simp only[xv,xvs]
 cases xv E cP env hp x0 <;> try rfl
 simp only[ya,au,aO,ao,aU,gOf,kv,z8,if_true,if_false,↓reduceIte]
 exact zz

theorem zpu{t f:Nat}{a:Nat}{x0:Xp}  : xv E cP env hp (.n (.faddr t (.t a) f) (.cons a x0 .nil))=ob (xv E cP env hp x0) fun u0=>y5c E t u0 f:=by
 simp only[xv,xvs]
 cases xv E cP env hp x0 <;> try rfl
 simp only[ya,au,aO,ao,aU,gOf,kv,z8,if_true,if_false,↓reduceIte]
 exact zz

theorem zpt{t f:Nat}{a:Nat}{x0:Xp}  : xv E cP env hp (.n (.field t (.t a) f) (.cons a x0 .nil))=ob (xv E cP env hp x0) fun u0=>y8c E t u0 f:=by
 simp only[xv,xvs]
 cases xv E cP env hp x0 <;> try rfl
 simp only[ya,au,aO,ao,aU,gOf,kv,z8,if_true,if_false,↓reduceIte]
 exact zz

theorem zfh{t:Nat}{a:Nat}{b:Nat}{x0:Xp}{x1:Xp}(h10:b ≠ a):xv E cP env hp (.n (.iaddr t (.t a) (.t b)) (.cons a x0 (.cons b x1 .nil)))=ob (xv E cP env hp x0) fun u0=>ob (xv E cP env hp x1) fun u1=>y3d E t u0 u1:=by
 simp only[xv,xvs]
 cases xv E cP env hp x0 <;> try rfl
 cases xv E cP env hp x1 <;> try rfl
 simp only[ya,au,aO,ao,aU,gOf,kv,z8,if_true,if_false,h10,↓reduceIte]
 exact zz

theorem zfi{t:Nat}{a:Nat}{x0:Xp}{d1:D}  : xv E cP env hp (.n (.iaddr t (.t a) (.c d1)) (.cons a x0 .nil))=ob (xv E cP env hp x0) fun u0=>y3d E t u0 d1:=by
 simp only[xv,xvs]
 cases xv E cP env hp x0 <;> try rfl
 simp only[ya,au,aO,ao,aU,gOf,kv,z8,if_true,if_false,↓reduceIte]
 exact zz

theorem zff{t:Nat}{a:Nat}{b:Nat}{x0:Xp}{x1:Xp}(h10:b ≠ a):xv E cP env hp (.n (.index t (.t a) (.t b)) (.cons a x0 (.cons b x1 .nil)))=ob (xv E cP env hp x0) fun u0=>ob (xv E cP env hp x1) fun u1=>y5l E t u0 u1:=by
 simp only[xv,xvs]
 cases xv E cP env hp x0 <;> try rfl
 cases xv E cP env hp x1 <;> try rfl
 simp only[ya,au,aO,ao,aU,gOf,kv,z8,if_true,if_false,h10,↓reduceIte]
 exact zz

theorem zfg{t:Nat}{a:Nat}{x0:Xp}{d1:D}  : xv E cP env hp (.n (.index t (.t a) (.c d1)) (.cons a x0 .nil))=ob (xv E cP env hp x0) fun u0=>y5l E t u0 d1:=by
 simp only[xv,xvs]
 cases xv E cP env hp x0 <;> try rfl
 simp only[ya,au,aO,ao,aU,gOf,kv,z8,if_true,if_false,↓reduceIte]
 exact zz

theorem zdn{t:Nat}{ok:Bool}{a:Nat}{b:Nat}{x0:Xp}{x1:Xp}(h10:b ≠ a):xv E cP env hp (.n (.lookup t (.t a) (.t b) ok) (.cons a x0 (.cons b x1 .nil)))=ob (xv E cP env hp x0) fun u0=>ob (xv E cP env hp x1) fun u1=>y24 E hp t u0 u1 ok:=by
 simp only[xv,xvs]
 cases xv E cP env hp x0 <;> try rfl
 cases xv E cP env hp x1 <;> try rfl
 simp only[ya,au,aO,ao,aU,gOf,kv,z8,if_true,if_false,h10,↓reduceIte]
 exact zz

theorem zlo  {a:Nat} {b:Nat} {x0:Xp} {x1:Xp} (h10:b ≠ a):xv E cP env hp (.n (.maxi [(.t a),(.t b)]) (.cons a x0 (.cons b x1 .nil)))=ob (xv E cP env hp x0) fun u0=>ob (xv E cP env hp x1) fun u1=>y79 [u0,u1]:=by
 simp only[xv,xvs]
 cases xv E cP env hp x0 <;> try rfl
 cases xv E cP env hp x1 <;> try rfl
 simp only[ya,au,aO,ao,aU,gOf,kv,z8,if_true,if_false,h10,↓reduceIte]
 exact zz

theorem zll  {a:Nat} {b:Nat} {x0:Xp} {x1:Xp} (h10:b ≠ a):xv E cP env hp (.n (.mini [(.t a),(.t b)]) (.cons a x0 (.cons b x1 .nil)))=ob (xv E cP env hp x0) fun u0=>ob (xv E cP env hp x1) fun u1=>y78 [u0,u1]:=by
 simp only[xv,xvs]
 cases xv E cP env hp x0 <;> try rfl
 cases xv E cP env hp x1 <;> try rfl
 simp only[ya,au,aO,ao,aU,gOf,kv,z8,if_true,if_false,h10,↓reduceIte]
 exact zz

theorem zlp  {a:Nat} {x0:Xp} {d1:D}  : xv E cP env hp (.n (.maxi [(.t a),(.c d1)]) (.cons a x0 .nil))=ob (xv E cP env hp x0) fun u0=>y79 [u0,d1]:=by
 simp only[xv,xvs]
 cases xv E cP env hp x0 <;> try rfl
 simp only[ya,au,aO,ao,aU,gOf,kv,z8,if_true,if_false,↓reduceIte]
 exact zz

theorem zlm  {a:Nat} {x0:Xp} {d1:D}  : xv E cP env hp (.n (.mini [(.t a),(.c d1)]) (.cons a x0 .nil))=ob (xv E cP env hp x0) fun u0=>y78 [u0,d1]:=by
 simp only[xv,xvs]
 cases xv E cP env hp x0 <;> try rfl
 simp only[ya,au,aO,ao,aU,gOf,kv,z8,if_true,if_false,↓reduceIte]
 exact zz

theorem zlq  {b:Nat} {x1:Xp} {d0:D}  : xv E cP env hp (.n (.maxi [(.c d0),(.t b)]) (.cons b x1 .nil))=ob (xv E cP env hp x1) fun u1=>y79 [d0,u1]:=by
 simp only[xv,xvs]
 cases xv E cP env hp x1 <;> try rfl
 simp only[ya,au,aO,ao,aU,gOf,kv,z8,if_true,if_false,↓reduceIte]
 exact zz

theorem zln  {b:Nat} {x1:Xp} {d0:D}  : xv E cP env hp (.n (.mini [(.c d0),(.t b)]) (.cons b x1 .nil))=ob (xv E cP env hp x1) fun u1=>y78 [d0,u1]:=by
 simp only[xv,xvs]
 cases xv E cP env hp x1 <;> try rfl
 simp only[ya,au,aO,ao,aU,gOf,kv,z8,if_true,if_false,↓reduceIte]
 exact zz

theorem zcc{t:Nat}{a:Nat}{b:Nat}{x0:Xp}{x1:Xp}(h10:b ≠ a):xv E cP env hp (.n (.slice t (.t a) (some (.t b)) none none) (.cons a x0 (.cons b x1 .nil)))=ob (xv E cP env hp x0) fun u0=>ob (xv E cP env hp x1) fun u1=>y1b E t u0 (some u1) none none:=by
 simp only[xv,xvs]
 cases xv E cP env hp x0 <;> try rfl
 cases xv E cP env hp x1 <;> try rfl
 simp only[ya,au,aO,ao,aU,gOf,kv,z8,if_true,if_false,h10,↓reduceIte]
 exact zz

theorem zcd{t:Nat}{a:Nat}{x0:Xp}{d1:D}  : xv E cP env hp (.n (.slice t (.t a) (some (.c d1)) none none) (.cons a x0 .nil))=ob (xv E cP env hp x0) fun u0=>y1b E t u0 (some d1) none none:=by
 simp only[xv,xvs]
 cases xv E cP env hp x0 <;> try rfl
 simp only[ya,au,aO,ao,aU,gOf,kv,z8,if_true,if_false,↓reduceIte]
 exact zz

theorem zce{t:Nat}{a:Nat}{b:Nat}{x0:Xp}{x1:Xp}(h10:b ≠ a):xv E cP env hp (.n (.slice t (.t a) none (some (.t b)) none) (.cons a x0 (.cons b x1 .nil)))=ob (xv E cP env hp x0) fun u0=>ob (xv E cP env hp x1) fun u1=>y1b E t u0 none (some u1) none:=by
 simp only[xv,xvs]
 cases xv E cP env hp x0 <;> try rfl
 cases xv E cP env hp x1 <;> try rfl
 simp only[ya,au,aO,ao,aU,gOf,kv,z8,if_true,if_false,h10,↓reduceIte]
 exact zz

theorem zdm{t:Nat}{a:Nat}{x0:Xp}  : xv E cP env hp (.n (.slice t (.t a) none none none) (.cons a x0 .nil))=ob (xv E cP env hp x0) fun u0=>y1b E t u0 none none none:=by
 simp only[xv,xvs]
 cases xv E cP env hp x0 <;> try rfl
 simp only[ya,au,aO,ao,aU,gOf,kv,z8,if_true,if_false,↓reduceIte]
 exact zz


theorem zj0{a:Nat}{x:Xp}{i:Nat}:xv E cP env hp (.n (.extract (.t a) i) (.cons a x .nil))=ob (xv E cP env hp x) fun u=>match u with | .tup vs=>vs[i]? | _=>none:=by
 simp only[xv,xvs]
 cases xv E cP env hp x with
 |none=>rfl
 |some d=>
  simp only[ya,gOf,kv,z8,if_true]
  cases d <;> try rfl
  rename_i vs
  simp only[]
  cases vs[i]? <;> rfl

def yad(cP:Nat->List D->Option D)(f:D)(args:List D):Option D:=match f with
 |.fn k caps=>(match y1y (frz [] depth) (args++caps) with
  |some vs=>cP k vs
  |none=>none)
 |_=>none

theorem zu2{f:Opd}{as:List Opd}{ks:Xs}:xv E cP env hp (.n (.call 0 f as) ks)=ob (xvs E cP env hp ks) fun vs=>yad cP (gOf vs f) (as.map (gOf vs)):=by
 simp only[xv]
 cases xvs E cP env hp ks with
 |none=>rfl
 |some vs=>
  simp only[ya,z8,yad]
  cases gOf vs f <;> try rfl
  rename_i k caps
  simp only[]
  cases y1y (frz [] depth) (as.map (gOf vs)++caps) with
  |none=>rfl
  |some l=>simp only[];cases cP k l <;> rfl

theorem ztw:xvs E cP env hp .nil=some []:=by simp only[xvs]
theorem zpq{s:Nat}{x:Xp}{r:Xs}:xvs E cP env hp (.cons s x r)=ob (xv E cP env hp x) fun d=>ob (xvs E cP env hp r) fun l=>some ((s,d)::l):=by
 simp only[xvs]
 cases xv E cP env hp x with
 |none=>rfl
 |some d=>simp only[z8];cases xvs E cP env hp r <;> rfl

def y81(E:Env)(t len:Nat)(ps:List (Nat × D)):Option D:=match (E.ty t).k with
 |.slice e=>(match y20 E e with
  |some z=>if len*(E.ty e).size<=16777216 then(match y67 (E.ty e).size (ah len z) ps with
   |some els=>some (.imm .exact els)
   |none=>none) else none
  |none=>none)
 |_=>none
theorem zlt{t len:Nat}{ps:List (Nat × Opd)}{ks:Xs}:xv E cP env hp (.n (.bslice false t len ps) ks)=ob (xvs E cP env hp ks) fun vs=>y81 E t len (ps.map fun p=>(p.1,gOf vs p.2)):=by
 simp only[xv]
 cases xvs E cP env hp ks with
 |none=>rfl
 |some vs=>
  simp only[ya,z8,y81,aN,false_and,if_false]
  cases (E.ty t).k <;> try rfl
  rename_i e
  simp only[]
  cases hz:y20 E e with
  |none=>rfl
  |some z=>
   by_cases hh:len*(E.ty e).size<=16777216
   ·simp only[hh,if_true]
    cases y67 (E.ty e).size (ah len z) (ps.map fun p=>(p.1,gOf vs p.2)) <;> rfl
   ·simp only[hh,if_false]

def y9o(E:Env)(t:Nat)(ps:List (Nat × D)):Option D:=if(E.ty t).zero.length=(E.ty t).size/\(E.ty t).size ≠ 0 then y7j E t ps else none
theorem zpv{t:Nat}{ps:List (Nat × Opd)}{ks:Xs}:xv E cP env hp (.n (.build t ps) ks)=ob (xvs E cP env hp ks) fun vs=>y9o E t (ps.map fun p=>(p.1,gOf vs p.2)):=by
 simp only[xv]
 cases xvs E cP env hp ks with
 |none=>rfl
 |some vs=>
  simp only[ya,z8,y9o]
  by_cases hh:(E.ty t).zero.length=(E.ty t).size/\(E.ty t).size ≠ 0
  ·simp only[if_pos hh];exact zz
  ·simp only[if_neg hh]

theorem ztz{f:Nat}{cs:List Opd}{ks:Xs}:xv E cP env hp (.n (.mkfn f cs) ks)=ob (xvs E cP env hp ks) fun vs=>some (.fn f (cs.map (gOf vs))):=by
 simp only[xv]
 cases xvs E cP env hp ks <;> rfl

variable{cS cY:Nat->List D->List Obj->Option (D × List Obj)}{base:Nat}

theorem zv2:rTS E cP cS cY base [] env hp=some (env,hp):=rfl
theorem zv4{i:Nat}{x:Xp}{r:List TS}:rTS E cP cS cY base (.asg i x::r) env hp=ob (xv E cP env hp x) fun d=>rTS E cP cS cY base r (env.set i d) hp:=by
 simp only[rTS]
 cases xv E cP env hp x <;> rfl
theorem zv3{dst:Option Nat}{op:DOp}{ks:Xs}{r:List TS}:rTS E cP cS cY base (.eff none dst op ks none::r) env hp=ob (xvs E cP env hp ks) fun vs=>ob (yd E cP cS cY hp.length (gOf vs) hp op) fun p=>rTS E cP cS cY base r (y93 env dst p.1) p.2:=by
 simp only[rTS,gdT]
 cases xvs E cP env hp ks with
 |none=>rfl
 |some vs=>simp only[z8];cases yd E cP cS cY hp.length (gOf vs) hp op <;> rfl
theorem zqf{k:Nat}{dst:Option Nat}{op:DOp}{ks:Xs}{r:List TS}:rTS E cP cS cY base (.eff none dst op ks (some k)::r) env hp=ob (xvs E cP env hp ks) fun vs=>ob (yd E cP cS cY (base+k) (gOf vs) hp op) fun p=>rTS E cP cS cY base r (y93 env dst p.1) p.2:=by
 simp only[rTS,gdT]
 cases xvs E cP env hp ks with
 |none=>rfl
 |some vs=>simp only[z8];cases yd E cP cS cY (base+k) (gOf vs) hp op <;> rfl

variable{Q:Ex->List D->List Obj->Prop}

theorem wR{l:List TS}:wT E (.run 0 l) Q env hp=obP (rTS E (y17 E (dL E)) (y1n E (dL E)) (y38 (dL E)) hp.length l env hp) fun p=>Q .normal p.1 p.2:=by
 simp only[wT,List.replicate_zero,List.append_nil,rTL]
 cases rTS E (y17 E (dL E)) (y1n E (dL E)) (y38 (dL E)) hp.length l env hp <;> rfl
theorem wRp{n:Nat}{l:List TS}:wT E (.run n l) Q env hp=obP (rTS E (y17 E (dL E)) (y1n E (dL E)) (y38 (dL E)) hp.length l env (hp++ah n .dead)) fun p=>Q .normal p.1 p.2:=by
 simp only[wT,rTL]
 cases rTS E (y17 E (dL E)) (y1n E (dL E)) (y38 (dL E)) hp.length l env (hp++ah n .dead) <;> rfl

def yac(t:D)(a b:Prop):Prop:=match t with
 |.bool t=>if t=true then a else b
 |_=>False
theorem zw2{t:Bool}{a b:Prop}:yac (.bool t) a b=if t=true then a else b:=rfl
theorem z1x{t t':D}{a b:Prop}(h:t=t'):yac t a b=yac t' a b:=by rw[h]
theorem z2h{t t':D}{a b:Option D}(h:t=t'):ybw t a b=ybw t' a b:=by rw[h]
theorem wC{i:Nat}{a b:TC}:wT E (.cond i a b) Q env hp=obP env[i]? fun t=>yac t (wT E a Q env hp) (wT E b Q env hp):=by
 simp only[wT]
 cases env[i]? with
 |none=>rfl
 |some d=>cases d <;> rfl

end
end Dv

namespace Dv

section
variable{E:Env}{cP:Nat->List D->Option D}{cS cY:Nat->List D->List Obj->Option (D × List Obj)}{env:List D}{hp:List Obj}{t id:Nat}{g:Opd->D}

theorem zss{k:aX}{a b:Int}:y2s E .add t (.int k a) (.int k b)=some (.int k (k.wrap (a+b))):=by simp[y2s,y2u]
theorem zsh{k:aX}{a b:Int}:y2s E .sub t (.int k a) (.int k b)=some (.int k (k.wrap (a - b))):=by simp[y2s,y2u]
theorem zsl{k:aX}{a b:Int}:y2s E .mul t (.int k a) (.int k b)=some (.int k (k.wrap (a*b))):=by simp[y2s,y2u]
theorem zsq{k:aX}{a b:Int}:y2s E .eql t (.int k a) (.int k b)=some (.bool (a == b)):=by simp[y2s,y2u]
theorem zsk{k:aX}{a b:Int}:y2s E .neq t (.int k a) (.int k b)=some (.bool (a != b)):=by simp[y2s,y2u]
theorem zsm{k:aX}{a b:Int}:y2s E .lss t (.int k a) (.int k b)=some (.bool (decide (a<b))):=by simp[y2s,y2u]
theorem zsn{k:aX}{a b:Int}:y2s E .leq t (.int k a) (.int k b)=some (.bool (decide (a<=b))):=by simp[y2s,y2u]
theorem zso{k:aX}{a b:Int}:y2s E .gtr t (.int k a) (.int k b)=some (.bool (decide (b<a))):=by simp[y2s,y2u]
theorem zsp{k:aX}{a b:Int}:y2s E .geq t (.int k a) (.int k b)=some (.bool (decide (b<=a))):=by simp[y2s,y2u]
theorem zyc{a b:Bool}:y2s E .eql t (.bool a) (.bool b)=(match (E.ty t).k with | .bool=>some (.bool (a == b)) | _=>none):=by
 simp only[y2s]
 cases (E.ty t).k <;> rfl
theorem zpf{a b:Bool}:y2s E .neq t (.bool a) (.bool b)=(match (E.ty t).k with | .bool=>some (.bool (!(a == b))) | _=>none):=by
 simp only[y2s]
 cases (E.ty t).k <;> rfl
theorem zaw{a b:List D}:y2s E .eql t (.agg a) (.agg b)=if(E.ty t).eqc=true/\y1m a (E.ty t).zero=true then ob (eqL a b) (fun r=>some (.bool r)) else none:=by
 simp only[y2s]
 split
 ·cases eqL a b <;> rfl
 ·rfl
theorem zav{a b:List D}:y2s E .neq t (.agg a) (.agg b)=if(E.ty t).eqc=true/\y1m a (E.ty t).zero=true then ob (eqL a b) (fun r=>some (.bool (!r))) else none:=by
 simp only[y2s]
 split
 ·cases eqL a b <;> rfl
 ·rfl
theorem zui{b:Bool}:unD .not (.bool b)=some (.bool (!b)):=rfl
theorem zuj{k:aX}{n:Int}:unD .neg (.int k n)=some (.int k (k.wrap (0 - n))):=rfl
theorem zr0{sp:y1a}{els:List D}:y6k E hp t (.imm sp els)=(match (E.ty t).k with | .slice _=>some (.int .i64 els.length) | .arr n _=>some (.int .i64 n) | _=>none):=by
 unfold y6k
 cases (E.ty t).k <;> rfl
theorem zvc{i off len sz:Nat}{ag gr:Bool}:y6k E hp t (.sl i off len sz ag gr)=(match (E.ty t).k with | .slice _=>some (.int .i64 len) | .arr n _=>some (.int .i64 n) | _=>none):=by
 unfold y6k
 cases (E.ty t).k <;> rfl
theorem zqy{s:List UInt8}:y6k E hp t (.str s)=(match (E.ty t).k with | .str=>some (.int .i64 s.length) | .arr n _=>some (.int .i64 n) | _=>none):=by
 unfold y6k
 cases (E.ty t).k <;> rfl
def y9b(o:Option Obj):Option (List D):=match o with
 |some (.cells cs)=>some cs
 |some (.frozen cs)=>some cs
 |_=>none
theorem z9r{cs:List D}:y9b (some (.cells cs))=some cs:=rfl
theorem z8f{cs:List D}:y9b (some (.frozen cs))=some cs:=rfl
theorem z10{i off:Nat}:yx E hp t (.loc i off)=ob (y9b hp[i]?) fun cs=>ob (y1x cs off (E.ty t).size) (yk (E.ty t).ag):=by
 simp only[yx]
 cases hp[i]? with
 |none=>rfl
 |some o=>cases o <;> rfl
theorem z12{cs:List D}:yx E hp t (.iptr cs)=ob (y1x cs 0 (E.ty t).size) (yk (E.ty t).ag):=rfl
theorem zkm{sp:y1a}{els:List D}{k:aX}{n:Int}:y3d E t (.imm sp els) (.int k n)=(match (E.ty t).k with | .slice e=>if 0<=n then ob els[n.toNat]? (fun d=>if d.cellsL.length=(E.ty e).size then some (.iptr d.cellsL) else none) else none | _=>none):=by
 unfold y3d
 cases (E.ty t).k <;> try rfl
 by_cases h:0<=n
 ·simp only[h,if_true];cases els[n.toNat]? <;> rfl
 ·simp only[h,if_false]
theorem znv{i off len sz:Nat}{ag gr:Bool}{k:aX}{n:Int}:y3d E t (.sl i off len sz ag gr) (.int k n)=(match (E.ty t).k with | .slice e=>if 0<=n/\n<len/\sz=(E.ty e).size then some (.loc i (off+n.toNat*sz)) else none | _=>none):=by
 unfold y3d
 cases (E.ty t).k <;> rfl
theorem zkl{i off:Nat}{k:aX}{n:Int}:y3d E t (.loc i off) (.int k n)=(match (E.ty t).k with | .arr len e=>if 0<=n/\n<len then some (.loc i (off+n.toNat*(E.ty e).size)) else none | _=>none):=by
 unfold y3d
 cases (E.ty t).k <;> rfl
theorem zl0{i off f:Nat}:y5c E t (.loc i off) f=(match (E.ty t).k with | .struct fs=>ob fs[f]? (fun p=>if(E.ty p.2).size=0 then none else some (.loc i (off+p.1))) | _=>none):=by
 unfold y5c
 cases (E.ty t).k <;> try rfl
 rename_i fs
 simp only[]
 cases fs[f]? <;> rfl
theorem zgw{cs:List D}{f:Nat}:y5c E t (.iptr cs) f=(match (E.ty t).k with | .struct fs=>ob fs[f]? (fun p=>if(E.ty p.2).size=0 then none else some (.iptr (cs.drop p.1))) | _=>none):=by
 unfold y5c
 cases (E.ty t).k <;> try rfl
 rename_i fs
 simp only[]
 cases fs[f]? <;> rfl
theorem zkj{cs:List D}{k:aX}{n:Int}:y5l E t (.agg cs) (.int k n)=(match (E.ty t).k with | .arr len e=>if 0<=n/\n<len then ob (y1x cs (n.toNat*(E.ty e).size) (E.ty e).size) (yk (E.ty e).ag) else none | _=>none):=by
 unfold y5l
 cases (E.ty t).k <;> rfl
theorem zh4{b:Bool}:D.cellsL (.bool b)=[.bool b]:=rfl
theorem zma{b:Bool}:D.storable (.bool b)=true:=rfl
theorem zpi{b:Bool}:D.atom (.bool b)=true:=rfl
theorem zle{k:aX}{n:Int}:D.cellsL (.int k n)=[.int k n]:=rfl
theorem zq7{k:aX}{n:Int}:D.storable (.int k n)=true:=rfl
theorem zsw{k:aX}{n:Int}:D.atom (.int k n)=true:=rfl
theorem zlb{s:List UInt8}:D.cellsL (.str s)=[.str s]:=rfl
theorem zq4{s:List UInt8}:D.storable (.str s)=true:=rfl
theorem zst{s:List UInt8}:D.atom (.str s)=true:=rfl
theorem zlf{sp:y1a}{els:List D}:D.cellsL (.imm sp els)=[.imm sp els]:=rfl
theorem zq8{sp:y1a}{els:List D}:D.storable (.imm sp els)=true:=rfl
theorem zsx{sp:y1a}{els:List D}:D.atom (.imm sp els)=true:=rfl
theorem zp5{i off len sz:Nat}{ag gr:Bool}:D.cellsL (.sl i off len sz ag gr)=[.sl i off len sz ag gr]:=rfl
theorem zuu{i off len sz:Nat}{ag gr:Bool}:D.storable (.sl i off len sz ag gr)=true:=rfl
theorem zwf{i off len sz:Nat}{ag gr:Bool}:D.atom (.sl i off len sz ag gr)=true:=rfl
theorem zld{i off:Nat}:D.cellsL (.loc i off)=[.loc i off]:=rfl
theorem zq6{i off:Nat}:D.storable (.loc i off)=true:=rfl
theorem zsv{i off:Nat}:D.atom (.loc i off)=true:=rfl
theorem zh3{cs:List D}:D.cellsL (.iptr cs)=[.iptr cs]:=rfl
theorem zm9{cs:List D}:D.storable (.iptr cs)=true:=rfl
theorem zph{cs:List D}:D.atom (.iptr cs)=true:=rfl
theorem zlc{m:Option Nat}:D.cellsL (.map m)=[.map m]:=rfl
theorem zq5{m:Option Nat}:D.storable (.map m)=true:=rfl
theorem zsu{m:Option Nat}:D.atom (.map m)=true:=rfl
theorem zp6{f:Nat}{cs:List D}:D.cellsL (.fn f cs)=[.fn f cs]:=rfl
theorem zuv{f:Nat}{cs:List D}:D.storable (.fn f cs)=true:=rfl
theorem zwg{f:Nat}{cs:List D}:D.atom (.fn f cs)=true:=rfl
theorem zlg{cs:List D}:D.cellsL (.agg cs)=cs:=rfl
theorem zq9{cs:List D}:D.storable (.agg cs)=cs.all D.atom:=rfl
theorem zf9:D.cellsL .nilfn=[.nilfn]:=rfl
theorem zj2:D.storable .nilfn=true:=rfl
theorem zlj:D.atom .nilfn=true:=rfl
theorem zh2:D.cellsL .nilp=[.nilp]:=rfl
theorem zm8:D.storable .nilp=true:=rfl
theorem zpg:D.atom .nilp=true:=rfl
theorem zur{cs:List D}{o:Nat}:y1x cs o 0=some []:=rfl
theorem zus{cs:List D}{o n:Nat}:y1x cs o (n+1)=ob cs[o]? fun c=>ob (y1x cs (o+1) n) fun r=>some (c::r):=by
 simp only[y1x]
 cases cs[o]? with
 |none=>rfl
 |some c=>simp only[z8];cases y1x cs (o+1) n <;> rfl
theorem zjr{cs:List D}:yk true cs=some (.agg cs):=rfl
theorem zg5{c:D}:yk false [c]=some c:=rfl
theorem zwn  {s b:Nat} {z:List D} {q:Bool}:TI.ag ⟨.bool ,s,b,z,q⟩=false:=rfl
theorem zyh{k:aX}{s b:Nat}{z:List D}{q:Bool}:TI.ag ⟨.int k,s,b,z,q⟩=false:=rfl
theorem zye  {s b:Nat} {z:List D} {q:Bool}:TI.ag ⟨.str ,s,b,z,q⟩=false:=rfl
theorem zt5{e:Nat}{s b:Nat}{z:List D}{q:Bool}:TI.ag ⟨.slice e,s,b,z,q⟩=false:=rfl
theorem zpo{fs:List (Nat × Nat)}{s b:Nat}{z:List D}{q:Bool}:TI.ag ⟨.struct fs,s,b,z,q⟩=true:=rfl
theorem zyi{n e:Nat}{s b:Nat}{z:List D}{q:Bool}:TI.ag ⟨.arr n e,s,b,z,q⟩=true:=rfl
theorem zyg{k e:Nat}{s b:Nat}{z:List D}{q:Bool}:TI.ag ⟨.map k e,s,b,z,q⟩=false:=rfl
theorem zyf{e:Nat}{s b:Nat}{z:List D}{q:Bool}:TI.ag ⟨.ptr e,s,b,z,q⟩=false:=rfl
theorem zwm  {s b:Nat} {z:List D} {q:Bool}:TI.ag ⟨.func ,s,b,z,q⟩=false:=rfl
theorem yfd{vs:List (Nat × D)}{n:Nat}:gOf vs (.t n)=kv n vs:=rfl
theorem yff{vs:List (Nat × D)}{d:D}:gOf vs (.c d)=d:=rfl
theorem yfe{vs:List (Nat × D)}{k:Nat}:gOf vs (.f k)=.fn k []:=rfl
theorem zvf{n m:Nat}{d:D}{r:List (Nat × D)}:kv n ((m,d)::r)=if n=m then d else kv n r:=rfl
theorem zmn{i:Nat}{d:D}:y93 env (some i) d=env.set i d:=rfl
theorem zmo{d:D}:y93 env none d=env:=rfl
theorem zjo{d:D}:y29 [d]=d:=rfl
theorem zjn{a b:D}:y29 [a,b]=.tup [a,b]:=rfl
theorem zem{a b c:D}:y29 [a,b,c]=.tup [a,b,c]:=rfl
theorem zkt:y3a E env hp []=some []:=rfl
theorem zra{i:Nat}{r:List (Nat × Option Nat)}:y3a E env hp ((i,none)::r)=ob env[i]? fun d=>ob (y3a E env hp r) fun l=>some (d::l):=by
 simp only[y3a]
 cases env[i]? with
 |none=>rfl
 |some d=>simp only[z8];cases y3a E env hp r <;> rfl
theorem zrb{i t:Nat}{r:List (Nat × Option Nat)}:y3a E env hp ((i,some t)::r)=ob env[i]? fun a=>ob (yx E hp t a) fun d=>ob (y3a E env hp r) fun l=>some (d::l):=by
 simp only[y3a]
 cases env[i]? with
 |none=>rfl
 |some a=>
  simp only[z8]
  cases yx E hp t a with
  |none=>rfl
  |some d=>simp only[z8];cases y3a E env hp r <;> rfl
theorem zn8{k:aX}{a b:Int}:y79 [.int k a,.int k b]=some (.int k (if a<b then b else a)):=by simp[y79,y7g]
theorem zn7{k:aX}{a b:Int}:y78 [.int k a,.int k b]=some (.int k (if b<a then b else a)):=by simp[y78,y7g]
def extV(d:D)(i:Nat):Option D:=match d with
 |.tup vs=>vs[i]?
 |_=>none
theorem zrv{vs:List D}{i:Nat}:extV (.tup vs) i=vs[i]?:=rfl
theorem zww{a:Nat}{x:Xp}{i:Nat}:xv E cP env hp (.n (.extract (.t a) i) (.cons a x .nil))=ob (xv E cP env hp x) fun u=>extV u i:=zj0
theorem zj4{x:Opd}:yd E cP cS cY id g hp (.box t x)=if(g x).storable=true then some (.loc id 0,y2b hp id (.cells (g x).cellsL)) else none:=by
 simp only[yd,DOp.fin,ya]
 split <;> rfl
theorem ze2:yd E cP cS cY id g hp (.alloc t)=if(E.ty t).zero.all D.atom=true/\(E.ty t).zero.length=(E.ty t).size/\(E.ty t).size ≠ 0 then some (.loc id 0,y2b hp id (.cells (E.ty t).zero)) else none:=by
 simp only[yd,DOp.fin,ya]
 split <;> rfl
theorem zdt{a x:Opd}:yd E cP cS cY id g hp (.store t a x)=(y3g E hp t (g a) (g x)).map (.undef,·):=rfl
def writeO(o:Option Obj):Option (List D):=match o with
 |some (.cells cs)=>some cs
 |_=>none
theorem zdo{cs:List D}:writeO (some (.cells cs))=some cs:=rfl
theorem zbd{i off:Nat}{x:D}:y3g E hp t (.loc i off) x=ob (writeO hp[i]?) fun cs=>if x.storable=true/\x.cellsL.length=(E.ty t).size/\off+(E.ty t).size<=cs.length then some (hp.set i (.cells (setCells cs off x.cellsL))) else none:=by
 simp only[y3g]
 cases hp[i]? with
 |none=>rfl
 |some o=>cases o <;> rfl
theorem ze9{cs:List D}{o:Nat}:setCells cs o []=cs:=rfl
theorem zcl{cs:List D}{o:Nat}{v:D}{r:List D}:setCells cs o (v::r)=setCells (cs.set o v) (o+1) r:=rfl
theorem zdu:yd E cP cS cY id g hp (.mkmap t)=some (.map (some id),y2b hp id (.map [])):=rfl
theorem zck{m k v:Opd}:yd E cP cS cY id g hp (.mapset t m k v)=(y2w E hp t (g m) (g k) (g v)).map (.undef,·):=rfl
theorem ze1{f:Opd}{as:List Opd}:yd E cP cS cY id g hp (.call 1 f as)=(match g f with | .fn k caps=>ob (y1y (frz hp depth) (as.map g++caps)) (fun vs=>(cP k vs).map (·,yu hp ((as.map g++caps).flatMap (ids hp depth)))) | _=>none):=by
 simp only[yd,DOp.fin,ym]
 cases g f <;> try rfl
 rename_i k caps
 simp only[]
 cases y1y (frz hp depth) (as.map g++caps) <;> rfl
theorem ze0{f:Opd}{as:List Opd}:yd E cP cS cY id g hp (.call 2 f as)=(match g f with | .fn k caps=>y14 (cS k (as.map g++caps) hp) | .bfn k r=>y14 (cS k (r::as.map g) hp) | .yld l=>cY l (as.map g) hp | _=>none):=rfl
theorem zfr{t2:Nat}{x y:Opd}:yd E cP cS cY id g hp (.append 2 t t2 x y)=y2y E hp t t2 (g x) (g y):=rfl
theorem zfs{t2:Nat}{x y:Opd}:yd E cP cS cY id g hp (.append 1 t t2 x y)=(y1s E hp id t t2 (g x) (g y)).map fun e=>(e.d,yg hp id e):=rfl
def yf6(o:Option Obj):Option (List (D × D)):=match o with
 |some (.map es)=>some es
 |_=>none
theorem zcz{es:List (D × D)}:yf6 (some (.map es))=some es:=rfl
theorem z1l{i:Nat}{k:D}:y24 E hp t (.map (some i)) k false=(match (E.ty t).k with | .map kt e=>if y44 E kt k=true then ob (yf6 hp[i]?) (fun es=>ob (y16 k es) fun r=>match r with | some v=>some v | none=>y20 E e) else none | _=>none):=by
 unfold y24
 cases (E.ty t).k <;> try rfl
 rename_i kt e
 by_cases h:y44 E kt k=true
 ·simp only[h,if_true]
  cases hp[i]? with
  |none=>rfl
  |some o=>
   cases o <;> try rfl
   rename_i es
   simp only[zcz,z8]
   cases y16 k es with
   |none=>rfl
   |some r=>
    cases r with
    |some v=>rfl
    |none=>simp only[z8];cases y20 E e <;> rfl
 ·simp only[h,if_false];rfl
theorem z2s{i:Nat}{k v:D}:y2w E hp t (.map (some i)) k v=(match (E.ty t).k with | .map kt e=>if y44 E kt k=true/\v.storable=true/\v.cellsL.length=(E.ty e).size then ob (yf6 hp[i]?) (fun es=>ob (y1j k v es) fun es=>some (hp.set i (.map es))) else none | _=>none):=by
 unfold y2w
 cases (E.ty t).k <;> try rfl
 rename_i kt e
 by_cases h:y44 E kt k=true/\v.storable=true/\v.cellsL.length=(E.ty e).size
 ·simp only[if_pos h]
  cases hp[i]? with
  |none=>rfl
  |some o=>
   cases o <;> try rfl
   rename_i es
   simp only[zcz,z8]
   cases y1j k v es <;> rfl
 ·simp only[if_neg h]
theorem znm{xs:List D}:y44 E t (.agg xs)=((E.ty t).eqc && y1m xs (E.ty t).zero):=rfl
theorem zk6:y1m [] []=true:=rfl
theorem zgk{a b:Bool}{r s:List D}:y1m (.bool a::r) (.bool b::s)=y1m r s:=rfl
theorem zk7{k:aX}{a b:Int}{r s:List D}:y1m (.int k a::r) (.int k b::s)=y1m r s:=by simp[y1m]
theorem zvt:eqL [] []=some true:=rfl
theorem zrx{x y:D}{r s:List D}:eqL (x::r) (y::s)=ob (y1u x y) fun a=>ob (eqL r s) fun b=>some (a && b):=by
 simp only[eqL]
 cases y1u x y with
 |none=>rfl
 |some a=>simp only[z8];cases eqL r s <;> rfl
theorem zh6{a b:Bool}:y1u (.bool a) (.bool b)=some (a == b):=rfl
theorem zlk{k:aX}{a b:Int}:y1u (.int k a) (.int k b)=some (a == b):=by simp[y1u]
theorem zo5{n off i len sz:Nat}{ag gr:Bool}:frz hp (n+1) (.sl i off len sz ag gr)=ob (y9b hp[i]?) fun cs=>ob (y31 sz ag len (cs.drop off)) fun els=>(y1y (frz hp n) els).map (.imm .none):=by
 simp only[frz,yw]
 cases hp[i]? with
 |none=>rfl
 |some o=>
  cases o <;> try rfl
  ·simp only[z9r,z8];cases y31 sz ag len _ <;> rfl
  ·simp only[z8f,z8];cases y31 sz ag len _ <;> rfl
def ycw(o:Option Obj):Option (Nat × Nat):=match o with
 |some (.tok u s)=>some (u,s)
 |_=>none
def y3f(E:Env)(e:Nat)(els new:List D):Prop:=(els.length+new.length)*((E.ty e).bytes+1)<=yj/\(E.ty e).bytes<=65536/\(y20 E e).isSome=true/\y2q (E.ty e).size els=true
instance{e:Nat}{els new:List D}:Decidable (y3f E e els new):=inferInstanceAs (Decidable (_/\_))
def y7t(E:Env)(hp:List Obj)(id t t2:Nat)(x y:D):Option (D × List Obj):=(y2x E hp id t t2 x y).map fun e=>(e.d,yg hp id e)
def yel(E:Env)(e:Nat)(y:D):Option (List D):=match y with
 |.str s=>if 1=(E.ty e).size/\(E.ty e).ag=false then some (s.map yc) else none
 |_=>none
theorem zcj{e:Nat}{s:List UInt8}:yel E e (.str s)=if 1=(E.ty e).size/\(E.ty e).ag=false then some (s.map yc) else none:=rfl
theorem zch{u s:Nat}:ycw (some (.tok u s))=some (u,s):=rfl
theorem zx{t2:Nat}{x y:Opd}:yd E cP cS cY id g hp (.append 0 t t2 x y)=y7t E hp id t t2 (g x) (g y):=rfl
theorem z1g{t2:Nat}{els:List D}{y:D}:y7t E hp id t t2 (.imm .exact els) y=(match (E.ty t).k,(E.ty t2).k with | .slice e,.slice _=>ob (y15 hp (E.ty e).size (E.ty e).ag y) (fun new=>if y3f E e els new then some (.imm (.tok id) (els++new),y2b hp id (.tok ((els.length+new.length)*(E.ty e).size) (E.ty e).size)) else none) | .slice e,.str=>ob (yel E e y) (fun new=>if y3f E e els new then some (.imm (.tok id) (els++new),y2b hp id (.tok ((els.length+new.length)*(E.ty e).size) (E.ty e).size)) else none) | _,_=>none):=by
 have key:∀(e:Nat) (new:List D),((y2l E hp id e .exact els new).map fun e=>(e.d,yg hp id e))=if y3f E e els new then some (.imm (.tok id) (els++new),y2b hp id (.tok ((els.length+new.length)*(E.ty e).size) (E.ty e).size)) else none:=fun e new=>by
  unfold y2l
  by_cases hh:y3f E e els new
  ·have h1:(els.length+new.length)*((E.ty e).bytes+1)<=yj/\(E.ty e).bytes<=65536/\(y20 E e).isSome=true/\y2q (E.ty e).size els=true:=hh
   rw[if_pos h1,if_pos hh];rfl
  ·have h1 : ¬ ((els.length+new.length)*((E.ty e).bytes+1)<=yj/\(E.ty e).bytes<=65536/\(y20 E e).isSome=true/\y2q (E.ty e).size els=true):=hh
   rw[if_neg h1,if_neg hh];rfl
 unfold y7t y2x
 cases (E.ty t).k <;> try rfl
 cases (E.ty t2).k <;> try rfl
 ·simp only[]
  cases y <;> try rfl
  rename_i e s
  simp only[zcj]
  by_cases hs:1=(E.ty e).size/\(E.ty e).ag=false
  ·simp only[if_pos hs,z8];exact key _ _
  ·simp only[if_neg hs];rfl
 ·rename_i e e2
  simp only[]
  cases y15 hp (E.ty e).size (E.ty e).ag y with
  |none=>rfl
  |some new=>simp only[z8];exact key _ _
theorem z1u{t2 k:Nat}{els:List D}{y:D}:y7t E hp id t t2 (.imm (.tok k) els) y=(match (E.ty t).k,(E.ty t2).k with | .slice e,.slice _=>ob (y15 hp (E.ty e).size (E.ty e).ag y) (fun new=>if y3f E e els new then ob (ycw hp[k]?) (fun u=>if u.1=els.length*(E.ty e).size/\u.2=(E.ty e).size then some (.imm (.tok id) (els++new),y2b (hp.set k .dead) id (.tok ((els.length+new.length)*(E.ty e).size) (E.ty e).size)) else none) else none) | .slice e,.str=>ob (yel E e y) (fun new=>if y3f E e els new then ob (ycw hp[k]?) (fun u=>if u.1=els.length*(E.ty e).size/\u.2=(E.ty e).size then some (.imm (.tok id) (els++new),y2b (hp.set k .dead) id (.tok ((els.length+new.length)*(E.ty e).size) (E.ty e).size)) else none) else none) | _,_=>none):=by
 have key:∀(e:Nat) (new:List D),((y2l E hp id e (.tok k) els new).map fun e=>(e.d,yg hp id e))=if y3f E e els new then ob (ycw hp[k]?) (fun u=>if u.1=els.length*(E.ty e).size/\u.2=(E.ty e).size then some (.imm (.tok id) (els++new),y2b (hp.set k .dead) id (.tok ((els.length+new.length)*(E.ty e).size) (E.ty e).size)) else none) else none:=fun e new=>by
  unfold y2l
  by_cases hh:y3f E e els new
  ·have h1:(els.length+new.length)*((E.ty e).bytes+1)<=yj/\(E.ty e).bytes<=65536/\(y20 E e).isSome=true/\y2q (E.ty e).size els=true:=hh
   rw[if_pos h1,if_pos hh]
   simp only[]
   cases hp[k]? with
   |none=>rfl
   |some o=>
    cases o <;> try rfl
    rename_i u s
    simp only[zch,z8]
    by_cases h2:u=els.length*(E.ty e).size/\s=(E.ty e).size
    ·simp only[if_pos h2];rfl
    ·simp only[if_neg h2];rfl
  ·have h1 : ¬ ((els.length+new.length)*((E.ty e).bytes+1)<=yj/\(E.ty e).bytes<=65536/\(y20 E e).isSome=true/\y2q (E.ty e).size els=true):=hh
   rw[if_neg h1,if_neg hh];rfl
 unfold y7t y2x
 cases (E.ty t).k <;> try rfl
 cases (E.ty t2).k <;> try rfl
 ·simp only[]
  cases y <;> try rfl
  rename_i e s
  simp only[zcj]
  by_cases hs:1=(E.ty e).size/\(E.ty e).ag=false
  ·simp only[if_pos hs,z8];exact key _ _
  ·simp only[if_neg hs];rfl
 ·rename_i e e2
  simp only[]
  cases y15 hp (E.ty e).size (E.ty e).ag y with
  |none=>rfl
  |some new=>simp only[z8];exact key _ _
theorem zjp:y29 []=.tup []:=rfl
theorem zk1{sz:Nat}{ag:Bool}{sp:y1a}{els:List D}:y15 hp sz ag (.imm sp els)=if(els.all fun d=>d.storable && d.cellsL.length == sz)=true then some els else none:=rfl

end
end Dv

namespace Dv

section
variable{E:Env}{cP:Nat->List D->Option D}{cS cY:Nat->List D->List Obj->Option (D × List Obj)}{env:List D}{hp:List Obj}{t id base:Nat}{g:Opd->D}

theorem zsr{k:aX}{a b:Int}:y2s E .and t (.int k a) (.int k b)=some (.int k (ybl k a b)):=by simp[y2s,y2u]
theorem zwc{k:aX}{a b:Int}:y2s E .or t (.int k a) (.int k b)=some (.int k (yak k a b)):=by simp[y2s,y2u]
theorem zsg{k:aX}{a b:Int}:y2s E .xor t (.int k a) (.int k b)=some (.int k (y8l k a b)):=by simp[y2s,y2u]
theorem zdz{f:Opd}{as:List Opd}:yd E cP cS cY id g hp (.call 3 f as)=(match g f with | .fn k caps=>ob (y1y (frz hp depth) (as.map g++caps)) (fun vs=>ob (cP k vs) fun d=>if d.closed=true then some (d,hp) else none) | _=>none):=by
 simp only[yd,DOp.fin,ym]
 cases g f <;> try rfl
 rename_i k caps
 simp only[]
 cases y1y (frz hp depth) (as.map g++caps) with
 |none=>rfl
 |some vs=>simp only[z8];cases cP k vs <;> rfl
theorem zh1{b:Bool}:D.closed (.bool b)=true:=rfl
theorem zl8{k:aX}{n:Int}:D.closed (.int k n)=true:=rfl
theorem zl6{l:List D}:D.closed (.tup l)=l.all D.flatB:=rfl
theorem zkw{b:Bool}:D.flatB (.bool b)=true:=rfl
theorem zoi{k:aX}{n:Int}:D.flatB (.int k n)=true:=rfl
def gdV{A:Type}(u:D)(b:Bool)(x y:Option A):Option A:=match u with
 |.bool c=>if c=b then x else y
 |_=>y
theorem zxz{A:Type}{c b:Bool}{x y:Option A}:gdV (.bool c) b x y=if c=b then x else y:=rfl
theorem z3h{A:Type}{u u':D}{b:Bool}{x y:Option A}(h:u=u'):gdV u b x y=gdV u' b x y:=by rw[h]
theorem zqg{x:Xp}{b:Bool}{dst:Option Nat}{op:DOp}{ks:Xs}{r:List TS}:rTS E cP cS cY base (.eff (some (x,b)) dst op ks none::r) env hp=ob (xv E cP env hp x) fun u=>gdV u b (ob (xvs E cP env hp ks) fun vs=>ob (yd E cP cS cY hp.length (gOf vs) hp op) fun p=>rTS E cP cS cY base r (y93 env dst p.1) p.2) (rTS E cP cS cY base r (y93 env dst .undef) hp):=by
 simp only[rTS,gdT]
 cases xv E cP env hp x with
 |none=>rfl
 |some u=>
  simp only[z8]
  cases u with
  |bool c=>
   simp only[zxz]
   by_cases h:c=b
   ·subst h
    simp only[beq_self_eq_true,if_true]
    cases xvs E cP env hp ks with
    |none=>rfl
    |some vs=>simp only[z8];cases yd E cP cS cY hp.length (gOf vs) hp op <;> rfl
   ·have:(c == b)=false:=by simpa using h
    simp only[this,if_neg h]
  |_=>rfl
theorem zrj{n:Nat}{cs:List D}:ybf hp (n+1) (.tup cs)=(y1y (y9w hp n) cs).map .tup:=rfl
theorem zku{n:Nat}{cs:List D}:ybf hp (n+1) (.imm .exact cs)=(y1y (frz hp n) cs).map (.imm .exact):=rfl
theorem zkv{n:Nat}{cs:List D}:y9w hp (n+1) (.imm .exact cs)=(y1y (frz hp n) cs).map (.imm .exact):=rfl
theorem zoc{n:Nat}{cs:List D}:y9w hp (n+1) (.imm .none cs)=(y1y (frz hp n) cs).map (.imm .none):=rfl
theorem zro{n:Nat}{k:aX}{i:Int}:y9w hp (n+1) (.int k i)=some (.int k i):=rfl

theorem zgn{b:Bool}:yt (.bool b)=false:=rfl
theorem zkf{k:aX}{n:Int}:yt (.int k n)=false:=rfl
theorem zkd{b:List UInt8}:yt (.str b)=false:=rfl
theorem zkg{sp:y1a}{l:List D}:yt (.imm sp l)=false:=rfl
theorem znr{a b c d:Nat}{e f:Bool}:yt (.sl a b c d e f)=false:=rfl
theorem zns{a:Nat}{l:List D}:yt (.fn a l)=false:=rfl
theorem zke{a b:Nat}:yt (.loc a b)=false:=rfl
theorem zeu:yt .undef=false:=rfl
def isU:D->Bool
 |.undef=>true
 |_=>false
theorem zgm:yt (.tup [])=false:=rfl
theorem zgo:yt (.agg [])=false:=rfl
theorem znq:isU .undef=true:=rfl
theorem zr4{b:Bool}:isU (.bool b)=false:=rfl
theorem zvi{k:aX}{n:Int}:isU (.int k n)=false:=rfl
theorem zvg{b:List UInt8}:isU (.str b)=false:=rfl
theorem zvj{sp:y1a}{l:List D}:isU (.imm sp l)=false:=rfl
theorem zvk{l:List D}:isU (.agg l)=false:=rfl
theorem zxu{a:Nat}{l:List D}:isU (.fn a l)=false:=rfl
theorem zvh{a b:Nat}:isU (.loc a b)=false:=rfl
theorem zxt{a b c d:Nat}{e f:Bool}:isU (.sl a b c d e f)=false:=rfl
theorem zqs{d:D}{h:List Obj}:y14 (some (d,h))=if yt d=true then none else some (d,h):=rfl
def yci(d:D)(a b:Prop):Prop:=if yt d=true then a else b
theorem z1w{t t':D}{a b:Prop}(h:t=t'):yci t a b=yci t' a b:=by rw[h]
theorem zud{Q:Ex->List D->List Obj->Prop}:wT E .dead Q env hp=False:=rfl
theorem zdy{f:Opd}{as:List Opd}:yd E cP cS cY id g hp (.call 6 f as)=(match g f with | .fn k caps=>if E.mp k=true then cS k (as.map g++caps) hp else none | _=>none):=rfl
def yb5(d:D):Option D:=match d with
 |.loc i o=>some (.loc i o)
 |.iptr cs=>some (.iptr cs)
 |_=>none
theorem zn1{i o:Nat}:yb5 (.loc i o)=some (.loc i o):=rfl
theorem zjs{l:List D}:yb5 (.iptr l)=some (.iptr l):=rfl
def ych(b:Bool)(d:D):Option D:=match b,d with
 |false,.int .i64 n=>some (.tup [.undef,.int .i64 n])
 |true,.agg [.int .i64 n]=>some (.tup [.undef,.agg [.int .i64 n]])
 |_,_=>none
theorem zn9{n:Int}:ych false (.int .i64 n)=some (.tup [.undef,.int .i64 n]):=rfl
theorem zna{n:Int}:ych true (.agg [.int .i64 n])=some (.tup [.undef,.agg [.int .i64 n]]):=rfl
theorem zty{a:Nat}{x:Xp}:xv E cP env hp (.n (.nilc (.t a)) (.cons a x .nil))=ob (xv E cP env hp x) fun u=>yb5 u:=by
 simp only[xv,xvs]
 cases xv E cP env hp x with
 |none=>rfl
 |some d=>
  simp only[ya,gOf,kv,z8,if_true]
  cases d <;> rfl

end
end Dv

namespace Dv

section
variable{E:Env}{cP:Nat->List D->Option D}{cS cY:Nat->List D->List Obj->Option (D × List Obj)}{env:List D}{hp:List Obj}{t t2 id base:Nat}{g:Opd->D}

theorem z6o{f:Opd}{as:List Opd}:yd E cP cS cY id g hp (.mkcall f as)=(match g f with | .fn k caps=>ob (y1y (frz [] depth) (as.map g++caps)) (fun vs=>y63 cS k vs hp) | _=>none):=by
 simp only[yd,DOp.fin,ym]
 cases g f <;> try rfl
 rename_i k caps
 simp only[]
 cases y1y (frz [] depth) (as.map g++caps) <;> rfl
theorem zdv{x y:Opd}:yd E cP cS cY id g hp (.mkcap t x y)=y5b E hp t (g x) (g y):=rfl
theorem zb4{x y:Opd}:yd E cP cS cY id g hp (.reslice t x y)=y2z E hp t (g x) (g y):=rfl
theorem zj3{x:Opd}:yd E cP cS cY id g hp (.clr t x)=yao E hp t (g x):=rfl
theorem zfq{x y:Opd}:yd E cP cS cY id g hp (.copy t t2 x y)=y69 E hp t t2 (g x) (g y):=rfl

theorem zat:∀(l:List UInt8),y3q (l.map yc)=some l
 |[]=>rfl
 |b::l=>by
  simp only[au,yc,y3q,zat l]
  have:UInt8.ofNat ((b.toNat:Int)).toNat=b:=by simp
  rw[this]
theorem zdj{sp:y1a}{l:List UInt8}:yc1 E t t2 (.imm sp (l.map yc))=(match (E.ty t).k,(E.ty t2).k with | .slice e,.str=>if y5k E e=true then some (.str l) else none | _,_=>none):=by
 unfold yc1
 cases (E.ty t).k <;> try rfl
 cases (E.ty t2).k <;> try rfl
 simp only[zat,ao]
theorem zqd{s:List UInt8}:ybt E t t2 (.str s)=(match (E.ty t).k,(E.ty t2).k with | .str,.slice e=>if y5k E e=true then some (.imm .none (s.map yc)) else none | _,_=>none):=by
 unfold ybt
 cases (E.ty t).k <;> try rfl
 cases (E.ty t2).k <;> rfl
theorem zwx{a:Nat}{x:Xp}:xv E cP env hp (.n (.b2s t t2 (.t a)) (.cons a x .nil))=ob (xv E cP env hp x) fun u=>yc1 E t t2 u:=by
 simp only[xv,xvs]
 cases xv E cP env hp x <;> try rfl
 simp only[ya,gOf,kv,if_true,z8]
 exact zz
theorem zwt{a:Nat}{x:Xp}:xv E cP env hp (.n (.s2b t t2 (.t a)) (.cons a x .nil))=ob (xv E cP env hp x) fun u=>ybt E t t2 u:=by
 simp only[xv,xvs]
 cases xv E cP env hp x <;> try rfl
 simp only[ya,gOf,kv,if_true,z8]
 exact zz
theorem zpr{a f:Nat}{x:Xp}:xv E cP env hp (.n (.mkbfn f (.t a)) (.cons a x .nil))=ob (xv E cP env hp x) fun u=>some (.bfn f u):=by
 simp only[xv,xvs]
 cases xv E cP env hp x <;> try rfl
 simp only[ya,gOf,kv,if_true,z8]
theorem zkn{cs:List D}{k:aX}{n:Int}{m e:Nat}(h:(E.ty t).k=.arr m e):y3d E t (.iptr cs) (.int k n)=if 0<=n/\n<m then some (.iptr (cs.drop (n.toNat*(E.ty e).size))) else none:=by
 simp only[y3d,h]
theorem zpe{a b:List UInt8}:y2s E .eql t (.str a) (.str b)=some (.bool (a == b)):=rfl
theorem zpd{a b:List UInt8}:y2s E .neq t (.str a) (.str b)=some (.bool (!(a == b))):=rfl
theorem zuh{k:aX}{n:Int}:unD .xor (.int k n)=some (.int k (y8l k (if k.signed then -1 else k.max) n)):=rfl
theorem zsj{k k':aX}{a b:Int}:y2s E .shl t (.int k a) (.int k' b)=if 0<=b then some (.int k (k.wrap (a*2 ^ (min b.toNat k.bits)))) else none:=rfl
theorem zsi{k k':aX}{a b:Int}:y2s E .shr t (.int k a) (.int k' b)=if 0<=b then some (.int k (a.fdiv (2 ^ (min b.toNat k.bits)))) else none:=rfl

def ybe(d:D):Option D:=if d.storable=true then some (.iptr d.cellsL) else none
theorem zu1{a:Nat}{x:Xp}:xv E cP env hp (.n (.ibox t (.t a)) (.cons a x .nil))=ob (xv E cP env hp x) fun u=>ybe u:=by
 simp only[xv,xvs]
 cases xv E cP env hp x <;> try rfl
 rename_i d
 simp only[ya,gOf,kv,if_true,z8,ybe]
 by_cases hh:d.storable=true
 ·simp only[hh,if_true]
 ·simp only[hh];rfl
theorem zps{a:Nat}{x:Xp}:xv E cP env hp (.n (.iload t (.t a)) (.cons a x .nil))=ob (xv E cP env hp x) fun u=>y7f E t u:=by
 simp only[xv,xvs]
 cases xv E cP env hp x <;> try rfl
 simp only[ya,gOf,kv,if_true,z8]
 exact zz
theorem zad{cs:List D}:y7f E t (.iptr cs)=ob (y1x cs 0 (E.ty t).size) fun r=>yk (E.ty t).ag r:=rfl

end
end Dv

namespace Dv

structure Cell where
 airport:Bool
 index:Int
 minute:Int
deriving DecidableEq

structure Use where
 cell:Cell
 places:Int

structure y7p where
 delay:Int
 cost:Int
 changes:Int
 uses:List Use

structure Var where
 a:Int
 b:Int
 leaves:List Int
 choices:List y7p

structure y4j where
 cells:List Cell
 capacity:List (List Int)
 vars:List Var

abbrev dI(n:Int):D:=.int .i64 n
abbrev y2c(c:Cell):D:=.agg [.bool c.airport,dI c.index,dI c.minute]
abbrev y6l(u:Use):D:=.agg [.bool u.cell.airport,dI u.cell.index,dI u.cell.minute,dI u.places]
abbrev y2k(l:List Int):D:=.imm .none (l.map dI)
abbrev y2g(c:y7p):D:=.agg [dI c.delay,dI c.cost,dI c.changes,.imm .none (c.uses.map y6l)]
abbrev y4y(v:Var):D:=.agg [dI v.a,dI v.b,y2k v.leaves,.imm .none (v.choices.map y2g)]
abbrev y19(p:y4j):D:=.agg [.imm .none (p.cells.map y2c),.imm .none (p.capacity.map y2k),.imm .none (p.vars.map y4y)]

def i64(n:Int):Prop:=-9223372036854775808<=n/\n<=9223372036854775807

theorem zx1{n:Int}(h:(Go.Lit.int .i64 n).wf=true):i64 n:=by
 simp[Go.Lit.wf] at h
 obtain⟨h1,h2⟩:=h
 have e1:aC.min = -9223372036854775808:=by decide
 have e2:aC.max=9223372036854775807:=by decide
 first
  |exact⟨by omega,by omega⟩
  |(rw[e1] at h1;exact⟨h1,by first | exact h2 | (rw[e2] at h2;exact h2)⟩)

theorem z5a{A:Type}{f:A->D}{R:A->Prop}:∀{els:List D},(∀ x,x ∈ els->∃ a,x=f a/\R a)->∃ l:List A,els=l.map f /\ ∀ a,a ∈ l->R a
 |[],_=>⟨[],rfl,fun a h=>by cases h⟩
 |x::els,h=>by
  obtain⟨a,h1,h2⟩:=h x (by simp)
  obtain⟨l,h3,h4⟩:=z5a (els:=els) fun y hy=>h y (by simp[hy])
  exact⟨a::l,by simp[h1,h3],fun b hb=>by
   rcases aw.1 hb with rfl | hb
   ·exact h2
   ·exact h4 b hb⟩

end Dv

namespace Dv

theorem z3z{c:Nat}{ds:List D}(h:DTc E c ds)(hk:(E.ty c).k=.int .i64):∃ n,ds=[dI n]/\i64 n:=by
 cases h with
 |int h hw=>rw[hk] at h;cases h;exact⟨_,rfl,zx1 hw⟩
 |bool h=>rw[hk] at h;cases h
 |str h=>rw[hk] at h;cases h
 |slice h _ _ _=>rw[hk] at h;cases h
 |struct h _ _=>rw[hk] at h;cases h
 |arr h _ _=>rw[hk] at h;cases h

theorem zun{c:Nat}{ds:List D}(h:DTc E c ds)(hk:(E.ty c).k=.bool):∃ b,ds=[.bool b]:=by
 cases h with
 |bool h=>exact⟨_,rfl⟩
 |int h hw=>rw[hk] at h;cases h
 |str h=>rw[hk] at h;cases h
 |slice h _ _ _=>rw[hk] at h;cases h
 |struct h _ _=>rw[hk] at h;cases h
 |arr h _ _=>rw[hk] at h;cases h

theorem z4b{c e:Nat}{ds:List D}(h:DTc E c ds)(hk:(E.ty c).k=.slice e):∃ els,ds=[.imm .none els]/\els.length<=Go.maxLen /\ ∀ x,x ∈ els->y4h E e x:=by
 cases h with
 |slice h hl he ho=>rw[hk] at h;cases h;exact⟨_,rfl,hl,fun x hx=>⟨he x hx,ho x hx⟩⟩
 |bool h=>rw[hk] at h;cases h
 |int h hw=>rw[hk] at h;cases h
 |str h=>rw[hk] at h;cases h
 |struct h _ _=>rw[hk] at h;cases h
 |arr h _ _=>rw[hk] at h;cases h

theorem z3y{c:Nat}{fs:List (Nat × Nat)}{ds:List D}(h:DTc E c ds)(hk:(E.ty c).k=.struct fs):ds.length=(E.ty c).size /\ ∀(i:Nat) p,fs[i]? = some p->DTc E p.2 ((ds.drop p.1).take (E.ty p.2).size):=by
 cases h with
 |struct h hl hf=>rw[hk] at h;cases h;exact⟨hl,hf⟩
 |bool h=>rw[hk] at h;cases h
 |int h hw=>rw[hk] at h;cases h
 |str h=>rw[hk] at h;cases h
 |slice h _ _ _=>rw[hk] at h;cases h
 |arr h _ _=>rw[hk] at h;cases h

end Dv

namespace Dv

def y76(c:Cell):Prop:=i64 c.index/\i64 c.minute
def yb4(u:Use):Prop:=y76 u.cell/\i64 u.places
def y6t(c:y7p):Prop:=i64 c.delay/\i64 c.cost/\i64 c.changes /\ ∀ u,u ∈ c.uses->yb4 u
def y75(l:List Int):Prop:=∀ n,n ∈ l->i64 n
def yb3(v:Var):Prop:=i64 v.a/\i64 v.b/\y75 v.leaves /\ ∀ c,c ∈ v.choices->y6t c
def ycf(p:y4j):Prop:=(∀ c,c ∈ p.cells->y76 c)/\(∀ l,l ∈ p.capacity->y75 l) /\ ∀ v,v ∈ p.vars->yb3 v

theorem yaw{ds:List D}(h:ds.length=3):∃ a b c,ds=[a,b,c]:=by
 match ds,h with
 |[a,b,c],_=>exact⟨a,b,c,rfl⟩

theorem yfg{ds:List D}(h:ds.length=4):∃ a b c d,ds=[a,b,c,d]:=by
 match ds,h with
 |[a,b,c,d],_=>exact⟨a,b,c,d,rfl⟩

theorem zc5{ds:List D}(h:DTc E 20 ds):∃ c,ds=[.bool c.airport,dI c.index,dI c.minute]/\y76 c:=by
 obtain⟨hl,hf⟩:=z3y h (fs:=[(0,7),(1,2),(2,2)]) rfl
 obtain⟨x,y,z,rfl⟩:=yaw hl
 obtain⟨b,h1⟩:=zun (hf 0 _ rfl) rfl
 obtain⟨n,h2,o2⟩:=z3z (hf 1 _ rfl) rfl
 obtain⟨m,h3,o3⟩:=z3z (hf 2 _ rfl) rfl
 simp[E,y73] at h1 h2 h3
 subst h1 h2 h3
 exact⟨⟨b,n,m⟩,rfl,o2,o3⟩

theorem z3x{c:Nat}{x:D}(h:y4h E c x)(ha:(E.ty c).ag=true):∃ ds,x=.agg ds/\DTc E c ds:=by
 obtain⟨h1,h2⟩:=h
 rw[ha] at h2
 simp[yk] at h2
 exact⟨x.cellsL,h2.symm,h1⟩

theorem z52{c:Nat}{x:D}(h:y4h E c x)(ha:(E.ty c).ag=false):DTc E c [x]:=by
 obtain⟨h1,h2⟩:=h
 rw[ha] at h2
 cases hx:x.cellsL with
 |nil=>rw[hx] at h2;simp[yk] at h2
 |cons y r=>
  rw[hx] at h1 h2
  cases r with
  |nil=>simp[yk] at h2;subst h2;exact h1
  |cons _ _=>simp[yk] at h2

theorem zum{x:D}(h:y4h E 20 x):∃ c,x=y2c c/\y76 c:=by
 obtain⟨ds,rfl,h1⟩:=z3x h rfl
 obtain⟨c,rfl,o⟩:=zc5 h1
 exact⟨c,rfl,o⟩

theorem zxa{x:D}(h:y4h E 19 x):∃ u,x=y6l u/\yb4 u:=by
 obtain⟨ds,rfl,h1⟩:=z3x h rfl
 obtain⟨hl,hf⟩:=z3y h1 (fs:=[(0,20),(3,2)]) rfl
 obtain⟨x,y,z,w,rfl⟩:=yfg hl
 obtain⟨c,h2,o2⟩:=zc5 (hf 0 _ rfl)
 obtain⟨m,h3,o3⟩:=z3z (hf 1 _ rfl) rfl
 simp[E,y73] at h2 h3
 obtain⟨rfl,rfl,rfl⟩:=h2
 subst h3
 exact⟨⟨c,m⟩,rfl,o2,o3⟩

theorem zfn{c:Nat}{ds:List D}(h:DTc E c ds)(hk:(E.ty c).k=.slice 2):∃ l,ds=[y2k l]/\y75 l:=by
 obtain⟨els,rfl,_,h1⟩:=z4b h hk
 obtain⟨l,rfl,o⟩:=z5a (f:=dI) (R:=i64) (els:=els) fun x hx=>by
  obtain⟨n,h2,o⟩:=z3z (z52 (h1 x hx) rfl) rfl
  simp at h2;exact⟨n,h2,o⟩
 exact⟨l,rfl,o⟩

theorem zm2{x:D}(h:y4h E 17 x):∃ c,x=y2g c/\y6t c:=by
 obtain⟨ds,rfl,h1⟩:=z3x h rfl
 obtain⟨hl,hf⟩:=z3y h1 (fs:=[(0,2),(1,2),(2,2),(3,18)]) rfl
 obtain⟨x,y,z,w,rfl⟩:=yfg hl
 obtain⟨a,h2,o2⟩:=z3z (hf 0 _ rfl) rfl
 obtain⟨b,h3,o3⟩:=z3z (hf 1 _ rfl) rfl
 obtain⟨c,h4,o4⟩:=z3z (hf 2 _ rfl) rfl
 obtain⟨els,h5,_,h6⟩:=z4b (hf 3 _ rfl) (e:=19) rfl
 simp[E,y73] at h2 h3 h4 h5
 subst h2 h3 h4 h5
 obtain⟨l,rfl,o⟩:=z5a (f:=y6l) (R:=yb4) (els:=els) fun x hx=>zxa (h6 x hx)
 exact⟨⟨a,b,c,l⟩,rfl,o2,o3,o4,o⟩

theorem zx9{x:D}(h:y4h E 15 x):∃ v,x=y4y v/\yb3 v:=by
 obtain⟨ds,rfl,h1⟩:=z3x h rfl
 obtain⟨hl,hf⟩:=z3y h1 (fs:=[(0,2),(1,2),(2,6),(3,16)]) rfl
 obtain⟨x,y,z,w,rfl⟩:=yfg hl
 obtain⟨a,h2,o2⟩:=z3z (hf 0 _ rfl) rfl
 obtain⟨b,h3,o3⟩:=z3z (hf 1 _ rfl) rfl
 obtain⟨c,h4,o4⟩:=zfn (hf 2 _ rfl) rfl
 obtain⟨els,h5,_,h6⟩:=z4b (hf 3 _ rfl) (e:=17) rfl
 simp[E,y73] at h2 h3 h4 h5
 subst h2 h3 h4 h5
 obtain⟨l,rfl,o⟩:=z5a (f:=y2g) (R:=y6t) (els:=els) fun x hx=>zm2 (h6 x hx)
 exact⟨⟨a,b,c,l⟩,rfl,o2,o3,o4,o⟩

theorem zuk{x:D}(h:y4h E 0 x):∃ p,x=y19 p/\ycf p:=by
 obtain⟨ds,rfl,h1⟩:=z3x h rfl
 obtain⟨hl,hf⟩:=z3y h1 (fs:=[(0,10),(1,9),(2,14)]) rfl
 obtain⟨x,y,z,rfl⟩:=yaw hl
 obtain⟨e1,h2,_,g2⟩:=z4b (hf 0 _ rfl) (e:=20) rfl
 obtain⟨e2,h3,_,g3⟩:=z4b (hf 1 _ rfl) (e:=6) rfl
 obtain⟨e3,h4,_,g4⟩:=z4b (hf 2 _ rfl) (e:=15) rfl
 simp[E,y73] at h2 h3 h4
 subst h2 h3 h4
 obtain⟨l1,rfl,o1⟩:=z5a (f:=y2c) (R:=y76) (els:=e1) fun x hx=>zum (g2 x hx)
 obtain⟨l2,rfl,o2⟩:=z5a (f:=y2k) (R:=y75) (els:=e2) fun x hx=>by
  obtain⟨l,h,o⟩:=zfn (z52 (g3 x hx) rfl) rfl
  simp at h;exact⟨l,h,o⟩
 obtain⟨l3,rfl,o3⟩:=z5a (f:=y4y) (R:=yb3) (els:=e3) fun x hx=>zx9 (g4 x hx)
 exact⟨⟨l1,l2,l3⟩,rfl,o1,o2,o3⟩

end Dv

namespace Dv

theorem za{n:Int}(h:i64 n):aC.wrap n=n:=gu n h

theorem zb{i n:Nat}(h:i<n)(hn:n<=1000000000000):aC.wrap ((i:Int)+1)=(i:Int)+1:=za ⟨by omega,by omega⟩

theorem zm{A:Type}{l:List A}{i:Nat}(h:i<l.length):l.drop i=l[i]::l.drop (i+1):=List.drop_eq_getElem_cons h

section
variable{hp:List Obj}

theorem zrh{n:Nat}{b:Bool}:frz hp (n+1) (.bool b)=some (.bool b):=rfl
theorem z7w{n:Nat}{k:aX}{x:Int}:frz hp (n+1) (.int k x)=some (.int k x):=rfl
theorem z6d{n:Nat}{sp:y1a}{els:List D}:frz hp (n+1) (.imm sp els)=(y1y (frz hp n) els).map (.imm .none):=rfl
theorem zai{n:Nat}{els:List D}:frz hp (n+1) (.agg els)=(y1y (frz hp n) els).map .agg:=rfl
theorem zvo{n:Nat}{els:List D}:frz hp (n+1) (.tup els)=(y1y (frz hp n) els).map .tup:=rfl
theorem zy1{n:Nat}{f:Nat}{els:List D}:frz hp (n+1) (.fn f els)=(y1y (frz hp n) els).map (.fn f):=rfl
theorem zrf{n:Nat}{els:List D}:frz hp (n+1) (.iptr els)=(y1y (frz hp n) els).map .iptr:=rfl
theorem z90{f:D->Option D}:y1y f []=some []:=rfl
theorem z4q{f:D->Option D}{d:D}{r:List D}:y1y f (d::r)=ob (f d) fun d=>ob (y1y f r) fun r=>some (d::r):=by
 simp only[y1y]
 cases f d with
 |none=>rfl
 |some d=>simp only[z8];cases y1y f r <;> rfl
theorem z17{A:Type}{f:D->Option D}{g:A->D}:∀{l:List A},(∀ x,x ∈ l->f (g x)=some (g x))->y1y f (l.map g)=some (l.map g)
 |[],_=>rfl
 |x::l,h=>by
  simp only[au,z4q,h x (by simp),z8,z17 (l:=l) fun y hy=>h y (by simp[hy])]

theorem zgs{n:Nat}{l:List Int}:y1y (frz hp (n+1)) (l.map dI)=some (l.map dI):=z17 fun x _=>z7w
theorem zo9{n:Nat}{l:List Cell}:y1y (frz hp (n+2)) (l.map y2c)=some (l.map y2c):=z17 fun x _=>rfl
theorem zib{n:Nat}{l:List Use}:y1y (frz hp (n+2)) (l.map y6l)=some (l.map y6l):=z17 fun x _=>rfl
theorem zo8{n:Nat}{l:List (List Int)}:y1y (frz hp (n+2)) (l.map y2k)=some (l.map y2k):=z17 fun x _=>by
 rw[z6d,zgs];rfl
theorem zaj{n:Nat}{l:List y7p}:y1y (frz hp (n+4)) (l.map y2g)=some (l.map y2g):=z17 fun x _=>by
 rw[zai]
 simp only[z4q,z7w,z8,z6d,zib,ao,z90]
theorem zrl{n:Nat}{l:List Var}:y1y (frz hp (n+6)) (l.map y4y)=some (l.map y4y):=z17 fun x _=>by
 rw[zai]
 simp only[z4q,z7w,z8,z6d,zgs,zaj,ao,z90]

end

theorem zog{l:List Int}:yi (l.map dI)=l.map dI:=by
 induction l with
 |nil=>rfl
 |cons x r ih=>simp only[au,yi,List.flatMap_cons] at ih ⊢;rw[ih];rfl
theorem zrq{n:Nat}{x:Int}:yi (ah n (.int .i64 x))=(ah n x).map dI:=by
 have:=zog (l:=ah n x)
 rw[ej] at this
 rw[ej];exact this
theorem zio:∀{l:List Int},y31 1 false l.length (l.map dI)=some (l.map dI)
 |[]=>rfl
 |x::r=>by
  simp only[List.length_cons,au,y31,y1x,List.getElem?_cons_zero,yk,List.drop_succ_cons,List.drop_zero,zio]

theorem zsd{cP:Nat->List D->Option D}{k:Nat}{caps args:List D}:yad cP (.fn k caps) args=ob (y1y (frz [] depth) (args++caps)) fun vs=>cP k vs:=by
 simp only[yad]
 cases y1y (frz [] depth) (args++caps) <;> rfl

end Dv
