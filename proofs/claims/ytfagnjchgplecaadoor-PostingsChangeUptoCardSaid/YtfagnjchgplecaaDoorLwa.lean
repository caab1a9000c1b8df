/- Texts that a proof of this claim uses, joined: Lw.Wp, Lw.Tidy, Lw.TidyOk, Lw.TidyOk2, Lw.TidyFn, Lw.Use, Lw.Eval, Lw.Ev2, Lw.Ev3, Lw.Ev4, Lw.Enc, Lw.Base. -/
import Derived.Test.YtfagnjchgplecaaDoorDvd
import Derived.Test.YtfagnjchgplecaaDoorDvb
import Derived.Test.YtfagnjchgplecaaDoorCode
set_option linter.all false
open Bool renaming and_eq_true->ai,false_eq_true->aM,not_eq_true'->bJ,or_eq_true->bP
open Go renaming BinOp->gI,IntKind->aV
open Go.IntKind renaming i64->aB
open Go.IntWalk renaming i64_in->fV
open List renaming all_eq_true->ay,any_eq_true->ip,getD_eq_getElem?_getD->ah,getElem?_eq_getElem->ae,getElem?_eq_some_iff->ac,getElem?_set_ne->aY,getElem?_set_self->aQ,idxOf_lt_length_of_mem->gV,isEmpty_iff->eQ,map_cons->av,map_nil->aO,map_replicate->eh,mem_append->aS,mem_cons->az,mem_filter->iN,mem_flatMap->bF,mem_map->aT,mem_map_of_mem->jH,mem_of_getElem?->bg,replicate->af
open Nat renaming add_zero->de
open Ne renaming symm->eJ
open Option renaming isNone_iff_eq_none->fC,map_eq_some_iff->ab,map_none->aR,map_some->ao
open Option.some renaming injEq->aa
open Prod.mk renaming injEq->aq
namespace Dv

section
variable{E:Env}

def wp(E:Env)(c:DC)(st:St)(Q:Ex->St->Prop):Prop:=∃ ex st',dL E c st=some (ex,st')/\Q ex st'

def wpR(E:Env)(os:List y12)(st:St)(Q:St->Prop):Prop:=∃ st',ye E (y1l E (dL E)) (y1h E (dL E)) (y2x (dL E)) os st=some st'/\Q st'

theorem zec{c:DC}{st:St}{Q Q':Ex->St->Prop}(h:wp E c st Q)(hq:∀ ex st',Q ex st'->Q' ex st'):wp E c st Q':=by
 obtain⟨ex,st',h1,h2⟩:=h
 exact⟨ex,st',h1,hq _ _ h2⟩

theorem zrj{st:St}{Q}:wp E .skip st Q ↔ Q .normal st:=by
 constructor
 ·rintro⟨ex,st',h1,h2⟩
  rw[z9p] at h1;simp at h1;obtain⟨rfl,rfl⟩:=h1;exact h2
 ·intro h;exact⟨_,_,z9p,h⟩
theorem zue{st:St}{Q}:wp E .ret st Q ↔ Q .ret st:=by
 constructor
 ·rintro⟨ex,st',h1,h2⟩
  rw[z7u] at h1;simp at h1;obtain⟨rfl,rfl⟩:=h1;exact h2
 ·intro h;exact⟨_,_,z7u,h⟩
theorem zrl{id:Nat}{st:St}{Q}:wp E (.exit id) st Q ↔ Q (.exit id) st:=by
 constructor
 ·rintro⟨ex,st',h1,h2⟩
  rw[zmp] at h1;simp at h1;obtain⟨rfl,rfl⟩:=h1;exact h2
 ·intro h;exact⟨_,_,zmp,h⟩

theorem zud{a b:DC}{st:St}{Q}:wp E (.seq a b) st Q ↔ wp E a st (fun ex st'=>match ex with | .normal=>wp E b st' Q | ex=>Q ex st'):=by
 constructor
 ·rintro⟨ex,st',h1,h2⟩
  rw[z9q] at h1
  split at h1
  ·rename_i st1 ha
   exact⟨_,_,ha,ex,st',h1,h2⟩
  ·rename_i r hne
   refine⟨_,_,h1,?_⟩
   cases ex with
   |normal=>exact absurd h1 (hne st')
   |exit id=>exact h2
   |ret=>exact h2
 ·rintro⟨ex,st',h1,h2⟩
  cases ex with
  |normal=>
   obtain⟨ex2,st2,h3,h4⟩:=h2
   exact⟨ex2,st2,by rw[z9q,h1];exact h3,h4⟩
  |exit id=>exact⟨_,_,by rw[z9q,h1],h2⟩
  |ret=>exact⟨_,_,by rw[z9q,h1],h2⟩

theorem zrm{c:Opd}{x y:DC}{st:St}{Q}{b:Bool}(h:ym st.sl c=.bool b):wp E (.cond c x y) st Q ↔ (b=true->wp E x st Q)/\(b=false->wp E y st Q):=by
 unfold wp
 rw[z5o,h]
 cases b <;> simp

theorem zql{c:Opd}{x y:DC}{st:St}{Q}:wp E (.ifp c x y) st Q ↔ if yw (ym st.sl c)=true then wp E x st Q else wp E y st Q:=by
 unfold wp
 rw[zh3]
 split <;> exact Iff.rfl

theorem zno{id:Nat}{a:DC}{st:St}{Q}:wp E (.block id a) st Q ↔ wp E a st (fun ex st'=>match ex with | .exit i=>Q (if i=id then .normal else .exit i) st' | ex=>Q ex st'):=by
 constructor
 ·rintro⟨ex,st',h1,h2⟩
  rw[z88] at h1
  cases ha:dL E a st with
  |none=>rw[ha] at h1;simp at h1
  |some r=>
   obtain⟨ex1,st1⟩:=r
   rw[ha] at h1
   refine⟨ex1,st1,ha,?_⟩
   cases ex1 with
   |normal=>simp at h1;obtain⟨rfl,rfl⟩:=h1;exact h2
   |ret=>simp at h1;obtain⟨rfl,rfl⟩:=h1;exact h2
   |exit i=>simp at h1;obtain⟨rfl,rfl⟩:=h1;exact h2
 ·rintro⟨ex,st',h1,h2⟩
  cases ex with
  |normal=>exact⟨_,_,by rw[z88,h1],h2⟩
  |ret=>exact⟨_,_,by rw[z88,h1],h2⟩
  |exit i=>exact⟨_,_,by rw[z88,h1],h2⟩

theorem zk4{ap:List (Nat × Nat)}{ops:List y12}{st:St}{Q}:wp E (.region false ap ops) st Q ↔ wpR E ops st (Q .normal):=by
 unfold wp wpR
 rw[z6o]
 constructor
 ·rintro⟨ex,st',h1,h2⟩
  simp only[ab,aq] at h1
  obtain⟨st1,h3,rfl,rfl⟩:=h1
  exact⟨_,h3,h2⟩
 ·rintro⟨st',h1,h2⟩
  exact⟨_,_,by rw[h1];rfl,h2⟩

theorem zrk{b:DC}{Q:Ex->St->Prop}(I:Nat->St->Prop)
  (step:∀ k st,I k st->wp E b st (fun ex st'=>match ex with | .normal=>∃ k',k'<k/\I k' st' | ex=>Q ex st')):∀(k:Nat) (st:St),I k st->wp E (.loop b) st Q:=by
 intro k
 induction k using Nat.strongRecOn with
 |_ k ih=>
  intro st hI
  obtain⟨ex,st',h1,h2⟩:=step k st hI
  cases ex with
  |normal=>
   obtain⟨k',hk,hI'⟩:=h2
   obtain⟨ex2,st2,h3,h4⟩:=ih k' hk st' hI'
   exact⟨ex2,st2,by rw[zfn,h1];exact h3,h4⟩
  |exit i=>exact⟨_,_,by rw[zfn,h1],h2⟩
  |ret=>exact⟨_,_,by rw[zfn,h1],h2⟩

end
end Dv

namespace Dv

mutual
inductive Xp where
 |v (i:Nat)
 |c (d:D)
 |n (op:DOp) (ks:Xs)
 |ite (c a b:Xp)
inductive Xs where
 |nil
 |cons (s:Nat) (x:Xp) (r:Xs)
end

def kv(n:Nat):List (Nat × D)->D
 |[]=>.undef
 |p::r=>if n=p.1 then p.2 else kv n r

def gOf(vs:List (Nat × D)):Opd->D
 |.t n=>kv n vs
 |.c d=>d
 |.f k=>.fn k []

mutual
def xv(E:Env)(cP:Nat->List D->Option D)(env:List D)(hp:List Obj):Xp->Option D
 |.v i=>env[i]?
 |.c d=>some d
 |.n op ks=>(match xvs E cP env hp ks with
  |some vs=>(match ya E cP 0 (gOf vs) hp op with
   |some e=>some e.d
   |none=>none)
  |none=>none)
 |.ite c a b=>(match xv E cP env hp c with
  |some (.bool true)=>xv E cP env hp a
  |some (.bool false)=>xv E cP env hp b
  |_=>none)
def xvs(E:Env)(cP:Nat->List D->Option D)(env:List D)(hp:List Obj):Xs->Option (List (Nat × D))
 |.nil=>some []
 |.cons s x r=>(match xv E cP env hp x,xvs E cP env hp r with
  |some d,some l=>some ((s,d)::l)
  |_,_=>none)
end

def vop(op:DOp):Bool:=y17 op || (match op with
 |.load _ _=>true
 |.lookup _ _ _ _=>true
 |.len _ _=>true
 |_=>false)

mutual
def y5m(i:Option Nat)(h:Bool):Xp->Bool
 |.v j=>!(i == some j)
 |.c _=>true
 |.n op ks=>(!h || y17 op) && y79 i h ks
 |.ite c a b=>y5m i h c && y5m i h a && y5m i h b
def y79(i:Option Nat)(h:Bool):Xs->Bool
 |.nil=>true
 |.cons _ x r=>y5m i h x && y79 i h r
end

inductive TS where
 |asg (i:Nat) (x:Xp)
 |eff (gd:Option (Xp × Bool)) (dst:Option Nat) (op:DOp) (ks:Xs) (k:Option Nat)

inductive TC where
 |skip
 |ret
 |exit (id:Nat)
 |run (pad:Nat) (l:List TS)
 |seq (a b:TC)
 |cond (i:Nat) (a b:TC)
 |ifp (i:Nat) (a b:TC)
 |dead
 |block (id:Nat) (a:TC)
 |loop (a:TC)
 |rfunc (i:Nat) (ps:List Nat) (a b:TC)
 |chk (l:List (Nat × Nat))


def gdT(E:Env)(cP:Nat->List D->Option D)(env:List D)(hp:List Obj):Option (Xp × Bool)->Option Bool
 |none=>some true
 |some (x,b)=>(match xv E cP env hp x with
  |some (.bool c)=>some (c == b)
  |some _=>some false
  |none=>none)

def y86(env:List D):Option Nat->D->List D
 |none,_=>env
 |some i,d=>env.set i d

def rTS(E:Env)(cP:Nat->List D->Option D)(cS cY:Nat->List D->List Obj->Option (D × List Obj))(base:Nat):List TS->List D->List Obj->Option (List D × List Obj)
 |[],env,hp=>some (env,hp)
 |.asg i x::r,env,hp=>(match xv E cP env hp x with
  |some d=>rTS E cP cS cY base r (env.set i d) hp
  |none=>none)
 |.eff gd dst op ks k::r,env,hp=>(match gdT E cP env hp gd with
  |some true=>(match xvs E cP env hp ks with
   |some vs=>(match yd E cP cS cY (match k with | some k=>base+k | none=>hp.length) (gOf vs) hp op with
    |some (d,hp')=>rTS E cP cS cY base r (y86 env dst d) hp'
    |none=>none)
   |none=>none)
  |some false=>rTS E cP cS cY base r (y86 env dst .undef) hp
  |none=>none)

noncomputable def rTL(E:Env):Nat->List TS->List D->List Obj->Option (List D × List Obj):=rTS E (y1l E (dL E)) (y1h E (dL E)) (y2x (dL E))

def ye5(env:List D)(p:Nat × Nat):Bool:=match env[p.1]?,env[p.2]? with
 |some a,some b=>y7w (did a) (did b)
 |_,_=>false
def yby(env:List D)(l:List (Nat × Nat)):Bool:=l.all (ye5 env)

def yal(L:Bool->Option Ex->Obj):Prop:=∃ sl ps asg body,L=fun b p=>.loop b sl ps asg body p

def wT(E:Env):TC->(Ex->List D->List Obj->Prop)->List D->List Obj->Prop
 |.skip,Q,env,hp=>Q .normal env hp
 |.ret,Q,env,hp=>Q .ret env hp
 |.exit id,Q,env,hp=>Q (.exit id) env hp
 |.run pad l,Q,env,hp=>(match rTL E hp.length l env (hp++af pad .dead) with
  |some (env',hp')=>Q .normal env' hp'
  |none=>False)
 |.chk l,Q,env,hp=>yby env l=true/\Q .normal env hp
 |.seq a b,Q,env,hp=>wT E a (fun ex env' hp'=>match ex with
  |.normal=>wT E b Q env' hp'
  |ex=>Q ex env' hp') env hp
 |.cond i a b,Q,env,hp=>(match env[i]? with
  |some (.bool t)=>if t=true then wT E a Q env hp else wT E b Q env hp
  |_=>False)
 |.ifp i a b,Q,env,hp=>(match env[i]? with
  |some d=>if yw d=true then wT E a Q env hp else wT E b Q env hp
  |none=>False)
 |.dead,_,_,_=>False
 |.block id a,Q,env,hp=>wT E a (fun ex env' hp'=>match ex with
  |.exit i=>Q (if i=id then .normal else .exit i) env' hp'
  |ex=>Q ex env' hp') env hp
 |.loop a,Q,env,hp=>∃(I:Nat->List D->List Obj->Prop) (k:Nat),I k env hp /\ ∀ k env hp,I k env hp->wT E a (fun ex env' hp'=>match ex with
  |.normal=>∃ k',k'<k/\I k' env' hp'
  |ex=>Q ex env' hp') env hp
 |.rfunc i ps a b,Q,env,hp=>∃ k caps,(env[i]?).map (y57 E)=some (.fn k caps) /\ ∀(L:Bool->Option Ex->Obj),yal L ->
  (∀(args:List D) (hp1:List Obj) (K:Bool->List Obj->Prop),args.length=ps.length->hp1[hp.length]? = some (L false none) ->
   wT E a (fun ex env1 hp2=>ex=.normal/\hp2[hp.length]? = some (L false none) /\
    wT E b (fun ex _ hp3=>hp3[hp.length]? = some (L true none)/\(match ex with
     |.normal=>K true (hp3.set hp.length (L false none))
     |ex=>K false (hp3.set hp.length (L false (some ex))))) env1 (hp2.set hp.length (L true none))) (y29 env ps args) hp1 ->
   ∃ t hp2,y2x (dL E) hp.length args hp1=some (.bool t,hp2)/\K t hp2) ->
  ∃ d hp',y1h E (dL E) k (.yld hp.length::caps) (hp++[L false none])=some (d,hp') /\
   ((hp'[hp.length]? = some (L false none)/\Q .normal env (hp'.set hp.length .dead)) \/ ∃ ex,hp'[hp.length]? = some (L false (some ex))/\Q ex env (hp'.set hp.length .dead))


structure SV where
 g:List (Nat × Bool)
 x:Xp

abbrev Ab:=Nat->Option SV

def ybu(a b:List (Nat × Bool)):Bool:=a.all b.contains

def y7u(A:Ab)(G:List (Nat × Bool)):Opd->Option Xp
 |.c d=>some (.c d)
 |.f k=>some (.c (.fn k []))
 |.t s=>(match A s with
  |some sv=>if ybu sv.g G then some sv.x else none
  |none=>none)

def y4p(A:Ab)(G:List (Nat × Bool)):List Opd->Option Xs
 |[]=>some .nil
 |.t s::r=>(match y7u A G (.t s),y4p A G r with
  |some x,some ks=>some (.cons s x ks)
  |_,_=>none)
 |_::r=>y4p A G r

def y7q(A:Ab)(G:List (Nat × Bool))(op:DOp):Option Xp:=
 match op with
 |.move x=>y7u A G x
 |.assign x=>y7u A G x
 |.pick (.t c) a b=>(match y7u A G (.t c),y7u A ((c,true)::G) a,y7u A ((c,false)::G) b with
  |some x,some y,some z=>some (.ite x y z)
  |_,_,_=>none)
 |op=>if vop op then(match y4p A G (yu op) with
  |some ks=>some (.n op ks)
  |none=>none) else none

def y97:Opd->List Nat
 |.t s=>[s]
 |_=>[]

def y5o(G:List (Nat × Bool))(op:DOp):List (Nat × List (Nat × Bool)):=
 match op with
 |.move x=>(y97 x).map fun s=>(s,G)
 |.assign x=>(y97 x).map fun s=>(s,G)
 |.pick (.t c) a b=>(c,G)::((y97 a).map fun s=>(s,(c,true)::G))++((y97 b).map fun s=>(s,(c,false)::G))
 |op=>(yu op).flatMap fun o=>(y97 o).map fun s=>(s,G)

def y8h(G:List (Nat × Bool))(op:DOp):List (Nat × List (Nat × Bool)):=(yu op).flatMap fun o=>(y97 o).map fun s=>(s,G)

def y8l:DOp->Bool
 |.move _=>true
 |.assign _=>true
 |_=>false

def y6p(A:Ab)(i:Option Nat)(h:Bool):Ab:=fun s=>match A s with
 |some sv=>if sv.g.isEmpty && y5m i h sv.x then some sv else none
 |none=>none

def y6i(A:Ab)(s:Nat)(sv:SV):Ab:=fun n=>if n=s then some sv else A n

def y9h(nm:List Nat)(A:Ab):Option Nat->Ab
 |none=>A
 |some d=>y6i A d ⟨[],.v (nm.idxOf d)⟩

def y7c(A:Ab)(i:Option Nat)(h:Bool)(dst:Option Nat)(dm:List (Nat × List (Nat × Bool))):List (Nat × List (Nat × Bool)):=
 dm.filter fun p=>p.2.isEmpty && !(dst == some p.1) && (y6p A i h p.1).isSome

def gdX(A:Ab):Option (Nat × Bool)->Option (Option (Xp × Bool))
 |none=>some none
 |some (j,b)=>(match y7u A [] (.t j) with
  |some x=>some (some (x,b))
  |none=>none)

def y56(A:Ab):Option (Nat × Bool)->Option (List (Nat × Bool))
 |none=>some []
 |some (j,b)=>(match A j with
  |some sv=>some ((j,b)::sv.g)
  |none=>none)

def y99(nm:List Nat)(N:Nat):Option Nat->Bool
 |none=>true
 |some d=>nm.contains d && decide (d<N)

def y91(nm:List Nat)(N:Nat)(dr:Bool):Nat->List y12->Ab->Option (List TS × List (Nat × List (Nat × Bool)))
 |_,[],_=>some ([],[])
 |pos,o::os,A=>
  if vop o.op then
   (match o.dst,y56 A o.gd with
   |some d,some G=>(match y7q A G o.op with
    |some x=>
     if nm.contains d then
      (if G.isEmpty && decide (d<N) then
       (match y91 nm N dr (pos+1) os (y9h nm (y6p A (some (nm.idxOf d)) false) (some d)) with
       |some (ts,dm)=>some (.asg (nm.idxOf d) x::ts,y5o [] o.op++y7c A (some (nm.idxOf d)) false (some d) dm)
       |none=>none) else none)
     else
      (if(A d).isNone && decide (d<N) then
       (match y91 nm N dr (pos+1) os (y6i A d ⟨G,x⟩) with
       |some (ts,dm)=>
        if dm.any (fun p=>p.1 == d && ybu p.2 G) then some (ts,y5o G o.op++dm.filter fun p=>!(p.1 == d))
        else if y8l o.op then some (ts,dm.filter fun p=>!(p.1 == d)) else none
       |none=>none) else none)
    |none=>none)
   |_,_=>none)
  else
   (if y99 nm N o.dst then
    (match gdX A o.gd,y4p A o.gd.toList (yu o.op) with
    |some gd,some ks=>(match y91 nm N dr (pos+1) os (y9h nm (y6p A (o.dst.map nm.idxOf) true) o.dst) with
     |some (ts,dm)=>some (.eff gd (o.dst.map nm.idxOf) o.op ks (if dr then some pos else none)::ts,
       y8h o.gd.toList o.op++y7c A (o.dst.map nm.idxOf) true o.dst dm)
     |none=>none)
    |_,_=>none) else none)

def y8f(nm:List Nat):Ab:=fun s=>if nm.contains s then some ⟨[],.v (nm.idxOf s)⟩ else none

def y98(nm:List Nat):Opd->Option (Option Nat)
 |.t s=>if nm.contains s then some (some (nm.idxOf s)) else none
 |.c d=>if(did d).isNone then some none else none
 |.f _=>some none

def y96(nm:List Nat)(x y:Opd):Option (List (Nat × Nat)):=match y98 nm x,y98 nm y with
 |some (some i),some (some j)=>some [(i,j)]
 |some (some _),some none=>some []
 |some none,some _=>some []
 |_,_=>none

def y8k{A:Type}:List (Option (List A))->Option (List A)
 |[]=>some []
 |x::r=>(match x,y8k r with
  |some a,some b=>some (a++b)
  |_,_=>none)

def apX1(nm:List Nat)(a b:Option y12):Option (List (Nat × Nat)):=match a,b with
 |some a,some b=>y8k ((y1b a.op).flatMap fun x=>(y1b b.op).map fun y=>y96 nm x y)
 |_,_=>none

def apX(nm:List Nat)(ops:List y12)(ap:List (Nat × Nat)):Option (List (Nat × Nat)):=y8k (ap.map fun p=>apX1 nm ops[p.1]? ops[p.2]?)

def y2b(nm:List Nat)(N:Nat):DC->Option TC
 |.skip=>some .skip
 |.ret=>some .ret
 |.exit id=>some (.exit id)
 |.region dr ap ops=>(match y91 nm N dr 0 ops (y8f nm) with
  |some (ts,_)=>if dr && !ap.isEmpty then(match apX nm ops ap with
    |some l=>some (.seq (.run ops.length ts) (.chk l))
    |none=>none)
   else some (.run (if dr then ops.length else 0) ts)
  |none=>none)
 |.seq a b=>(match y2b nm N a,y2b nm N b with
  |some x,some y=>some (.seq x y)
  |_,_=>none)
 |.cond (.t k) a b=>if nm.contains k then(match y2b nm N a,y2b nm N b with
  |some x,some y=>some (.cond (nm.idxOf k) x y)
  |_,_=>none) else none
 |.cond (.c .undef) _ _=>some .dead
 |.ifp (.t k) a b=>if nm.contains k then(match y2b nm N a,y2b nm N b with
  |some x,some y=>some (.ifp (nm.idxOf k) x y)
  |_,_=>none) else none
 |.block id a=>(match y2b nm N a with
  |some x=>some (.block id x)
  |none=>none)
 |.loop a=>(match y2b nm N a with
  |some x=>some (.loop x)
  |none=>none)
 |.rfunc (.t f) ps a b=>if nm.contains f && ps.all (fun p=>nm.contains p && decide (p<N)) then(match y2b nm N a,y2b nm N b with
  |some x,some y=>some (.rfunc (nm.idxOf f) (ps.map nm.idxOf) x y)
  |_,_=>none) else none
 |_=>none

end Dv

namespace Dv

section
variable{E:Env}{cP:Nat->List D->Option D}{cS cY:Nat->List D->List Obj->Option (D × List Obj)}{env env':List D}{hp hp':List Obj}{A:Ab}{N:Nat}{nm:List Nat}{sl:List D}

theorem zrv{op:DOp}(h:vop op=true):op.fin=false:=by
 unfold vop at h
 rw[bP] at h
 rcases h with h | h
 ·exact z6f h
 ·cases op <;> first | rfl | simp at h

theorem zuj{op:DOp}{id id':Nat}{g:Opd->D}(h:vop op=true):ya E cP id g hp op=ya E cP id' g hp op:=by
 unfold vop at h
 rw[bP] at h
 rcases h with h | h
 ·exact z6z h
 ·cases op <;> first | rfl | simp at h

theorem znq{op:DOp}{id:Nat}{g:Opd->D}{e:Ef}(h:vop op=true)(hp:ya E cP id g hp op=some e):e.new=none/\e.kill=none:=by
 unfold vop at h
 rw[bP] at h
 rcases h with h | h
 ·exact z71 h hp
 ·cases op <;> first
   |(simp at h;done)
   |(simp only[ya,ab] at hp;obtain⟨_,_,rfl⟩:=hp;exact⟨rfl,rfl⟩)

theorem zg1{op:DOp}{id:Nat}{g:Opd->D}{e:Ef}(h:vop op=true)(he:ya E cP id g hp op=some e):yd E cP cS cY id g hp op=some (e.d,hp):=by
 obtain⟨h1,h2⟩:=znq h he
 unfold yd
 rw[zrv h]
 simp only[he,ao,yg,h1,h2]

mutual
theorem z2v{i:Option Nat}{h:Bool}(hh:h=false->hp'=hp)(he:∀ j,some j ≠ i->env'[j]? = env[j]?):∀(x:Xp),y5m i h x=true->xv E cP env' hp' x=xv E cP env hp x
 |.v j,hk=>by
  simp only[y5m,bJ,beq_eq_false_iff_ne] at hk
  simp only[xv]
  exact he j (fun e=>hk e.symm)
 |.c d,_=>by simp only[xv]
 |.n op ks,hk=>by
  simp only[y5m,ai,bP,bJ] at hk
  simp only[xv,z8d hh he ks hk.2]
  rcases hk.1 with h1 | h1
  ·rw[hh h1]
  ·simp only[z6z (hp:=hp') (hp':=hp) (id':=0) h1]
 |.ite c a b,hk=>by
  simp only[y5m,ai] at hk
  simp only[xv,z2v hh he c hk.1.1,z2v hh he a hk.1.2,z2v hh he b hk.2]
theorem z8d{i:Option Nat}{h:Bool}(hh:h=false->hp'=hp)(he:∀ j,some j ≠ i->env'[j]? = env[j]?):∀(ks:Xs),y79 i h ks=true->xvs E cP env' hp' ks=xvs E cP env hp ks
 |.nil,_=>by simp only[xvs]
 |.cons s x r,hk=>by
  simp only[y79,ai] at hk
  simp only[xvs,z2v hh he x hk.1,z8d hh he r hk.2]
end

def gok(E:Env)(cP:Nat->List D->Option D)(env:List D)(hp:List Obj)(A:Ab)(G:List (Nat × Bool)):Prop:=
 ∀ p,p ∈ G->∃ sv,A p.1=some sv/\xv E cP env hp sv.x=some (.bool p.2)

theorem z38:gok E cP env hp A []:=fun p hp=>by cases hp

theorem zfd{g G:List (Nat × Bool)}(h:ybu g G=true)(hG:gok E cP env hp A G):gok E cP env hp A g:=fun p hp=>
 hG p (by simpa using ay.1 h p hp)

theorem z2t{p:Nat × Bool}{G:List (Nat × Bool)}:gok E cP env hp A (p::G) ↔ (∃ sv,A p.1=some sv/\xv E cP env hp sv.x=some (.bool p.2))/\gok E cP env hp A G:=by
 constructor
 ·exact fun h=>⟨h p (by simp),fun q hq=>h q (by simp[hq])⟩
 ·rintro⟨h1,h2⟩ q hq
  rcases az.1 hq with rfl | hq
  ·exact h1
  ·exact h2 q hq

structure y82(E:Env)(cP:Nat->List D->Option D)(A:Ab)(N:Nat)(env:List D)(hp:List Obj)(sl:List D):Prop where
 len:sl.length=N
 ok:∀ s sv,A s=some sv->s<N/\(gok E cP env hp A sv.g->xv E cP env hp sv.x=some (sl.getD s .undef))/\(¬ gok E cP env hp A sv.g->sl.getD s .undef=.undef)
 cl:∀ s sv,A s=some sv->∀ p,p ∈ sv.g->A p.1 ≠ none

theorem z65(R:y82 E cP A N env hp sl){G:List (Nat × Bool)}{o:Opd}{x:Xp}(h:y7u A G o=some x)(hG:gok E cP env hp A G):xv E cP env hp x=some (ym sl o):=by
 cases o with
 |c d=>simp only[y7u,aa] at h;subst h;simp only[xv,ym]
 |f k=>simp only[y7u,aa] at h;subst h;simp only[xv,ym]
 |t s=>
  simp only[y7u] at h
  split at h
  ·rename_i sv hs
   split at h
   ·rename_i hg
    simp only[aa] at h;subst h
    exact(R.ok s sv hs).2.1 (zfd hg hG)
   ·cases h
  ·cases h

theorem zbs{G:List (Nat × Bool)}{s:Nat}{x:Xp}(h:y7u A G (.t s)=some x):∃ sv,A s=some sv/\sv.x=x/\ybu sv.g G=true:=by
 simp only[y7u] at h
 split at h
 ·rename_i sv hs
  split at h
  ·rename_i hg
   simp only[aa] at h
   exact⟨sv,hs,h,hg⟩
  ·cases h
 ·cases h

theorem ydv{vs:List (Nat × D)}{f:Nat->D}(h:∀ p,p ∈ vs->p.2=f p.1){s:Nat}(hs:s ∈ vs.map (·.1)):kv s vs=f s:=by
 induction vs with
 |nil=>cases hs
 |cons p r ih=>
  simp only[kv]
  by_cases e:s=p.1
  ·rw[if_pos e,h p (by simp),e]
  ·rw[if_neg e]
   refine ih (fun q hq=>h q (by simp[hq])) ?_
   simp only[av,az] at hs
   exact hs.resolve_left e

theorem z99(R:y82 E cP A N env hp sl){G:List (Nat × Bool)}(hG:gok E cP env hp A G):∀{os:List Opd} {ks:Xs},y4p A G os=some ks ->
  ∃ vs,xvs E cP env hp ks=some vs/\(∀ p,p ∈ vs->p.2=sl.getD p.1 .undef) /\ ∀ s,.t s ∈ os->s ∈ vs.map (·.1)
 |[],ks,h=>by
  simp only[y4p,aa] at h;subst h
  exact⟨[],by simp only[xvs],(fun p hq=>by cases hq),(fun s hs=>by cases hs)⟩
 |.t s::r,ks,h=>by
  simp only[y4p] at h
  split at h
  ·rename_i x k h1 h2
   simp only[aa] at h;subst h
   obtain⟨vs,e1,e2,e3⟩:=z99 R hG h2
   refine⟨(s,sl.getD s .undef)::vs,by simp only[xvs,z65 R h1 hG,e1,ym],?_,?_⟩
   ·intro p hq
    rcases az.1 hq with rfl | hq
    ·rfl
    ·exact e2 p hq
   ·intro s' hs'
    rcases az.1 hs' with e | hs'
    ·simp only[Opd.t.injEq] at e;subst e;simp
    ·exact List.mem_cons_of_mem _ (e3 s' hs')
  ·cases h
 |.c d::r,ks,h=>by
  simp only[y4p] at h
  obtain⟨vs,e1,e2,e3⟩:=z99 R hG h
  exact⟨vs,e1,e2,fun s hs=>by
   rcases az.1 hs with e | hs
   ·cases e
   ·exact e3 s hs⟩
 |.f k::r,ks,h=>by
  simp only[y4p] at h
  obtain⟨vs,e1,e2,e3⟩:=z99 R hG h
  exact⟨vs,e1,e2,fun s hs=>by
   rcases az.1 hs with e | hs
   ·cases e
   ·exact e3 s hs⟩

theorem zr0{vs:List (Nat × D)}{os:List Opd}(h:∀ p,p ∈ vs->p.2=sl.getD p.1 .undef)(h':∀ s,.t s ∈ os->s ∈ vs.map (·.1)):∀ o,o ∈ os->gOf vs o=ym sl o:=by
 intro o ho
 cases o with
 |c d=>rfl
 |f k=>rfl
 |t s=>
  unfold gOf ym
  simp only
  exact ydv (f:=fun s=>sl.getD s .undef) h (h' s ho)

theorem z4n{G:List (Nat × Bool)}:∀{os:List Opd} {ks:Xs} {vs:List (Nat × D)},y4p A G os=some ks->xvs E cP env hp ks=some vs->∀ s,.t s ∈ os->∃ sv,A s=some sv /\ ∃ d,xv E cP env hp sv.x=some d
 |[],ks,vs,h,hv,s,hs=>by cases hs
 |.t s'::r,ks,vs,h,hv,s,hs=>by
  simp only[y4p] at h
  split at h
  ·rename_i x k h1 h2
   simp only[aa] at h;subst h
   simp only[xvs] at hv
   split at hv
   ·rename_i d l e1 e2
    rcases az.1 hs with e | hs
    ·simp only[Opd.t.injEq] at e;subst e
     obtain⟨sv,g1,g2,_⟩:=zbs h1
     exact⟨sv,g1,d,by rw[g2];exact e1⟩
    ·exact z4n h2 e2 s hs
   ·cases hv
  ·cases h
 |.c d::r,ks,vs,h,hv,s,hs=>by
  simp only[y4p] at h
  rcases az.1 hs with e | hs
  ·cases e
  ·exact z4n h hv s hs
 |.f d::r,ks,vs,h,hv,s,hs=>by
  simp only[y4p] at h
  rcases az.1 hs with e | hs
  ·cases e
  ·exact z4n h hv s hs

theorem zqo(R:y82 E cP A N env hp sl){G:List (Nat × Bool)}{op:DOp}{x:Xp}{d:D}{id:Nat}(h:y7q A G op=some x)(hG:gok E cP env hp A G)(hx:xv E cP env hp x=some d) :
  ∃ e,ya E cP id (ym sl) hp op=some e/\e.d=d:=by
 unfold y7q at h
 split at h
 ·rw[z65 R h hG] at hx
  exact⟨_,rfl,by simpa using hx⟩
 ·rw[z65 R h hG] at hx
  exact⟨_,rfl,by simpa using hx⟩
 ·rename_i c a b
  split at h
  ·rename_i xc xa xb h1 h2 h3
   simp only[aa] at h;subst h
   have e1:=z65 R h1 hG
   obtain⟨sv,g1,g2,_⟩:=zbs h1
   simp only[xv,e1] at hx
   split at hx
   ·rename_i hb
    simp only[aa] at hb
    have hG':gok E cP env hp A ((c,true)::G):=z2t.2 ⟨⟨sv,g1,by rw[g2,e1,hb]⟩,hG⟩
    rw[z65 R h2 hG'] at hx
    exact⟨⟨ym sl a,none,none⟩,by simp only[ya,hb,if_true],by simpa using hx⟩
   ·rename_i hb
    simp only[aa] at hb
    have hG':gok E cP env hp A ((c,false)::G):=z2t.2 ⟨⟨sv,g1,by rw[g2,e1,hb]⟩,hG⟩
    rw[z65 R h3 hG'] at hx
    exact⟨⟨ym sl b,none,none⟩,by simp only[ya,hb,aM,if_false],by simpa using hx⟩
   ·cases hx
  ·cases h
 ·split at h
  ·rename_i hv
   split at h
   ·rename_i ks hk
    simp only[aa] at h;subst h
    obtain⟨vs,e1,e2,e3⟩:=z99 R hG hk
    simp only[xv,e1] at hx
    split at hx
    ·rename_i e he
     rw[z3e (zr0 e2 e3)] at he
     rw[zuj hv] at he
     exact⟨e,he,by simpa using hx⟩
    ·cases hx
   ·cases h
  ·cases h

theorem z4y{o:Opd}{s:Nat}:s ∈ y97 o ↔ o=.t s:=by
 cases o <;> simp[y97,eq_comm]

theorem zge{G:List (Nat × Bool)}{op:DOp}{x:Xp}{d:D}(h:y7q A G op=some x)(hx:xv E cP env hp x=some d) :
  ∀ p,p ∈ y5o G op->gok E cP env hp A p.2->∀ sv,A p.1=some sv->∃ d,xv E cP env hp sv.x=some d:=by
 intro p hm hg sv hs
 unfold y7q at h
 split at h
 ·simp only[y5o,aT] at hm
  obtain⟨s,h1,rfl⟩:=hm
  rw[z4y] at h1;subst h1
  obtain⟨sv',g1,g2,_⟩:=zbs h
  rw[hs] at g1;simp only[aa] at g1;subst g1
  exact⟨d,by rw[g2];exact hx⟩
 ·simp only[y5o,aT] at hm
  obtain⟨s,h1,rfl⟩:=hm
  rw[z4y] at h1;subst h1
  obtain⟨sv',g1,g2,_⟩:=zbs h
  rw[hs] at g1;simp only[aa] at g1;subst g1
  exact⟨d,by rw[g2];exact hx⟩
 ·rename_i c a b
  split at h
  ·rename_i xc xa xb h1 h2 h3
   simp only[aa] at h;subst h
   simp only[y5o,aS,az,aT] at hm
   obtain⟨svc,g1,g2,_⟩:=zbs h1
   simp only[xv] at hx
   have hc:∃ t,xv E cP env hp xc=some (.bool t):=by
    split at hx
    ·exact⟨_,by assumption⟩
    ·exact⟨_,by assumption⟩
    ·cases hx
   obtain⟨t,ht⟩:=hc
   rcases hm with(rfl | ⟨s,hs',rfl⟩) | ⟨s,hs',rfl⟩
   ·rw[hs] at g1;simp only[aa] at g1;subst g1
    exact⟨_,by rw[g2];exact ht⟩
   ·rw[z4y] at hs';subst hs'
    obtain⟨sva,q1,q2,_⟩:=zbs h2
    rw[hs] at q1;simp only[aa] at q1;subst q1
    obtain⟨⟨sv2,r1,r2⟩,_⟩:=z2t.1 hg
    simp only at r1 r2
    rw[g1] at r1;simp only[aa] at r1;subst r1
    rw[g2,ht] at r2
    simp only[aa,D.bool.injEq] at r2;subst r2
    rw[ht] at hx
    exact⟨d,by rw[q2];exact hx⟩
   ·rw[z4y] at hs';subst hs'
    obtain⟨sva,q1,q2,_⟩:=zbs h3
    rw[hs] at q1;simp only[aa] at q1;subst q1
    obtain⟨⟨sv2,r1,r2⟩,_⟩:=z2t.1 hg
    simp only at r1 r2
    rw[g1] at r1;simp only[aa] at r1;subst r1
    rw[g2,ht] at r2
    simp only[aa,D.bool.injEq] at r2;subst r2
    rw[ht] at hx
    exact⟨d,by rw[q2];exact hx⟩
  ·cases h
 ·rename_i hm1 hm2 hm3
  split at h
  ·rename_i hv
   split at h
   ·rename_i ks hk
    simp only[aa] at h;subst h
    have hn:y5o G op=(yu op).flatMap fun o=>(y97 o).map fun s=>(s,G):=by
     unfold y5o
     split
     ·exact absurd rfl (hm1 _)
     ·exact absurd rfl (hm2 _)
     ·exact absurd rfl (hm3 _ _ _)
     ·rfl
    rw[hn] at hm
    simp only[bF,aT] at hm
    obtain⟨o,h1,s,h2,rfl⟩:=hm
    rw[z4y] at h2;subst h2
    simp only[xv] at hx
    split at hx
    ·rename_i vs e1
     obtain⟨sv',q1,q2⟩:=z4n hk e1 s h1
     rw[hs] at q1;simp only[aa] at q1;subst q1
     exact q2
    ·cases hx
   ·cases h
  ·cases h

theorem zsp{G:List (Nat × Bool)}{op:DOp}:∀ p,p ∈ y5o G op->gok E cP env hp A p.2->gok E cP env hp A G:=by
 intro p hm hg
 unfold y5o at hm
 split at hm
 ·simp only[aT] at hm
  obtain⟨s,_,rfl⟩:=hm;exact hg
 ·simp only[aT] at hm
  obtain⟨s,_,rfl⟩:=hm;exact hg
 ·simp only[aS,az,aT] at hm
  rcases hm with(rfl | ⟨s,_,rfl⟩) | ⟨s,_,rfl⟩
  ·exact hg
  ·exact(z2t.1 hg).2
  ·exact(z2t.1 hg).2
 ·simp only[bF,aT] at hm
  obtain⟨o,_,s,_,rfl⟩:=hm;exact hg

def Dem(E:Env)(cP:Nat->List D->Option D)(env:List D)(hp:List Obj)(A:Ab)(dm:List (Nat × List (Nat × Bool))):Prop:=
 ∀ p,p ∈ dm->gok E cP env hp A p.2->∀ sv,A p.1=some sv->∃ d,xv E cP env hp sv.x=some d

theorem zat{i:Option Nat}{h:Bool}{s:Nat}{sv:SV}(hk:y6p A i h s=some sv):A s=some sv/\sv.g=[]/\y5m i h sv.x=true:=by
 unfold y6p at hk
 split at hk
 ·rename_i sv' hs
  split at hk
  ·rename_i hc
   simp only[aa] at hk;subst hk
   simp only[ai,eQ] at hc
   exact⟨hs,hc.1,hc.2⟩
  ·cases hk
 ·cases hk

theorem zsg{o:Option Nat}{s:Nat}(h:∀ d,o=some d->s ≠ d):y9h nm A o s=A s:=by
 cases o with
 |none=>rfl
 |some d=>simp only[y9h,y6i];rw[if_neg (h d rfl)]

theorem z6h{d:Nat}{sv:SV}{G:List (Nat × Bool)}(hd:A d=none)(h:gok E cP env hp A G):gok E cP env hp (y6i A d sv) G:=by
 intro p hm
 obtain⟨s,h1,h2⟩:=h p hm
 refine⟨s,?_,h2⟩
 unfold y6i
 rw[if_neg (fun e=>by rw[e,hd] at h1;cases h1)]
 exact h1

theorem z9a{i dst:Option Nat}{h:Bool}{dm:List (Nat × List (Nat × Bool))}(hh:h=false->hp'=hp)(he:∀ j,some j ≠ i->env'[j]? = env[j]?)
  (D1:Dem E cP env' hp' (y9h nm (y6p A i h) dst) dm):Dem E cP env hp A (y7c A i h dst dm):=by
 intro p hm hg sv hs
 simp only[y7c,iN,ai,eQ,bJ,beq_eq_false_iff_ne] at hm
 obtain⟨h1,⟨h2,h3⟩,h4⟩:=hm
 obtain⟨sv',h5⟩:=Option.isSome_iff_exists.1 h4
 obtain⟨k1,k2,k3⟩:=zat h5
 rw[hs] at k1;simp only[aa] at k1;subst k1
 obtain⟨d,hd⟩:=D1 p h1 (by rw[h2];exact z38) sv (by
  rw[zsg (fun d hd e=>h3 (by rw[hd,e]))];exact h5)
 exact⟨d,by rw[<- z2v hh he sv.x k3];exact hd⟩

theorem z8p{i:Nat}{d:D}:∀ j,some j ≠ some i->(env.set i d)[j]? = env[j]?:=fun j h=>by
 rw[aY (fun e=>h (by rw[e]))]

theorem zah{i:Option Nat}{d:D}:∀ j,some j ≠ i->(y86 env i d)[j]? = env[j]?:=by
 cases i with
 |none=>intro j _;rfl
 |some i=>exact z8p

theorem zi2{G:List (Nat × Bool)}{op:DOp}{p:Nat × List (Nat × Bool)}(h:p ∈ y8h G op):p.2=G /\ .t p.1 ∈ yu op:=by
 simp only[y8h,bF,aT] at h
 obtain⟨o,h1,s,h2,rfl⟩:=h
 rw[z4y] at h2;subst h2
 exact⟨rfl,h1⟩

theorem z9o{base:Nat}{dr:Bool}:∀{os:List y12} {pos:Nat} {A:Ab} {ts:List TS} {dm:List (Nat × List (Nat × Bool))},y91 nm N dr pos os A=some (ts,dm) ->
  ∀{env:List D} {hp:List Obj} {r:List D × List Obj},rTS E cP cS cY base ts env hp=some r->Dem E cP env hp A dm
 |[],pos,A,ts,dm,hc,env,hp,r,hr=>by
  simp only[y91,aa,aq] at hc
  obtain⟨_,rfl⟩:=hc
  intro p hm;cases hm
 |o::os,pos,A,ts,dm,hc,env,hp,r,hr=>by
  simp only[y91] at hc
  split at hc
  ·rename_i hv
   split at hc
   ·rename_i d G hd hG
    split at hc
    ·rename_i x hx
     split at hc
     ·split at hc
      ·rename_i hcond
       simp only[ai,eQ] at hcond
       split at hc
       ·rename_i ts' dm' hc'
        simp only[aa,aq] at hc
        obtain⟨rfl,rfl⟩:=hc
        simp only[rTS] at hr
        split at hr
        ·rename_i v hxv
         have IH:=z9o hc' hr
         intro p hm hg sv hs
         rcases aS.1 hm with hm | hm
         ·exact zge (G:=[]) (by rw[hcond.1] at hx;exact hx) hxv p hm hg sv hs
         ·exact z9a (fun _=>rfl) z8p IH p hm hg sv hs
        ·cases hr
       ·cases hc
      ·cases hc
     ·split at hc
      ·rename_i hcond
       simp only[ai,fC] at hcond
       split at hc
       ·rename_i ts' dm' hc'
        have filt:Dem E cP env hp (y6i A d ⟨G,x⟩) dm'->Dem E cP env hp A (dm'.filter fun p=>!(p.1 == d)):=by
         intro IH p hm hg sv hs
         simp only[iN,bJ,beq_eq_false_iff_ne] at hm
         exact IH p hm.1 (z6h hcond.1 hg) sv (by unfold y6i;rw[if_neg hm.2];exact hs)
        split at hc
        ·rename_i hany
         simp only[aa,aq] at hc
         obtain⟨rfl,rfl⟩:=hc
         have IH:=z9o hc' hr
         intro p hm hg sv hs
         rcases aS.1 hm with hm | hm
         ·obtain⟨q,q1,q2⟩:=ip.1 hany
          simp only[ai,beq_iff_eq] at q2
          have hG1:gok E cP env hp A G:=zsp p hm hg
          obtain⟨v,hxv⟩:=IH q q1 (zfd q2.2 (z6h hcond.1 hG1)) ⟨G,x⟩ (by unfold y6i;rw[if_pos q2.1])
          exact zge hx hxv p hm hg sv hs
         ·exact filt IH p hm hg sv hs
        ·split at hc
         ·simp only[aa,aq] at hc
          obtain⟨rfl,rfl⟩:=hc
          exact filt (z9o hc' hr)
         ·cases hc
       ·cases hc
      ·cases hc
    ·cases hc
   ·cases hc
  ·split at hc
   ·split at hc
    ·rename_i gd ks hgd hks
     split at hc
     ·rename_i ts' dm' hc'
      simp only[aa,aq] at hc
      obtain⟨rfl,rfl⟩:=hc
      simp only[rTS] at hr
      intro p hm hg sv hs
      rcases aS.1 hm with hm | hm
      ·obtain⟨n1,n2⟩:=zi2 hm
       -- the guard holds
       have hgt:gdT E cP env hp gd=some true:=by
        cases hog:o.gd with
        |none=>rw[hog] at hgd;simp only[gdX,aa] at hgd;subst hgd;rfl
        |some q=>
         obtain⟨j,b⟩:=q
         rw[hog] at hgd n1
         simp only[gdX] at hgd
         split at hgd
         ·rename_i xg hxg
          simp only[aa] at hgd;subst hgd
          obtain⟨svj,g1,g2,_⟩:=zbs hxg
          rw[n1] at hg
          obtain⟨sv2,r1,r2⟩:=hg (j,b) (by simp)
          simp only at r1 r2
          rw[g1] at r1;simp only[aa] at r1;subst r1
          rw[g2] at r2
          simp only[gdT,r2,beq_self_eq_true]
         ·cases hgd
       rw[hgt] at hr
       simp only at hr
       split at hr
       ·rename_i vs e1
        obtain⟨sv',q1,q2⟩:=z4n hks e1 p.1 n2
        rw[hs] at q1;simp only[aa] at q1;subst q1
        exact q2
       ·cases hr
      ·split at hr
       ·split at hr
        ·split at hr
         ·exact z9a (fun h=>by cases h) zah (z9o hc' hr) p hm hg sv hs
         ·cases hr
        ·cases hr
       ·exact z9a (fun h=>by cases h) zah (z9o hc' hr) p hm hg sv hs
       ·cases hr
     ·cases hc
    ·cases hc
   ·cases hc

end
end Dv

namespace Dv

section
variable{E:Env}{cP:Nat->List D->Option D}{cS cY:Nat->List D->List Obj->Option (D × List Obj)}{env env':List D}{hp hp':List Obj}{A:Ab}{N:Nat}{nm:List Nat}{sl:List D}

def y5c(nm:List Nat)(env sl:List D):Prop:=env.length=nm.length /\ ∀(i s:Nat),nm[i]? = some s->env[i]? = some (sl.getD s .undef)

theorem y5c.get(S:y5c nm env sl){s:Nat}(h:nm.contains s=true):nm.idxOf s<env.length/\env[nm.idxOf s]? = some (sl.getD s .undef):=by
 have hm:s ∈ nm:=by simpa using h
 have hlt:=gV hm
 refine⟨by rw[S.1];exact hlt,S.2 _ _ ?_⟩
 rw[ae hlt]
 simp

theorem z9f{n:Nat}{d e:D}(h:n<sl.length):(sl.set n d).getD n e=d:=by
 rw[ah,aQ h];rfl

theorem y5c.set(nd:nm.Nodup)(S:y5c nm env sl){s:Nat}{d:D}(h:nm.contains s=true)(hs:s<sl.length):y5c nm (env.set (nm.idxOf s) d) (sl.set s d):=by
 have hm:s ∈ nm:=by simpa using h
 have hlt:=gV hm
 refine⟨by simpa using S.1,fun i s' h'=>?_⟩
 by_cases e:i=nm.idxOf s
 ·subst e
  have:s'=s:=by
   rw[ae hlt] at h'
   simp at h';exact h'.symm
  subst this
  rw[aQ (by rw[S.1];exact hlt),z9f hs]
 ·rw[aY (eJ e)]
  have hne:s ≠ s':=by
   rintro rfl
   apply e
   have hi:=(ac.1 h').1
   have h1:nm[i]=s:=(ac.1 h').2
   have h2:nm[nm.idxOf s]=s:=by simp
   exact(List.getElem_inj nd).1 (h1.trans h2.symm)
  rw[getD_set_ne hne]
  exact S.2 i s' h'

theorem y5c.other(S:y5c nm env sl){s:Nat}{d:D}(h:nm.contains s=false):y5c nm env (sl.set s d):=by
 refine⟨S.1,fun i s' h'=>?_⟩
 have hne:s ≠ s':=by
  rintro rfl
  have:=bg h'
  simp at h;exact h this
 rw[getD_set_ne hne];exact S.2 i s' h'

theorem zkg(hl:sl.length=N)(hN:nm.all (fun s=>decide (s<N))=true)(S:y5c nm env sl):y82 E cP (y8f nm) N env hp sl:=by
 refine⟨hl,fun s sv h=>?_,fun s sv h p hp=>?_⟩
 all_goals unfold y8f at h
 all_goals split at h
 rotate_left 2
 ·simp only[aa] at h;subst h;cases hp
 ·cases h
 ·rename_i hc
  simp only[aa] at h;subst h
  have hm:s ∈ nm:=by simpa using hc
  refine⟨by simpa using ay.1 hN s hm,fun _=>?_,fun h=>absurd z38 h⟩
  simp only[xv]
  exact(S.get hc).2
 ·cases h

def y5n(dr:Bool)(E:Env)(cP:Nat->List D->Option D)(cS cY:Nat->List D->List Obj->Option (D × List Obj))(id:Nat)(os:List y12)(st:St):Option St:=
 if dr then yy E cP cS cY id os st else ye E cP cS cY os st

theorem zhh{dr:Bool}{id:Nat}{o:y12}{os:List y12}{st:St}:y5n dr E cP cS cY id (o::os) st =
  (if yh st.sl o.gd then
   (match yd E cP cS cY (if dr then id else st.hp.length) (ym st.sl) st.hp o.op with
   |some (d,hp)=>y5n dr E cP cS cY (id+1) os ⟨y1y st.sl o.dst d,hp⟩
   |none=>none)
  else y5n dr E cP cS cY (id+1) os ⟨y1y st.sl o.dst .undef,st.hp⟩):=by
 cases dr with
 |true=>simp only[y5n,if_true,yy];rfl
 |false=>simp only[y5n,aM,if_false,ye];rfl

theorem ziw(R:y82 E cP A N env hp sl){gd:Option (Nat × Bool)}{G:List (Nat × Bool)}(h:y56 A gd=some G):yh sl gd=true ↔ gok E cP env hp A G:=by
 cases gd with
 |none=>
  simp only[y56,aa] at h;subst h
  exact⟨fun _=>z38,fun _=>rfl⟩
 |some p=>
  obtain⟨j,b⟩:=p
  simp only[y56] at h
  split at h
  ·rename_i sv hj
   simp only[aa] at h;subst h
   obtain⟨_,k1,k2⟩:=R.ok j sv hj
   constructor
   ·intro hw
    unfold yh at hw
    simp only at hw
    by_cases hg:gok E cP env hp A sv.g
    ·refine z2t.2 ⟨⟨sv,hj,?_⟩,hg⟩
     rw[k1 hg]
     split at hw
     ·rename_i c hc
      rw[hc]
      simp only[beq_iff_eq] at hw;rw[hw]
     ·cases hw
    ·rw[k2 hg] at hw;simp at hw
   ·intro hG
    obtain⟨⟨sv',h1,h2⟩,h3⟩:=z2t.1 hG
    simp only at h1 h2
    rw[hj] at h1;simp only[aa] at h1;subst h1
    rw[k1 h3] at h2
    simp only[aa] at h2
    unfold yh
    simp only[h2,beq_self_eq_true]
  ·cases h

theorem z83(R:y82 E cP A N env hp sl){i:Option Nat}{h:Bool}(hh:h=false->hp'=hp)(he:∀ j,some j ≠ i->env'[j]? = env[j]?){s:Nat}{sv:SV}(hk:y6p A i h s=some sv) :
  s<N/\sv.g=[]/\xv E cP env' hp' sv.x=some (sl.getD s .undef):=by
 obtain⟨k1,k2,k3⟩:=zat hk
 obtain⟨h1,h2,_⟩:=R.ok s sv k1
 exact⟨h1,k2,by rw[z2v hh he sv.x k3];exact h2 (by rw[k2];exact z38)⟩

theorem zbq(nd:nm.Nodup)(R:y82 E cP A N env hp sl)(S:y5c nm env sl){dst:Option Nat}{h:Bool}{d:D}(hh:h=false->hp'=hp)(hd:y99 nm N dst=true) :
  y82 E cP (y9h nm (y6p A (dst.map nm.idxOf) h) dst) N (y86 env (dst.map nm.idxOf) d) hp' (y1y sl dst d)/\y5c nm (y86 env (dst.map nm.idxOf) d) (y1y sl dst d):=by
 cases dst with
 |none=>
  refine⟨⟨R.len,fun s sv hs=>?_,fun s sv hs p hp=>?_⟩,S⟩
  rotate_left
  ·obtain⟨_,h2,_⟩:=z83 (env':=env) R hh (fun _ _=>rfl) hs
   rw[h2] at hp;cases hp
  obtain⟨h1,h2,h3⟩:=z83 (env':=env) R hh (fun _ _=>rfl) hs
  exact⟨h1,fun _=>h3,fun hn=>absurd (by rw[h2];exact z38) hn⟩
 |some n=>
  simp only[y99,ai,decide_eq_true_eq] at hd
  have hlen:n<sl.length:=by rw[R.len];exact hd.2
  have S':=S.set nd (d:=d) hd.1 hlen
  refine⟨⟨by simp[y1y,R.len],fun s sv hs=>?_,fun s sv hs p hp=>?_⟩,S'⟩
  rotate_left
  ·simp only[y9h,y6i] at hs
   split at hs
   ·simp only[aa] at hs;subst hs;cases hp
   ·obtain⟨_,h2,_⟩:=z83 (env':=env) R hh (fun _ _=>rfl) hs
    rw[h2] at hp;cases hp
  simp only[y9h,y6i] at hs
  split at hs
  ·rename_i e;subst e
   simp only[aa] at hs;subst hs
   refine⟨hd.2,fun _=>?_,fun hn=>absurd z38 hn⟩
   simp only[xv]
   exact(S'.get hd.1).2
  ·rename_i e
   obtain⟨h1,h2,h3⟩:=z83 R hh (z8p (i:=nm.idxOf n) (d:=d)) hs
   refine⟨h1,fun _=>?_,fun hn=>absurd (by rw[h2];exact z38) hn⟩
   simp only[ao,y86,y1y]
   rw[getD_set_ne (eJ e)];exact h3

theorem zkn(R:y82 E cP A N env hp sl){n:Nat}{G:List (Nat × Bool)}{x:Xp}{d:D}(hn:A n=none)(hN:n<N)(hG:∀ p,p ∈ G->A p.1 ≠ none)(h1:gok E cP env hp A G->xv E cP env hp x=some d)(h2 : ¬ gok E cP env hp A G->d=.undef) :
  y82 E cP (y6i A n ⟨G,x⟩) N env hp (sl.set n d):=by
 have hlen:n<sl.length:=by rw[R.len];exact hN
 have back:∀{g:List (Nat × Bool)},(∀ p,p ∈ g->A p.1 ≠ none)->gok E cP env hp (y6i A n ⟨G,x⟩) g->gok E cP env hp A g:=by
  intro g hg h p hp
  obtain⟨sv,q1,q2⟩:=h p hp
  unfold y6i at q1
  rw[if_neg (fun e=>hg p hp (by rw[e,hn]))] at q1
  exact⟨sv,q1,q2⟩
 refine⟨by simp[R.len],fun s sv hs=>?_,fun s sv hs p hp=>?_⟩
 ·unfold y6i at hs
  split at hs
  ·rename_i e;subst e
   simp only[aa] at hs;subst hs
   rw[z9f hlen]
   exact⟨hN,fun hg=>h1 (back hG hg),fun hg=>h2 (fun hG=>hg (z6h hn hG))⟩
  ·rename_i e
   obtain⟨q0,q1,q2⟩:=R.ok s sv hs
   rw[getD_set_ne (eJ e)]
   exact⟨q0,fun hg=>q1 (back (R.cl s sv hs) hg),fun hg=>q2 (fun h=>hg (z6h hn h))⟩
 ·have:A p.1 ≠ none:=by
   unfold y6i at hs
   split at hs
   ·simp only[aa] at hs;subst hs;exact hG p hp
   ·exact R.cl s sv hs p hp
  unfold y6i
  split
  ·simp
  ·exact this

theorem zdq(R:y82 E cP A N env hp sl){gd:Option (Nat × Bool)}{G:List (Nat × Bool)}(h:y56 A gd=some G):∀ p,p ∈ G->A p.1 ≠ none:=by
 cases gd with
 |none=>simp only[y56,aa] at h;subst h;intro p hp;cases hp
 |some q=>
  obtain⟨j,b⟩:=q
  simp only[y56] at h
  split at h
  ·rename_i sv hj
   simp only[aa] at h;subst h
   intro p hp
   rcases az.1 hp with rfl | hp
   ·simp only[hj];simp
   ·exact R.cl j sv hj p hp
  ·cases h

theorem zsq(R:y82 E cP A N env hp sl){G:List (Nat × Bool)}{op:DOp}{x:Xp}(h:y7q A G op=some x)(hG:gok E cP env hp A G)(hm:y8l op=true):∃ d,xv E cP env hp x=some d:=by
 cases op <;> simp[y8l] at hm
 ·exact⟨_,z65 R h hG⟩
 ·exact⟨_,z65 R h hG⟩

theorem z7a(nd:nm.Nodup){base:Nat}{dr:Bool}:∀{os:List y12} {pos:Nat} {A:Ab} {ts:List TS} {dm:List (Nat × List (Nat × Bool))},y91 nm N dr pos os A=some (ts,dm) ->
  ∀{env:List D} {hp:List Obj} {sl:List D} {env':List D} {hp':List Obj},y82 E cP A N env hp sl->y5c nm env sl->rTS E cP cS cY base ts env hp=some (env',hp') ->
  ∃ sl',y5n dr E cP cS cY (base+pos) os ⟨sl,hp⟩=some ⟨sl',hp'⟩/\sl'.length=N/\y5c nm env' sl'
 |[],pos,A,ts,dm,hc,env,hp,sl,env',hp',R,S,hr=>by
  simp only[y91,aa,aq] at hc
  obtain⟨rfl,_⟩:=hc
  simp only[rTS,aa,aq] at hr
  obtain⟨rfl,rfl⟩:=hr
  exact⟨sl,by cases dr <;> rfl,R.len,S⟩
 |o::os,pos,A,ts,dm,hc,env,hp,sl,env',hp',R,S,hr=>by
  have hdem:=z9o hc hr
  rw[zhh]
  simp only[y91] at hc
  split at hc
  ·rename_i hv
   split at hc
   ·rename_i d G hd hG
    have hgt:=ziw R hG
    split at hc
    ·rename_i x hx
     split at hc
     ·rename_i hnm
      split at hc
      ·rename_i hcond
       simp only[ai,eQ,decide_eq_true_eq] at hcond
       split at hc
       ·rename_i ts' dm' hc'
        simp only[aa,aq] at hc
        obtain⟨rfl,rfl⟩:=hc
        simp only[rTS] at hr
        split at hr
        ·rename_i v hxv
         have hGn:gok E cP env hp A G:=by rw[hcond.1];exact z38
         rw[if_pos (hgt.2 hGn)]
         obtain⟨e,he,hed⟩:=zqo R (id:=if dr then base+pos else hp.length) hx hGn hxv
         rw[zg1 hv he,hd]
         simp only
         have hem:=zbq (h:=false) (hp':=hp) (d:=v) (dst:=some d) nd R S (fun _=>rfl) (by simp only[y99,ai,decide_eq_true_eq];exact⟨hnm,hcond.2⟩)
         rw[hed]
         exact z7a nd hc' hem.1 hem.2 hr
        ·cases hr
       ·cases hc
      ·cases hc
     ·rename_i hnm
      split at hc
      ·rename_i hcond
       simp only[ai,fC,decide_eq_true_eq] at hcond
       split at hc
       ·rename_i ts' dm' hc'
        have hnm':nm.contains d=false:=by simpa using hnm
        have hts:ts=ts':=by
         split at hc
         ·simp only[aa,aq] at hc;exact hc.1.symm
         ·split at hc
          ·simp only[aa,aq] at hc;exact hc.1.symm
          ·cases hc
        subst hts
        by_cases hg:gok E cP env hp A G
        ·rw[if_pos (hgt.2 hg)]
         have hsome:∃ v,xv E cP env hp x=some v:=by
          split at hc
          ·rename_i hany
           have D1:=z9o (base:=base) hc' hr
           obtain⟨q,q1,q2⟩:=ip.1 hany
           simp only[ai,beq_iff_eq] at q2
           exact D1 q q1 (zfd q2.2 (z6h hcond.1 hg)) ⟨G,x⟩ (by unfold y6i;rw[if_pos q2.1])
          ·split at hc
           ·exact zsq R hx hg (by assumption)
           ·cases hc
         obtain⟨v,hxv⟩:=hsome
         obtain⟨e,he,hed⟩:=zqo R (id:=if dr then base+pos else hp.length) hx hg hxv
         rw[zg1 hv he,hd]
         simp only
         rw[hed]
         exact z7a nd hc' (zkn R hcond.1 hcond.2 (zdq R hG) (fun _=>hxv) (fun h=>absurd hg h)) (S.other hnm') hr
        ·rw[if_neg (fun h=>hg (hgt.1 h)),hd]
         exact z7a nd hc' (zkn R hcond.1 hcond.2 (zdq R hG) (fun h=>absurd h hg) (fun _=>rfl)) (S.other hnm') hr
       ·cases hc
      ·cases hc
    ·cases hc
   ·cases hc
  ·split at hc
   ·rename_i hdst
    split at hc
    ·rename_i gd ks hgd hks
     split at hc
     ·rename_i ts' dm' hc'
      simp only[aa,aq] at hc
      obtain⟨rfl,rfl⟩:=hc
      simp only[rTS] at hr
      have hgv:gdT E cP env hp gd=some (yh sl o.gd)/\(yh sl o.gd=true->gok E cP env hp A o.gd.toList):=by
       cases hog:o.gd with
       |none=>
        rw[hog] at hgd;simp only[gdX,aa] at hgd;subst hgd
        exact⟨rfl,fun _=>z38⟩
       |some q=>
        obtain⟨j,b⟩:=q
        rw[hog] at hgd
        simp only[gdX] at hgd
        split at hgd
        ·rename_i xg hxg
         simp only[aa] at hgd;subst hgd
         have e1:=z65 R hxg z38
         obtain⟨svj,g1,g2,_⟩:=zbs hxg
         simp only[ym] at e1
         unfold yh gdT
         simp only[e1]
         refine⟨?_,fun hw=>?_⟩
         ·split <;> simp_all
         ·refine z2t.2 ⟨⟨svj,g1,?_⟩,z38⟩
          rw[g2,e1]
          split at hw
          ·rename_i c hc;rw[hc];simp only[beq_iff_eq] at hw;rw[hw]
          ·cases hw
        ·cases hgd
      rw[hgv.1] at hr
      cases hw:yh sl o.gd with
      |true=>
       rw[hw] at hr
       simp only at hr
       simp only[if_true]
       split at hr
       ·rename_i vs e1
        obtain⟨vs',f1,f2,f3⟩:=z99 R (hgv.2 hw) hks
        rw[e1] at f1;simp only[aa] at f1;subst f1
        split at hr
        ·rename_i d hp1 hst
         have hst':yd E cP cS cY (if dr=true then base+pos else hp.length) (gOf vs) hp o.op=some (d,hp1):=by
          cases dr <;> exact hst
         rw[z7i (zr0 f2 f3)] at hst'
         rw[hst']
         have hem:=zbq (h:=true) (hp':=hp1) (d:=d) nd R S (fun h=>by cases h) hdst
         exact z7a nd hc' hem.1 hem.2 hr
        ·cases hr
       ·cases hr
      |false=>
       rw[hw] at hr
       simp only at hr
       simp only[aM,if_false]
       have hem:=zbq (h:=true) (hp':=hp) (d:=.undef) nd R S (fun h=>by cases h) hdst
       exact z7a nd hc' hem.1 hem.2 hr
     ·cases hc
    ·cases hc
   ·cases hc

theorem z8q(nd:nm.Nodup):∀(ps:List Nat) (args sl env:List D),ps.all (fun p=>nm.contains p && decide (p<N))=true->sl.length=N->y5c nm env sl ->
  (y29 sl ps args).length=N/\y5c nm (y29 env (ps.map nm.idxOf) args) (y29 sl ps args)
 |[],args,sl,env,_,hl,S=>⟨by simpa[y29] using hl,by simpa[y29] using S⟩
 |p::ps,[],sl,env,_,hl,S=>⟨by simpa[y29] using hl,by simpa[y29] using S⟩
 |p::ps,v::vs,sl,env,h,hl,S=>by
  simp only[List.all_cons,ai,decide_eq_true_eq] at h
  simp only[y29,av]
  exact z8q nd ps vs _ _ (by simpa using h.2) (by simpa using hl) (S.set nd h.1.1 (by rw[hl];exact h.1.2))

theorem zf9{A:Type}:∀{ls:List (Option (List A))} {r:List A},y8k ls=some r->∀ x,x ∈ ls->∃ r',x=some r' /\ ∀ y,y ∈ r'->y ∈ r
 |[],_,_,x,hx=>by cases hx
 |x::ls,r,h,z,hz=>by
  simp only[y8k] at h
  split at h
  ·rename_i a b h1
   simp only[aa] at h;subst h
   rcases az.1 hz with rfl | hz
   ·exact⟨a,rfl,fun y hy=>List.mem_append_left _ hy⟩
   ·obtain⟨r',e1,e2⟩:=zf9 h1 z hz
    exact⟨r',e1,fun y hy=>List.mem_append_right _ (e2 y hy)⟩
  ·cases h

theorem zsm{env sl:List D}(S:y5c nm env sl){x y:Opd}{r:List (Nat × Nat)}(h:y96 nm x y=some r)(hc:∀ p,p ∈ r->ye5 env p=true):y7w (did (ym sl x)) (did (ym sl y))=true:=by
 have none1:∀{o:Option Nat},y7w none o=true:=fun {o}=>by cases o <;> rfl
 have none2:∀{o:Option Nat},y7w o none=true:=fun {o}=>by cases o <;> rfl
 have key:∀{z:Opd},y98 nm z=some none->did (ym sl z)=none:=by
  intro z hz
  cases z with
  |t s=>simp only[y98] at hz;split at hz <;> simp at hz
  |c d=>
   simp only[y98] at hz
   split at hz
   ·rename_i h1;simpa[ym] using h1
   ·cases hz
  |f k=>rfl
 have key2:∀{z:Opd} {i:Nat},y98 nm z=some (some i)->env[i]? = some (ym sl z):=by
  intro z i hz
  cases z with
  |t s=>
   simp only[y98] at hz
   split at hz
   ·rename_i h1
    simp only[aa] at hz;subst hz
    exact(S.get h1).2
   ·cases hz
  |c d=>simp only[y98] at hz;split at hz <;> simp at hz
  |f k=>simp[y98] at hz
 unfold y96 at h
 split at h
 ·rename_i i j h1 h2
  simp only[aa] at h;subst h
  have:=hc (i,j) (by simp)
  simp only[ye5,key2 h1,key2 h2] at this
  exact this
 ·rename_i h2
  rw[key h2];exact none2
 ·rename_i h1 h2
  rw[key h1];exact none1
 ·cases h

theorem zqh{env sl:List D}(S:y5c nm env sl){ops:List y12}{ap l:List (Nat × Nat)}(h:apX nm ops ap=some l)(hc:yby env l=true):y6u sl ops ap=true:=by
 unfold yby at hc
 rw[ay] at hc
 unfold y6u
 rw[ay]
 intro p hp
 obtain⟨r,e1,e2⟩:=zf9 h _ (jH hp)
 unfold apX1 at e1
 unfold y8t
 split at e1
 ·rename_i a b h1 h2
  rw[h1,h2]
  simp only[]
  rw[ay]
  intro x hx
  rw[ay]
  intro y hy
  obtain⟨r2,f1,f2⟩:=zf9 e1 (y96 nm x y) (bF.2 ⟨x,hx,jH hy⟩)
  exact zsm S f1 fun q hq=>hc q (e2 q (f2 q hq))
 ·cases e1

theorem zpq(nd:nm.Nodup)(hN:nm.all (fun s=>decide (s<N))=true):∀{dc:DC} {tc:TC},y2b nm N dc=some tc->∀{Q:Ex->List D->List Obj->Prop} {env:List D} {hp:List Obj} {sl:List D},
  sl.length=N->y5c nm env sl->wT E tc Q env hp->wp E dc ⟨sl,hp⟩ (fun ex st'=>st'.sl.length=N /\ ∃ env',y5c nm env' st'.sl/\Q ex env' st'.hp):=by
 intro dc
 induction dc with
 |skip=>
  intro tc hc Q env hp sl hl S h
  simp only[y2b,aa] at hc;subst hc
  exact zrj.2 ⟨hl,env,S,h⟩
 |ret=>
  intro tc hc Q env hp sl hl S h
  simp only[y2b,aa] at hc;subst hc
  exact zue.2 ⟨hl,env,S,h⟩
 |exit id=>
  intro tc hc Q env hp sl hl S h
  simp only[y2b,aa] at hc;subst hc
  exact zrl.2 ⟨hl,env,S,h⟩
 |region dr ap ops=>
  intro tc hc Q env hp sl hl S h
  simp only[y2b] at hc
  split at hc
  ·rename_i ts dm hcc
   have base:∀{Q:Ex->List D->List Obj->Prop},wT E (.run (if dr then ops.length else 0) ts) Q env hp->∃ sl' hp' env',y5n dr E (y1l E (dL E)) (y1h E (dL E)) (y2x (dL E)) (hp.length+0) ops ⟨sl,hp++af (if dr then ops.length else 0) .dead⟩=some ⟨sl',hp'⟩/\sl'.length=N/\y5c nm env' sl'/\Q .normal env' hp':=by
    intro Q h
    simp only[wT] at h
    split at h
    ·rename_i env' hp' hr
     obtain⟨sl',h1,h2,h3⟩:=z7a nd (base:=hp.length) hcc (zkg hl hN S) S hr
     exact⟨sl',hp',env',h1,h2,h3,h⟩
    ·exact h.elim
   split at hc
   ·rename_i hda
    simp only[ai,bJ] at hda
    obtain⟨rfl,hap⟩:=hda
    split at hc
    ·rename_i l hX
     simp only[aa] at hc;subst hc
     obtain⟨sl',hp',env',h1,h2,h3,h4⟩:=base (Q:=fun ex env' hp'=>match ex with
      |.normal=>wT E (.chk l) Q env' hp'
      |ex=>Q ex env' hp') h
     simp only[wT] at h4
     refine⟨.normal,⟨sl',hp'⟩,?_,h2,env',h3,h4.2⟩
     rw[zmq]
     simp only[y5n,if_true,de] at h1
     simp only[h1,y21,zqh h3 hX h4.1,if_true,ao]
    ·cases hc
   ·rename_i hda
    simp only[aa] at hc;subst hc
    obtain⟨sl',hp',env',h1,h2,h3,h4⟩:=base h
    cases dr with
    |false=>
     refine zk4.2 ⟨⟨sl',hp'⟩,?_,h2,env',h3,h4⟩
     simpa[y5n] using h1
    |true=>
     have hap':ap=[]:=by simpa using hda
     subst hap'
     refine⟨.normal,⟨sl',hp'⟩,?_,h2,env',h3,h4⟩
     rw[zmq]
     simp only[y5n,if_true,de] at h1
     simp only[h1,y21,y6u,List.all_nil,if_true,ao]
  ·cases hc
 |seq a b iha ihb=>
  intro tc hc Q env hp sl hl S h
  simp only[y2b] at hc
  split at hc
  ·rename_i x y hx hy
   simp only[aa] at hc;subst hc
   simp only[wT] at h
   refine zud.2 (zec (iha hx hl S h) ?_)
   rintro ex st' ⟨hl',env',S',hq⟩
   cases ex with
   |normal=>exact ihb hy hl' S' hq
   |exit i=>exact⟨hl',env',S',hq⟩
   |ret=>exact⟨hl',env',S',hq⟩
  ·cases hc
 |cond c a b iha ihb=>
  intro tc hc Q env hp sl hl S h
  cases c with
  |c d=>
   cases d with
   |undef=>
    simp only[y2b,aa] at hc
    subst hc
    exact h.elim
   |_=>simp[y2b] at hc
  |f k=>simp[y2b] at hc
  |t k=>
   simp only[y2b] at hc
   split at hc
   ·rename_i hk
    split at hc
    ·rename_i x y hx hy
     simp only[aa] at hc;subst hc
     simp only[wT,(S.get hk).2] at h
     split at h
     ·rename_i t ht
      simp only[aa] at ht
      refine(zrm (b:=t) (by simp only[ym];exact ht)).2 ⟨fun e=>?_,fun e=>?_⟩
      ·subst e;simp only[if_true] at h;exact iha hx hl S h
      ·subst e;simp only[aM,if_false] at h;exact ihb hy hl S h
     ·exact h.elim
    ·cases hc
   ·cases hc
 |ifp c a b iha ihb=>
  intro tc hc Q env hp sl hl S h
  cases c with
  |c d=>simp[y2b] at hc
  |f k=>simp[y2b] at hc
  |t k=>
   simp only[y2b] at hc
   split at hc
   ·rename_i hk
    split at hc
    ·rename_i x y hx hy
     simp only[aa] at hc;subst hc
     simp only[wT,(S.get hk).2] at h
     split at h
     ·rename_i hm;exact zql.2 ((if_pos (show yw (ym sl (.t k))=true from hm)).mpr (iha hx hl S h))
     ·rename_i hm;exact zql.2 ((if_neg (show ¬ yw (ym sl (.t k))=true from hm)).mpr (ihb hy hl S h))
    ·cases hc
   ·cases hc
 |block id a iha=>
  intro tc hc Q env hp sl hl S h
  simp only[y2b] at hc
  split at hc
  ·rename_i x hx
   simp only[aa] at hc;subst hc
   simp only[wT] at h
   refine zno.2 (zec (iha hx hl S h) ?_)
   rintro ex st' ⟨hl',env',S',hq⟩
   cases ex with
   |normal=>exact⟨hl',env',S',hq⟩
   |exit i=>exact⟨hl',env',S',hq⟩
   |ret=>exact⟨hl',env',S',hq⟩
  ·cases hc
 |loop a iha=>
  intro tc hc Q env hp sl hl S h
  simp only[y2b] at hc
  split at hc
  ·rename_i x hx
   simp only[aa] at hc;subst hc
   simp only[wT] at h
   obtain⟨I,k,hI,step⟩:=h
   refine zrk (fun k st=>st.sl.length=N /\ ∃ env,y5c nm env st.sl/\I k env st.hp) ?_ k ⟨sl,hp⟩ ⟨hl,env,S,hI⟩
   rintro k ⟨sl,hp⟩ ⟨hl,env,S,hI⟩
   refine zec (iha hx hl S (step k env hp hI)) ?_
   rintro ex st' ⟨hl',env',S',hq⟩
   cases ex with
   |normal=>
    obtain⟨k',hk,hI'⟩:=hq
    exact⟨k',hk,hl',env',S',hI'⟩
   |exit i=>exact⟨hl',env',S',hq⟩
   |ret=>exact⟨hl',env',S',hq⟩
  ·cases hc
 |rfunc f ps asg body iha ihb=>
  intro tc hc Q env hp sl hl S h
  cases f with
  |c d=>simp[y2b] at hc
  |f k=>simp[y2b] at hc
  |t f=>
   simp only[y2b] at hc
   split at hc
   ·rename_i hk
    simp only[ai] at hk
    split at hc
    ·rename_i x y hx hy
     simp only[aa] at hc;subst hc
     simp only[wT] at h
     obtain⟨k,caps,h1,h2⟩:=h
     have hf:y57 E (sl.getD f .undef)=.fn k caps:=by
      have:=(S.get hk.1).2
      rw[this] at h1;simpa using h1
     obtain⟨d,hp',h3,h4⟩:=h2 (fun b p=>.loop b sl ps asg body p) ⟨_,_,_,_,rfl⟩ (by
      intro args hp1 K hlen hat hw
      have hlen':args.length=ps.length:=by simpa using hlen
      obtain⟨hsl,S1⟩:=z8q nd ps args sl env hk.2 hl S
      obtain⟨ex,st1,r1,hl1,env1,S1',rfl,hat1,hw1⟩:=iha hx hsl S1 hw
      obtain⟨ex2,st2,r2,hl2,env2,S2',hat2,hK⟩:=ihb hy (sl:=st1.sl) (hp:=st1.hp.set hp.length (.loop true sl ps asg body none)) hl1 S1' hw1
      unfold y2x
      simp only[hat,hlen',if_true,r1,hat1,r2,hat2]
      cases ex2 with
      |normal=>exact⟨_,_,rfl,hK⟩
      |exit i=>exact⟨_,_,rfl,hK⟩
      |ret=>exact⟨_,_,rfl,hK⟩)
     rcases h4 with⟨h5,h6⟩ | ⟨ex,h5,h6⟩
     ·refine⟨.normal,⟨sl,hp'.set hp.length .dead⟩,?_,hl,env,S,h6⟩
      rw[zh2]
      simp only[ym,hf,h3,h5]
     ·refine⟨ex,⟨sl,hp'.set hp.length .dead⟩,?_,hl,env,S,h6⟩
      rw[zh2]
      simp only[ym,hf,h3,h5]
    ·cases hc
   ·cases hc

end
end Dv

namespace Dv

def y2w(E:Env)(env:List D)(hp:List Obj):List (Nat × Option Nat)->Option (List D)
 |[]=>some []
 |(i,none)::r=>(match env[i]?,y2w E env hp r with
  |some d,some l=>some (d::l)
  |_,_=>none)
 |(i,some t)::r=>(match env[i]? with
  |some a=>(match yv E hp t a,y2w E env hp r with
   |some d,some l=>some (d::l)
   |_,_=>none)
  |none=>none)

def y85(nm:List Nat):List RV->List (Nat × Option Nat)->Bool
 |[],[]=>true
 |.tmp t::r,(i,none)::is=>nm.contains t && nm.idxOf t == i && y85 nm r is
 |.cell a t::r,(i,some t')::is=>nm.contains a && nm.idxOf a == i && t == t' && y85 nm r is
 |_,_=>false

def Ret(E:Env)(is:List (Nat × Option Nat))(R:D->List Obj->Prop):Ex->List D->List Obj->Prop:=fun ex env hp=>(ex=.ret\/ex=.normal) /\ ∃ l,y2w E env hp is=some l/\R (y26 l) hp

section
variable{E:Env}

structure TF(E:Env)(f:Nat)(nm:List Nat)(is:List (Nat × Option Nat))(tc:TC)(N:Nat):Prop where
 ex:∃ F,E.fn f=some F/\F.ntmps=N/\y2b nm F.ntmps F.body=some tc/\nm.Nodup/\nm.all (fun s=>decide (s<F.ntmps))=true/\y85 nm F.results is=true

def y7b:List Nat->Bool
 |[]=>true
 |x::r=>!r.contains x && y7b r

theorem zdg:∀{l:List Nat},y7b l=true->l.Nodup
 |[],_=>List.nodup_nil
 |x::r,h=>by
  simp only[y7b,ai,bJ] at h
  exact List.nodup_cons.2 ⟨by simpa using h.1,zdg h.2⟩

theorem zz{f:Nat}{nm:List Nat}{is:List (Nat × Option Nat)}{tc:TC}{F:DFn}(h:E.fn f=some F)(hc:y2b nm F.ntmps F.body=some tc)(hb:(y7b nm && nm.all (fun s=>decide (s<F.ntmps)) && y85 nm F.results is)=true):TF E f nm is tc F.ntmps:=by
 simp only[ai] at hb
 exact⟨F,h,rfl,hc,zdg hb.1.1,hb.1.2,hb.2⟩

theorem zkm{nm:List Nat}{env:List D}{st:St}(S:y5c nm env st.sl):∀{rs:List RV} {is:List (Nat × Option Nat)} {l:List D},y85 nm rs is=true->y2w E env st.hp is=some l->y43 E st rs=some l
 |[],[],l,_,h=>by simp only[y2w,aa] at h;subst h;rfl
 |.tmp t::r,(i,none)::is,l,h,h'=>by
  simp only[y85,ai,beq_iff_eq] at h
  simp only[y2w] at h'
  split at h'
  ·rename_i d l' h1 h2
   simp only[aa] at h';subst h'
   have:=(S.get h.1.1).2
   rw[h.1.2,h1] at this
   simp only[aa] at this
   simp only[y43,zkm S h.2 h2,this]
  ·cases h'
 |.cell a t::r,(i,some t')::is,l,h,h'=>by
  simp only[y85,ai,beq_iff_eq] at h
  simp only[y2w] at h'
  split at h'
  ·rename_i p hp
   split at h'
   ·rename_i d l' h1 h2
    simp only[aa] at h';subst h'
    have:=(S.get h.1.1.1).2
    rw[h.1.1.2,hp] at this
    simp only[aa] at this
    rw[<- h.1.2,this] at h1
    simp only[y43,zkm S h.2 h2,h1]
   ·cases h'
  ·cases h'
 |.cell _ _::_,[],_,h,_=>by simp[y85] at h
 |.cell _ _::_,(_,none)::_,_,h,_=>by simp[y85] at h
 |[],_::_,_,h,_=>by simp[y85] at h
 |.tmp _::_,[],_,h,_=>by simp[y85] at h
 |.tmp _::_,(_,some _)::_,_,h,_=>by simp[y85] at h

def y34(nm:List Nat)(args:List D):List D:=nm.map fun s=>args.getD s .undef

theorem zhk{nm:List Nat}{args:List D}{N:Nat}:y5c nm (y34 nm args) (args++af (N - args.length) .undef):=by
 refine⟨by simp[y34],fun i s h=>?_⟩
 simp only[y34,List.getElem?_map,h,ao,aa]
 simp only[ah]
 by_cases hs:s<args.length
 ·rw[List.getElem?_append_left hs]
 ·rw[List.getElem?_append_right (by omega),List.getElem?_eq_none (by omega)]
  cases h2:(af (N - args.length) D.undef)[s - args.length]? with
  |none=>rfl
  |some d=>
   have:=bg h2
   rw[List.mem_replicate] at this
   rw[this.2];rfl

theorem z34{f:Nat}{nm:List Nat}{is:List (Nat × Option Nat)}{tc:TC}{N:Nat}(t:TF E f nm is tc N){args:List D}{hp:List Obj}{R:D->List Obj->Prop}(hl:args.length<=N)
  (h:wT E tc (Ret E is R) (y34 nm args) hp) (hb:E.mp f=false:=by rfl):∃ d hp',y1h E (dL E) f args hp=some (d,hp')/\R d hp':=by
 obtain⟨F,hF,rfl,hc,nd,hN,hr⟩:=t.ex
 obtain⟨ex,st',h1,h2,env',S,⟨hx,l,hg,hR⟩⟩:=zpq nd hN hc (sl:=args++af (F.ntmps - args.length) .undef) (by simp;omega) zhk h
 have hres:=zkm (E:=E) S hr hg
 refine⟨y26 l,st'.hp,?_,hR⟩
 unfold y1h
 simp only[hF,yk,h1,hb,y27]
 rcases hx with rfl | rfl <;> simp only[y1j,hres,ao]

theorem zu{f:Nat}{nm:List Nat}{is:List (Nat × Option Nat)}{tc:TC}{N:Nat}(t:TF E f nm is tc N){args:List D}{r:D}(hl:args.length<=N)
  (h:wT E tc (Ret E is fun d hp=>frz hp depth d=some r) (y34 nm args) []) (hk:E.keep f=false:=by rfl) (hb:E.mp f=false:=by rfl):y1l E (dL E) f args=some r:=by
 obtain⟨d,hp',h1,h2⟩:=z34 t hl h hb
 unfold y1l
 simp only[h1,hk,y9m,h2]

end
end Dv

namespace Dv

section
variable{E:Env}{Q:Ex->List D->List Obj->Prop}{env:List D}{hp:List Obj}

theorem zrr:wT E .skip Q env hp=Q .normal env hp:=rfl
theorem zui:wT E .ret Q env hp=Q .ret env hp:=rfl
theorem zrt{id:Nat}:wT E (.exit id) Q env hp=Q (.exit id) env hp:=rfl
theorem zuh{a b:TC}:wT E (.seq a b) Q env hp=wT E a (fun ex env' hp'=>match ex with
  |.normal=>wT E b Q env' hp'
  |ex=>Q ex env' hp') env hp:=rfl
theorem znp{id:Nat}{a:TC}:wT E (.block id a) Q env hp=wT E a (fun ex env' hp'=>match ex with
  |.exit i=>Q (if i=id then .normal else .exit i) env' hp'
  |ex=>Q ex env' hp') env hp:=rfl

theorem wK{l:List (Nat × Nat)}:wT E (.chk l) Q env hp=(yby env l=true/\Q .normal env hp):=rfl
theorem zrs:∀{c:TC} {Q Q':Ex->List D->List Obj->Prop} {env:List D} {hp:List Obj},(∀ ex env hp,Q ex env hp->Q' ex env hp)->wT E c Q env hp->wT E c Q' env hp:=by
 intro c
 induction c with
 |skip=>intro Q Q' env hp hq h;exact hq _ _ _ h
 |ret=>intro Q Q' env hp hq h;exact hq _ _ _ h
 |exit id=>intro Q Q' env hp hq h;exact hq _ _ _ h
 |run pad l=>
  intro Q Q' env hp hq h
  simp only[wT] at h ⊢
  split at h
  ·exact hq _ _ _ h
  ·exact h.elim
 |seq a b iha ihb=>
  intro Q Q' env hp hq h
  refine iha (fun ex env hp h=>?_) h
  cases ex with
  |normal=>exact ihb hq h
  |exit i=>exact hq _ _ _ h
  |ret=>exact hq _ _ _ h
 |cond i a b iha ihb=>
  intro Q Q' env hp hq h
  simp only[wT] at h ⊢
  split at h
  ·split at h
   ·rename_i ht;rw[if_pos ht];exact iha hq h
   ·rename_i ht;rw[if_neg ht];exact ihb hq h
  ·exact h.elim
 |ifp i a b iha ihb=>
  intro Q Q' env hp hq h
  simp only[wT] at h ⊢
  split at h
  ·split at h
   ·rename_i ht;rw[if_pos ht];exact iha hq h
   ·rename_i ht;rw[if_neg ht];exact ihb hq h
  ·exact h.elim
 |dead=>intro Q Q' env hp hq h;exact h.elim
 |block id a iha=>
  intro Q Q' env hp hq h
  refine iha (fun ex env hp h=>?_) h
  cases ex <;> exact hq _ _ _ h
 |loop a iha=>
  intro Q Q' env hp hq h
  obtain⟨I,k,hI,step⟩:=h
  refine⟨I,k,hI,fun k env hp hI=>iha (fun ex env hp h=>?_) (step k env hp hI)⟩
  cases ex with
  |normal=>exact h
  |exit i=>exact hq _ _ _ h
  |ret=>exact hq _ _ _ h
 |chk l=>intro Q Q' env hp hq h;exact⟨h.1,hq _ _ _ h.2⟩
 |rfunc i ps a b iha ihb=>
  intro Q Q' env hp hq h
  obtain⟨k,caps,h1,h2⟩:=h
  refine⟨k,caps,h1,fun L hL hcb=>?_⟩
  obtain⟨d,hp',h3,h4⟩:=h2 L hL hcb
  refine⟨d,hp',h3,?_⟩
  rcases h4 with⟨h5,h6⟩ | ⟨ex,h5,h6⟩
  ·exact .inl ⟨h5,hq _ _ _ h6⟩
  ·exact .inr ⟨ex,h5,hq _ _ _ h6⟩

theorem z2o{E:Env}{c:TC}{Q:Ex->List D->List Obj->Prop}{env env':List D}{hp hp':List Obj}(h:env=env')(h':hp=hp'):wT E c Q env hp=wT E c Q env' hp':=by rw[h,h']

theorem z1o{a:TC}(n:Nat)(I:Nat->List D->List Obj->Prop)(i:Nat)(hi:i<=n)(h0:I i env hp)
  (step:∀ i env hp,i<=n->I i env hp->wT E a (fun ex env' hp'=>match ex with
   |.normal=>i<n/\I (i+1) env' hp'
   |ex=>Q ex env' hp') env hp):wT E (.loop a) Q env hp:=by
 refine⟨fun k env hp=>∃ i,i<=n/\k=n - i/\I i env hp,n - i,⟨i,hi,rfl,h0⟩,?_⟩
 rintro k env hp ⟨i,hi,rfl,hI⟩
 refine zrs (fun ex env' hp' h=>?_) (step i env hp hi hI)
 cases ex with
 |normal=>exact⟨n - (i+1),by omega,i+1,by omega,rfl,h.2⟩
 |exit _=>exact h
 |ret=>exact h

end
end Dv

namespace Dv

def ob{A B:Type}(x:Option A)(f:A->Option B):Option B:=x.bind f
def obP{A:Type}(x:Option A)(f:A->Prop):Prop:=match x with | some a=>f a | none=>False
theorem z7{A B:Type}{a:A}{f:A->Option B}:ob (some a) f=f a:=rfl
theorem zoe{A:Type}{a:A}{f:A->Prop}:obP (some a) f=f a:=rfl
theorem z2s{A B:Type}{x y:Option A}{f:A->Option B}(h:x=y):ob x f=ob y f:=by rw[h]
theorem z24{A:Type}{x y:Option A}{f:A->Prop}(h:x=y):obP x f=obP y f:=by rw[h]

section
variable{E:Env}{cP:Nat->List D->Option D}{env:List D}{hp:List Obj}

theorem zw{X:Option D}:(match Option.map (fun x=>(⟨x,none,none⟩:Ef)) X with | some e=>some e.d | none=>none)=X:=by cases X <;> rfl
theorem xv_v{i:Nat}:xv E cP env hp (.v i)=env[i]?:=by simp only[xv]
theorem xv_c{d:D}:xv E cP env hp (.c d)=some d:=by simp only[xv]
def yba(t:D)(a b:Option D):Option D:=match t with
 |.bool t=>if t=true then a else b
 |_=>none
theorem zv5{t:Bool}{a b:Option D}:yba (.bool t) a b=if t=true then a else b:=rfl
theorem zu9{c a b:Xp}:xv E cP env hp (.ite c a b)=ob (xv E cP env hp c) fun t=>yba t (xv E cP env hp a) (xv E cP env hp b):=by
 simp only[xv]
 cases h:xv E cP env hp c with
 |none=>rfl
 |some d=>
  cases d with
  |bool t=>cases t <;> rfl
  |_=>rfl

theorem zk0{op:gI}{t:Nat}{a:Nat}{b:Nat}{x0:Xp}{x1:Xp}(h10:b ≠ a):xv E cP env hp (.n (.bin op t (.t a) (.t b)) (.cons a x0 (.cons b x1 .nil)))=ob (xv E cP env hp x0) fun u0=>ob (xv E cP env hp x1) fun u1=>y2m E op t u0 u1:=by
 simp only[xv,xvs]
 cases xv E cP env hp x0 <;> try rfl
 cases xv E cP env hp x1 <;> try rfl
 simp only[ya,av,aO,ao,aR,gOf,kv,z7,if_true,if_false,h10,↓reduceIte]
 exact zw

theorem zk1{op:gI}{t:Nat}{a:Nat}{x0:Xp}{d1:D}  : xv E cP env hp (.n (.bin op t (.t a) (.c d1)) (.cons a x0 .nil))=ob (xv E cP env hp x0) fun u0=>y2m E op t u0 d1:=by
 simp only[xv,xvs]
 cases xv E cP env hp x0 <;> try rfl
 simp only[ya,av,aO,ao,aR,gOf,kv,z7,if_true,if_false,↓reduceIte]
 exact zw

theorem zk2{op:gI}{t:Nat}{b:Nat}{x1:Xp}{d0:D}  : xv E cP env hp (.n (.bin op t (.c d0) (.t b)) (.cons b x1 .nil))=ob (xv E cP env hp x1) fun u1=>y2m E op t d0 u1:=by
 simp only[xv,xvs]
 cases xv E cP env hp x1 <;> try rfl
 simp only[ya,av,aO,ao,aR,gOf,kv,z7,if_true,if_false,↓reduceIte]
 exact zw

theorem zk3{op:gI}{t:Nat}{d0:D}{d1:D}  : xv E cP env hp (.n (.bin op t (.c d0) (.c d1)) .nil)=y2m E op t d0 d1:=by
 simp only[xv,xvs]
 simp only[ya,av,aO,ao,aR,gOf,kv,z7,if_true,if_false,↓reduceIte]
 exact zw

theorem zrd{op:Go.UnOp}{a:Nat}{x0:Xp}  : xv E cP env hp (.n (.un op (.t a)) (.cons a x0 .nil))=ob (xv E cP env hp x0) fun u0=>unD op u0:=by
 simp only[xv,xvs]
 cases xv E cP env hp x0 <;> try rfl
 simp only[ya,av,aO,ao,aR,gOf,kv,z7,if_true,if_false,↓reduceIte]
 exact zw

theorem zjy{s1 s2:Nat}{a:Nat}{x0:Xp}  : xv E cP env hp (.n (.conv s1 s2 (.t a)) (.cons a x0 .nil))=ob (xv E cP env hp x0) fun u0=>y3d E s1 s2 u0:=by
 simp only[xv,xvs]
 cases xv E cP env hp x0 <;> try rfl
 simp only[ya,av,aO,ao,aR,gOf,kv,z7,if_true,if_false,↓reduceIte]
 exact zw

theorem zrg{t:Nat}{a:Nat}{x0:Xp}  : xv E cP env hp (.n (.load t (.t a)) (.cons a x0 .nil))=ob (xv E cP env hp x0) fun u0=>yv E hp t u0:=by
 simp only[xv,xvs]
 cases xv E cP env hp x0 <;> try rfl
 simp only[ya,av,aO,ao,aR,gOf,kv,z7,if_true,if_false,↓reduceIte]
 exact zw

theorem zu8{t:Nat}{a:Nat}{x0:Xp}  : xv E cP env hp (.n (.len t (.t a)) (.cons a x0 .nil))=ob (xv E cP env hp x0) fun u0=>y62 E hp t u0:=by
 simp only[xv,xvs]
 cases xv E cP env hp x0 <;> try rfl
 simp only[ya,av,aO,ao,aR,gOf,kv,z7,if_true,if_false,↓reduceIte]
 exact zw

theorem znk{t f:Nat}{a:Nat}{x0:Xp}  : xv E cP env hp (.n (.faddr t (.t a) f) (.cons a x0 .nil))=ob (xv E cP env hp x0) fun u0=>y4z E t u0 f:=by
 simp only[xv,xvs]
 cases xv E cP env hp x0 <;> try rfl
 simp only[ya,av,aO,ao,aR,gOf,kv,z7,if_true,if_false,↓reduceIte]
 exact zw

theorem znj{t f:Nat}{a:Nat}{x0:Xp}  : xv E cP env hp (.n (.field t (.t a) f) (.cons a x0 .nil))=ob (xv E cP env hp x0) fun u0=>y7f E t u0 f:=by
 simp only[xv,xvs]
 cases xv E cP env hp x0 <;> try rfl
 simp only[ya,av,aO,ao,aR,gOf,kv,z7,if_true,if_false,↓reduceIte]
 exact zw

theorem ze8{t:Nat}{a:Nat}{b:Nat}{x0:Xp}{x1:Xp}(h10:b ≠ a):xv E cP env hp (.n (.iaddr t (.t a) (.t b)) (.cons a x0 (.cons b x1 .nil)))=ob (xv E cP env hp x0) fun u0=>ob (xv E cP env hp x1) fun u1=>y31 E t u0 u1:=by
 simp only[xv,xvs]
 cases xv E cP env hp x0 <;> try rfl
 cases xv E cP env hp x1 <;> try rfl
 simp only[ya,av,aO,ao,aR,gOf,kv,z7,if_true,if_false,h10,↓reduceIte]
 exact zw

theorem ze9{t:Nat}{a:Nat}{x0:Xp}{d1:D}  : xv E cP env hp (.n (.iaddr t (.t a) (.c d1)) (.cons a x0 .nil))=ob (xv E cP env hp x0) fun u0=>y31 E t u0 d1:=by
 simp only[xv,xvs]
 cases xv E cP env hp x0 <;> try rfl
 simp only[ya,av,aO,ao,aR,gOf,kv,z7,if_true,if_false,↓reduceIte]
 exact zw

theorem ze6{t:Nat}{a:Nat}{b:Nat}{x0:Xp}{x1:Xp}(h10:b ≠ a):xv E cP env hp (.n (.index t (.t a) (.t b)) (.cons a x0 (.cons b x1 .nil)))=ob (xv E cP env hp x0) fun u0=>ob (xv E cP env hp x1) fun u1=>y55 E t u0 u1:=by
 simp only[xv,xvs]
 cases xv E cP env hp x0 <;> try rfl
 cases xv E cP env hp x1 <;> try rfl
 simp only[ya,av,aO,ao,aR,gOf,kv,z7,if_true,if_false,h10,↓reduceIte]
 exact zw

theorem ze7{t:Nat}{a:Nat}{x0:Xp}{d1:D}  : xv E cP env hp (.n (.index t (.t a) (.c d1)) (.cons a x0 .nil))=ob (xv E cP env hp x0) fun u0=>y55 E t u0 d1:=by
 simp only[xv,xvs]
 cases xv E cP env hp x0 <;> try rfl
 simp only[ya,av,aO,ao,aR,gOf,kv,z7,if_true,if_false,↓reduceIte]
 exact zw

theorem zci{t:Nat}{ok:Bool}{a:Nat}{b:Nat}{x0:Xp}{x1:Xp}(h10:b ≠ a):xv E cP env hp (.n (.lookup t (.t a) (.t b) ok) (.cons a x0 (.cons b x1 .nil)))=ob (xv E cP env hp x0) fun u0=>ob (xv E cP env hp x1) fun u1=>y22 E hp t u0 u1 ok:=by
 simp only[xv,xvs]
 cases xv E cP env hp x0 <;> try rfl
 cases xv E cP env hp x1 <;> try rfl
 simp only[ya,av,aO,ao,aR,gOf,kv,z7,if_true,if_false,h10,↓reduceIte]
 exact zw

theorem zju  {a:Nat} {b:Nat} {x0:Xp} {x1:Xp} (h10:b ≠ a):xv E cP env hp (.n (.maxi [(.t a),(.t b)]) (.cons a x0 (.cons b x1 .nil)))=ob (xv E cP env hp x0) fun u0=>ob (xv E cP env hp x1) fun u1=>y6l [u0,u1]:=by
 simp only[xv,xvs]
 cases xv E cP env hp x0 <;> try rfl
 cases xv E cP env hp x1 <;> try rfl
 simp only[ya,av,aO,ao,aR,gOf,kv,z7,if_true,if_false,h10,↓reduceIte]
 exact zw

theorem zjr  {a:Nat} {b:Nat} {x0:Xp} {x1:Xp} (h10:b ≠ a):xv E cP env hp (.n (.mini [(.t a),(.t b)]) (.cons a x0 (.cons b x1 .nil)))=ob (xv E cP env hp x0) fun u0=>ob (xv E cP env hp x1) fun u1=>y7v [u0,u1]:=by
 simp only[xv,xvs]
 cases xv E cP env hp x0 <;> try rfl
 cases xv E cP env hp x1 <;> try rfl
 simp only[ya,av,aO,ao,aR,gOf,kv,z7,if_true,if_false,h10,↓reduceIte]
 exact zw

theorem zjv  {a:Nat} {x0:Xp} {d1:D}  : xv E cP env hp (.n (.maxi [(.t a),(.c d1)]) (.cons a x0 .nil))=ob (xv E cP env hp x0) fun u0=>y6l [u0,d1]:=by
 simp only[xv,xvs]
 cases xv E cP env hp x0 <;> try rfl
 simp only[ya,av,aO,ao,aR,gOf,kv,z7,if_true,if_false,↓reduceIte]
 exact zw

theorem zjs  {a:Nat} {x0:Xp} {d1:D}  : xv E cP env hp (.n (.mini [(.t a),(.c d1)]) (.cons a x0 .nil))=ob (xv E cP env hp x0) fun u0=>y7v [u0,d1]:=by
 simp only[xv,xvs]
 cases xv E cP env hp x0 <;> try rfl
 simp only[ya,av,aO,ao,aR,gOf,kv,z7,if_true,if_false,↓reduceIte]
 exact zw

theorem zjw  {b:Nat} {x1:Xp} {d0:D}  : xv E cP env hp (.n (.maxi [(.c d0),(.t b)]) (.cons b x1 .nil))=ob (xv E cP env hp x1) fun u1=>y6l [d0,u1]:=by
 simp only[xv,xvs]
 cases xv E cP env hp x1 <;> try rfl
 simp only[ya,av,aO,ao,aR,gOf,kv,z7,if_true,if_false,↓reduceIte]
 exact zw

theorem zjt  {b:Nat} {x1:Xp} {d0:D}  : xv E cP env hp (.n (.mini [(.c d0),(.t b)]) (.cons b x1 .nil))=ob (xv E cP env hp x1) fun u1=>y7v [d0,u1]:=by
 simp only[xv,xvs]
 cases xv E cP env hp x1 <;> try rfl
 simp only[ya,av,aO,ao,aR,gOf,kv,z7,if_true,if_false,↓reduceIte]
 exact zw

theorem zbb{t:Nat}{a:Nat}{b:Nat}{x0:Xp}{x1:Xp}(h10:b ≠ a):xv E cP env hp (.n (.slice t (.t a) (some (.t b)) none none) (.cons a x0 (.cons b x1 .nil)))=ob (xv E cP env hp x0) fun u0=>ob (xv E cP env hp x1) fun u1=>y15 E t u0 (some u1) none none:=by
 simp only[xv,xvs]
 cases xv E cP env hp x0 <;> try rfl
 cases xv E cP env hp x1 <;> try rfl
 simp only[ya,av,aO,ao,aR,gOf,kv,z7,if_true,if_false,h10,↓reduceIte]
 exact zw

theorem zbc{t:Nat}{a:Nat}{x0:Xp}{d1:D}  : xv E cP env hp (.n (.slice t (.t a) (some (.c d1)) none none) (.cons a x0 .nil))=ob (xv E cP env hp x0) fun u0=>y15 E t u0 (some d1) none none:=by
 simp only[xv,xvs]
 cases xv E cP env hp x0 <;> try rfl
 simp only[ya,av,aO,ao,aR,gOf,kv,z7,if_true,if_false,↓reduceIte]
 exact zw

theorem zbd{t:Nat}{a:Nat}{b:Nat}{x0:Xp}{x1:Xp}(h10:b ≠ a):xv E cP env hp (.n (.slice t (.t a) none (some (.t b)) none) (.cons a x0 (.cons b x1 .nil)))=ob (xv E cP env hp x0) fun u0=>ob (xv E cP env hp x1) fun u1=>y15 E t u0 none (some u1) none:=by
 simp only[xv,xvs]
 cases xv E cP env hp x0 <;> try rfl
 cases xv E cP env hp x1 <;> try rfl
 simp only[ya,av,aO,ao,aR,gOf,kv,z7,if_true,if_false,h10,↓reduceIte]
 exact zw

theorem zch{t:Nat}{a:Nat}{x0:Xp}  : xv E cP env hp (.n (.slice t (.t a) none none none) (.cons a x0 .nil))=ob (xv E cP env hp x0) fun u0=>y15 E t u0 none none none:=by
 simp only[xv,xvs]
 cases xv E cP env hp x0 <;> try rfl
 simp only[ya,av,aO,ao,aR,gOf,kv,z7,if_true,if_false,↓reduceIte]
 exact zw


theorem zhb{a:Nat}{x:Xp}{i:Nat}:xv E cP env hp (.n (.extract (.t a) i) (.cons a x .nil))=ob (xv E cP env hp x) fun u=>match u with | .tup vs=>vs[i]? | _=>none:=by
 simp only[xv,xvs]
 cases xv E cP env hp x with
 |none=>rfl
 |some d=>
  simp only[ya,gOf,kv,z7,if_true]
  cases d <;> try rfl
  rename_i vs
  simp only[]
  cases vs[i]? <;> rfl

def y9d(cP:Nat->List D->Option D)(f:D)(args:List D):Option D:=match f with
 |.fn k caps=>(match y1o (frz [] depth) (args++caps) with
  |some vs=>cP k vs
  |none=>none)
 |_=>none

theorem zri{f:Opd}{as:List Opd}{ks:Xs}:xv E cP env hp (.n (.call 0 f as) ks)=ob (xvs E cP env hp ks) fun vs=>y9d cP (gOf vs f) (as.map (gOf vs)):=by
 simp only[xv]
 cases xvs E cP env hp ks with
 |none=>rfl
 |some vs=>
  simp only[ya,z7,y9d]
  cases gOf vs f <;> try rfl
  rename_i k caps
  simp only[]
  cases y1o (frz [] depth) (as.map (gOf vs)++caps) with
  |none=>rfl
  |some l=>simp only[];cases cP k l <;> rfl

theorem zrc:xvs E cP env hp .nil=some []:=by simp only[xvs]
theorem zng{s:Nat}{x:Xp}{r:Xs}:xvs E cP env hp (.cons s x r)=ob (xv E cP env hp x) fun d=>ob (xvs E cP env hp r) fun l=>some ((s,d)::l):=by
 simp only[xvs]
 cases xv E cP env hp x with
 |none=>rfl
 |some d=>simp only[z7];cases xvs E cP env hp r <;> rfl

def y75(E:Env)(t len:Nat)(ps:List (Nat × D)):Option D:=match (E.ty t).k with
 |.slice e=>(match y1u E e with
  |some z=>if len*(E.ty e).size<=16777216 then(match y52 (E.ty e).size (af len z) ps with
   |some els=>some (.imm .exact els)
   |none=>none) else none
  |none=>none)
 |_=>none
theorem zjz{t len:Nat}{ps:List (Nat × Opd)}{ks:Xs}:xv E cP env hp (.n (.bslice false t len ps) ks)=ob (xvs E cP env hp ks) fun vs=>y75 E t len (ps.map fun p=>(p.1,gOf vs p.2)):=by
 simp only[xv]
 cases xvs E cP env hp ks with
 |none=>rfl
 |some vs=>
  simp only[ya,z7,y75,aM,false_and,if_false]
  cases (E.ty t).k <;> try rfl
  rename_i e
  simp only[]
  cases hz:y1u E e with
  |none=>rfl
  |some z=>
   by_cases hh:len*(E.ty e).size<=16777216
   ·simp only[hh,if_true]
    cases y52 (E.ty e).size (af len z) (ps.map fun p=>(p.1,gOf vs p.2)) <;> rfl
   ·simp only[hh,if_false]

def y8s(E:Env)(t:Nat)(ps:List (Nat × D)):Option D:=if(E.ty t).zero.length=(E.ty t).size/\(E.ty t).size ≠ 0 then y6s E t ps else none
theorem znl{t:Nat}{ps:List (Nat × Opd)}{ks:Xs}:xv E cP env hp (.n (.build t ps) ks)=ob (xvs E cP env hp ks) fun vs=>y8s E t (ps.map fun p=>(p.1,gOf vs p.2)):=by
 simp only[xv]
 cases xvs E cP env hp ks with
 |none=>rfl
 |some vs=>
  simp only[ya,z7,y8s]
  by_cases hh:(E.ty t).zero.length=(E.ty t).size/\(E.ty t).size ≠ 0
  ·simp only[if_pos hh];exact zw
  ·simp only[if_neg hh]

theorem zrf{f:Nat}{cs:List Opd}{ks:Xs}:xv E cP env hp (.n (.mkfn f cs) ks)=ob (xvs E cP env hp ks) fun vs=>some (.fn f (cs.map (gOf vs))):=by
 simp only[xv]
 cases xvs E cP env hp ks <;> rfl

variable{cS cY:Nat->List D->List Obj->Option (D × List Obj)}{base:Nat}

theorem zsj:rTS E cP cS cY base [] env hp=some (env,hp):=rfl
theorem zsl{i:Nat}{x:Xp}{r:List TS}:rTS E cP cS cY base (.asg i x::r) env hp=ob (xv E cP env hp x) fun d=>rTS E cP cS cY base r (env.set i d) hp:=by
 simp only[rTS]
 cases xv E cP env hp x <;> rfl
theorem zsk{dst:Option Nat}{op:DOp}{ks:Xs}{r:List TS}:rTS E cP cS cY base (.eff none dst op ks none::r) env hp=ob (xvs E cP env hp ks) fun vs=>ob (yd E cP cS cY hp.length (gOf vs) hp op) fun p=>rTS E cP cS cY base r (y86 env dst p.1) p.2:=by
 simp only[rTS,gdT]
 cases xvs E cP env hp ks with
 |none=>rfl
 |some vs=>simp only[z7];cases yd E cP cS cY hp.length (gOf vs) hp op <;> rfl
theorem zo4{k:Nat}{dst:Option Nat}{op:DOp}{ks:Xs}{r:List TS}:rTS E cP cS cY base (.eff none dst op ks (some k)::r) env hp=ob (xvs E cP env hp ks) fun vs=>ob (yd E cP cS cY (base+k) (gOf vs) hp op) fun p=>rTS E cP cS cY base r (y86 env dst p.1) p.2:=by
 simp only[rTS,gdT]
 cases xvs E cP env hp ks with
 |none=>rfl
 |some vs=>simp only[z7];cases yd E cP cS cY (base+k) (gOf vs) hp op <;> rfl

variable{Q:Ex->List D->List Obj->Prop}

theorem wR{l:List TS}:wT E (.run 0 l) Q env hp=obP (rTS E (y1l E (dL E)) (y1h E (dL E)) (y2x (dL E)) hp.length l env hp) fun p=>Q .normal p.1 p.2:=by
 simp only[wT,List.replicate_zero,List.append_nil,rTL]
 cases rTS E (y1l E (dL E)) (y1h E (dL E)) (y2x (dL E)) hp.length l env hp <;> rfl
theorem wRp{n:Nat}{l:List TS}:wT E (.run n l) Q env hp=obP (rTS E (y1l E (dL E)) (y1h E (dL E)) (y2x (dL E)) hp.length l env (hp++af n .dead)) fun p=>Q .normal p.1 p.2:=by
 simp only[wT,rTL]
 cases rTS E (y1l E (dL E)) (y1h E (dL E)) (y2x (dL E)) hp.length l env (hp++af n .dead) <;> rfl

def y9b(t:D)(a b:Prop):Prop:=match t with
 |.bool t=>if t=true then a else b
 |_=>False
theorem ztk{t:Bool}{a b:Prop}:y9b (.bool t) a b=if t=true then a else b:=rfl
theorem z18{t t':D}{a b:Prop}(h:t=t'):y9b t a b=y9b t' a b:=by rw[h]
theorem z1n{t t':D}{a b:Option D}(h:t=t'):yba t a b=yba t' a b:=by rw[h]
theorem wC{i:Nat}{a b:TC}:wT E (.cond i a b) Q env hp=obP env[i]? fun t=>y9b t (wT E a Q env hp) (wT E b Q env hp):=by
 simp only[wT]
 cases env[i]? with
 |none=>rfl
 |some d=>cases d <;> rfl

end
end Dv

namespace Dv

section
variable{E:Env}{cP:Nat->List D->Option D}{cS cY:Nat->List D->List Obj->Option (D × List Obj)}{env:List D}{hp:List Obj}{t id:Nat}{g:Opd->D}

theorem zq7{k:aV}{a b:Int}:y2m E .add t (.int k a) (.int k b)=some (.int k (k.wrap (a+b))):=by simp[y2m,y2g]
theorem zpw{k:aV}{a b:Int}:y2m E .sub t (.int k a) (.int k b)=some (.int k (k.wrap (a - b))):=by simp[y2m,y2g]
theorem zq0{k:aV}{a b:Int}:y2m E .mul t (.int k a) (.int k b)=some (.int k (k.wrap (a*b))):=by simp[y2m,y2g]
theorem zq5{k:aV}{a b:Int}:y2m E .eql t (.int k a) (.int k b)=some (.bool (a == b)):=by simp[y2m,y2g]
theorem zpz{k:aV}{a b:Int}:y2m E .neq t (.int k a) (.int k b)=some (.bool (a != b)):=by simp[y2m,y2g]
theorem zq1{k:aV}{a b:Int}:y2m E .lss t (.int k a) (.int k b)=some (.bool (decide (a<b))):=by simp[y2m,y2g]
theorem zq2{k:aV}{a b:Int}:y2m E .leq t (.int k a) (.int k b)=some (.bool (decide (a<=b))):=by simp[y2m,y2g]
theorem zq3{k:aV}{a b:Int}:y2m E .gtr t (.int k a) (.int k b)=some (.bool (decide (b<a))):=by simp[y2m,y2g]
theorem zq4{k:aV}{a b:Int}:y2m E .geq t (.int k a) (.int k b)=some (.bool (decide (b<=a))):=by simp[y2m,y2g]
theorem z9w{a b:List D}:y2m E .eql t (.agg a) (.agg b)=if(E.ty t).eqc=true/\y1i a (E.ty t).zero=true then ob (eqL a b) (fun r=>some (.bool r)) else none:=by
 simp only[y2m]
 split
 ·cases eqL a b <;> rfl
 ·rfl
theorem z9v{a b:List D}:y2m E .neq t (.agg a) (.agg b)=if(E.ty t).eqc=true/\y1i a (E.ty t).zero=true then ob (eqL a b) (fun r=>some (.bool (!r))) else none:=by
 simp only[y2m]
 split
 ·cases eqL a b <;> rfl
 ·rfl
theorem zs0{b:Bool}:unD .not (.bool b)=some (.bool (!b)):=rfl
theorem zs1{k:aV}{n:Int}:unD .neg (.int k n)=some (.int k (k.wrap (0 - n))):=rfl
theorem zok{sp:y1a}{els:List D}:y62 E hp t (.imm sp els)=(match (E.ty t).k with | .slice _=>some (.int .i64 els.length) | .arr n _=>some (.int .i64 n) | _=>none):=by
 unfold y62
 cases (E.ty t).k <;> rfl
theorem zss{i off len sz:Nat}{ag gr:Bool}:y62 E hp t (.sl i off len sz ag gr)=(match (E.ty t).k with | .slice _=>some (.int .i64 len) | .arr n _=>some (.int .i64 n) | _=>none):=by
 unfold y62
 cases (E.ty t).k <;> rfl
theorem zoi{s:List UInt8}:y62 E hp t (.str s)=(match (E.ty t).k with | .str=>some (.int .i64 s.length) | .arr n _=>some (.int .i64 n) | _=>none):=by
 unfold y62
 cases (E.ty t).k <;> rfl
def y8g(o:Option Obj):Option (List D):=match o with
 |some (.cells cs)=>some cs
 |some (.frozen cs)=>some cs
 |_=>none
theorem z8s{cs:List D}:y8g (some (.cells cs))=some cs:=rfl
theorem z7m{cs:List D}:y8g (some (.frozen cs))=some cs:=rfl
theorem zy{i off:Nat}:yv E hp t (.loc i off)=ob (y8g hp[i]?) fun cs=>ob (y1x cs off (E.ty t).size) (yj (E.ty t).ag):=by
 simp only[yv]
 cases hp[i]? with
 |none=>rfl
 |some o=>cases o <;> rfl
theorem z52{cs:List D}:yv E hp t (.iptr cs)=ob (y1x cs 0 (E.ty t).size) (yj (E.ty t).ag):=rfl
theorem zis{sp:y1a}{els:List D}{k:aV}{n:Int}:y31 E t (.imm sp els) (.int k n)=(match (E.ty t).k with | .slice e=>if 0<=n then ob els[n.toNat]? (fun d=>if d.cellsL.length=(E.ty e).size then some (.iptr d.cellsL) else none) else none | _=>none):=by
 unfold y31
 cases (E.ty t).k <;> try rfl
 by_cases h:0<=n
 ·simp only[h,if_true];cases els[n.toNat]? <;> rfl
 ·simp only[h,if_false]
theorem zlr{i off len sz:Nat}{ag gr:Bool}{k:aV}{n:Int}:y31 E t (.sl i off len sz ag gr) (.int k n)=(match (E.ty t).k with | .slice e=>if 0<=n/\n<len/\sz=(E.ty e).size then some (.loc i (off+n.toNat*sz)) else none | _=>none):=by
 unfold y31
 cases (E.ty t).k <;> rfl
theorem zir{i off:Nat}{k:aV}{n:Int}:y31 E t (.loc i off) (.int k n)=(match (E.ty t).k with | .arr len e=>if 0<=n/\n<len then some (.loc i (off+n.toNat*(E.ty e).size)) else none | _=>none):=by
 unfold y31
 cases (E.ty t).k <;> rfl
theorem zj6{i off f:Nat}:y4z E t (.loc i off) f=(match (E.ty t).k with | .struct fs=>ob fs[f]? (fun p=>if(E.ty p.2).size=0 then none else some (.loc i (off+p.1))) | _=>none):=by
 unfold y4z
 cases (E.ty t).k <;> try rfl
 rename_i fs
 simp only[]
 cases fs[f]? <;> rfl
theorem zfk{cs:List D}{f:Nat}:y4z E t (.iptr cs) f=(match (E.ty t).k with | .struct fs=>ob fs[f]? (fun p=>if(E.ty p.2).size=0 then none else some (.iptr (cs.drop p.1))) | _=>none):=by
 unfold y4z
 cases (E.ty t).k <;> try rfl
 rename_i fs
 simp only[]
 cases fs[f]? <;> rfl
theorem zio{cs:List D}{k:aV}{n:Int}:y55 E t (.agg cs) (.int k n)=(match (E.ty t).k with | .arr len e=>if 0<=n/\n<len then ob (y1x cs (n.toNat*(E.ty e).size) (E.ty e).size) (yj (E.ty e).ag) else none | _=>none):=by
 unfold y55
 cases (E.ty t).k <;> rfl
theorem zfr{b:Bool}:D.cellsL (.bool b)=[.bool b]:=rfl
theorem zke{b:Bool}:D.storable (.bool b)=true:=rfl
theorem zn9{b:Bool}:D.atom (.bool b)=true:=rfl
theorem zjj{k:aV}{n:Int}:D.cellsL (.int k n)=[.int k n]:=rfl
theorem znx{k:aV}{n:Int}:D.storable (.int k n)=true:=rfl
theorem zqb{k:aV}{n:Int}:D.atom (.int k n)=true:=rfl
theorem zjg{s:List UInt8}:D.cellsL (.str s)=[.str s]:=rfl
theorem znu{s:List UInt8}:D.storable (.str s)=true:=rfl
theorem zq8{s:List UInt8}:D.atom (.str s)=true:=rfl
theorem zjk{sp:y1a}{els:List D}:D.cellsL (.imm sp els)=[.imm sp els]:=rfl
theorem zny{sp:y1a}{els:List D}:D.storable (.imm sp els)=true:=rfl
theorem zqc{sp:y1a}{els:List D}:D.atom (.imm sp els)=true:=rfl
theorem zmw{i off len sz:Nat}{ag gr:Bool}:D.cellsL (.sl i off len sz ag gr)=[.sl i off len sz ag gr]:=rfl
theorem zsc{i off len sz:Nat}{ag gr:Bool}:D.storable (.sl i off len sz ag gr)=true:=rfl
theorem ztt{i off len sz:Nat}{ag gr:Bool}:D.atom (.sl i off len sz ag gr)=true:=rfl
theorem zji{i off:Nat}:D.cellsL (.loc i off)=[.loc i off]:=rfl
theorem znw{i off:Nat}:D.storable (.loc i off)=true:=rfl
theorem zqa{i off:Nat}:D.atom (.loc i off)=true:=rfl
theorem zfq{cs:List D}:D.cellsL (.iptr cs)=[.iptr cs]:=rfl
theorem zkd{cs:List D}:D.storable (.iptr cs)=true:=rfl
theorem zn8{cs:List D}:D.atom (.iptr cs)=true:=rfl
theorem zjh{m:Option Nat}:D.cellsL (.map m)=[.map m]:=rfl
theorem znv{m:Option Nat}:D.storable (.map m)=true:=rfl
theorem zq9{m:Option Nat}:D.atom (.map m)=true:=rfl
theorem zmx{f:Nat}{cs:List D}:D.cellsL (.fn f cs)=[.fn f cs]:=rfl
theorem zsd{f:Nat}{cs:List D}:D.storable (.fn f cs)=true:=rfl
theorem ztu{f:Nat}{cs:List D}:D.atom (.fn f cs)=true:=rfl
theorem zjl{cs:List D}:D.cellsL (.agg cs)=cs:=rfl
theorem znz{cs:List D}:D.storable (.agg cs)=cs.all D.atom:=rfl
theorem ze2:D.cellsL .nilfn=[.nilfn]:=rfl
theorem zhe:D.storable .nilfn=true:=rfl
theorem zjp:D.atom .nilfn=true:=rfl
theorem zfp:D.cellsL .nilp=[.nilp]:=rfl
theorem zkc:D.storable .nilp=true:=rfl
theorem zn7:D.atom .nilp=true:=rfl
theorem zs4{cs:List D}{o:Nat}:y1x cs o 0=some []:=rfl
theorem zs5{cs:List D}{o n:Nat}:y1x cs o (n+1)=ob cs[o]? fun c=>ob (y1x cs (o+1) n) fun r=>some (c::r):=by
 simp only[y1x]
 cases cs[o]? with
 |none=>rfl
 |some c=>simp only[z7];cases y1x cs (o+1) n <;> rfl
theorem zi0{cs:List D}:yj true cs=some (.agg cs):=rfl
theorem zev{c:D}:yj false [c]=some c:=rfl
theorem zu2  {s b:Nat} {z:List D} {q:Bool}:TI.ag ⟨.bool ,s,b,z,q⟩=false:=rfl
theorem zvq{k:aV}{s b:Nat}{z:List D}{q:Bool}:TI.ag ⟨.int k,s,b,z,q⟩=false:=rfl
theorem zvn  {s b:Nat} {z:List D} {q:Bool}:TI.ag ⟨.str ,s,b,z,q⟩=false:=rfl
theorem zqk{e:Nat}{s b:Nat}{z:List D}{q:Bool}:TI.ag ⟨.slice e,s,b,z,q⟩=false:=rfl
theorem zne{fs:List (Nat × Nat)}{s b:Nat}{z:List D}{q:Bool}:TI.ag ⟨.struct fs,s,b,z,q⟩=true:=rfl
theorem zvr{n e:Nat}{s b:Nat}{z:List D}{q:Bool}:TI.ag ⟨.arr n e,s,b,z,q⟩=true:=rfl
theorem zvp{k e:Nat}{s b:Nat}{z:List D}{q:Bool}:TI.ag ⟨.map k e,s,b,z,q⟩=false:=rfl
theorem zvo{e:Nat}{s b:Nat}{z:List D}{q:Bool}:TI.ag ⟨.ptr e,s,b,z,q⟩=false:=rfl
theorem zu1  {s b:Nat} {z:List D} {q:Bool}:TI.ag ⟨.func ,s,b,z,q⟩=false:=rfl
theorem ydy{vs:List (Nat × D)}{n:Nat}:gOf vs (.t n)=kv n vs:=rfl
theorem ye0{vs:List (Nat × D)}{d:D}:gOf vs (.c d)=d:=rfl
theorem ydz{vs:List (Nat × D)}{k:Nat}:gOf vs (.f k)=.fn k []:=rfl
theorem zsv{n m:Nat}{d:D}{r:List (Nat × D)}:kv n ((m,d)::r)=if n=m then d else kv n r:=rfl
theorem zkq{i:Nat}{d:D}:y86 env (some i) d=env.set i d:=rfl
theorem zkr{d:D}:y86 env none d=env:=rfl
theorem zhx{d:D}:y26 [d]=d:=rfl
theorem zhw{a b:D}:y26 [a,b]=.tup [a,b]:=rfl
theorem zdf{a b c:D}:y26 [a,b,c]=.tup [a,b,c]:=rfl
theorem ziz:y2w E env hp []=some []:=rfl
theorem zot{i:Nat}{r:List (Nat × Option Nat)}:y2w E env hp ((i,none)::r)=ob env[i]? fun d=>ob (y2w E env hp r) fun l=>some (d::l):=by
 simp only[y2w]
 cases env[i]? with
 |none=>rfl
 |some d=>simp only[z7];cases y2w E env hp r <;> rfl
theorem zou{i t:Nat}{r:List (Nat × Option Nat)}:y2w E env hp ((i,some t)::r)=ob env[i]? fun a=>ob (yv E hp t a) fun d=>ob (y2w E env hp r) fun l=>some (d::l):=by
 simp only[y2w]
 cases env[i]? with
 |none=>rfl
 |some a=>
  simp only[z7]
  cases yv E hp t a with
  |none=>rfl
  |some d=>simp only[z7];cases y2w E env hp r <;> rfl
theorem zl4{k:aV}{a b:Int}:y6l [.int k a,.int k b]=some (.int k (if a<b then b else a)):=by simp[y6l,y74]
def extV(d:D)(i:Nat):Option D:=match d with
 |.tup vs=>vs[i]?
 |_=>none
theorem zpb{vs:List D}{i:Nat}:extV (.tup vs) i=vs[i]?:=rfl
theorem zua{a:Nat}{x:Xp}{i:Nat}:xv E cP env hp (.n (.extract (.t a) i) (.cons a x .nil))=ob (xv E cP env hp x) fun u=>extV u i:=zhb
theorem zhg{x:Opd}:yd E cP cS cY id g hp (.box t x)=if(g x).storable=true then some (.loc id 0,y23 hp id (.cells (g x).cellsL)) else none:=by
 simp only[yd,DOp.fin,ya]
 split <;> rfl
theorem zcz:yd E cP cS cY id g hp (.alloc t)=if(E.ty t).zero.all D.atom=true/\(E.ty t).zero.length=(E.ty t).size/\(E.ty t).size ≠ 0 then some (.loc id 0,y23 hp id (.cells (E.ty t).zero)) else none:=by
 simp only[yd,DOp.fin,ya]
 split <;> rfl
theorem zcq{a x:Opd}:yd E cP cS cY id g hp (.store t a x)=(y3i E hp t (g a) (g x)).map (.undef,·):=rfl
def writeO(o:Option Obj):Option (List D):=match o with
 |some (.cells cs)=>some cs
 |_=>none
theorem zcj{cs:List D}:writeO (some (.cells cs))=some cs:=rfl
theorem zhd{i off:Nat}{x:D}:y3i E hp t (.loc i off) x=ob (writeO hp[i]?) fun cs=>if x.storable=true/\x.cellsL.length=(E.ty t).size/\off+(E.ty t).size<=cs.length then some (hp.set i (.cells (setCells cs off x.cellsL))) else none:=by
 simp only[y3i]
 cases hp[i]? with
 |none=>rfl
 |some o=>cases o <;> rfl
theorem zd3{cs:List D}{o:Nat}:setCells cs o []=cs:=rfl
theorem zbl{cs:List D}{o:Nat}{v:D}{r:List D}:setCells cs o (v::r)=setCells (cs.set o v) (o+1) r:=rfl
theorem zcr:yd E cP cS cY id g hp (.mkmap t)=some (.map (some id),y23 hp id (.map [])):=rfl
theorem zbi{m k v:Opd}:yd E cP cS cY id g hp (.mapset t m k v)=(y30 E hp t (g m) (g k) (g v)).map (.undef,·):=rfl
theorem zcy{f:Opd}{as:List Opd}:yd E cP cS cY id g hp (.call 1 f as)=(match g f with | .fn k caps=>ob (y1o (frz hp depth) (as.map g++caps)) (fun vs=>(cP k vs).map (·,yr hp ((as.map g++caps).flatMap (ids hp depth)))) | _=>none):=by
 simp only[yd,DOp.fin,yl]
 cases g f <;> try rfl
 rename_i k caps
 simp only[]
 cases y1o (frz hp depth) (as.map g++caps) <;> rfl
theorem zcx{f:Opd}{as:List Opd}:yd E cP cS cY id g hp (.call 2 f as)=(match g f with | .fn k caps=>y14 (cS k (as.map g++caps) hp) | .bfn k r=>y14 (cS k (r::as.map g) hp) | .yld l=>cY l (as.map g) hp | _=>none):=rfl
theorem zeh{t2:Nat}{x y:Opd}:yd E cP cS cY id g hp (.append 2 t t2 x y)=y2i E hp t t2 (g x) (g y):=rfl
theorem zei{t2:Nat}{x y:Opd}:yd E cP cS cY id g hp (.append 1 t t2 x y)=(y1r E hp id t t2 (g x) (g y)).map fun e=>(e.d,yg hp id e):=rfl
theorem zbj{len:Nat}{ps:List (Nat × Opd)}:yd E cP cS cY id g hp (.bslice true t (len+1) ps)=(match (E.ty t).k with | .slice e=>ob (y1u E e) (fun z=>if(len+1)*(E.ty e).size<=16777216 then ob (y52 (E.ty e).size (af (len+1) z) (ps.map fun p=>(p.1,g p.2))) (fun els=>some (.sl id 0 (len+1) (E.ty e).size (E.ty e).ag true,y23 hp id (.cells (yo els)))) else none) | _=>none):=by
 simp only[yd,DOp.fin,ya]
 cases (E.ty t).k <;> try rfl
 rename_i e
 simp only[]
 cases y1u E e with
 |none=>rfl
 |some z=>
  simp only[z7]
  by_cases hh:(len+1)*(E.ty e).size<=16777216
  ·simp only[hh,if_true]
   cases y52 (E.ty e).size (af (len+1) z) (ps.map fun p=>(p.1,g p.2)) <;> rfl
  ·simp only[hh,if_false];rfl
def ydt(o:Option Obj):Option (List (D × D)):=match o with
 |some (.map es)=>some es
 |_=>none
theorem zbw{es:List (D × D)}:ydt (some (.map es))=some es:=rfl
theorem zdj{i:Nat}{k:D}:y22 E hp t (.map (some i)) k false=(match (E.ty t).k with | .map kt e=>if y41 E kt k=true then ob (ydt hp[i]?) (fun es=>ob (y16 k es) fun r=>match r with | some v=>some v | none=>y1u E e) else none | _=>none):=by
 unfold y22
 cases (E.ty t).k <;> try rfl
 rename_i kt e
 by_cases h:y41 E kt k=true
 ·simp only[h,if_true]
  cases hp[i]? with
  |none=>rfl
  |some o=>
   cases o <;> try rfl
   rename_i es
   simp only[zbw,z7]
   cases y16 k es with
   |none=>rfl
   |some r=>
    cases r with
    |some v=>rfl
    |none=>simp only[z7];cases y1u E e <;> rfl
 ·simp only[h,if_false];rfl
theorem zdh{i:Nat}{k v:D}:y30 E hp t (.map (some i)) k v=(match (E.ty t).k with | .map kt e=>if y41 E kt k=true/\v.storable=true/\v.cellsL.length=(E.ty e).size then ob (ydt hp[i]?) (fun es=>ob (y1q k v es) fun es=>some (hp.set i (.map es))) else none | _=>none):=by
 unfold y30
 cases (E.ty t).k <;> try rfl
 rename_i kt e
 by_cases h:y41 E kt k=true/\v.storable=true/\v.cellsL.length=(E.ty e).size
 ·simp only[if_pos h]
  cases hp[i]? with
  |none=>rfl
  |some o=>
   cases o <;> try rfl
   rename_i es
   simp only[zbw,z7]
   cases y1q k v es <;> rfl
 ·simp only[if_neg h]
theorem zli{xs:List D}:y41 E t (.agg xs)=((E.ty t).eqc && y1i xs (E.ty t).zero):=rfl
theorem zic:y1i [] []=true:=rfl
theorem zf8{a b:Bool}{r s:List D}:y1i (.bool a::r) (.bool b::s)=y1i r s:=rfl
theorem zid{k:aV}{a b:Int}{r s:List D}:y1i (.int k a::r) (.int k b::s)=y1i r s:=by simp[y1i]
theorem ztb:eqL [] []=some true:=rfl
theorem zpd{x y:D}{r s:List D}:eqL (x::r) (y::s)=ob (y1w x y) fun a=>ob (eqL r s) fun b=>some (a && b):=by
 simp only[eqL]
 cases y1w x y with
 |none=>rfl
 |some a=>simp only[z7];cases eqL r s <;> rfl
theorem zft{a b:Bool}:y1w (.bool a) (.bool b)=some (a == b):=rfl
theorem zjq{k:aV}{a b:Int}:y1w (.int k a) (.int k b)=some (a == b):=by simp[y1w]
theorem zr1{n off i len sz:Nat}{ag gr:Bool}:frz hp (n+1) (.sl i off len sz ag gr)=ob (y8g hp[i]?) fun cs=>ob (y2l sz ag len (cs.drop off)) fun els=>(y1o (frz hp n) els).map (.imm .none):=by
 simp only[frz,yx]
 cases hp[i]? with
 |none=>rfl
 |some o=>
  cases o <;> try rfl
  ·simp only[z8s,z7];cases y2l sz ag len _ <;> rfl
  ·simp only[z7m,z7];cases y2l sz ag len _ <;> rfl
def ybn(o:Option Obj):Option (Nat × Nat):=match o with
 |some (.tok u s)=>some (u,s)
 |_=>none
def y33(E:Env)(e:Nat)(els new:List D):Prop:=(els.length+new.length)*((E.ty e).bytes+1)<=yi/\(E.ty e).bytes<=65536/\(y1u E e).isSome=true/\y2p (E.ty e).size els=true
instance{e:Nat}{els new:List D}:Decidable (y33 E e els new):=inferInstanceAs (Decidable (_/\_))
def y7i(E:Env)(hp:List Obj)(id t t2:Nat)(x y:D):Option (D × List Obj):=(y2h E hp id t t2 x y).map fun e=>(e.d,yg hp id e)
def ydb(E:Env)(e:Nat)(y:D):Option (List D):=match y with
 |.str s=>if 1=(E.ty e).size/\(E.ty e).ag=false then some (s.map yc) else none
 |_=>none
theorem zbh{e:Nat}{s:List UInt8}:ydb E e (.str s)=if 1=(E.ty e).size/\(E.ty e).ag=false then some (s.map yc) else none:=rfl
theorem zbg{u s:Nat}:ybn (some (.tok u s))=some (u,s):=rfl
theorem zj{t2:Nat}{x y:Opd}:yd E cP cS cY id g hp (.append 0 t t2 x y)=y7i E hp id t t2 (g x) (g y):=rfl
theorem z1d{t2:Nat}{els:List D}{y:D}:y7i E hp id t t2 (.imm .exact els) y=(match (E.ty t).k,(E.ty t2).k with | .slice e,.slice _=>ob (y13 hp (E.ty e).size (E.ty e).ag y) (fun new=>if y33 E e els new then some (.imm (.tok id) (els++new),y23 hp id (.tok ((els.length+new.length)*(E.ty e).size) (E.ty e).size)) else none) | .slice e,.str=>ob (ydb E e y) (fun new=>if y33 E e els new then some (.imm (.tok id) (els++new),y23 hp id (.tok ((els.length+new.length)*(E.ty e).size) (E.ty e).size)) else none) | _,_=>none):=by
 have key:∀(e:Nat) (new:List D),((y2c E hp id e .exact els new).map fun e=>(e.d,yg hp id e))=if y33 E e els new then some (.imm (.tok id) (els++new),y23 hp id (.tok ((els.length+new.length)*(E.ty e).size) (E.ty e).size)) else none:=fun e new=>by
  unfold y2c
  by_cases hh:y33 E e els new
  ·have h1:(els.length+new.length)*((E.ty e).bytes+1)<=yi/\(E.ty e).bytes<=65536/\(y1u E e).isSome=true/\y2p (E.ty e).size els=true:=hh
   rw[if_pos h1,if_pos hh];rfl
  ·have h1 : ¬ ((els.length+new.length)*((E.ty e).bytes+1)<=yi/\(E.ty e).bytes<=65536/\(y1u E e).isSome=true/\y2p (E.ty e).size els=true):=hh
   rw[if_neg h1,if_neg hh];rfl
 unfold y7i y2h
 cases (E.ty t).k <;> try rfl
 cases (E.ty t2).k <;> try rfl
 ·simp only[]
  cases y <;> try rfl
  rename_i e s
  simp only[zbh]
  by_cases hs:1=(E.ty e).size/\(E.ty e).ag=false
  ·simp only[if_pos hs,z7];exact key _ _
  ·simp only[if_neg hs];rfl
 ·rename_i e e2
  simp only[]
  cases y13 hp (E.ty e).size (E.ty e).ag y with
  |none=>rfl
  |some new=>simp only[z7];exact key _ _
theorem z1r{t2 k:Nat}{els:List D}{y:D}:y7i E hp id t t2 (.imm (.tok k) els) y=(match (E.ty t).k,(E.ty t2).k with | .slice e,.slice _=>ob (y13 hp (E.ty e).size (E.ty e).ag y) (fun new=>if y33 E e els new then ob (ybn hp[k]?) (fun u=>if u.1=els.length*(E.ty e).size/\u.2=(E.ty e).size then some (.imm (.tok id) (els++new),y23 (hp.set k .dead) id (.tok ((els.length+new.length)*(E.ty e).size) (E.ty e).size)) else none) else none) | .slice e,.str=>ob (ydb E e y) (fun new=>if y33 E e els new then ob (ybn hp[k]?) (fun u=>if u.1=els.length*(E.ty e).size/\u.2=(E.ty e).size then some (.imm (.tok id) (els++new),y23 (hp.set k .dead) id (.tok ((els.length+new.length)*(E.ty e).size) (E.ty e).size)) else none) else none) | _,_=>none):=by
 have key:∀(e:Nat) (new:List D),((y2c E hp id e (.tok k) els new).map fun e=>(e.d,yg hp id e))=if y33 E e els new then ob (ybn hp[k]?) (fun u=>if u.1=els.length*(E.ty e).size/\u.2=(E.ty e).size then some (.imm (.tok id) (els++new),y23 (hp.set k .dead) id (.tok ((els.length+new.length)*(E.ty e).size) (E.ty e).size)) else none) else none:=fun e new=>by
  unfold y2c
  by_cases hh:y33 E e els new
  ·have h1:(els.length+new.length)*((E.ty e).bytes+1)<=yi/\(E.ty e).bytes<=65536/\(y1u E e).isSome=true/\y2p (E.ty e).size els=true:=hh
   rw[if_pos h1,if_pos hh]
   simp only[]
   cases hp[k]? with
   |none=>rfl
   |some o=>
    cases o <;> try rfl
    rename_i u s
    simp only[zbg,z7]
    by_cases h2:u=els.length*(E.ty e).size/\s=(E.ty e).size
    ·simp only[if_pos h2];rfl
    ·simp only[if_neg h2];rfl
  ·have h1 : ¬ ((els.length+new.length)*((E.ty e).bytes+1)<=yi/\(E.ty e).bytes<=65536/\(y1u E e).isSome=true/\y2p (E.ty e).size els=true):=hh
   rw[if_neg h1,if_neg hh];rfl
 unfold y7i y2h
 cases (E.ty t).k <;> try rfl
 cases (E.ty t2).k <;> try rfl
 ·simp only[]
  cases y <;> try rfl
  rename_i e s
  simp only[zbh]
  by_cases hs:1=(E.ty e).size/\(E.ty e).ag=false
  ·simp only[if_pos hs,z7];exact key _ _
  ·simp only[if_neg hs];rfl
 ·rename_i e e2
  simp only[]
  cases y13 hp (E.ty e).size (E.ty e).ag y with
  |none=>rfl
  |some new=>simp only[z7];exact key _ _
theorem zhy:y26 []=.tup []:=rfl
theorem zi8{sz:Nat}{ag:Bool}{sp:y1a}{els:List D}:y13 hp sz ag (.imm sp els)=if(els.all fun d=>d.storable && d.cellsL.length == sz)=true then some els else none:=rfl

end
end Dv

namespace Dv

section
variable{E:Env}{cP:Nat->List D->Option D}{cS cY:Nat->List D->List Obj->Option (D × List Obj)}{env:List D}{hp:List Obj}{t id base:Nat}{g:Opd->D}

theorem zq6{k:aV}{a b:Int}:y2m E .and t (.int k a) (.int k b)=some (.int k (yag k a b)):=by simp[y2m,y2g]
theorem ztr{k:aV}{a b:Int}:y2m E .or t (.int k a) (.int k b)=some (.int k (y9l k a b)):=by simp[y2m,y2g]
theorem zpv{k:aV}{a b:Int}:y2m E .xor t (.int k a) (.int k b)=some (.int k (y7o k a b)):=by simp[y2m,y2g]
theorem zcw{f:Opd}{as:List Opd}:yd E cP cS cY id g hp (.call 3 f as)=(match g f with | .fn k caps=>ob (y1o (frz hp depth) (as.map g++caps)) (fun vs=>ob (cP k vs) fun d=>if d.closed=true then some (d,hp) else none) | _=>none):=by
 simp only[yd,DOp.fin,yl]
 cases g f <;> try rfl
 rename_i k caps
 simp only[]
 cases y1o (frz hp depth) (as.map g++caps) with
 |none=>rfl
 |some vs=>simp only[z7];cases cP k vs <;> rfl
theorem zfo{b:Bool}:D.closed (.bool b)=true:=rfl
theorem zjd{k:aV}{n:Int}:D.closed (.int k n)=true:=rfl
theorem zjb{l:List D}:D.closed (.tup l)=l.all D.flatB:=rfl
theorem zj2{b:Bool}:D.flatB (.bool b)=true:=rfl
theorem zmd{k:aV}{n:Int}:D.flatB (.int k n)=true:=rfl
def gdV{A:Type}(u:D)(b:Bool)(x y:Option A):Option A:=match u with
 |.bool c=>if c=b then x else y
 |_=>y
theorem zvc{A:Type}{c b:Bool}{x y:Option A}:gdV (.bool c) b x y=if c=b then x else y:=rfl
theorem z26{A:Type}{u u':D}{b:Bool}{x y:Option A}(h:u=u'):gdV u b x y=gdV u' b x y:=by rw[h]
theorem zo5{x:Xp}{b:Bool}{dst:Option Nat}{op:DOp}{ks:Xs}{r:List TS}:rTS E cP cS cY base (.eff (some (x,b)) dst op ks none::r) env hp=ob (xv E cP env hp x) fun u=>gdV u b (ob (xvs E cP env hp ks) fun vs=>ob (yd E cP cS cY hp.length (gOf vs) hp op) fun p=>rTS E cP cS cY base r (y86 env dst p.1) p.2) (rTS E cP cS cY base r (y86 env dst .undef) hp):=by
 simp only[rTS,gdT]
 cases xv E cP env hp x with
 |none=>rfl
 |some u=>
  simp only[z7]
  cases u with
  |bool c=>
   simp only[zvc]
   by_cases h:c=b
   ·subst h
    simp only[beq_self_eq_true,if_true]
    cases xvs E cP env hp ks with
    |none=>rfl
    |some vs=>simp only[z7];cases yd E cP cS cY hp.length (gOf vs) hp op <;> rfl
   ·have:(c == b)=false:=by simpa using h
    simp only[this,if_neg h]
  |_=>rfl
theorem zp0{n:Nat}{cs:List D}:yac hp (n+1) (.tup cs)=(y1o (y90 hp n) cs).map .tup:=rfl
theorem zj0{n:Nat}{cs:List D}:yac hp (n+1) (.imm .exact cs)=(y1o (frz hp n) cs).map (.imm .exact):=rfl
theorem zj1{n:Nat}{cs:List D}:y90 hp (n+1) (.imm .exact cs)=(y1o (frz hp n) cs).map (.imm .exact):=rfl
theorem zm6{n:Nat}{cs:List D}:y90 hp (n+1) (.imm .none cs)=(y1o (frz hp n) cs).map (.imm .none):=rfl
theorem zp5{n:Nat}{k:aV}{i:Int}:y90 hp (n+1) (.int k i)=some (.int k i):=rfl

theorem zfb{b:Bool}:yw (.bool b)=false:=rfl
theorem zik{k:aV}{n:Int}:yw (.int k n)=false:=rfl
theorem zii{b:List UInt8}:yw (.str b)=false:=rfl
theorem zil{sp:y1a}{l:List D}:yw (.imm sp l)=false:=rfl
theorem zln{a b c d:Nat}{e f:Bool}:yw (.sl a b c d e f)=false:=rfl
theorem zlo{a:Nat}{l:List D}:yw (.fn a l)=false:=rfl
theorem zij{a b:Nat}:yw (.loc a b)=false:=rfl
theorem zdp:yw .undef=false:=rfl
def isU:D->Bool
 |.undef=>true
 |_=>false
theorem zfa:yw (.tup [])=false:=rfl
theorem zfc:yw (.agg [])=false:=rfl
theorem zlm:isU .undef=true:=rfl
theorem zon{b:Bool}:isU (.bool b)=false:=rfl
theorem zsy{k:aV}{n:Int}:isU (.int k n)=false:=rfl
theorem zsw{b:List UInt8}:isU (.str b)=false:=rfl
theorem zsz{sp:y1a}{l:List D}:isU (.imm sp l)=false:=rfl
theorem zt0{l:List D}:isU (.agg l)=false:=rfl
theorem zv7{a:Nat}{l:List D}:isU (.fn a l)=false:=rfl
theorem zsx{a b:Nat}:isU (.loc a b)=false:=rfl
theorem zv6{a b c d:Nat}{e f:Bool}:isU (.sl a b c d e f)=false:=rfl
theorem zof{d:D}{h:List Obj}:y14 (some (d,h))=if yw d=true then none else some (d,h):=rfl
def yb7(d:D)(a b:Prop):Prop:=if yw d=true then a else b
theorem z16{t t':D}{a b:Prop}(h:t=t'):yb7 t a b=yb7 t' a b:=by rw[h]
theorem zru{Q:Ex->List D->List Obj->Prop}:wT E .dead Q env hp=False:=rfl
theorem zcv{f:Opd}{as:List Opd}:yd E cP cS cY id g hp (.call 6 f as)=(match g f with | .fn k caps=>if E.mp k=true then cS k (as.map g++caps) hp else none | _=>none):=rfl
def ya2(d:D):Option D:=match d with
 |.loc i o=>some (.loc i o)
 |.iptr cs=>some (.iptr cs)
 |_=>none
theorem zl0{i o:Nat}:ya2 (.loc i o)=some (.loc i o):=rfl
theorem zi1{l:List D}:ya2 (.iptr l)=some (.iptr l):=rfl
def yb6(b:Bool)(d:D):Option D:=match b,d with
 |false,.int .i64 n=>some (.tup [.undef,.int .i64 n])
 |true,.agg [.int .i64 n]=>some (.tup [.undef,.agg [.int .i64 n]])
 |_,_=>none
theorem zl5{n:Int}:yb6 false (.int .i64 n)=some (.tup [.undef,.int .i64 n]):=rfl
theorem zl6{n:Int}:yb6 true (.agg [.int .i64 n])=some (.tup [.undef,.agg [.int .i64 n]]):=rfl
theorem zre{a:Nat}{x:Xp}:xv E cP env hp (.n (.nilc (.t a)) (.cons a x .nil))=ob (xv E cP env hp x) fun u=>ya2 u:=by
 simp only[xv,xvs]
 cases xv E cP env hp x with
 |none=>rfl
 |some d=>
  simp only[ya,gOf,kv,z7,if_true]
  cases d <;> rfl

end
end Dv

namespace Dv

section
variable{E:Env}{cP:Nat->List D->Option D}{cS cY:Nat->List D->List Obj->Option (D × List Obj)}{env:List D}{hp:List Obj}{t t2 id base:Nat}{g:Opd->D}

theorem z5y{f:Opd}{as:List Opd}:yd E cP cS cY id g hp (.mkcall f as)=(match g f with | .fn k caps=>ob (y1o (frz [] depth) (as.map g++caps)) (fun vs=>y5q cS k vs hp) | _=>none):=by
 simp only[yd,DOp.fin,yl]
 cases g f <;> try rfl
 rename_i k caps
 simp only[]
 cases y1o (frz [] depth) (as.map g++caps) <;> rfl
theorem zcs{x y:Opd}:yd E cP cS cY id g hp (.mkcap t x y)=y4y E hp t (g x) (g y):=rfl
theorem za4{x y:Opd}:yd E cP cS cY id g hp (.reslice t x y)=y2j E hp t (g x) (g y):=rfl
theorem zhf{x:Opd}:yd E cP cS cY id g hp (.clr t x)=y9p E hp t (g x):=rfl
theorem zeg{x y:Opd}:yd E cP cS cY id g hp (.copy t t2 x y)=y5u E hp t t2 (g x) (g y):=rfl

theorem z9t:∀(l:List UInt8),y3f (l.map yc)=some l
 |[]=>rfl
 |b::l=>by
  simp only[av,yc,y3f,z9t l]
  have:UInt8.ofNat ((b.toNat:Int)).toNat=b:=by simp
  rw[this]
theorem zcf{sp:y1a}{l:List UInt8}:yau E t t2 (.imm sp (l.map yc))=(match (E.ty t).k,(E.ty t2).k with | .slice e,.str=>if y54 E e=true then some (.str l) else none | _,_=>none):=by
 unfold yau
 cases (E.ty t).k <;> try rfl
 cases (E.ty t2).k <;> try rfl
 simp only[z9t,ao]
theorem zo2{s:List UInt8}:yap E t t2 (.str s)=(match (E.ty t).k,(E.ty t2).k with | .str,.slice e=>if y54 E e=true then some (.imm .none (s.map yc)) else none | _,_=>none):=by
 unfold yap
 cases (E.ty t).k <;> try rfl
 cases (E.ty t2).k <;> rfl
theorem zub{a:Nat}{x:Xp}:xv E cP env hp (.n (.b2s t t2 (.t a)) (.cons a x .nil))=ob (xv E cP env hp x) fun u=>yau E t t2 u:=by
 simp only[xv,xvs]
 cases xv E cP env hp x <;> try rfl
 simp only[ya,gOf,kv,if_true,z7]
 exact zw
theorem zu7{a:Nat}{x:Xp}:xv E cP env hp (.n (.s2b t t2 (.t a)) (.cons a x .nil))=ob (xv E cP env hp x) fun u=>yap E t t2 u:=by
 simp only[xv,xvs]
 cases xv E cP env hp x <;> try rfl
 simp only[ya,gOf,kv,if_true,z7]
 exact zw
theorem znh{a f:Nat}{x:Xp}:xv E cP env hp (.n (.mkbfn f (.t a)) (.cons a x .nil))=ob (xv E cP env hp x) fun u=>some (.bfn f u):=by
 simp only[xv,xvs]
 cases xv E cP env hp x <;> try rfl
 simp only[ya,gOf,kv,if_true,z7]
theorem zit{cs:List D}{k:aV}{n:Int}{m e:Nat}(h:(E.ty t).k=.arr m e):y31 E t (.iptr cs) (.int k n)=if 0<=n/\n<m then some (.iptr (cs.drop (n.toNat*(E.ty e).size))) else none:=by
 simp only[y31,h]
theorem zn5{a b:List UInt8}:y2m E .eql t (.str a) (.str b)=some (.bool (a == b)):=rfl
theorem zn4{a b:List UInt8}:y2m E .neq t (.str a) (.str b)=some (.bool (!(a == b))):=rfl
theorem zrz{k:aV}{n:Int}:unD .xor (.int k n)=some (.int k (y7o k (if k.signed then -1 else k.max) n)):=rfl
theorem zpy{k k':aV}{a b:Int}:y2m E .shl t (.int k a) (.int k' b)=if 0<=b then some (.int k (k.wrap (a*2 ^ (min b.toNat k.bits)))) else none:=rfl
theorem zpx{k k':aV}{a b:Int}:y2m E .shr t (.int k a) (.int k' b)=if 0<=b then some (.int k (a.fdiv (2 ^ (min b.toNat k.bits)))) else none:=rfl

def yab(d:D):Option D:=if d.storable=true then some (.iptr d.cellsL) else none
theorem zrh{a:Nat}{x:Xp}:xv E cP env hp (.n (.ibox t (.t a)) (.cons a x .nil))=ob (xv E cP env hp x) fun u=>yab u:=by
 simp only[xv,xvs]
 cases xv E cP env hp x <;> try rfl
 rename_i d
 simp only[ya,gOf,kv,if_true,z7,yab]
 by_cases hh:d.storable=true
 ·simp only[hh,if_true]
 ·simp only[hh];rfl
theorem zni{a:Nat}{x:Xp}:xv E cP env hp (.n (.iload t (.t a)) (.cons a x .nil))=ob (xv E cP env hp x) fun u=>y4b E t u:=by
 simp only[xv,xvs]
 cases xv E cP env hp x <;> try rfl
 simp only[ya,gOf,kv,if_true,z7]
 exact zw
theorem z1t{cs:List D}:y4b E t (.iptr cs)=ob (y1x cs 0 (E.ty t).size) fun r=>yj (E.ty t).ag r:=rfl

end
end Dv

namespace Dv

structure Cell where
 airport:Bool
 index:Int
 minute:Int
deriving DecidableEq

structure Use where
 cell:Cell
 places:Int

structure y8y where
 delay:Int
 cost:Int
 changes:Int
 uses:List Use

structure Var where
 a:Int
 b:Int
 leaves:List Int
 choices:List y8y

structure Prob where
 cells:List Cell
 capacity:List (List Int)
 vars:List Var

abbrev dI(n:Int):D:=.int .i64 n
abbrev y53(c:Cell):D:=.agg [.bool c.airport,dI c.index,dI c.minute]
abbrev y89(u:Use):D:=.agg [.bool u.cell.airport,dI u.cell.index,dI u.cell.minute,dI u.places]
abbrev y3c(l:List Int):D:=.imm .none (l.map dI)
abbrev y2q(c:y8y):D:=.agg [dI c.delay,dI c.cost,dI c.changes,.imm .none (c.uses.map y89)]
abbrev y88(v:Var):D:=.agg [dI v.a,dI v.b,y3c v.leaves,.imm .none (v.choices.map y2q)]
abbrev y6c(p:Prob):D:=.agg [.imm .none (p.cells.map y53),.imm .none (p.capacity.map y3c),.imm .none (p.vars.map y88)]

def i64(n:Int):Prop:=-9223372036854775808<=n/\n<=9223372036854775807

theorem zuf{n:Int}(h:(Go.Lit.int .i64 n).wf=true):i64 n:=by
 simp[Go.Lit.wf] at h
 obtain⟨h1,h2⟩:=h
 have e1:aB.min = -9223372036854775808:=by decide
 have e2:aB.max=9223372036854775807:=by decide
 first
  |exact⟨by omega,by omega⟩
  |(rw[e1] at h1;exact⟨h1,by first | exact h2 | (rw[e2] at h2;exact h2)⟩)

theorem zf3{A:Type}{f:A->D}{R:A->Prop}:∀{els:List D},(∀ x,x ∈ els->∃ a,x=f a/\R a)->∃ l:List A,els=l.map f /\ ∀ a,a ∈ l->R a
 |[],_=>⟨[],rfl,fun a h=>by cases h⟩
 |x::els,h=>by
  obtain⟨a,h1,h2⟩:=h x (by simp)
  obtain⟨l,h3,h4⟩:=zf3 (els:=els) fun y hy=>h y (by simp[hy])
  exact⟨a::l,by simp[h1,h3],fun b hb=>by
   rcases az.1 hb with rfl | hb
   ·exact h2
   ·exact h4 b hb⟩

end Dv

namespace Dv

theorem z7d{c:Nat}{ds:List D}(h:DTc E c ds)(hk:(E.ty c).k=.int .i64):∃ n,ds=[dI n]/\i64 n:=by
 cases h with
 |int h hw=>rw[hk] at h;cases h;exact⟨_,rfl,zuf hw⟩
 |bool h=>rw[hk] at h;cases h
 |str h=>rw[hk] at h;cases h
 |slice h _ _ _=>rw[hk] at h;cases h
 |struct h _ _=>rw[hk] at h;cases h
 |arr h _ _=>rw[hk] at h;cases h

theorem zg2{c e:Nat}{ds:List D}(h:DTc E c ds)(hk:(E.ty c).k=.slice e):∃ els,ds=[.imm .none els]/\els.length<=Go.maxLen /\ ∀ x,x ∈ els->y5b E e x:=by
 cases h with
 |slice h hl he ho=>rw[hk] at h;cases h;exact⟨_,rfl,hl,fun x hx=>⟨he x hx,ho x hx⟩⟩
 |bool h=>rw[hk] at h;cases h
 |int h hw=>rw[hk] at h;cases h
 |str h=>rw[hk] at h;cases h
 |struct h _ _=>rw[hk] at h;cases h
 |arr h _ _=>rw[hk] at h;cases h

theorem z5v{c:Nat}{fs:List (Nat × Nat)}{ds:List D}(h:DTc E c ds)(hk:(E.ty c).k=.struct fs):ds.length=(E.ty c).size /\ ∀(i:Nat) p,fs[i]? = some p->DTc E p.2 ((ds.drop p.1).take (E.ty p.2).size):=by
 cases h with
 |struct h hl hf=>rw[hk] at h;cases h;exact⟨hl,hf⟩
 |bool h=>rw[hk] at h;cases h
 |int h hw=>rw[hk] at h;cases h
 |str h=>rw[hk] at h;cases h
 |slice h _ _ _=>rw[hk] at h;cases h
 |arr h _ _=>rw[hk] at h;cases h

end Dv

namespace Dv

theorem yay{ds:List D}(h:ds.length=3):∃ a b c,ds=[a,b,c]:=by
 match ds,h with
 |[a,b,c],_=>exact⟨a,b,c,rfl⟩

theorem z8i{c:Nat}{x:D}(h:y5b E c x)(ha:(E.ty c).ag=true):∃ ds,x=.agg ds/\DTc E c ds:=by
 obtain⟨h1,h2⟩:=h
 rw[ha] at h2
 simp[yj] at h2
 exact⟨x.cellsL,h2.symm,h1⟩

theorem zcl{c:Nat}{x:D}(h:y5b E c x)(ha:(E.ty c).ag=false):DTc E c [x]:=by
 obtain⟨h1,h2⟩:=h
 rw[ha] at h2
 cases hx:x.cellsL with
 |nil=>rw[hx] at h2;simp[yj] at h2
 |cons y r=>
  rw[hx] at h1 h2
  cases r with
  |nil=>simp[yj] at h2;subst h2;exact h1
  |cons _ _=>simp[yj] at h2

end Dv

namespace Dv

theorem zc{n:Int}(h:i64 n):aB.wrap n=n:=fV n h

theorem zm{i n:Nat}(h:i<n)(hn:n<=1000000000000):aB.wrap ((i:Int)+1)=(i:Int)+1:=zc ⟨by omega,by omega⟩

theorem z6l{A:Type}{l:List A}{i:Nat}(h:i<l.length):l.drop i=l[i]::l.drop (i+1):=List.drop_eq_getElem_cons h

section
variable{hp:List Obj}

theorem zoy{n:Nat}{b:Bool}:frz hp (n+1) (.bool b)=some (.bool b):=rfl
theorem z5l{n:Nat}{k:aV}{x:Int}:frz hp (n+1) (.int k x)=some (.int k x):=rfl
theorem z4q{n:Nat}{sp:y1a}{els:List D}:frz hp (n+1) (.imm sp els)=(y1o (frz hp n) els).map (.imm .none):=rfl
theorem z73{n:Nat}{els:List D}:frz hp (n+1) (.agg els)=(y1o (frz hp n) els).map .agg:=rfl
theorem zt4{n:Nat}{els:List D}:frz hp (n+1) (.tup els)=(y1o (frz hp n) els).map .tup:=rfl
theorem zve{n:Nat}{f:Nat}{els:List D}:frz hp (n+1) (.fn f els)=(y1o (frz hp n) els).map (.fn f):=rfl
theorem zox{n:Nat}{els:List D}:frz hp (n+1) (.iptr els)=(y1o (frz hp n) els).map .iptr:=rfl
theorem z6j{f:D->Option D}:y1o f []=some []:=rfl
theorem z3h{f:D->Option D}{d:D}{r:List D}:y1o f (d::r)=ob (f d) fun d=>ob (y1o f r) fun r=>some (d::r):=by
 simp only[y1o]
 cases f d with
 |none=>rfl
 |some d=>simp only[z7];cases y1o f r <;> rfl
theorem z17{A:Type}{f:D->Option D}{g:A->D}:∀{l:List A},(∀ x,x ∈ l->f (g x)=some (g x))->y1o f (l.map g)=some (l.map g)
 |[],_=>rfl
 |x::l,h=>by
  simp only[av,z3h,h x (by simp),z7,z17 (l:=l) fun y hy=>h y (by simp[hy])]

theorem zff{n:Nat}{l:List Int}:y1o (frz hp (n+1)) (l.map dI)=some (l.map dI):=z17 fun x _=>z5l
theorem zm4{n:Nat}{l:List Cell}:y1o (frz hp (n+2)) (l.map y53)=some (l.map y53):=z17 fun x _=>rfl
theorem zgq{n:Nat}{l:List Use}:y1o (frz hp (n+2)) (l.map y89)=some (l.map y89):=z17 fun x _=>rfl
theorem zm3{n:Nat}{l:List (List Int)}:y1o (frz hp (n+2)) (l.map y3c)=some (l.map y3c):=z17 fun x _=>by
 rw[z4q,zff];rfl
theorem z9h{n:Nat}{l:List y8y}:y1o (frz hp (n+4)) (l.map y2q)=some (l.map y2q):=z17 fun x _=>by
 rw[z73]
 simp only[z3h,z5l,z7,z4q,zgq,ao,z6j]
theorem zp2{n:Nat}{l:List Var}:y1o (frz hp (n+6)) (l.map y88)=some (l.map y88):=z17 fun x _=>by
 rw[z73]
 simp only[z3h,z5l,z7,z4q,zff,z9h,ao,z6j]

end

theorem zmb{l:List Int}:yo (l.map dI)=l.map dI:=by
 induction l with
 |nil=>rfl
 |cons x r ih=>simp only[av,yo,List.flatMap_cons] at ih ⊢;rw[ih];rfl
theorem zp7{n:Nat}{x:Int}:yo (af n (.int .i64 x))=(af n x).map dI:=by
 have:=zmb (l:=af n x)
 rw[eh] at this
 rw[eh];exact this
theorem zh5:∀{l:List Int},y2l 1 false l.length (l.map dI)=some (l.map dI)
 |[]=>rfl
 |x::r=>by
  simp only[List.length_cons,av,y2l,y1x,List.getElem?_cons_zero,yj,List.drop_succ_cons,List.drop_zero,zh5]

theorem zps{cP:Nat->List D->Option D}{k:Nat}{caps args:List D}:y9d cP (.fn k caps) args=ob (y1o (frz [] depth) (args++caps)) fun vs=>cP k vs:=by
 simp only[y9d]
 cases y1o (frz [] depth) (args++caps) <;> rfl

end Dv
