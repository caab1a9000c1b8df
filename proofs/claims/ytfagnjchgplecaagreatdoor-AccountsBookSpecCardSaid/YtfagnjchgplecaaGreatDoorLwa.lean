/- Texts that a proof of this claim uses, joined: Lw.Wp, Lw.Tidy, Lw.TidyOk, Lw.TidyOk2, Lw.TidyFn, Lw.Use, Lw.Eval, Lw.Ev2, Lw.Ev3, Lw.Ev4, Lw.Enc, Lw.Base. -/
import Derived.Test.YtfagnjchgplecaaGreatDoorDvd
import Derived.Test.YtfagnjchgplecaaGreatDoorDvb
import Derived.Test.YtfagnjchgplecaaGreatDoorCode
set_option linter.all false
open Bool renaming and_eq_true->ar,false_eq_true->aP,not_eq_true'->bV,or_eq_true->b7
open Go renaming BinOp->ik,IntKind->aZ
open Go.IntKind renaming i64->aw
open Go.IntWalk renaming i64_in->gw
open List renaming all_eq_true->aD,any_eq_true->gT,getD_eq_getElem?_getD->aj,getElem?_eq_getElem->ae,getElem?_eq_some_iff->ac,getElem?_set_ne->bl,getElem?_set_self->aW,idxOf_lt_length_of_mem->iH,isEmpty_iff->gU,map_cons->av,map_nil->aQ,map_replicate->bS,mem_append->aN,mem_cons->az,mem_filter->fZ,mem_flatMap->bJ,mem_map->aT,mem_map_of_mem->j9,mem_of_getElem?->aX,replicate->af
open Nat renaming add_zero->cU
open Ne renaming symm->eU
open Option renaming isNone_iff_eq_none->iS,map_eq_some_iff->ab,map_none->aV,map_some->aq
open Option.some renaming injEq->aa
open Prod.mk renaming injEq->au
namespace Dv

section
variable{E:Env}

def wp(E:Env)(c:DC)(st:St)(Q:Ex->St->Prop):Prop:=∃ ex st',dL E c st=some (ex,st')/\Q ex st'

def wpR(E:Env)(os:List y1a)(st:St)(Q:St->Prop):Prop:=∃ st',yf E (yu E (dL E)) (y1o E (dL E)) (y3m (dL E)) os st=some st'/\Q st'

theorem zgp{c:DC}{st:St}{Q Q':Ex->St->Prop}(h:wp E c st Q)(hq:∀ ex st',Q ex st'->Q' ex st'):wp E c st Q':=by
 obtain⟨ex,st',h1,h2⟩:=h
 exact⟨ex,st',h1,hq _ _ h2⟩

theorem zvp{st:St}{Q}:wp E .skip st Q ↔ Q .normal st:=by
 constructor
 ·rintro⟨ex,st',h1,h2⟩
  rw[z89] at h1;simp at h1;obtain⟨rfl,rfl⟩:=h1;exact h2
 ·intro h;exact⟨_,_,z89,h⟩
theorem zyi{st:St}{Q}:wp E .ret st Q ↔ Q .ret st:=by
 constructor
 ·rintro⟨ex,st',h1,h2⟩
  rw[z6d] at h1;simp at h1;obtain⟨rfl,rfl⟩:=h1;exact h2
 ·intro h;exact⟨_,_,z6d,h⟩
theorem zvr{id:Nat}{st:St}{Q}:wp E (.exit id) st Q ↔ Q (.exit id) st:=by
 constructor
 ·rintro⟨ex,st',h1,h2⟩
  rw[zqe] at h1;simp at h1;obtain⟨rfl,rfl⟩:=h1;exact h2
 ·intro h;exact⟨_,_,zqe,h⟩

theorem zyh{a b:DC}{st:St}{Q}:wp E (.seq a b) st Q ↔ wp E a st (fun ex st'=>match ex with | .normal=>wp E b st' Q | ex=>Q ex st'):=by
 constructor
 ·rintro⟨ex,st',h1,h2⟩
  rw[z8t] at h1
  split at h1
  ·rename_i st1 ha
   exact⟨_,_,ha,ex,st',h1,h2⟩
  ·rename_i r hne
   refine⟨_,_,h1,?_⟩
   cases ex with
   |normal=>exact absurd h1 (hne st')
   |exit id=>exact h2
   |ret=>exact h2
 ·rintro⟨ex,st',h1,h2⟩
  cases ex with
  |normal=>
   obtain⟨ex2,st2,h3,h4⟩:=h2
   exact⟨ex2,st2,by rw[z8t,h1];exact h3,h4⟩
  |exit id=>exact⟨_,_,by rw[z8t,h1],h2⟩
  |ret=>exact⟨_,_,by rw[z8t,h1],h2⟩

theorem zvs{c:Opd}{x y:DC}{st:St}{Q}{b:Bool}(h:yn st.sl c=.bool b):wp E (.cond c x y) st Q ↔ (b=true->wp E x st Q)/\(b=false->wp E y st Q):=by
 unfold wp
 rw[z51,h]
 cases b <;> simp

theorem zup{c:Opd}{x y:DC}{st:St}{Q}:wp E (.ifp c x y) st Q ↔ if yw (yn st.sl c)=true then wp E x st Q else wp E y st Q:=by
 unfold wp
 rw[zga]
 split <;> exact Iff.rfl

theorem zrk{id:Nat}{a:DC}{st:St}{Q}:wp E (.block id a) st Q ↔ wp E a st (fun ex st'=>match ex with | .exit i=>Q (if i=id then .normal else .exit i) st' | ex=>Q ex st'):=by
 constructor
 ·rintro⟨ex,st',h1,h2⟩
  rw[z9a] at h1
  cases ha:dL E a st with
  |none=>rw[ha] at h1;simp at h1
  |some r=>
   obtain⟨ex1,st1⟩:=r
   rw[ha] at h1
   refine⟨ex1,st1,ha,?_⟩
   cases ex1 with
   |normal=>simp at h1;obtain⟨rfl,rfl⟩:=h1;exact h2
   |ret=>simp at h1;obtain⟨rfl,rfl⟩:=h1;exact h2
   |exit i=>simp at h1;obtain⟨rfl,rfl⟩:=h1;exact h2
 ·rintro⟨ex,st',h1,h2⟩
  cases ex with
  |normal=>exact⟨_,_,by rw[z9a,h1],h2⟩
  |ret=>exact⟨_,_,by rw[z9a,h1],h2⟩
  |exit i=>exact⟨_,_,by rw[z9a,h1],h2⟩

theorem znk{ap:List (Nat × Nat)}{ops:List y1a}{st:St}{Q}:wp E (.region false ap ops) st Q ↔ wpR E ops st (Q .normal):=by
 unfold wp wpR
 rw[z5n]
 constructor
 ·rintro⟨ex,st',h1,h2⟩
  simp only[ab,au] at h1
  obtain⟨st1,h3,rfl,rfl⟩:=h1
  exact⟨_,h3,h2⟩
 ·rintro⟨st',h1,h2⟩
  exact⟨_,_,by rw[h1];rfl,h2⟩

theorem zvq{b:DC}{Q:Ex->St->Prop}(I:Nat->St->Prop)
  (step:∀ k st,I k st->wp E b st (fun ex st'=>match ex with | .normal=>∃ k',k'<k/\I k' st' | ex=>Q ex st')):∀(k:Nat) (st:St),I k st->wp E (.loop b) st Q:=by
 intro k
 induction k using Nat.strongRecOn with
 |_ k ih=>
  intro st hI
  obtain⟨ex,st',h1,h2⟩:=step k st hI
  cases ex with
  |normal=>
   obtain⟨k',hk,hI'⟩:=h2
   obtain⟨ex2,st2,h3,h4⟩:=ih k' hk st' hI'
   exact⟨ex2,st2,by rw[zi2,h1];exact h3,h4⟩
  |exit i=>exact⟨_,_,by rw[zi2,h1],h2⟩
  |ret=>exact⟨_,_,by rw[zi2,h1],h2⟩

end
end Dv

namespace Dv

mutual
inductive Xp where
 |v (i:Nat)
 |c (d:D)
 |n (op:DOp) (ks:Xs)
 |ite (c a b:Xp)
inductive Xs where
 |nil
 |cons (s:Nat) (x:Xp) (r:Xs)
end

def kv(n:Nat):List (Nat × D)->D
 |[]=>.undef
 |p::r=>if n=p.1 then p.2 else kv n r

def gOf(vs:List (Nat × D)):Opd->D
 |.t n=>kv n vs
 |.c d=>d
 |.f k=>.fn k []

mutual
def xv(E:Env)(cP:Nat->List D->Option D)(env:List D)(hp:List Obj):Xp->Option D
 |.v i=>env[i]?
 |.c d=>some d
 |.n op ks=>(match xvs E cP env hp ks with
  |some vs=>(match yb E cP 0 (gOf vs) hp op with
   |some e=>some e.d
   |none=>none)
  |none=>none)
 |.ite c a b=>(match xv E cP env hp c with
  |some (.bool true)=>xv E cP env hp a
  |some (.bool false)=>xv E cP env hp b
  |_=>none)
def xvs(E:Env)(cP:Nat->List D->Option D)(env:List D)(hp:List Obj):Xs->Option (List (Nat × D))
 |.nil=>some []
 |.cons s x r=>(match xv E cP env hp x,xvs E cP env hp r with
  |some d,some l=>some ((s,d)::l)
  |_,_=>none)
end

def vop(op:DOp):Bool:=y1d op || (match op with
 |.load _ _=>true
 |.lookup _ _ _ _=>true
 |.len _ _=>true
 |_=>false)

mutual
def y6c(i:Option Nat)(h:Bool):Xp->Bool
 |.v j=>!(i == some j)
 |.c _=>true
 |.n op ks=>(!h || y1d op) && y8c i h ks
 |.ite c a b=>y6c i h c && y6c i h a && y6c i h b
def y8c(i:Option Nat)(h:Bool):Xs->Bool
 |.nil=>true
 |.cons _ x r=>y6c i h x && y8c i h r
end

inductive TS where
 |asg (i:Nat) (x:Xp)
 |eff (gd:Option (Xp × Bool)) (dst:Option Nat) (op:DOp) (ks:Xs) (k:Option Nat)

inductive TC where
 |skip
 |ret
 |exit (id:Nat)
 |run (pad:Nat) (l:List TS)
 |seq (a b:TC)
 |cond (i:Nat) (a b:TC)
 |ifp (i:Nat) (a b:TC)
 |dead
 |block (id:Nat) (a:TC)
 |loop (a:TC)
 |rfunc (i:Nat) (ps:List Nat) (a b:TC)
 |chk (l:List (Nat × Nat))


def gdT(E:Env)(cP:Nat->List D->Option D)(env:List D)(hp:List Obj):Option (Xp × Bool)->Option Bool
 |none=>some true
 |some (x,b)=>(match xv E cP env hp x with
  |some (.bool c)=>some (c == b)
  |some _=>some false
  |none=>none)

def y93(env:List D):Option Nat->D->List D
 |none,_=>env
 |some i,d=>env.set i d

def rTS(E:Env)(cP:Nat->List D->Option D)(cS cY:Nat->List D->List Obj->Option (D × List Obj))(base:Nat):List TS->List D->List Obj->Option (List D × List Obj)
 |[],env,hp=>some (env,hp)
 |.asg i x::r,env,hp=>(match xv E cP env hp x with
  |some d=>rTS E cP cS cY base r (env.set i d) hp
  |none=>none)
 |.eff gd dst op ks k::r,env,hp=>(match gdT E cP env hp gd with
  |some true=>(match xvs E cP env hp ks with
   |some vs=>(match yd E cP cS cY (match k with | some k=>base+k | none=>hp.length) (gOf vs) hp op with
    |some (d,hp')=>rTS E cP cS cY base r (y93 env dst d) hp'
    |none=>none)
   |none=>none)
  |some false=>rTS E cP cS cY base r (y93 env dst .undef) hp
  |none=>none)

noncomputable def rTL(E:Env):Nat->List TS->List D->List Obj->Option (List D × List Obj):=rTS E (yu E (dL E)) (y1o E (dL E)) (y3m (dL E))

def yg4(env:List D)(p:Nat × Nat):Bool:=match env[p.1]?,env[p.2]? with
 |some a,some b=>y8w (did a) (did b)
 |_,_=>false
def ydc(env:List D)(l:List (Nat × Nat)):Bool:=l.all (yg4 env)

def ybl(L:Bool->Option Ex->Obj):Prop:=∃ sl ps asg body,L=fun b p=>.loop b sl ps asg body p

def wT(E:Env):TC->(Ex->List D->List Obj->Prop)->List D->List Obj->Prop
 |.skip,Q,env,hp=>Q .normal env hp
 |.ret,Q,env,hp=>Q .ret env hp
 |.exit id,Q,env,hp=>Q (.exit id) env hp
 |.run pad l,Q,env,hp=>(match rTL E hp.length l env (hp++af pad .dead) with
  |some (env',hp')=>Q .normal env' hp'
  |none=>False)
 |.chk l,Q,env,hp=>ydc env l=true/\Q .normal env hp
 |.seq a b,Q,env,hp=>wT E a (fun ex env' hp'=>match ex with
  |.normal=>wT E b Q env' hp'
  |ex=>Q ex env' hp') env hp
 |.cond i a b,Q,env,hp=>(match env[i]? with
  |some (.bool t)=>if t=true then wT E a Q env hp else wT E b Q env hp
  |_=>False)
 |.ifp i a b,Q,env,hp=>(match env[i]? with
  |some d=>if yw d=true then wT E a Q env hp else wT E b Q env hp
  |none=>False)
 |.dead,_,_,_=>False
 |.block id a,Q,env,hp=>wT E a (fun ex env' hp'=>match ex with
  |.exit i=>Q (if i=id then .normal else .exit i) env' hp'
  |ex=>Q ex env' hp') env hp
 |.loop a,Q,env,hp=>∃(I:Nat->List D->List Obj->Prop) (k:Nat),I k env hp /\ ∀ k env hp,I k env hp->wT E a (fun ex env' hp'=>match ex with
  |.normal=>∃ k',k'<k/\I k' env' hp'
  |ex=>Q ex env' hp') env hp
 |.rfunc i ps a b,Q,env,hp=>∃ k caps,(env[i]?).map (y5y E)=some (.fn k caps) /\ ∀(L:Bool->Option Ex->Obj),ybl L ->
  (∀(args:List D) (hp1:List Obj) (K:Bool->List Obj->Prop),args.length=ps.length->hp1[hp.length]? = some (L false none) ->
   wT E a (fun ex env1 hp2=>ex=.normal/\hp2[hp.length]? = some (L false none) /\
    wT E b (fun ex _ hp3=>hp3[hp.length]? = some (L true none)/\(match ex with
     |.normal=>K true (hp3.set hp.length (L false none))
     |ex=>K false (hp3.set hp.length (L false (some ex))))) env1 (hp2.set hp.length (L true none))) (y2c env ps args) hp1 ->
   ∃ t hp2,y3m (dL E) hp.length args hp1=some (.bool t,hp2)/\K t hp2) ->
  ∃ d hp',y1o E (dL E) k (.yld hp.length::caps) (hp++[L false none])=some (d,hp') /\
   ((hp'[hp.length]? = some (L false none)/\Q .normal env (hp'.set hp.length .dead)) \/ ∃ ex,hp'[hp.length]? = some (L false (some ex))/\Q ex env (hp'.set hp.length .dead))


structure SV where
 g:List (Nat × Bool)
 x:Xp

abbrev Ab:=Nat->Option SV

def yda(a b:List (Nat × Bool)):Bool:=a.all b.contains

def y8t(A:Ab)(G:List (Nat × Bool)):Opd->Option Xp
 |.c d=>some (.c d)
 |.f k=>some (.c (.fn k []))
 |.t s=>(match A s with
  |some sv=>if yda sv.g G then some sv.x else none
  |none=>none)

def y5a(A:Ab)(G:List (Nat × Bool)):List Opd->Option Xs
 |[]=>some .nil
 |.t s::r=>(match y8t A G (.t s),y5a A G r with
  |some x,some ks=>some (.cons s x ks)
  |_,_=>none)
 |_::r=>y5a A G r

def y8r(A:Ab)(G:List (Nat × Bool))(op:DOp):Option Xp:=
 match op with
 |.move x=>y8t A G x
 |.assign x=>y8t A G x
 |.pick (.t c) a b=>(match y8t A G (.t c),y8t A ((c,true)::G) a,y8t A ((c,false)::G) b with
  |some x,some y,some z=>some (.ite x y z)
  |_,_,_=>none)
 |op=>if vop op then(match y5a A G (yx op) with
  |some ks=>some (.n op ks)
  |none=>none) else none

def ya5:Opd->List Nat
 |.t s=>[s]
 |_=>[]

def y6f(G:List (Nat × Bool))(op:DOp):List (Nat × List (Nat × Bool)):=
 match op with
 |.move x=>(ya5 x).map fun s=>(s,G)
 |.assign x=>(ya5 x).map fun s=>(s,G)
 |.pick (.t c) a b=>(c,G)::((ya5 a).map fun s=>(s,(c,true)::G))++((ya5 b).map fun s=>(s,(c,false)::G))
 |op=>(yx op).flatMap fun o=>(ya5 o).map fun s=>(s,G)

def y9e(G:List (Nat × Bool))(op:DOp):List (Nat × List (Nat × Bool)):=(yx op).flatMap fun o=>(ya5 o).map fun s=>(s,G)

def y9h:DOp->Bool
 |.move _=>true
 |.assign _=>true
 |_=>false

def y7m(A:Ab)(i:Option Nat)(h:Bool):Ab:=fun s=>match A s with
 |some sv=>if sv.g.isEmpty && y6c i h sv.x then some sv else none
 |none=>none

def y7e(A:Ab)(s:Nat)(sv:SV):Ab:=fun n=>if n=s then some sv else A n

def yal(nm:List Nat)(A:Ab):Option Nat->Ab
 |none=>A
 |some d=>y7e A d ⟨[],.v (nm.idxOf d)⟩

def y8g(A:Ab)(i:Option Nat)(h:Bool)(dst:Option Nat)(dm:List (Nat × List (Nat × Bool))):List (Nat × List (Nat × Bool)):=
 dm.filter fun p=>p.2.isEmpty && !(dst == some p.1) && (y7m A i h p.1).isSome

def gdX(A:Ab):Option (Nat × Bool)->Option (Option (Xp × Bool))
 |none=>some none
 |some (j,b)=>(match y8t A [] (.t j) with
  |some x=>some (some (x,b))
  |none=>none)

def y5x(A:Ab):Option (Nat × Bool)->Option (List (Nat × Bool))
 |none=>some []
 |some (j,b)=>(match A j with
  |some sv=>some ((j,b)::sv.g)
  |none=>none)

def ya7(nm:List Nat)(N:Nat):Option Nat->Bool
 |none=>true
 |some d=>nm.contains d && decide (d<N)

def ya0(nm:List Nat)(N:Nat)(dr:Bool):Nat->List y1a->Ab->Option (List TS × List (Nat × List (Nat × Bool)))
 |_,[],_=>some ([],[])
 |pos,o::os,A=>
  if vop o.op then
   (match o.dst,y5x A o.gd with
   |some d,some G=>(match y8r A G o.op with
    |some x=>
     if nm.contains d then
      (if G.isEmpty && decide (d<N) then
       (match ya0 nm N dr (pos+1) os (yal nm (y7m A (some (nm.idxOf d)) false) (some d)) with
       |some (ts,dm)=>some (.asg (nm.idxOf d) x::ts,y6f [] o.op++y8g A (some (nm.idxOf d)) false (some d) dm)
       |none=>none) else none)
     else
      (if(A d).isNone && decide (d<N) then
       (match ya0 nm N dr (pos+1) os (y7e A d ⟨G,x⟩) with
       |some (ts,dm)=>
        if dm.any (fun p=>p.1 == d && yda p.2 G) then some (ts,y6f G o.op++dm.filter fun p=>!(p.1 == d))
        else if y9h o.op then some (ts,dm.filter fun p=>!(p.1 == d)) else none
       |none=>none) else none)
    |none=>none)
   |_,_=>none)
  else
   (if ya7 nm N o.dst then
    (match gdX A o.gd,y5a A o.gd.toList (yx o.op) with
    |some gd,some ks=>(match ya0 nm N dr (pos+1) os (yal nm (y7m A (o.dst.map nm.idxOf) true) o.dst) with
     |some (ts,dm)=>some (.eff gd (o.dst.map nm.idxOf) o.op ks (if dr then some pos else none)::ts,
       y9e o.gd.toList o.op++y8g A (o.dst.map nm.idxOf) true o.dst dm)
     |none=>none)
    |_,_=>none) else none)

def y98(nm:List Nat):Ab:=fun s=>if nm.contains s then some ⟨[],.v (nm.idxOf s)⟩ else none

def ya6(nm:List Nat):Opd->Option (Option Nat)
 |.t s=>if nm.contains s then some (some (nm.idxOf s)) else none
 |.c d=>if(did d).isNone then some none else none
 |.f _=>some none

def ya4(nm:List Nat)(x y:Opd):Option (List (Nat × Nat)):=match ya6 nm x,ya6 nm y with
 |some (some i),some (some j)=>some [(i,j)]
 |some (some _),some none=>some []
 |some none,some _=>some []
 |_,_=>none

def y9g{A:Type}:List (Option (List A))->Option (List A)
 |[]=>some []
 |x::r=>(match x,y9g r with
  |some a,some b=>some (a++b)
  |_,_=>none)

def apX1(nm:List Nat)(a b:Option y1a):Option (List (Nat × Nat)):=match a,b with
 |some a,some b=>y9g ((y1h a.op).flatMap fun x=>(y1h b.op).map fun y=>ya4 nm x y)
 |_,_=>none

def apX(nm:List Nat)(ops:List y1a)(ap:List (Nat × Nat)):Option (List (Nat × Nat)):=y9g (ap.map fun p=>apX1 nm ops[p.1]? ops[p.2]?)

def y2k(nm:List Nat)(N:Nat):DC->Option TC
 |.skip=>some .skip
 |.ret=>some .ret
 |.exit id=>some (.exit id)
 |.region dr ap ops=>(match ya0 nm N dr 0 ops (y98 nm) with
  |some (ts,_)=>if dr && !ap.isEmpty then(match apX nm ops ap with
    |some l=>some (.seq (.run ops.length ts) (.chk l))
    |none=>none)
   else some (.run (if dr then ops.length else 0) ts)
  |none=>none)
 |.seq a b=>(match y2k nm N a,y2k nm N b with
  |some x,some y=>some (.seq x y)
  |_,_=>none)
 |.cond (.t k) a b=>if nm.contains k then(match y2k nm N a,y2k nm N b with
  |some x,some y=>some (.cond (nm.idxOf k) x y)
  |_,_=>none) else none
 |.cond (.c .undef) _ _=>some .dead
 |.ifp (.t k) a b=>if nm.contains k then(match y2k nm N a,y2k nm N b with
  |some x,some y=>some (.ifp (nm.idxOf k) x y)
  |_,_=>none) else none
 |.block id a=>(match y2k nm N a with
  |some x=>some (.block id x)
  |none=>none)
 |.loop a=>(match y2k nm N a with
  |some x=>some (.loop x)
  |none=>none)
 |.rfunc (.t f) ps a b=>if nm.contains f && ps.all (fun p=>nm.contains p && decide (p<N)) then(match y2k nm N a,y2k nm N b with
  |some x,some y=>some (.rfunc (nm.idxOf f) (ps.map nm.idxOf) x y)
  |_,_=>none) else none
 |_=>none

end Dv

namespace Dv

section
variable{E:Env}{cP:Nat->List D->Option D}{cS cY:Nat->List D->List Obj->Option (D × List Obj)}{env env':List D}{hp hp':List Obj}{A:Ab}{N:Nat}{nm:List Nat}{sl:List D}

theorem zvx{op:DOp}(h:vop op=true):op.fin=false:=by
 unfold vop at h
 rw[b7] at h
 rcases h with h | h
 ·exact z7l h
 ·cases op <;> first | rfl | simp at h

theorem zyn{op:DOp}{id id':Nat}{g:Opd->D}(h:vop op=true):yb E cP id g hp op=yb E cP id' g hp op:=by
 unfold vop at h
 rw[b7] at h
 rcases h with h | h
 ·exact z80 h
 ·cases op <;> first | rfl | simp at h

theorem zrm{op:DOp}{id:Nat}{g:Opd->D}{e:Ef}(h:vop op=true)(hp:yb E cP id g hp op=some e):e.new=none/\e.kill=none:=by
 unfold vop at h
 rw[b7] at h
 rcases h with h | h
 ·exact z81 h hp
 ·cases op <;> first
   |(simp at h;done)
   |(simp only[yb,ab] at hp;obtain⟨_,_,rfl⟩:=hp;exact⟨rfl,rfl⟩)

theorem zim{op:DOp}{id:Nat}{g:Opd->D}{e:Ef}(h:vop op=true)(he:yb E cP id g hp op=some e):yd E cP cS cY id g hp op=some (e.d,hp):=by
 obtain⟨h1,h2⟩:=zrm h he
 unfold yd
 rw[zvx h]
 simp only[he,aq,yh,h1,h2]

mutual
theorem z3e{i:Option Nat}{h:Bool}(hh:h=false->hp'=hp)(he:∀ j,some j ≠ i->env'[j]? = env[j]?):∀(x:Xp),y6c i h x=true->xv E cP env' hp' x=xv E cP env hp x
 |.v j,hk=>by
  simp only[y6c,bV,beq_eq_false_iff_ne] at hk
  simp only[xv]
  exact he j (fun e=>hk e.symm)
 |.c d,_=>by simp only[xv]
 |.n op ks,hk=>by
  simp only[y6c,ar,b7,bV] at hk
  simp only[xv,z9k hh he ks hk.2]
  rcases hk.1 with h1 | h1
  ·rw[hh h1]
  ·simp only[z80 (hp:=hp') (hp':=hp) (id':=0) h1]
 |.ite c a b,hk=>by
  simp only[y6c,ar] at hk
  simp only[xv,z3e hh he c hk.1.1,z3e hh he a hk.1.2,z3e hh he b hk.2]
theorem z9k{i:Option Nat}{h:Bool}(hh:h=false->hp'=hp)(he:∀ j,some j ≠ i->env'[j]? = env[j]?):∀(ks:Xs),y8c i h ks=true->xvs E cP env' hp' ks=xvs E cP env hp ks
 |.nil,_=>by simp only[xvs]
 |.cons s x r,hk=>by
  simp only[y8c,ar] at hk
  simp only[xvs,z3e hh he x hk.1,z9k hh he r hk.2]
end

def gok(E:Env)(cP:Nat->List D->Option D)(env:List D)(hp:List Obj)(A:Ab)(G:List (Nat × Bool)):Prop:=
 ∀ p,p ∈ G->∃ sv,A p.1=some sv/\xv E cP env hp sv.x=some (.bool p.2)

theorem z3s:gok E cP env hp A []:=fun p hp=>by cases hp

theorem zhr{g G:List (Nat × Bool)}(h:yda g G=true)(hG:gok E cP env hp A G):gok E cP env hp A g:=fun p hp=>
 hG p (by simpa using aD.1 h p hp)

theorem z3a{p:Nat × Bool}{G:List (Nat × Bool)}:gok E cP env hp A (p::G) ↔ (∃ sv,A p.1=some sv/\xv E cP env hp sv.x=some (.bool p.2))/\gok E cP env hp A G:=by
 constructor
 ·exact fun h=>⟨h p (by simp),fun q hq=>h q (by simp[hq])⟩
 ·rintro⟨h1,h2⟩ q hq
  rcases az.1 hq with rfl | hq
  ·exact h1
  ·exact h2 q hq

structure y8z(E:Env)(cP:Nat->List D->Option D)(A:Ab)(N:Nat)(env:List D)(hp:List Obj)(sl:List D):Prop where
 len:sl.length=N
 ok:∀ s sv,A s=some sv->s<N/\(gok E cP env hp A sv.g->xv E cP env hp sv.x=some (sl.getD s .undef))/\(¬ gok E cP env hp A sv.g->sl.getD s .undef=.undef)
 cl:∀ s sv,A s=some sv->∀ p,p ∈ sv.g->A p.1 ≠ none

theorem z7c(R:y8z E cP A N env hp sl){G:List (Nat × Bool)}{o:Opd}{x:Xp}(h:y8t A G o=some x)(hG:gok E cP env hp A G):xv E cP env hp x=some (yn sl o):=by
 cases o with
 |c d=>simp only[y8t,aa] at h;subst h;simp only[xv,yn]
 |f k=>simp only[y8t,aa] at h;subst h;simp only[xv,yn]
 |t s=>
  simp only[y8t] at h
  split at h
  ·rename_i sv hs
   split at h
   ·rename_i hg
    simp only[aa] at h;subst h
    exact(R.ok s sv hs).2.1 (zhr hg hG)
   ·cases h
  ·cases h

theorem zdm{G:List (Nat × Bool)}{s:Nat}{x:Xp}(h:y8t A G (.t s)=some x):∃ sv,A s=some sv/\sv.x=x/\yda sv.g G=true:=by
 simp only[y8t] at h
 split at h
 ·rename_i sv hs
  split at h
  ·rename_i hg
   simp only[aa] at h
   exact⟨sv,hs,h,hg⟩
  ·cases h
 ·cases h

theorem yfq{vs:List (Nat × D)}{f:Nat->D}(h:∀ p,p ∈ vs->p.2=f p.1){s:Nat}(hs:s ∈ vs.map (·.1)):kv s vs=f s:=by
 induction vs with
 |nil=>cases hs
 |cons p r ih=>
  simp only[kv]
  by_cases e:s=p.1
  ·rw[if_pos e,h p (by simp),e]
  ·rw[if_neg e]
   refine ih (fun q hq=>h q (by simp[hq])) ?_
   simp only[av,az] at hs
   exact hs.resolve_left e

theorem zat(R:y8z E cP A N env hp sl){G:List (Nat × Bool)}(hG:gok E cP env hp A G):∀{os:List Opd} {ks:Xs},y5a A G os=some ks ->
  ∃ vs,xvs E cP env hp ks=some vs/\(∀ p,p ∈ vs->p.2=sl.getD p.1 .undef) /\ ∀ s,.t s ∈ os->s ∈ vs.map (·.1)
 |[],ks,h=>by
  simp only[y5a,aa] at h;subst h
  exact⟨[],by simp only[xvs],(fun p hq=>by cases hq),(fun s hs=>by cases hs)⟩
 |.t s::r,ks,h=>by
  simp only[y5a] at h
  split at h
  ·rename_i x k h1 h2
   simp only[aa] at h;subst h
   obtain⟨vs,e1,e2,e3⟩:=zat R hG h2
   refine⟨(s,sl.getD s .undef)::vs,by simp only[xvs,z7c R h1 hG,e1,yn],?_,?_⟩
   ·intro p hq
    rcases az.1 hq with rfl | hq
    ·rfl
    ·exact e2 p hq
   ·intro s' hs'
    rcases az.1 hs' with e | hs'
    ·simp only[Opd.t.injEq] at e;subst e;simp
    ·exact List.mem_cons_of_mem _ (e3 s' hs')
  ·cases h
 |.c d::r,ks,h=>by
  simp only[y5a] at h
  obtain⟨vs,e1,e2,e3⟩:=zat R hG h
  exact⟨vs,e1,e2,fun s hs=>by
   rcases az.1 hs with e | hs
   ·cases e
   ·exact e3 s hs⟩
 |.f k::r,ks,h=>by
  simp only[y5a] at h
  obtain⟨vs,e1,e2,e3⟩:=zat R hG h
  exact⟨vs,e1,e2,fun s hs=>by
   rcases az.1 hs with e | hs
   ·cases e
   ·exact e3 s hs⟩

theorem zv3{vs:List (Nat × D)}{os:List Opd}(h:∀ p,p ∈ vs->p.2=sl.getD p.1 .undef)(h':∀ s,.t s ∈ os->s ∈ vs.map (·.1)):∀ o,o ∈ os->gOf vs o=yn sl o:=by
 intro o ho
 cases o with
 |c d=>rfl
 |f k=>rfl
 |t s=>
  unfold gOf yn
  simp only
  exact yfq (f:=fun s=>sl.getD s .undef) h (h' s ho)

theorem z5j{G:List (Nat × Bool)}:∀{os:List Opd} {ks:Xs} {vs:List (Nat × D)},y5a A G os=some ks->xvs E cP env hp ks=some vs->∀ s,.t s ∈ os->∃ sv,A s=some sv /\ ∃ d,xv E cP env hp sv.x=some d
 |[],ks,vs,h,hv,s,hs=>by cases hs
 |.t s'::r,ks,vs,h,hv,s,hs=>by
  simp only[y5a] at h
  split at h
  ·rename_i x k h1 h2
   simp only[aa] at h;subst h
   simp only[xvs] at hv
   split at hv
   ·rename_i d l e1 e2
    rcases az.1 hs with e | hs
    ·simp only[Opd.t.injEq] at e;subst e
     obtain⟨sv,g1,g2,_⟩:=zdm h1
     exact⟨sv,g1,d,by rw[g2];exact e1⟩
    ·exact z5j h2 e2 s hs
   ·cases hv
  ·cases h
 |.c d::r,ks,vs,h,hv,s,hs=>by
  simp only[y5a] at h
  rcases az.1 hs with e | hs
  ·cases e
  ·exact z5j h hv s hs
 |.f d::r,ks,vs,h,hv,s,hs=>by
  simp only[y5a] at h
  rcases az.1 hs with e | hs
  ·cases e
  ·exact z5j h hv s hs

theorem zus(R:y8z E cP A N env hp sl){G:List (Nat × Bool)}{op:DOp}{x:Xp}{d:D}{id:Nat}(h:y8r A G op=some x)(hG:gok E cP env hp A G)(hx:xv E cP env hp x=some d) :
  ∃ e,yb E cP id (yn sl) hp op=some e/\e.d=d:=by
 unfold y8r at h
 split at h
 ·rw[z7c R h hG] at hx
  exact⟨_,rfl,by simpa using hx⟩
 ·rw[z7c R h hG] at hx
  exact⟨_,rfl,by simpa using hx⟩
 ·rename_i c a b
  split at h
  ·rename_i xc xa xb h1 h2 h3
   simp only[aa] at h;subst h
   have e1:=z7c R h1 hG
   obtain⟨sv,g1,g2,_⟩:=zdm h1
   simp only[xv,e1] at hx
   split at hx
   ·rename_i hb
    simp only[aa] at hb
    have hG':gok E cP env hp A ((c,true)::G):=z3a.2 ⟨⟨sv,g1,by rw[g2,e1,hb]⟩,hG⟩
    rw[z7c R h2 hG'] at hx
    exact⟨⟨yn sl a,none,none⟩,by simp only[yb,hb,if_true],by simpa using hx⟩
   ·rename_i hb
    simp only[aa] at hb
    have hG':gok E cP env hp A ((c,false)::G):=z3a.2 ⟨⟨sv,g1,by rw[g2,e1,hb]⟩,hG⟩
    rw[z7c R h3 hG'] at hx
    exact⟨⟨yn sl b,none,none⟩,by simp only[yb,hb,aP,if_false],by simpa using hx⟩
   ·cases hx
  ·cases h
 ·split at h
  ·rename_i hv
   split at h
   ·rename_i ks hk
    simp only[aa] at h;subst h
    obtain⟨vs,e1,e2,e3⟩:=zat R hG hk
    simp only[xv,e1] at hx
    split at hx
    ·rename_i e he
     rw[z41 (zv3 e2 e3)] at he
     rw[zyn hv] at he
     exact⟨e,he,by simpa using hx⟩
    ·cases hx
   ·cases h
  ·cases h

theorem z5x{o:Opd}{s:Nat}:s ∈ ya5 o ↔ o=.t s:=by
 cases o <;> simp[ya5,eq_comm]

theorem zj1{G:List (Nat × Bool)}{op:DOp}{x:Xp}{d:D}(h:y8r A G op=some x)(hx:xv E cP env hp x=some d) :
  ∀ p,p ∈ y6f G op->gok E cP env hp A p.2->∀ sv,A p.1=some sv->∃ d,xv E cP env hp sv.x=some d:=by
 intro p hm hg sv hs
 unfold y8r at h
 split at h
 ·simp only[y6f,aT] at hm
  obtain⟨s,h1,rfl⟩:=hm
  rw[z5x] at h1;subst h1
  obtain⟨sv',g1,g2,_⟩:=zdm h
  rw[hs] at g1;simp only[aa] at g1;subst g1
  exact⟨d,by rw[g2];exact hx⟩
 ·simp only[y6f,aT] at hm
  obtain⟨s,h1,rfl⟩:=hm
  rw[z5x] at h1;subst h1
  obtain⟨sv',g1,g2,_⟩:=zdm h
  rw[hs] at g1;simp only[aa] at g1;subst g1
  exact⟨d,by rw[g2];exact hx⟩
 ·rename_i c a b
  split at h
  ·rename_i xc xa xb h1 h2 h3
   simp only[aa] at h;subst h
   simp only[y6f,aN,az,aT] at hm
   obtain⟨svc,g1,g2,_⟩:=zdm h1
   simp only[xv] at hx
   have hc:∃ t,xv E cP env hp xc=some (.bool t):=by
    split at hx
    ·exact⟨_,by assumption⟩
    ·exact⟨_,by assumption⟩
    ·cases hx
   obtain⟨t,ht⟩:=hc
   rcases hm with(rfl | ⟨s,hs',rfl⟩) | ⟨s,hs',rfl⟩
   ·rw[hs] at g1;simp only[aa] at g1;subst g1
    exact⟨_,by rw[g2];exact ht⟩
   ·rw[z5x] at hs';subst hs'
    obtain⟨sva,q1,q2,_⟩:=zdm h2
    rw[hs] at q1;simp only[aa] at q1;subst q1
    obtain⟨⟨sv2,r1,r2⟩,_⟩:=z3a.1 hg
    simp only at r1 r2
    rw[g1] at r1;simp only[aa] at r1;subst r1
    rw[g2,ht] at r2
    simp only[aa,D.bool.injEq] at r2;subst r2
    rw[ht] at hx
    exact⟨d,by rw[q2];exact hx⟩
   ·rw[z5x] at hs';subst hs'
    obtain⟨sva,q1,q2,_⟩:=zdm h3
    rw[hs] at q1;simp only[aa] at q1;subst q1
    obtain⟨⟨sv2,r1,r2⟩,_⟩:=z3a.1 hg
    simp only at r1 r2
    rw[g1] at r1;simp only[aa] at r1;subst r1
    rw[g2,ht] at r2
    simp only[aa,D.bool.injEq] at r2;subst r2
    rw[ht] at hx
    exact⟨d,by rw[q2];exact hx⟩
  ·cases h
 ·rename_i hm1 hm2 hm3
  split at h
  ·rename_i hv
   split at h
   ·rename_i ks hk
    simp only[aa] at h;subst h
    have hn:y6f G op=(yx op).flatMap fun o=>(ya5 o).map fun s=>(s,G):=by
     unfold y6f
     split
     ·exact absurd rfl (hm1 _)
     ·exact absurd rfl (hm2 _)
     ·exact absurd rfl (hm3 _ _ _)
     ·rfl
    rw[hn] at hm
    simp only[bJ,aT] at hm
    obtain⟨o,h1,s,h2,rfl⟩:=hm
    rw[z5x] at h2;subst h2
    simp only[xv] at hx
    split at hx
    ·rename_i vs e1
     obtain⟨sv',q1,q2⟩:=z5j hk e1 s h1
     rw[hs] at q1;simp only[aa] at q1;subst q1
     exact q2
    ·cases hx
   ·cases h
  ·cases h

theorem zwu{G:List (Nat × Bool)}{op:DOp}:∀ p,p ∈ y6f G op->gok E cP env hp A p.2->gok E cP env hp A G:=by
 intro p hm hg
 unfold y6f at hm
 split at hm
 ·simp only[aT] at hm
  obtain⟨s,_,rfl⟩:=hm;exact hg
 ·simp only[aT] at hm
  obtain⟨s,_,rfl⟩:=hm;exact hg
 ·simp only[aN,az,aT] at hm
  rcases hm with(rfl | ⟨s,_,rfl⟩) | ⟨s,_,rfl⟩
  ·exact hg
  ·exact(z3a.1 hg).2
  ·exact(z3a.1 hg).2
 ·simp only[bJ,aT] at hm
  obtain⟨o,_,s,_,rfl⟩:=hm;exact hg

def Dem(E:Env)(cP:Nat->List D->Option D)(env:List D)(hp:List Obj)(A:Ab)(dm:List (Nat × List (Nat × Bool))):Prop:=
 ∀ p,p ∈ dm->gok E cP env hp A p.2->∀ sv,A p.1=some sv->∃ d,xv E cP env hp sv.x=some d

theorem zcl{i:Option Nat}{h:Bool}{s:Nat}{sv:SV}(hk:y7m A i h s=some sv):A s=some sv/\sv.g=[]/\y6c i h sv.x=true:=by
 unfold y7m at hk
 split at hk
 ·rename_i sv' hs
  split at hk
  ·rename_i hc
   simp only[aa] at hk;subst hk
   simp only[ar,gU] at hc
   exact⟨hs,hc.1,hc.2⟩
  ·cases hk
 ·cases hk

theorem zwi{o:Option Nat}{s:Nat}(h:∀ d,o=some d->s ≠ d):yal nm A o s=A s:=by
 cases o with
 |none=>rfl
 |some d=>simp only[yal,y7e];rw[if_neg (h d rfl)]

theorem z7n{d:Nat}{sv:SV}{G:List (Nat × Bool)}(hd:A d=none)(h:gok E cP env hp A G):gok E cP env hp (y7e A d sv) G:=by
 intro p hm
 obtain⟨s,h1,h2⟩:=h p hm
 refine⟨s,?_,h2⟩
 unfold y7e
 rw[if_neg (fun e=>by rw[e,hd] at h1;cases h1)]
 exact h1

theorem zau{i dst:Option Nat}{h:Bool}{dm:List (Nat × List (Nat × Bool))}(hh:h=false->hp'=hp)(he:∀ j,some j ≠ i->env'[j]? = env[j]?)
  (D1:Dem E cP env' hp' (yal nm (y7m A i h) dst) dm):Dem E cP env hp A (y8g A i h dst dm):=by
 intro p hm hg sv hs
 simp only[y8g,fZ,ar,gU,bV,beq_eq_false_iff_ne] at hm
 obtain⟨h1,⟨h2,h3⟩,h4⟩:=hm
 obtain⟨sv',h5⟩:=Option.isSome_iff_exists.1 h4
 obtain⟨k1,k2,k3⟩:=zcl h5
 rw[hs] at k1;simp only[aa] at k1;subst k1
 obtain⟨d,hd⟩:=D1 p h1 (by rw[h2];exact z3s) sv (by
  rw[zwi (fun d hd e=>h3 (by rw[hd,e]))];exact h5)
 exact⟨d,by rw[<- z3e hh he sv.x k3];exact hd⟩

theorem za3{i:Nat}{d:D}:∀ j,some j ≠ some i->(env.set i d)[j]? = env[j]?:=fun j h=>by
 rw[bl (fun e=>h (by rw[e]))]

theorem zc8{i:Option Nat}{d:D}:∀ j,some j ≠ i->(y93 env i d)[j]? = env[j]?:=by
 cases i with
 |none=>intro j _;rfl
 |some i=>exact za3

theorem zld{G:List (Nat × Bool)}{op:DOp}{p:Nat × List (Nat × Bool)}(h:p ∈ y9e G op):p.2=G /\ .t p.1 ∈ yx op:=by
 simp only[y9e,bJ,aT] at h
 obtain⟨o,h1,s,h2,rfl⟩:=h
 rw[z5x] at h2;subst h2
 exact⟨rfl,h1⟩

theorem zbb{base:Nat}{dr:Bool}:∀{os:List y1a} {pos:Nat} {A:Ab} {ts:List TS} {dm:List (Nat × List (Nat × Bool))},ya0 nm N dr pos os A=some (ts,dm) ->
  ∀{env:List D} {hp:List Obj} {r:List D × List Obj},rTS E cP cS cY base ts env hp=some r->Dem E cP env hp A dm
 |[],pos,A,ts,dm,hc,env,hp,r,hr=>by
  simp only[ya0,aa,au] at hc
  obtain⟨_,rfl⟩:=hc
  intro p hm;cases hm
 |o::os,pos,A,ts,dm,hc,env,hp,r,hr=>by
  simp only[ya0] at hc
  split at hc
  ·rename_i hv
   split at hc
   ·rename_i d G hd hG
    split at hc
    ·rename_i x hx
     split at hc
     ·split at hc
      ·rename_i hcond
       simp only[ar,gU] at hcond
       split at hc
       ·rename_i ts' dm' hc'
        simp only[aa,au] at hc
        obtain⟨rfl,rfl⟩:=hc
        simp only[rTS] at hr
        split at hr
        ·rename_i v hxv
         have IH:=zbb hc' hr
         intro p hm hg sv hs
         rcases aN.1 hm with hm | hm
         ·exact zj1 (G:=[]) (by rw[hcond.1] at hx;exact hx) hxv p hm hg sv hs
         ·exact zau (fun _=>rfl) za3 IH p hm hg sv hs
        ·cases hr
       ·cases hc
      ·cases hc
     ·split at hc
      ·rename_i hcond
       simp only[ar,iS] at hcond
       split at hc
       ·rename_i ts' dm' hc'
        have filt:Dem E cP env hp (y7e A d ⟨G,x⟩) dm'->Dem E cP env hp A (dm'.filter fun p=>!(p.1 == d)):=by
         intro IH p hm hg sv hs
         simp only[fZ,bV,beq_eq_false_iff_ne] at hm
         exact IH p hm.1 (z7n hcond.1 hg) sv (by unfold y7e;rw[if_neg hm.2];exact hs)
        split at hc
        ·rename_i hany
         simp only[aa,au] at hc
         obtain⟨rfl,rfl⟩:=hc
         have IH:=zbb hc' hr
         intro p hm hg sv hs
         rcases aN.1 hm with hm | hm
         ·obtain⟨q,q1,q2⟩:=gT.1 hany
          simp only[ar,beq_iff_eq] at q2
          have hG1:gok E cP env hp A G:=zwu p hm hg
          obtain⟨v,hxv⟩:=IH q q1 (zhr q2.2 (z7n hcond.1 hG1)) ⟨G,x⟩ (by unfold y7e;rw[if_pos q2.1])
          exact zj1 hx hxv p hm hg sv hs
         ·exact filt IH p hm hg sv hs
        ·split at hc
         ·simp only[aa,au] at hc
          obtain⟨rfl,rfl⟩:=hc
          exact filt (zbb hc' hr)
         ·cases hc
       ·cases hc
      ·cases hc
    ·cases hc
   ·cases hc
  ·split at hc
   ·split at hc
    ·rename_i gd ks hgd hks
     split at hc
     ·rename_i ts' dm' hc'
      simp only[aa,au] at hc
      obtain⟨rfl,rfl⟩:=hc
      simp only[rTS] at hr
      intro p hm hg sv hs
      rcases aN.1 hm with hm | hm
      ·obtain⟨n1,n2⟩:=zld hm
       -- the guard holds
       have hgt:gdT E cP env hp gd=some true:=by
        cases hog:o.gd with
        |none=>rw[hog] at hgd;simp only[gdX,aa] at hgd;subst hgd;rfl
        |some q=>
         obtain⟨j,b⟩:=q
         rw[hog] at hgd n1
         simp only[gdX] at hgd
         split at hgd
         ·rename_i xg hxg
          simp only[aa] at hgd;subst hgd
          obtain⟨svj,g1,g2,_⟩:=zdm hxg
          rw[n1] at hg
          obtain⟨sv2,r1,r2⟩:=hg (j,b) (by simp)
          simp only at r1 r2
          rw[g1] at r1;simp only[aa] at r1;subst r1
          rw[g2] at r2
          simp only[gdT,r2,beq_self_eq_true]
         ·cases hgd
       rw[hgt] at hr
       simp only at hr
       split at hr
       ·rename_i vs e1
        obtain⟨sv',q1,q2⟩:=z5j hks e1 p.1 n2
        rw[hs] at q1;simp only[aa] at q1;subst q1
        exact q2
       ·cases hr
      ·split at hr
       ·split at hr
        ·split at hr
         ·exact zau (fun h=>by cases h) zc8 (zbb hc' hr) p hm hg sv hs
         ·cases hr
        ·cases hr
       ·exact zau (fun h=>by cases h) zc8 (zbb hc' hr) p hm hg sv hs
       ·cases hr
     ·cases hc
    ·cases hc
   ·cases hc

end
end Dv

namespace Dv

section
variable{E:Env}{cP:Nat->List D->Option D}{cS cY:Nat->List D->List Obj->Option (D × List Obj)}{env env':List D}{hp hp':List Obj}{A:Ab}{N:Nat}{nm:List Nat}{sl:List D}

def y66(nm:List Nat)(env sl:List D):Prop:=env.length=nm.length /\ ∀(i s:Nat),nm[i]? = some s->env[i]? = some (sl.getD s .undef)

theorem y66.get(S:y66 nm env sl){s:Nat}(h:nm.contains s=true):nm.idxOf s<env.length/\env[nm.idxOf s]? = some (sl.getD s .undef):=by
 have hm:s ∈ nm:=by simpa using h
 have hlt:=iH hm
 refine⟨by rw[S.1];exact hlt,S.2 _ _ ?_⟩
 rw[ae hlt]
 simp

theorem zb1{n:Nat}{d e:D}(h:n<sl.length):(sl.set n d).getD n e=d:=by
 rw[aj,aW h];rfl

theorem y66.set(nd:nm.Nodup)(S:y66 nm env sl){s:Nat}{d:D}(h:nm.contains s=true)(hs:s<sl.length):y66 nm (env.set (nm.idxOf s) d) (sl.set s d):=by
 have hm:s ∈ nm:=by simpa using h
 have hlt:=iH hm
 refine⟨by simpa using S.1,fun i s' h'=>?_⟩
 by_cases e:i=nm.idxOf s
 ·subst e
  have:s'=s:=by
   rw[ae hlt] at h'
   simp at h';exact h'.symm
  subst this
  rw[aW (by rw[S.1];exact hlt),zb1 hs]
 ·rw[bl (eU e)]
  have hne:s ≠ s':=by
   rintro rfl
   apply e
   have hi:=(ac.1 h').1
   have h1:nm[i]=s:=(ac.1 h').2
   have h2:nm[nm.idxOf s]=s:=by simp
   exact(List.getElem_inj nd).1 (h1.trans h2.symm)
  rw[getD_set_ne hne]
  exact S.2 i s' h'

theorem y66.other(S:y66 nm env sl){s:Nat}{d:D}(h:nm.contains s=false):y66 nm env (sl.set s d):=by
 refine⟨S.1,fun i s' h'=>?_⟩
 have hne:s ≠ s':=by
  rintro rfl
  have:=aX h'
  simp at h;exact h this
 rw[getD_set_ne hne];exact S.2 i s' h'

theorem znw(hl:sl.length=N)(hN:nm.all (fun s=>decide (s<N))=true)(S:y66 nm env sl):y8z E cP (y98 nm) N env hp sl:=by
 refine⟨hl,fun s sv h=>?_,fun s sv h p hp=>?_⟩
 all_goals unfold y98 at h
 all_goals split at h
 rotate_left 2
 ·simp only[aa] at h;subst h;cases hp
 ·cases h
 ·rename_i hc
  simp only[aa] at h;subst h
  have hm:s ∈ nm:=by simpa using hc
  refine⟨by simpa using aD.1 hN s hm,fun _=>?_,fun h=>absurd z3s h⟩
  simp only[xv]
  exact(S.get hc).2
 ·cases h

def y6d(dr:Bool)(E:Env)(cP:Nat->List D->Option D)(cS cY:Nat->List D->List Obj->Option (D × List Obj))(id:Nat)(os:List y1a)(st:St):Option St:=
 if dr then y14 E cP cS cY id os st else yf E cP cS cY os st

theorem zko{dr:Bool}{id:Nat}{o:y1a}{os:List y1a}{st:St}:y6d dr E cP cS cY id (o::os) st =
  (if yj st.sl o.gd then
   (match yd E cP cS cY (if dr then id else st.hp.length) (yn st.sl) st.hp o.op with
   |some (d,hp)=>y6d dr E cP cS cY (id+1) os ⟨y25 st.sl o.dst d,hp⟩
   |none=>none)
  else y6d dr E cP cS cY (id+1) os ⟨y25 st.sl o.dst .undef,st.hp⟩):=by
 cases dr with
 |true=>simp only[y6d,if_true,y14];rfl
 |false=>simp only[y6d,aP,if_false,yf];rfl

theorem zm9(R:y8z E cP A N env hp sl){gd:Option (Nat × Bool)}{G:List (Nat × Bool)}(h:y5x A gd=some G):yj sl gd=true ↔ gok E cP env hp A G:=by
 cases gd with
 |none=>
  simp only[y5x,aa] at h;subst h
  exact⟨fun _=>z3s,fun _=>rfl⟩
 |some p=>
  obtain⟨j,b⟩:=p
  simp only[y5x] at h
  split at h
  ·rename_i sv hj
   simp only[aa] at h;subst h
   obtain⟨_,k1,k2⟩:=R.ok j sv hj
   constructor
   ·intro hw
    unfold yj at hw
    simp only at hw
    by_cases hg:gok E cP env hp A sv.g
    ·refine z3a.2 ⟨⟨sv,hj,?_⟩,hg⟩
     rw[k1 hg]
     split at hw
     ·rename_i c hc
      rw[hc]
      simp only[beq_iff_eq] at hw;rw[hw]
     ·cases hw
    ·rw[k2 hg] at hw;simp at hw
   ·intro hG
    obtain⟨⟨sv',h1,h2⟩,h3⟩:=z3a.1 hG
    simp only at h1 h2
    rw[hj] at h1;simp only[aa] at h1;subst h1
    rw[k1 h3] at h2
    simp only[aa] at h2
    unfold yj
    simp only[h2,beq_self_eq_true]
  ·cases h

theorem z92(R:y8z E cP A N env hp sl){i:Option Nat}{h:Bool}(hh:h=false->hp'=hp)(he:∀ j,some j ≠ i->env'[j]? = env[j]?){s:Nat}{sv:SV}(hk:y7m A i h s=some sv) :
  s<N/\sv.g=[]/\xv E cP env' hp' sv.x=some (sl.getD s .undef):=by
 obtain⟨k1,k2,k3⟩:=zcl hk
 obtain⟨h1,h2,_⟩:=R.ok s sv k1
 exact⟨h1,k2,by rw[z3e hh he sv.x k3];exact h2 (by rw[k2];exact z3s)⟩

theorem zdj(nd:nm.Nodup)(R:y8z E cP A N env hp sl)(S:y66 nm env sl){dst:Option Nat}{h:Bool}{d:D}(hh:h=false->hp'=hp)(hd:ya7 nm N dst=true) :
  y8z E cP (yal nm (y7m A (dst.map nm.idxOf) h) dst) N (y93 env (dst.map nm.idxOf) d) hp' (y25 sl dst d)/\y66 nm (y93 env (dst.map nm.idxOf) d) (y25 sl dst d):=by
 cases dst with
 |none=>
  refine⟨⟨R.len,fun s sv hs=>?_,fun s sv hs p hp=>?_⟩,S⟩
  rotate_left
  ·obtain⟨_,h2,_⟩:=z92 (env':=env) R hh (fun _ _=>rfl) hs
   rw[h2] at hp;cases hp
  obtain⟨h1,h2,h3⟩:=z92 (env':=env) R hh (fun _ _=>rfl) hs
  exact⟨h1,fun _=>h3,fun hn=>absurd (by rw[h2];exact z3s) hn⟩
 |some n=>
  simp only[ya7,ar,decide_eq_true_eq] at hd
  have hlen:n<sl.length:=by rw[R.len];exact hd.2
  have S':=S.set nd (d:=d) hd.1 hlen
  refine⟨⟨by simp[y25,R.len],fun s sv hs=>?_,fun s sv hs p hp=>?_⟩,S'⟩
  rotate_left
  ·simp only[yal,y7e] at hs
   split at hs
   ·simp only[aa] at hs;subst hs;cases hp
   ·obtain⟨_,h2,_⟩:=z92 (env':=env) R hh (fun _ _=>rfl) hs
    rw[h2] at hp;cases hp
  simp only[yal,y7e] at hs
  split at hs
  ·rename_i e;subst e
   simp only[aa] at hs;subst hs
   refine⟨hd.2,fun _=>?_,fun hn=>absurd z3s hn⟩
   simp only[xv]
   exact(S'.get hd.1).2
  ·rename_i e
   obtain⟨h1,h2,h3⟩:=z92 R hh (za3 (i:=nm.idxOf n) (d:=d)) hs
   refine⟨h1,fun _=>?_,fun hn=>absurd (by rw[h2];exact z3s) hn⟩
   simp only[aq,y93,y25]
   rw[getD_set_ne (eU e)];exact h3

theorem zo6(R:y8z E cP A N env hp sl){n:Nat}{G:List (Nat × Bool)}{x:Xp}{d:D}(hn:A n=none)(hN:n<N)(hG:∀ p,p ∈ G->A p.1 ≠ none)(h1:gok E cP env hp A G->xv E cP env hp x=some d)(h2 : ¬ gok E cP env hp A G->d=.undef) :
  y8z E cP (y7e A n ⟨G,x⟩) N env hp (sl.set n d):=by
 have hlen:n<sl.length:=by rw[R.len];exact hN
 have back:∀{g:List (Nat × Bool)},(∀ p,p ∈ g->A p.1 ≠ none)->gok E cP env hp (y7e A n ⟨G,x⟩) g->gok E cP env hp A g:=by
  intro g hg h p hp
  obtain⟨sv,q1,q2⟩:=h p hp
  unfold y7e at q1
  rw[if_neg (fun e=>hg p hp (by rw[e,hn]))] at q1
  exact⟨sv,q1,q2⟩
 refine⟨by simp[R.len],fun s sv hs=>?_,fun s sv hs p hp=>?_⟩
 ·unfold y7e at hs
  split at hs
  ·rename_i e;subst e
   simp only[aa] at hs;subst hs
   rw[zb1 hlen]
   exact⟨hN,fun hg=>h1 (back hG hg),fun hg=>h2 (fun hG=>hg (z7n hn hG))⟩
  ·rename_i e
   obtain⟨q0,q1,q2⟩:=R.ok s sv hs
   rw[getD_set_ne (eU e)]
   exact⟨q0,fun hg=>q1 (back (R.cl s sv hs) hg),fun hg=>q2 (fun h=>hg (z7n hn h))⟩
 ·have:A p.1 ≠ none:=by
   unfold y7e at hs
   split at hs
   ·simp only[aa] at hs;subst hs;exact hG p hp
   ·exact R.cl s sv hs p hp
  unfold y7e
  split
  ·simp
  ·exact this

theorem zfw(R:y8z E cP A N env hp sl){gd:Option (Nat × Bool)}{G:List (Nat × Bool)}(h:y5x A gd=some G):∀ p,p ∈ G->A p.1 ≠ none:=by
 cases gd with
 |none=>simp only[y5x,aa] at h;subst h;intro p hp;cases hp
 |some q=>
  obtain⟨j,b⟩:=q
  simp only[y5x] at h
  split at h
  ·rename_i sv hj
   simp only[aa] at h;subst h
   intro p hp
   rcases az.1 hp with rfl | hp
   ·simp only[hj];simp
   ·exact R.cl j sv hj p hp
  ·cases h

theorem zwv(R:y8z E cP A N env hp sl){G:List (Nat × Bool)}{op:DOp}{x:Xp}(h:y8r A G op=some x)(hG:gok E cP env hp A G)(hm:y9h op=true):∃ d,xv E cP env hp x=some d:=by
 cases op <;> simp[y9h] at hm
 ·exact⟨_,z7c R h hG⟩
 ·exact⟨_,z7c R h hG⟩

theorem z8a(nd:nm.Nodup){base:Nat}{dr:Bool}:∀{os:List y1a} {pos:Nat} {A:Ab} {ts:List TS} {dm:List (Nat × List (Nat × Bool))},ya0 nm N dr pos os A=some (ts,dm) ->
  ∀{env:List D} {hp:List Obj} {sl:List D} {env':List D} {hp':List Obj},y8z E cP A N env hp sl->y66 nm env sl->rTS E cP cS cY base ts env hp=some (env',hp') ->
  ∃ sl',y6d dr E cP cS cY (base+pos) os ⟨sl,hp⟩=some ⟨sl',hp'⟩/\sl'.length=N/\y66 nm env' sl'
 |[],pos,A,ts,dm,hc,env,hp,sl,env',hp',R,S,hr=>by
  simp only[ya0,aa,au] at hc
  obtain⟨rfl,_⟩:=hc
  simp only[rTS,aa,au] at hr
  obtain⟨rfl,rfl⟩:=hr
  exact⟨sl,by cases dr <;> rfl,R.len,S⟩
 |o::os,pos,A,ts,dm,hc,env,hp,sl,env',hp',R,S,hr=>by
  have hdem:=zbb hc hr
  rw[zko]
  simp only[ya0] at hc
  split at hc
  ·rename_i hv
   split at hc
   ·rename_i d G hd hG
    have hgt:=zm9 R hG
    split at hc
    ·rename_i x hx
     split at hc
     ·rename_i hnm
      split at hc
      ·rename_i hcond
       simp only[ar,gU,decide_eq_true_eq] at hcond
       split at hc
       ·rename_i ts' dm' hc'
        simp only[aa,au] at hc
        obtain⟨rfl,rfl⟩:=hc
        simp only[rTS] at hr
        split at hr
        ·rename_i v hxv
         have hGn:gok E cP env hp A G:=by rw[hcond.1];exact z3s
         rw[if_pos (hgt.2 hGn)]
         obtain⟨e,he,hed⟩:=zus R (id:=if dr then base+pos else hp.length) hx hGn hxv
         rw[zim hv he,hd]
         simp only
         have hem:=zdj (h:=false) (hp':=hp) (d:=v) (dst:=some d) nd R S (fun _=>rfl) (by simp only[ya7,ar,decide_eq_true_eq];exact⟨hnm,hcond.2⟩)
         rw[hed]
         exact z8a nd hc' hem.1 hem.2 hr
        ·cases hr
       ·cases hc
      ·cases hc
     ·rename_i hnm
      split at hc
      ·rename_i hcond
       simp only[ar,iS,decide_eq_true_eq] at hcond
       split at hc
       ·rename_i ts' dm' hc'
        have hnm':nm.contains d=false:=by simpa using hnm
        have hts:ts=ts':=by
         split at hc
         ·simp only[aa,au] at hc;exact hc.1.symm
         ·split at hc
          ·simp only[aa,au] at hc;exact hc.1.symm
          ·cases hc
        subst hts
        by_cases hg:gok E cP env hp A G
        ·rw[if_pos (hgt.2 hg)]
         have hsome:∃ v,xv E cP env hp x=some v:=by
          split at hc
          ·rename_i hany
           have D1:=zbb (base:=base) hc' hr
           obtain⟨q,q1,q2⟩:=gT.1 hany
           simp only[ar,beq_iff_eq] at q2
           exact D1 q q1 (zhr q2.2 (z7n hcond.1 hg)) ⟨G,x⟩ (by unfold y7e;rw[if_pos q2.1])
          ·split at hc
           ·exact zwv R hx hg (by assumption)
           ·cases hc
         obtain⟨v,hxv⟩:=hsome
         obtain⟨e,he,hed⟩:=zus R (id:=if dr then base+pos else hp.length) hx hg hxv
         rw[zim hv he,hd]
         simp only
         rw[hed]
         exact z8a nd hc' (zo6 R hcond.1 hcond.2 (zfw R hG) (fun _=>hxv) (fun h=>absurd hg h)) (S.other hnm') hr
        ·rw[if_neg (fun h=>hg (hgt.1 h)),hd]
         exact z8a nd hc' (zo6 R hcond.1 hcond.2 (zfw R hG) (fun h=>absurd h hg) (fun _=>rfl)) (S.other hnm') hr
       ·cases hc
      ·cases hc
    ·cases hc
   ·cases hc
  ·split at hc
   ·rename_i hdst
    split at hc
    ·rename_i gd ks hgd hks
     split at hc
     ·rename_i ts' dm' hc'
      simp only[aa,au] at hc
      obtain⟨rfl,rfl⟩:=hc
      simp only[rTS] at hr
      have hgv:gdT E cP env hp gd=some (yj sl o.gd)/\(yj sl o.gd=true->gok E cP env hp A o.gd.toList):=by
       cases hog:o.gd with
       |none=>
        rw[hog] at hgd;simp only[gdX,aa] at hgd;subst hgd
        exact⟨rfl,fun _=>z3s⟩
       |some q=>
        obtain⟨j,b⟩:=q
        rw[hog] at hgd
        simp only[gdX] at hgd
        split at hgd
        ·rename_i xg hxg
         simp only[aa] at hgd;subst hgd
         have e1:=z7c R hxg z3s
         obtain⟨svj,g1,g2,_⟩:=zdm hxg
         simp only[yn] at e1
         unfold yj gdT
         simp only[e1]
         refine⟨?_,fun hw=>?_⟩
         ·split <;> simp_all
         ·refine z3a.2 ⟨⟨svj,g1,?_⟩,z3s⟩
          rw[g2,e1]
          split at hw
          ·rename_i c hc;rw[hc];simp only[beq_iff_eq] at hw;rw[hw]
          ·cases hw
        ·cases hgd
      rw[hgv.1] at hr
      cases hw:yj sl o.gd with
      |true=>
       rw[hw] at hr
       simp only at hr
       simp only[if_true]
       split at hr
       ·rename_i vs e1
        obtain⟨vs',f1,f2,f3⟩:=zat R (hgv.2 hw) hks
        rw[e1] at f1;simp only[aa] at f1;subst f1
        split at hr
        ·rename_i d hp1 hst
         have hst':yd E cP cS cY (if dr=true then base+pos else hp.length) (gOf vs) hp o.op=some (d,hp1):=by
          cases dr <;> exact hst
         rw[z8j (zv3 f2 f3)] at hst'
         rw[hst']
         have hem:=zdj (h:=true) (hp':=hp1) (d:=d) nd R S (fun h=>by cases h) hdst
         exact z8a nd hc' hem.1 hem.2 hr
        ·cases hr
       ·cases hr
      |false=>
       rw[hw] at hr
       simp only at hr
       simp only[aP,if_false]
       have hem:=zdj (h:=true) (hp':=hp) (d:=.undef) nd R S (fun h=>by cases h) hdst
       exact z8a nd hc' hem.1 hem.2 hr
     ·cases hc
    ·cases hc
   ·cases hc

theorem za4(nd:nm.Nodup):∀(ps:List Nat) (args sl env:List D),ps.all (fun p=>nm.contains p && decide (p<N))=true->sl.length=N->y66 nm env sl ->
  (y2c sl ps args).length=N/\y66 nm (y2c env (ps.map nm.idxOf) args) (y2c sl ps args)
 |[],args,sl,env,_,hl,S=>⟨by simpa[y2c] using hl,by simpa[y2c] using S⟩
 |p::ps,[],sl,env,_,hl,S=>⟨by simpa[y2c] using hl,by simpa[y2c] using S⟩
 |p::ps,v::vs,sl,env,h,hl,S=>by
  simp only[List.all_cons,ar,decide_eq_true_eq] at h
  simp only[y2c,av]
  exact za4 nd ps vs _ _ (by simpa using h.2) (by simpa using hl) (S.set nd h.1.1 (by rw[hl];exact h.1.2))

theorem zhm{A:Type}:∀{ls:List (Option (List A))} {r:List A},y9g ls=some r->∀ x,x ∈ ls->∃ r',x=some r' /\ ∀ y,y ∈ r'->y ∈ r
 |[],_,_,x,hx=>by cases hx
 |x::ls,r,h,z,hz=>by
  simp only[y9g] at h
  split at h
  ·rename_i a b h1
   simp only[aa] at h;subst h
   rcases az.1 hz with rfl | hz
   ·exact⟨a,rfl,fun y hy=>List.mem_append_left _ hy⟩
   ·obtain⟨r',e1,e2⟩:=zhm h1 z hz
    exact⟨r',e1,fun y hy=>List.mem_append_right _ (e2 y hy)⟩
  ·cases h

theorem zwo{env sl:List D}(S:y66 nm env sl){x y:Opd}{r:List (Nat × Nat)}(h:ya4 nm x y=some r)(hc:∀ p,p ∈ r->yg4 env p=true):y8w (did (yn sl x)) (did (yn sl y))=true:=by
 have none1:∀{o:Option Nat},y8w none o=true:=fun {o}=>by cases o <;> rfl
 have none2:∀{o:Option Nat},y8w o none=true:=fun {o}=>by cases o <;> rfl
 have key:∀{z:Opd},ya6 nm z=some none->did (yn sl z)=none:=by
  intro z hz
  cases z with
  |t s=>simp only[ya6] at hz;split at hz <;> simp at hz
  |c d=>
   simp only[ya6] at hz
   split at hz
   ·rename_i h1;simpa[yn] using h1
   ·cases hz
  |f k=>rfl
 have key2:∀{z:Opd} {i:Nat},ya6 nm z=some (some i)->env[i]? = some (yn sl z):=by
  intro z i hz
  cases z with
  |t s=>
   simp only[ya6] at hz
   split at hz
   ·rename_i h1
    simp only[aa] at hz;subst hz
    exact(S.get h1).2
   ·cases hz
  |c d=>simp only[ya6] at hz;split at hz <;> simp at hz
  |f k=>simp[ya6] at hz
 unfold ya4 at h
 split at h
 ·rename_i i j h1 h2
  simp only[aa] at h;subst h
  have:=hc (i,j) (by simp)
  simp only[yg4,key2 h1,key2 h2] at this
  exact this
 ·rename_i h2
  rw[key h2];exact none2
 ·rename_i h1 h2
  rw[key h1];exact none1
 ·cases h

theorem zuj{env sl:List D}(S:y66 nm env sl){ops:List y1a}{ap l:List (Nat × Nat)}(h:apX nm ops ap=some l)(hc:ydc env l=true):y7o sl ops ap=true:=by
 unfold ydc at hc
 rw[aD] at hc
 unfold y7o
 rw[aD]
 intro p hp
 obtain⟨r,e1,e2⟩:=zhm h _ (j9 hp)
 unfold apX1 at e1
 unfold y9q
 split at e1
 ·rename_i a b h1 h2
  rw[h1,h2]
  simp only[]
  rw[aD]
  intro x hx
  rw[aD]
  intro y hy
  obtain⟨r2,f1,f2⟩:=zhm e1 (ya4 nm x y) (bJ.2 ⟨x,hx,j9 hy⟩)
  exact zwo S f1 fun q hq=>hc q (e2 q (f2 q hq))
 ·cases e1

theorem ztt(nd:nm.Nodup)(hN:nm.all (fun s=>decide (s<N))=true):∀{dc:DC} {tc:TC},y2k nm N dc=some tc->∀{Q:Ex->List D->List Obj->Prop} {env:List D} {hp:List Obj} {sl:List D},
  sl.length=N->y66 nm env sl->wT E tc Q env hp->wp E dc ⟨sl,hp⟩ (fun ex st'=>st'.sl.length=N /\ ∃ env',y66 nm env' st'.sl/\Q ex env' st'.hp):=by
 intro dc
 induction dc with
 |skip=>
  intro tc hc Q env hp sl hl S h
  simp only[y2k,aa] at hc;subst hc
  exact zvp.2 ⟨hl,env,S,h⟩
 |ret=>
  intro tc hc Q env hp sl hl S h
  simp only[y2k,aa] at hc;subst hc
  exact zyi.2 ⟨hl,env,S,h⟩
 |exit id=>
  intro tc hc Q env hp sl hl S h
  simp only[y2k,aa] at hc;subst hc
  exact zvr.2 ⟨hl,env,S,h⟩
 |region dr ap ops=>
  intro tc hc Q env hp sl hl S h
  simp only[y2k] at hc
  split at hc
  ·rename_i ts dm hcc
   have base:∀{Q:Ex->List D->List Obj->Prop},wT E (.run (if dr then ops.length else 0) ts) Q env hp->∃ sl' hp' env',y6d dr E (yu E (dL E)) (y1o E (dL E)) (y3m (dL E)) (hp.length+0) ops ⟨sl,hp++af (if dr then ops.length else 0) .dead⟩=some ⟨sl',hp'⟩/\sl'.length=N/\y66 nm env' sl'/\Q .normal env' hp':=by
    intro Q h
    simp only[wT] at h
    split at h
    ·rename_i env' hp' hr
     obtain⟨sl',h1,h2,h3⟩:=z8a nd (base:=hp.length) hcc (znw hl hN S) S hr
     exact⟨sl',hp',env',h1,h2,h3,h⟩
    ·exact h.elim
   split at hc
   ·rename_i hda
    simp only[ar,bV] at hda
    obtain⟨rfl,hap⟩:=hda
    split at hc
    ·rename_i l hX
     simp only[aa] at hc;subst hc
     obtain⟨sl',hp',env',h1,h2,h3,h4⟩:=base (Q:=fun ex env' hp'=>match ex with
      |.normal=>wT E (.chk l) Q env' hp'
      |ex=>Q ex env' hp') h
     simp only[wT] at h4
     refine⟨.normal,⟨sl',hp'⟩,?_,h2,env',h3,h4.2⟩
     rw[zqf]
     simp only[y6d,if_true,cU] at h1
     simp only[h1,y27,zuj h3 hX h4.1,if_true,aq]
    ·cases hc
   ·rename_i hda
    simp only[aa] at hc;subst hc
    obtain⟨sl',hp',env',h1,h2,h3,h4⟩:=base h
    cases dr with
    |false=>
     refine znk.2 ⟨⟨sl',hp'⟩,?_,h2,env',h3,h4⟩
     simpa[y6d] using h1
    |true=>
     have hap':ap=[]:=by simpa using hda
     subst hap'
     refine⟨.normal,⟨sl',hp'⟩,?_,h2,env',h3,h4⟩
     rw[zqf]
     simp only[y6d,if_true,cU] at h1
     simp only[h1,y27,y7o,List.all_nil,if_true,aq]
  ·cases hc
 |seq a b iha ihb=>
  intro tc hc Q env hp sl hl S h
  simp only[y2k] at hc
  split at hc
  ·rename_i x y hx hy
   simp only[aa] at hc;subst hc
   simp only[wT] at h
   refine zyh.2 (zgp (iha hx hl S h) ?_)
   rintro ex st' ⟨hl',env',S',hq⟩
   cases ex with
   |normal=>exact ihb hy hl' S' hq
   |exit i=>exact⟨hl',env',S',hq⟩
   |ret=>exact⟨hl',env',S',hq⟩
  ·cases hc
 |cond c a b iha ihb=>
  intro tc hc Q env hp sl hl S h
  cases c with
  |c d=>
   cases d with
   |undef=>
    simp only[y2k,aa] at hc
    subst hc
    exact h.elim
   |_=>simp[y2k] at hc
  |f k=>simp[y2k] at hc
  |t k=>
   simp only[y2k] at hc
   split at hc
   ·rename_i hk
    split at hc
    ·rename_i x y hx hy
     simp only[aa] at hc;subst hc
     simp only[wT,(S.get hk).2] at h
     split at h
     ·rename_i t ht
      simp only[aa] at ht
      refine(zvs (b:=t) (by simp only[yn];exact ht)).2 ⟨fun e=>?_,fun e=>?_⟩
      ·subst e;simp only[if_true] at h;exact iha hx hl S h
      ·subst e;simp only[aP,if_false] at h;exact ihb hy hl S h
     ·exact h.elim
    ·cases hc
   ·cases hc
 |ifp c a b iha ihb=>
  intro tc hc Q env hp sl hl S h
  cases c with
  |c d=>simp[y2k] at hc
  |f k=>simp[y2k] at hc
  |t k=>
   simp only[y2k] at hc
   split at hc
   ·rename_i hk
    split at hc
    ·rename_i x y hx hy
     simp only[aa] at hc;subst hc
     simp only[wT,(S.get hk).2] at h
     split at h
     ·rename_i hm;exact zup.2 ((if_pos (show yw (yn sl (.t k))=true from hm)).mpr (iha hx hl S h))
     ·rename_i hm;exact zup.2 ((if_neg (show ¬ yw (yn sl (.t k))=true from hm)).mpr (ihb hy hl S h))
    ·cases hc
   ·cases hc
 |block id a iha=>
  intro tc hc Q env hp sl hl S h
  simp only[y2k] at hc
  split at hc
  ·rename_i x hx
   simp only[aa] at hc;subst hc
   simp only[wT] at h
   refine zrk.2 (zgp (iha hx hl S h) ?_)
   rintro ex st' ⟨hl',env',S',hq⟩
   cases ex with
   |normal=>exact⟨hl',env',S',hq⟩
   |exit i=>exact⟨hl',env',S',hq⟩
   |ret=>exact⟨hl',env',S',hq⟩
  ·cases hc
 |loop a iha=>
  intro tc hc Q env hp sl hl S h
  simp only[y2k] at hc
  split at hc
  ·rename_i x hx
   simp only[aa] at hc;subst hc
   simp only[wT] at h
   obtain⟨I,k,hI,step⟩:=h
   refine zvq (fun k st=>st.sl.length=N /\ ∃ env,y66 nm env st.sl/\I k env st.hp) ?_ k ⟨sl,hp⟩ ⟨hl,env,S,hI⟩
   rintro k ⟨sl,hp⟩ ⟨hl,env,S,hI⟩
   refine zgp (iha hx hl S (step k env hp hI)) ?_
   rintro ex st' ⟨hl',env',S',hq⟩
   cases ex with
   |normal=>
    obtain⟨k',hk,hI'⟩:=hq
    exact⟨k',hk,hl',env',S',hI'⟩
   |exit i=>exact⟨hl',env',S',hq⟩
   |ret=>exact⟨hl',env',S',hq⟩
  ·cases hc
 |rfunc f ps asg body iha ihb=>
  intro tc hc Q env hp sl hl S h
  cases f with
  |c d=>simp[y2k] at hc
  |f k=>simp[y2k] at hc
  |t f=>
   simp only[y2k] at hc
   split at hc
   ·rename_i hk
    simp only[ar] at hk
    split at hc
    ·rename_i x y hx hy
     simp only[aa] at hc;subst hc
     simp only[wT] at h
     obtain⟨k,caps,h1,h2⟩:=h
     have hf:y5y E (sl.getD f .undef)=.fn k caps:=by
      have:=(S.get hk.1).2
      rw[this] at h1;simpa using h1
     obtain⟨d,hp',h3,h4⟩:=h2 (fun b p=>.loop b sl ps asg body p) ⟨_,_,_,_,rfl⟩ (by
      intro args hp1 K hlen hat hw
      have hlen':args.length=ps.length:=by simpa using hlen
      obtain⟨hsl,S1⟩:=za4 nd ps args sl env hk.2 hl S
      obtain⟨ex,st1,r1,hl1,env1,S1',rfl,hat1,hw1⟩:=iha hx hsl S1 hw
      obtain⟨ex2,st2,r2,hl2,env2,S2',hat2,hK⟩:=ihb hy (sl:=st1.sl) (hp:=st1.hp.set hp.length (.loop true sl ps asg body none)) hl1 S1' hw1
      unfold y3m
      simp only[hat,hlen',if_true,r1,hat1,r2,hat2]
      cases ex2 with
      |normal=>exact⟨_,_,rfl,hK⟩
      |exit i=>exact⟨_,_,rfl,hK⟩
      |ret=>exact⟨_,_,rfl,hK⟩)
     rcases h4 with⟨h5,h6⟩ | ⟨ex,h5,h6⟩
     ·refine⟨.normal,⟨sl,hp'.set hp.length .dead⟩,?_,hl,env,S,h6⟩
      rw[zjy]
      simp only[yn,hf,h3,h5]
     ·refine⟨ex,⟨sl,hp'.set hp.length .dead⟩,?_,hl,env,S,h6⟩
      rw[zjy]
      simp only[yn,hf,h3,h5]
    ·cases hc
   ·cases hc

end
end Dv

namespace Dv

def y3k(E:Env)(env:List D)(hp:List Obj):List (Nat × Option Nat)->Option (List D)
 |[]=>some []
 |(i,none)::r=>(match env[i]?,y3k E env hp r with
  |some d,some l=>some (d::l)
  |_,_=>none)
 |(i,some t)::r=>(match env[i]? with
  |some a=>(match yo E hp t a,y3k E env hp r with
   |some d,some l=>some (d::l)
   |_,_=>none)
  |none=>none)

def y91(nm:List Nat):List RV->List (Nat × Option Nat)->Bool
 |[],[]=>true
 |.tmp t::r,(i,none)::is=>nm.contains t && nm.idxOf t == i && y91 nm r is
 |.cell a t::r,(i,some t')::is=>nm.contains a && nm.idxOf a == i && t == t' && y91 nm r is
 |_,_=>false

def Ret(E:Env)(is:List (Nat × Option Nat))(R:D->List Obj->Prop):Ex->List D->List Obj->Prop:=fun ex env hp=>(ex=.ret\/ex=.normal) /\ ∃ l,y3k E env hp is=some l/\R (y2d l) hp

section
variable{E:Env}

structure TF(E:Env)(f:Nat)(nm:List Nat)(is:List (Nat × Option Nat))(tc:TC)(N:Nat):Prop where
 ex:∃ F,E.fn f=some F/\F.ntmps=N/\y2k nm F.ntmps F.body=some tc/\nm.Nodup/\nm.all (fun s=>decide (s<F.ntmps))=true/\y91 nm F.results is=true

def y8f:List Nat->Bool
 |[]=>true
 |x::r=>!r.contains x && y8f r

theorem zfn:∀{l:List Nat},y8f l=true->l.Nodup
 |[],_=>List.nodup_nil
 |x::r,h=>by
  simp only[y8f,ar,bV] at h
  exact List.nodup_cons.2 ⟨by simpa using h.1,zfn h.2⟩

theorem zj{f:Nat}{nm:List Nat}{is:List (Nat × Option Nat)}{tc:TC}{F:DFn}(h:E.fn f=some F)(hc:y2k nm F.ntmps F.body=some tc)(hb:(y8f nm && nm.all (fun s=>decide (s<F.ntmps)) && y91 nm F.results is)=true):TF E f nm is tc F.ntmps:=by
 simp only[ar] at hb
 exact⟨F,h,rfl,hc,zfn hb.1.1,hb.1.2,hb.2⟩

theorem zo5{nm:List Nat}{env:List D}{st:St}(S:y66 nm env st.sl):∀{rs:List RV} {is:List (Nat × Option Nat)} {l:List D},y91 nm rs is=true->y3k E env st.hp is=some l->y5n E st rs=some l
 |[],[],l,_,h=>by simp only[y3k,aa] at h;subst h;rfl
 |.tmp t::r,(i,none)::is,l,h,h'=>by
  simp only[y91,ar,beq_iff_eq] at h
  simp only[y3k] at h'
  split at h'
  ·rename_i d l' h1 h2
   simp only[aa] at h';subst h'
   have:=(S.get h.1.1).2
   rw[h.1.2,h1] at this
   simp only[aa] at this
   simp only[y5n,zo5 S h.2 h2,this]
  ·cases h'
 |.cell a t::r,(i,some t')::is,l,h,h'=>by
  simp only[y91,ar,beq_iff_eq] at h
  simp only[y3k] at h'
  split at h'
  ·rename_i p hp
   split at h'
   ·rename_i d l' h1 h2
    simp only[aa] at h';subst h'
    have:=(S.get h.1.1.1).2
    rw[h.1.1.2,hp] at this
    simp only[aa] at this
    rw[<- h.1.2,this] at h1
    simp only[y5n,zo5 S h.2 h2,h1]
   ·cases h'
  ·cases h'
 |.cell _ _::_,[],_,h,_=>by simp[y91] at h
 |.cell _ _::_,(_,none)::_,_,h,_=>by simp[y91] at h
 |[],_::_,_,h,_=>by simp[y91] at h
 |.tmp _::_,[],_,h,_=>by simp[y91] at h
 |.tmp _::_,(_,some _)::_,_,h,_=>by simp[y91] at h

def y3p(nm:List Nat)(args:List D):List D:=nm.map fun s=>args.getD s .undef

theorem zkr{nm:List Nat}{args:List D}{N:Nat}:y66 nm (y3p nm args) (args++af (N - args.length) .undef):=by
 refine⟨by simp[y3p],fun i s h=>?_⟩
 simp only[y3p,List.getElem?_map,h,aq,aa]
 simp only[aj]
 by_cases hs:s<args.length
 ·rw[List.getElem?_append_left hs]
 ·rw[List.getElem?_append_right (by omega),List.getElem?_eq_none (by omega)]
  cases h2:(af (N - args.length) D.undef)[s - args.length]? with
  |none=>rfl
  |some d=>
   have:=aX h2
   rw[List.mem_replicate] at this
   rw[this.2];rfl

theorem z30{f:Nat}{nm:List Nat}{is:List (Nat × Option Nat)}{tc:TC}{N:Nat}(t:TF E f nm is tc N){args:List D}{hp:List Obj}{R:D->List Obj->Prop}(hl:args.length<=N)
  (h:wT E tc (Ret E is R) (y3p nm args) hp) (hb:E.mp f=false:=by rfl):∃ d hp',y1o E (dL E) f args hp=some (d,hp')/\R d hp':=by
 obtain⟨F,hF,rfl,hc,nd,hN,hr⟩:=t.ex
 obtain⟨ex,st',h1,h2,env',S,⟨hx,l,hg,hR⟩⟩:=ztt nd hN hc (sl:=args++af (F.ntmps - args.length) .undef) (by simp;omega) zkr h
 have hres:=zo5 (E:=E) S hr hg
 refine⟨y2d l,st'.hp,?_,hR⟩
 unfold y1o
 simp only[hF,ym,h1,hb,y2e]
 rcases hx with rfl | rfl <;> simp only[y1z,hres,aq]

theorem ze{f:Nat}{nm:List Nat}{is:List (Nat × Option Nat)}{tc:TC}{N:Nat}(t:TF E f nm is tc N){args:List D}{r:D}(hl:args.length<=N)
  (h:wT E tc (Ret E is fun d hp=>frz hp depth d=some r) (y3p nm args) []) (hk:E.keep f=false:=by rfl) (hb:E.mp f=false:=by rfl):yu E (dL E) f args=some r:=by
 obtain⟨d,hp',h1,h2⟩:=z30 t hl h hb
 unfold yu
 simp only[h1,hk,yao,h2]

end
end Dv

namespace Dv

section
variable{E:Env}{Q:Ex->List D->List Obj->Prop}{env:List D}{hp:List Obj}

theorem zvu:wT E .skip Q env hp=Q .normal env hp:=rfl
theorem zym:wT E .ret Q env hp=Q .ret env hp:=rfl
theorem zvv{id:Nat}:wT E (.exit id) Q env hp=Q (.exit id) env hp:=rfl
theorem zyl{a b:TC}:wT E (.seq a b) Q env hp=wT E a (fun ex env' hp'=>match ex with
  |.normal=>wT E b Q env' hp'
  |ex=>Q ex env' hp') env hp:=rfl
theorem zrl{id:Nat}{a:TC}:wT E (.block id a) Q env hp=wT E a (fun ex env' hp'=>match ex with
  |.exit i=>Q (if i=id then .normal else .exit i) env' hp'
  |ex=>Q ex env' hp') env hp:=rfl

theorem wK{l:List (Nat × Nat)}:wT E (.chk l) Q env hp=(ydc env l=true/\Q .normal env hp):=rfl
theorem z7u:∀{c:TC} {Q Q':Ex->List D->List Obj->Prop} {env:List D} {hp:List Obj},(∀ ex env hp,Q ex env hp->Q' ex env hp)->wT E c Q env hp->wT E c Q' env hp:=by
 intro c
 induction c with
 |skip=>intro Q Q' env hp hq h;exact hq _ _ _ h
 |ret=>intro Q Q' env hp hq h;exact hq _ _ _ h
 |exit id=>intro Q Q' env hp hq h;exact hq _ _ _ h
 |run pad l=>
  intro Q Q' env hp hq h
  simp only[wT] at h ⊢
  split at h
  ·exact hq _ _ _ h
  ·exact h.elim
 |seq a b iha ihb=>
  intro Q Q' env hp hq h
  refine iha (fun ex env hp h=>?_) h
  cases ex with
  |normal=>exact ihb hq h
  |exit i=>exact hq _ _ _ h
  |ret=>exact hq _ _ _ h
 |cond i a b iha ihb=>
  intro Q Q' env hp hq h
  simp only[wT] at h ⊢
  split at h
  ·split at h
   ·rename_i ht;rw[if_pos ht];exact iha hq h
   ·rename_i ht;rw[if_neg ht];exact ihb hq h
  ·exact h.elim
 |ifp i a b iha ihb=>
  intro Q Q' env hp hq h
  simp only[wT] at h ⊢
  split at h
  ·split at h
   ·rename_i ht;rw[if_pos ht];exact iha hq h
   ·rename_i ht;rw[if_neg ht];exact ihb hq h
  ·exact h.elim
 |dead=>intro Q Q' env hp hq h;exact h.elim
 |block id a iha=>
  intro Q Q' env hp hq h
  refine iha (fun ex env hp h=>?_) h
  cases ex <;> exact hq _ _ _ h
 |loop a iha=>
  intro Q Q' env hp hq h
  obtain⟨I,k,hI,step⟩:=h
  refine⟨I,k,hI,fun k env hp hI=>iha (fun ex env hp h=>?_) (step k env hp hI)⟩
  cases ex with
  |normal=>exact h
  |exit i=>exact hq _ _ _ h
  |ret=>exact hq _ _ _ h
 |chk l=>intro Q Q' env hp hq h;exact⟨h.1,hq _ _ _ h.2⟩
 |rfunc i ps a b iha ihb=>
  intro Q Q' env hp hq h
  obtain⟨k,caps,h1,h2⟩:=h
  refine⟨k,caps,h1,fun L hL hcb=>?_⟩
  obtain⟨d,hp',h3,h4⟩:=h2 L hL hcb
  refine⟨d,hp',h3,?_⟩
  rcases h4 with⟨h5,h6⟩ | ⟨ex,h5,h6⟩
  ·exact .inl ⟨h5,hq _ _ _ h6⟩
  ·exact .inr ⟨ex,h5,hq _ _ _ h6⟩

theorem z2r{E:Env}{c:TC}{Q:Ex->List D->List Obj->Prop}{env env':List D}{hp hp':List Obj}(h:env=env')(h':hp=hp'):wT E c Q env hp=wT E c Q env' hp':=by rw[h,h']

theorem zr{a:TC}(n:Nat)(I:Nat->List D->List Obj->Prop)(i:Nat)(hi:i<=n)(h0:I i env hp)
  (step:∀ i env hp,i<=n->I i env hp->wT E a (fun ex env' hp'=>match ex with
   |.normal=>i<n/\I (i+1) env' hp'
   |ex=>Q ex env' hp') env hp):wT E (.loop a) Q env hp:=by
 refine⟨fun k env hp=>∃ i,i<=n/\k=n - i/\I i env hp,n - i,⟨i,hi,rfl,h0⟩,?_⟩
 rintro k env hp ⟨i,hi,rfl,hI⟩
 refine z7u (fun ex env' hp' h=>?_) (step i env hp hi hI)
 cases ex with
 |normal=>exact⟨n - (i+1),by omega,i+1,by omega,rfl,h.2⟩
 |exit _=>exact h
 |ret=>exact h

end
end Dv

namespace Dv

def ob{A B:Type}(x:Option A)(f:A->Option B):Option B:=x.bind f
def obP{A:Type}(x:Option A)(f:A->Prop):Prop:=match x with | some a=>f a | none=>False
theorem zf{A B:Type}{a:A}{f:A->Option B}:ob (some a) f=f a:=rfl
theorem zsd{A:Type}{a:A}{f:A->Prop}:obP (some a) f=f a:=rfl
theorem z2v{A B:Type}{x y:Option A}{f:A->Option B}(h:x=y):ob x f=ob y f:=by rw[h]
theorem z20{A:Type}{x y:Option A}{f:A->Prop}(h:x=y):obP x f=obP y f:=by rw[h]

section
variable{E:Env}{cP:Nat->List D->Option D}{env:List D}{hp:List Obj}

theorem z16{X:Option D}:(match Option.map (fun x=>(⟨x,none,none⟩:Ef)) X with | some e=>some e.d | none=>none)=X:=by cases X <;> rfl
theorem xv_v{i:Nat}:xv E cP env hp (.v i)=env[i]?:=by simp only[xv]
theorem xv_c{d:D}:xv E cP env hp (.c d)=some d:=by simp only[xv]
def ycd(t:D)(a b:Option D):Option D:=match t with
 |.bool t=>if t=true then a else b
 |_=>none
theorem zz9{t:Bool}{a b:Option D}:ycd (.bool t) a b=if t=true then a else b:=rfl
theorem zyd{c a b:Xp}:xv E cP env hp (.ite c a b)=ob (xv E cP env hp c) fun t=>ycd t (xv E cP env hp a) (xv E cP env hp b):=by
 simp only[xv]
 cases h:xv E cP env hp c with
 |none=>rfl
 |some d=>
  cases d with
  |bool t=>cases t <;> rfl
  |_=>rfl

theorem zne{op:ik}{t:Nat}{a:Nat}{b:Nat}{x0:Xp}{x1:Xp}(h10:b ≠ a):xv E cP env hp (.n (.bin op t (.t a) (.t b)) (.cons a x0 (.cons b x1 .nil)))=ob (xv E cP env hp x0) fun u0=>ob (xv E cP env hp x1) fun u1=>y2l E op t u0 u1:=by
 simp only[xv,xvs]
 cases xv E cP env hp x0 <;> try rfl
 cases xv E cP env hp x1 <;> try rfl
 simp only[yb,av,aQ,aq,aV,gOf,kv,zf,if_true,if_false,h10,↓reduceIte]
 exact z16

theorem znf{op:ik}{t:Nat}{a:Nat}{x0:Xp}{d1:D}  : xv E cP env hp (.n (.bin op t (.t a) (.c d1)) (.cons a x0 .nil))=ob (xv E cP env hp x0) fun u0=>y2l E op t u0 d1:=by
 simp only[xv,xvs]
 cases xv E cP env hp x0 <;> try rfl
 simp only[yb,av,aQ,aq,aV,gOf,kv,zf,if_true,if_false,↓reduceIte]
 exact z16

theorem zng{op:ik}{t:Nat}{b:Nat}{x1:Xp}{d0:D}  : xv E cP env hp (.n (.bin op t (.c d0) (.t b)) (.cons b x1 .nil))=ob (xv E cP env hp x1) fun u1=>y2l E op t d0 u1:=by
 simp only[xv,xvs]
 cases xv E cP env hp x1 <;> try rfl
 simp only[yb,av,aQ,aq,aV,gOf,kv,zf,if_true,if_false,↓reduceIte]
 exact z16

theorem znh{op:ik}{t:Nat}{d0:D}{d1:D}  : xv E cP env hp (.n (.bin op t (.c d0) (.c d1)) .nil)=y2l E op t d0 d1:=by
 simp only[xv,xvs]
 simp only[yb,av,aQ,aq,aV,gOf,kv,zf,if_true,if_false,↓reduceIte]
 exact z16

theorem zvi{op:Go.UnOp}{a:Nat}{x0:Xp}  : xv E cP env hp (.n (.un op (.t a)) (.cons a x0 .nil))=ob (xv E cP env hp x0) fun u0=>unD op u0:=by
 simp only[xv,xvs]
 cases xv E cP env hp x0 <;> try rfl
 simp only[yb,av,aQ,aq,aV,gOf,kv,zf,if_true,if_false,↓reduceIte]
 exact z16

theorem znc{s1 s2:Nat}{a:Nat}{x0:Xp}  : xv E cP env hp (.n (.conv s1 s2 (.t a)) (.cons a x0 .nil))=ob (xv E cP env hp x0) fun u0=>y2v E s1 s2 u0:=by
 simp only[xv,xvs]
 cases xv E cP env hp x0 <;> try rfl
 simp only[yb,av,aQ,aq,aV,gOf,kv,zf,if_true,if_false,↓reduceIte]
 exact z16

theorem zvl{t:Nat}{a:Nat}{x0:Xp}  : xv E cP env hp (.n (.load t (.t a)) (.cons a x0 .nil))=ob (xv E cP env hp x0) fun u0=>yo E hp t u0:=by
 simp only[xv,xvs]
 cases xv E cP env hp x0 <;> try rfl
 simp only[yb,av,aQ,aq,aV,gOf,kv,zf,if_true,if_false,↓reduceIte]
 exact z16

theorem zyc{t:Nat}{a:Nat}{x0:Xp}  : xv E cP env hp (.n (.len t (.t a)) (.cons a x0 .nil))=ob (xv E cP env hp x0) fun u0=>y6s E hp t u0:=by
 simp only[xv,xvs]
 cases xv E cP env hp x0 <;> try rfl
 simp only[yb,av,aQ,aq,aV,gOf,kv,zf,if_true,if_false,↓reduceIte]
 exact z16

theorem zrg{t f:Nat}{a:Nat}{x0:Xp}  : xv E cP env hp (.n (.faddr t (.t a) f) (.cons a x0 .nil))=ob (xv E cP env hp x0) fun u0=>y5k E t u0 f:=by
 simp only[xv,xvs]
 cases xv E cP env hp x0 <;> try rfl
 simp only[yb,av,aQ,aq,aV,gOf,kv,zf,if_true,if_false,↓reduceIte]
 exact z16

theorem zrf{t f:Nat}{a:Nat}{x0:Xp}  : xv E cP env hp (.n (.field t (.t a) f) (.cons a x0 .nil))=ob (xv E cP env hp x0) fun u0=>y8j E t u0 f:=by
 simp only[xv,xvs]
 cases xv E cP env hp x0 <;> try rfl
 simp only[yb,av,aQ,aq,aV,gOf,kv,zf,if_true,if_false,↓reduceIte]
 exact z16

theorem zgm{t:Nat}{a:Nat}{b:Nat}{x0:Xp}{x1:Xp}(h10:b ≠ a):xv E cP env hp (.n (.iaddr t (.t a) (.t b)) (.cons a x0 (.cons b x1 .nil)))=ob (xv E cP env hp x0) fun u0=>ob (xv E cP env hp x1) fun u1=>y29 E t u0 u1:=by
 simp only[xv,xvs]
 cases xv E cP env hp x0 <;> try rfl
 cases xv E cP env hp x1 <;> try rfl
 simp only[yb,av,aQ,aq,aV,gOf,kv,zf,if_true,if_false,h10,↓reduceIte]
 exact z16

theorem zgn{t:Nat}{a:Nat}{x0:Xp}{d1:D}  : xv E cP env hp (.n (.iaddr t (.t a) (.c d1)) (.cons a x0 .nil))=ob (xv E cP env hp x0) fun u0=>y29 E t u0 d1:=by
 simp only[xv,xvs]
 cases xv E cP env hp x0 <;> try rfl
 simp only[yb,av,aQ,aq,aV,gOf,kv,zf,if_true,if_false,↓reduceIte]
 exact z16

theorem zgk{t:Nat}{a:Nat}{b:Nat}{x0:Xp}{x1:Xp}(h10:b ≠ a):xv E cP env hp (.n (.index t (.t a) (.t b)) (.cons a x0 (.cons b x1 .nil)))=ob (xv E cP env hp x0) fun u0=>ob (xv E cP env hp x1) fun u1=>y5w E t u0 u1:=by
 simp only[xv,xvs]
 cases xv E cP env hp x0 <;> try rfl
 cases xv E cP env hp x1 <;> try rfl
 simp only[yb,av,aQ,aq,aV,gOf,kv,zf,if_true,if_false,h10,↓reduceIte]
 exact z16

theorem zgl{t:Nat}{a:Nat}{x0:Xp}{d1:D}  : xv E cP env hp (.n (.index t (.t a) (.c d1)) (.cons a x0 .nil))=ob (xv E cP env hp x0) fun u0=>y5w E t u0 d1:=by
 simp only[xv,xvs]
 cases xv E cP env hp x0 <;> try rfl
 simp only[yb,av,aQ,aq,aV,gOf,kv,zf,if_true,if_false,↓reduceIte]
 exact z16

theorem zel{t:Nat}{ok:Bool}{a:Nat}{b:Nat}{x0:Xp}{x1:Xp}(h10:b ≠ a):xv E cP env hp (.n (.lookup t (.t a) (.t b) ok) (.cons a x0 (.cons b x1 .nil)))=ob (xv E cP env hp x0) fun u0=>ob (xv E cP env hp x1) fun u1=>y23 E hp t u0 u1 ok:=by
 simp only[xv,xvs]
 cases xv E cP env hp x0 <;> try rfl
 cases xv E cP env hp x1 <;> try rfl
 simp only[yb,av,aQ,aq,aV,gOf,kv,zf,if_true,if_false,h10,↓reduceIte]
 exact z16

theorem zn8  {a:Nat} {b:Nat} {x0:Xp} {x1:Xp} (h10:b ≠ a):xv E cP env hp (.n (.maxi [(.t a),(.t b)]) (.cons a x0 (.cons b x1 .nil)))=ob (xv E cP env hp x0) fun u0=>ob (xv E cP env hp x1) fun u1=>y7i [u0,u1]:=by
 simp only[xv,xvs]
 cases xv E cP env hp x0 <;> try rfl
 cases xv E cP env hp x1 <;> try rfl
 simp only[yb,av,aQ,aq,aV,gOf,kv,zf,if_true,if_false,h10,↓reduceIte]
 exact z16

theorem zn5  {a:Nat} {b:Nat} {x0:Xp} {x1:Xp} (h10:b ≠ a):xv E cP env hp (.n (.mini [(.t a),(.t b)]) (.cons a x0 (.cons b x1 .nil)))=ob (xv E cP env hp x0) fun u0=>ob (xv E cP env hp x1) fun u1=>y8u [u0,u1]:=by
 simp only[xv,xvs]
 cases xv E cP env hp x0 <;> try rfl
 cases xv E cP env hp x1 <;> try rfl
 simp only[yb,av,aQ,aq,aV,gOf,kv,zf,if_true,if_false,h10,↓reduceIte]
 exact z16

theorem zn9  {a:Nat} {x0:Xp} {d1:D}  : xv E cP env hp (.n (.maxi [(.t a),(.c d1)]) (.cons a x0 .nil))=ob (xv E cP env hp x0) fun u0=>y7i [u0,d1]:=by
 simp only[xv,xvs]
 cases xv E cP env hp x0 <;> try rfl
 simp only[yb,av,aQ,aq,aV,gOf,kv,zf,if_true,if_false,↓reduceIte]
 exact z16

theorem zn6  {a:Nat} {x0:Xp} {d1:D}  : xv E cP env hp (.n (.mini [(.t a),(.c d1)]) (.cons a x0 .nil))=ob (xv E cP env hp x0) fun u0=>y8u [u0,d1]:=by
 simp only[xv,xvs]
 cases xv E cP env hp x0 <;> try rfl
 simp only[yb,av,aQ,aq,aV,gOf,kv,zf,if_true,if_false,↓reduceIte]
 exact z16

theorem zna  {b:Nat} {x1:Xp} {d0:D}  : xv E cP env hp (.n (.maxi [(.c d0),(.t b)]) (.cons b x1 .nil))=ob (xv E cP env hp x1) fun u1=>y7i [d0,u1]:=by
 simp only[xv,xvs]
 cases xv E cP env hp x1 <;> try rfl
 simp only[yb,av,aQ,aq,aV,gOf,kv,zf,if_true,if_false,↓reduceIte]
 exact z16

theorem zn7  {b:Nat} {x1:Xp} {d0:D}  : xv E cP env hp (.n (.mini [(.c d0),(.t b)]) (.cons b x1 .nil))=ob (xv E cP env hp x1) fun u1=>y8u [d0,u1]:=by
 simp only[xv,xvs]
 cases xv E cP env hp x1 <;> try rfl
 simp only[yb,av,aQ,aq,aV,gOf,kv,zf,if_true,if_false,↓reduceIte]
 exact z16

theorem zd2{t:Nat}{a:Nat}{b:Nat}{x0:Xp}{x1:Xp}(h10:b ≠ a):xv E cP env hp (.n (.slice t (.t a) (some (.t b)) none none) (.cons a x0 (.cons b x1 .nil)))=ob (xv E cP env hp x0) fun u0=>ob (xv E cP env hp x1) fun u1=>y15 E t u0 (some u1) none none:=by
 simp only[xv,xvs]
 cases xv E cP env hp x0 <;> try rfl
 cases xv E cP env hp x1 <;> try rfl
 simp only[yb,av,aQ,aq,aV,gOf,kv,zf,if_true,if_false,h10,↓reduceIte]
 exact z16

theorem zd3{t:Nat}{a:Nat}{x0:Xp}{d1:D}  : xv E cP env hp (.n (.slice t (.t a) (some (.c d1)) none none) (.cons a x0 .nil))=ob (xv E cP env hp x0) fun u0=>y15 E t u0 (some d1) none none:=by
 simp only[xv,xvs]
 cases xv E cP env hp x0 <;> try rfl
 simp only[yb,av,aQ,aq,aV,gOf,kv,zf,if_true,if_false,↓reduceIte]
 exact z16

theorem zd4{t:Nat}{a:Nat}{b:Nat}{x0:Xp}{x1:Xp}(h10:b ≠ a):xv E cP env hp (.n (.slice t (.t a) none (some (.t b)) none) (.cons a x0 (.cons b x1 .nil)))=ob (xv E cP env hp x0) fun u0=>ob (xv E cP env hp x1) fun u1=>y15 E t u0 none (some u1) none:=by
 simp only[xv,xvs]
 cases xv E cP env hp x0 <;> try rfl
 cases xv E cP env hp x1 <;> try rfl
 simp only[yb,av,aQ,aq,aV,gOf,kv,zf,if_true,if_false,h10,↓reduceIte]
 exact z16

theorem zek{t:Nat}{a:Nat}{x0:Xp}  : xv E cP env hp (.n (.slice t (.t a) none none none) (.cons a x0 .nil))=ob (xv E cP env hp x0) fun u0=>y15 E t u0 none none none:=by
 simp only[xv,xvs]
 cases xv E cP env hp x0 <;> try rfl
 simp only[yb,av,aQ,aq,aV,gOf,kv,zf,if_true,if_false,↓reduceIte]
 exact z16


theorem zke{a:Nat}{x:Xp}{i:Nat}:xv E cP env hp (.n (.extract (.t a) i) (.cons a x .nil))=ob (xv E cP env hp x) fun u=>match u with | .tup vs=>vs[i]? | _=>none:=by
 simp only[xv,xvs]
 cases xv E cP env hp x with
 |none=>rfl
 |some d=>
  simp only[yb,gOf,kv,zf,if_true]
  cases d <;> try rfl
  rename_i vs
  simp only[]
  cases vs[i]? <;> rfl

def yae(cP:Nat->List D->Option D)(f:D)(args:List D):Option D:=match f with
 |.fn k caps=>(match y1p (frz [] depth) (args++caps) with
  |some vs=>cP k vs
  |none=>none)
 |_=>none

theorem zvn{f:Opd}{as:List Opd}{ks:Xs}:xv E cP env hp (.n (.call 0 f as) ks)=ob (xvs E cP env hp ks) fun vs=>yae cP (gOf vs f) (as.map (gOf vs)):=by
 simp only[xv]
 cases xvs E cP env hp ks with
 |none=>rfl
 |some vs=>
  simp only[yb,zf,yae]
  cases gOf vs f <;> try rfl
  rename_i k caps
  simp only[]
  cases y1p (frz [] depth) (as.map (gOf vs)++caps) with
  |none=>rfl
  |some l=>simp only[];cases cP k l <;> rfl

theorem zvh:xvs E cP env hp .nil=some []:=by simp only[xvs]
theorem zrc{s:Nat}{x:Xp}{r:Xs}:xvs E cP env hp (.cons s x r)=ob (xv E cP env hp x) fun d=>ob (xvs E cP env hp r) fun l=>some ((s,d)::l):=by
 simp only[xvs]
 cases xv E cP env hp x with
 |none=>rfl
 |some d=>simp only[zf];cases xvs E cP env hp r <;> rfl

def y87(E:Env)(t len:Nat)(ps:List (Nat × D)):Option D:=match (E.ty t).k with
 |.slice e=>(match y22 E e with
  |some z=>if len*(E.ty e).size<=16777216 then(match y6j (E.ty e).size (af len z) ps with
   |some els=>some (.imm .exact els)
   |none=>none) else none
  |none=>none)
 |_=>none
theorem znd{t len:Nat}{ps:List (Nat × Opd)}{ks:Xs}:xv E cP env hp (.n (.bslice false t len ps) ks)=ob (xvs E cP env hp ks) fun vs=>y87 E t len (ps.map fun p=>(p.1,gOf vs p.2)):=by
 simp only[xv]
 cases xvs E cP env hp ks with
 |none=>rfl
 |some vs=>
  simp only[yb,zf,y87,aP,false_and,if_false]
  cases (E.ty t).k <;> try rfl
  rename_i e
  simp only[]
  cases hz:y22 E e with
  |none=>rfl
  |some z=>
   by_cases hh:len*(E.ty e).size<=16777216
   ·simp only[hh,if_true]
    cases y6j (E.ty e).size (af len z) (ps.map fun p=>(p.1,gOf vs p.2)) <;> rfl
   ·simp only[hh,if_false]

def y9o(E:Env)(t:Nat)(ps:List (Nat × D)):Option D:=if(E.ty t).zero.length=(E.ty t).size/\(E.ty t).size ≠ 0 then y6u E t ps else none
theorem zrh{t:Nat}{ps:List (Nat × Opd)}{ks:Xs}:xv E cP env hp (.n (.build t ps) ks)=ob (xvs E cP env hp ks) fun vs=>y9o E t (ps.map fun p=>(p.1,gOf vs p.2)):=by
 simp only[xv]
 cases xvs E cP env hp ks with
 |none=>rfl
 |some vs=>
  simp only[yb,zf,y9o]
  by_cases hh:(E.ty t).zero.length=(E.ty t).size/\(E.ty t).size ≠ 0
  ·simp only[if_pos hh];exact z16
  ·simp only[if_neg hh]

theorem zvk{f:Nat}{cs:List Opd}{ks:Xs}:xv E cP env hp (.n (.mkfn f cs) ks)=ob (xvs E cP env hp ks) fun vs=>some (.fn f (cs.map (gOf vs))):=by
 simp only[xv]
 cases xvs E cP env hp ks <;> rfl

variable{cS cY:Nat->List D->List Obj->Option (D × List Obj)}{base:Nat}

theorem zwl:rTS E cP cS cY base [] env hp=some (env,hp):=rfl
theorem zwn{i:Nat}{x:Xp}{r:List TS}:rTS E cP cS cY base (.asg i x::r) env hp=ob (xv E cP env hp x) fun d=>rTS E cP cS cY base r (env.set i d) hp:=by
 simp only[rTS]
 cases xv E cP env hp x <;> rfl
theorem zwm{dst:Option Nat}{op:DOp}{ks:Xs}{r:List TS}:rTS E cP cS cY base (.eff none dst op ks none::r) env hp=ob (xvs E cP env hp ks) fun vs=>ob (yd E cP cS cY hp.length (gOf vs) hp op) fun p=>rTS E cP cS cY base r (y93 env dst p.1) p.2:=by
 simp only[rTS,gdT]
 cases xvs E cP env hp ks with
 |none=>rfl
 |some vs=>simp only[zf];cases yd E cP cS cY hp.length (gOf vs) hp op <;> rfl
theorem zs0{k:Nat}{dst:Option Nat}{op:DOp}{ks:Xs}{r:List TS}:rTS E cP cS cY base (.eff none dst op ks (some k)::r) env hp=ob (xvs E cP env hp ks) fun vs=>ob (yd E cP cS cY (base+k) (gOf vs) hp op) fun p=>rTS E cP cS cY base r (y93 env dst p.1) p.2:=by
 simp only[rTS,gdT]
 cases xvs E cP env hp ks with
 |none=>rfl
 |some vs=>simp only[zf];cases yd E cP cS cY (base+k) (gOf vs) hp op <;> rfl

variable{Q:Ex->List D->List Obj->Prop}

theorem wR{l:List TS}:wT E (.run 0 l) Q env hp=obP (rTS E (yu E (dL E)) (y1o E (dL E)) (y3m (dL E)) hp.length l env hp) fun p=>Q .normal p.1 p.2:=by
 simp only[wT,List.replicate_zero,List.append_nil,rTL]
 cases rTS E (yu E (dL E)) (y1o E (dL E)) (y3m (dL E)) hp.length l env hp <;> rfl
theorem wRp{n:Nat}{l:List TS}:wT E (.run n l) Q env hp=obP (rTS E (yu E (dL E)) (y1o E (dL E)) (y3m (dL E)) hp.length l env (hp++af n .dead)) fun p=>Q .normal p.1 p.2:=by
 simp only[wT,rTL]
 cases rTS E (yu E (dL E)) (y1o E (dL E)) (y3m (dL E)) hp.length l env (hp++af n .dead) <;> rfl

def yad(t:D)(a b:Prop):Prop:=match t with
 |.bool t=>if t=true then a else b
 |_=>False
theorem zxo{t:Bool}{a b:Prop}:yad (.bool t) a b=if t=true then a else b:=rfl
theorem z1d{t t':D}{a b:Prop}(h:t=t'):yad t a b=yad t' a b:=by rw[h]
theorem z1l{t t':D}{a b:Option D}(h:t=t'):ycd t a b=ycd t' a b:=by rw[h]
theorem wC{i:Nat}{a b:TC}:wT E (.cond i a b) Q env hp=obP env[i]? fun t=>yad t (wT E a Q env hp) (wT E b Q env hp):=by
 simp only[wT]
 cases env[i]? with
 |none=>rfl
 |some d=>cases d <;> rfl

end
end Dv

namespace Dv

section
variable{E:Env}{cP:Nat->List D->Option D}{cS cY:Nat->List D->List Obj->Option (D × List Obj)}{env:List D}{hp:List Obj}{t id:Nat}{g:Opd->D}

theorem zua{k:aZ}{a b:Int}:y2l E .add t (.int k a) (.int k b)=some (.int k (k.wrap (a+b))):=by simp[y2l,y2p]
theorem ztx{k:aZ}{a b:Int}:y2l E .sub t (.int k a) (.int k b)=some (.int k (k.wrap (a - b))):=by simp[y2l,y2p]
theorem zu3{k:aZ}{a b:Int}:y2l E .mul t (.int k a) (.int k b)=some (.int k (k.wrap (a*b))):=by simp[y2l,y2p]
theorem zu8{k:aZ}{a b:Int}:y2l E .eql t (.int k a) (.int k b)=some (.bool (a == b)):=by simp[y2l,y2p]
theorem zu2{k:aZ}{a b:Int}:y2l E .neq t (.int k a) (.int k b)=some (.bool (a != b)):=by simp[y2l,y2p]
theorem zu4{k:aZ}{a b:Int}:y2l E .lss t (.int k a) (.int k b)=some (.bool (decide (a<b))):=by simp[y2l,y2p]
theorem zu5{k:aZ}{a b:Int}:y2l E .leq t (.int k a) (.int k b)=some (.bool (decide (a<=b))):=by simp[y2l,y2p]
theorem zu6{k:aZ}{a b:Int}:y2l E .gtr t (.int k a) (.int k b)=some (.bool (decide (b<a))):=by simp[y2l,y2p]
theorem zu7{k:aZ}{a b:Int}:y2l E .geq t (.int k a) (.int k b)=some (.bool (decide (b<=a))):=by simp[y2l,y2p]
theorem zu1{k:aZ}{a b:Int}:y2l E .quo t (.int k a) (.int k b)=if b=0 then none else some (.int k (k.wrap (a.tdiv b))):=by simp[y2l,y2p]
theorem zu0{k:aZ}{a b:Int}:y2l E .rem t (.int k a) (.int k b)=if b=0 then none else some (.int k (a.tmod b)):=by simp[y2l,y2p]
theorem zbi{a b:Bool}:y2l E .eql t (.bool a) (.bool b)=(match (E.ty t).k with | .bool=>some (.bool (a == b)) | _=>none):=by
 simp only[y2l]
 cases (E.ty t).k <;> rfl
theorem zqw{a b:Bool}:y2l E .neq t (.bool a) (.bool b)=(match (E.ty t).k with | .bool=>some (.bool (!(a == b))) | _=>none):=by
 simp only[y2l]
 cases (E.ty t).k <;> rfl
theorem z3x{a b:List D}:y2l E .eql t (.agg a) (.agg b)=if(E.ty t).eqc=true/\y1r a (E.ty t).zero=true then ob (eqL a b) (fun r=>some (.bool r)) else none:=by
 simp only[y2l]
 split
 ·cases eqL a b <;> rfl
 ·rfl
theorem zbj{a b:List D}:y2l E .neq t (.agg a) (.agg b)=if(E.ty t).eqc=true/\y1r a (E.ty t).zero=true then ob (eqL a b) (fun r=>some (.bool (!r))) else none:=by
 simp only[y2l]
 split
 ·cases eqL a b <;> rfl
 ·rfl
theorem zw2{b:Bool}:unD .not (.bool b)=some (.bool (!b)):=rfl
theorem zw3{k:aZ}{n:Int}:unD .neg (.int k n)=some (.int k (k.wrap (0 - n))):=rfl
theorem zsl{sp:y13}{els:List D}:y6s E hp t (.imm sp els)=(match (E.ty t).k with | .slice _=>some (.int .i64 els.length) | .arr n _=>some (.int .i64 n) | _=>none):=by
 unfold y6s
 cases (E.ty t).k <;> rfl
theorem zwy{i off len sz:Nat}{ag gr:Bool}:y6s E hp t (.sl i off len sz ag gr)=(match (E.ty t).k with | .slice _=>some (.int .i64 len) | .arr n _=>some (.int .i64 n) | _=>none):=by
 unfold y6s
 cases (E.ty t).k <;> rfl
theorem zsj{s:List UInt8}:y6s E hp t (.str s)=(match (E.ty t).k with | .str=>some (.int .i64 s.length) | .arr n _=>some (.int .i64 n) | _=>none):=by
 unfold y6s
 cases (E.ty t).k <;> rfl
def y9a(o:Option Obj):Option (List D):=match o with
 |some (.cells cs)=>some cs
 |some (.frozen cs)=>some cs
 |_=>none
theorem za7{cs:List D}:y9a (some (.cells cs))=some cs:=rfl
theorem z8n{cs:List D}:y9a (some (.frozen cs))=some cs:=rfl
theorem zl{i off:Nat}:yo E hp t (.loc i off)=ob (y9a hp[i]?) fun cs=>ob (y1x cs off (E.ty t).size) (yk (E.ty t).ag):=by
 simp only[yo]
 cases hp[i]? with
 |none=>rfl
 |some o=>cases o <;> rfl
theorem zz{cs:List D}:yo E hp t (.iptr cs)=ob (y1x cs 0 (E.ty t).size) (yk (E.ty t).ag):=rfl
theorem zm5{sp:y13}{els:List D}{k:aZ}{n:Int}:y29 E t (.imm sp els) (.int k n)=(match (E.ty t).k with | .slice e=>if 0<=n then ob els[n.toNat]? (fun d=>if d.cellsL.length=(E.ty e).size then some (.iptr d.cellsL) else none) else none | _=>none):=by
 unfold y29
 cases (E.ty t).k <;> try rfl
 by_cases h:0<=n
 ·simp only[h,if_true];cases els[n.toNat]? <;> rfl
 ·simp only[h,if_false]
theorem zpf{i off len sz:Nat}{ag gr:Bool}{k:aZ}{n:Int}:y29 E t (.sl i off len sz ag gr) (.int k n)=(match (E.ty t).k with | .slice e=>if 0<=n/\n<len/\sz=(E.ty e).size then some (.loc i (off+n.toNat*sz)) else none | _=>none):=by
 unfold y29
 cases (E.ty t).k <;> rfl
theorem zm4{i off:Nat}{k:aZ}{n:Int}:y29 E t (.loc i off) (.int k n)=(match (E.ty t).k with | .arr len e=>if 0<=n/\n<len then some (.loc i (off+n.toNat*(E.ty e).size)) else none | _=>none):=by
 unfold y29
 cases (E.ty t).k <;> rfl
theorem zmj{i off f:Nat}:y5k E t (.loc i off) f=(match (E.ty t).k with | .struct fs=>ob fs[f]? (fun p=>if(E.ty p.2).size=0 then none else some (.loc i (off+p.1))) | _=>none):=by
 unfold y5k
 cases (E.ty t).k <;> try rfl
 rename_i fs
 simp only[]
 cases fs[f]? <;> rfl
theorem zhx{cs:List D}{f:Nat}:y5k E t (.iptr cs) f=(match (E.ty t).k with | .struct fs=>ob fs[f]? (fun p=>if(E.ty p.2).size=0 then none else some (.iptr (cs.drop p.1))) | _=>none):=by
 unfold y5k
 cases (E.ty t).k <;> try rfl
 rename_i fs
 simp only[]
 cases fs[f]? <;> rfl
theorem zm2{cs:List D}{k:aZ}{n:Int}:y5w E t (.agg cs) (.int k n)=(match (E.ty t).k with | .arr len e=>if 0<=n/\n<len then ob (y1x cs (n.toNat*(E.ty e).size) (E.ty e).size) (yk (E.ty e).ag) else none | _=>none):=by
 unfold y5w
 cases (E.ty t).k <;> rfl
theorem zi6{b:Bool}:D.cellsL (.bool b)=[.bool b]:=rfl
theorem znu{b:Bool}:D.storable (.bool b)=true:=rfl
theorem zr1{b:Bool}:D.atom (.bool b)=true:=rfl
theorem zmx{k:aZ}{n:Int}:D.cellsL (.int k n)=[.int k n]:=rfl
theorem zrt{k:aZ}{n:Int}:D.storable (.int k n)=true:=rfl
theorem zue{k:aZ}{n:Int}:D.atom (.int k n)=true:=rfl
theorem zmu{s:List UInt8}:D.cellsL (.str s)=[.str s]:=rfl
theorem zrq{s:List UInt8}:D.storable (.str s)=true:=rfl
theorem zub{s:List UInt8}:D.atom (.str s)=true:=rfl
theorem zmy{sp:y13}{els:List D}:D.cellsL (.imm sp els)=[.imm sp els]:=rfl
theorem zru{sp:y13}{els:List D}:D.storable (.imm sp els)=true:=rfl
theorem zuf{sp:y13}{els:List D}:D.atom (.imm sp els)=true:=rfl
theorem zqk{i off len sz:Nat}{ag gr:Bool}:D.cellsL (.sl i off len sz ag gr)=[.sl i off len sz ag gr]:=rfl
theorem zwc{i off len sz:Nat}{ag gr:Bool}:D.storable (.sl i off len sz ag gr)=true:=rfl
theorem zxx{i off len sz:Nat}{ag gr:Bool}:D.atom (.sl i off len sz ag gr)=true:=rfl
theorem zmw{i off:Nat}:D.cellsL (.loc i off)=[.loc i off]:=rfl
theorem zrs{i off:Nat}:D.storable (.loc i off)=true:=rfl
theorem zud{i off:Nat}:D.atom (.loc i off)=true:=rfl
theorem zi5{cs:List D}:D.cellsL (.iptr cs)=[.iptr cs]:=rfl
theorem znt{cs:List D}:D.storable (.iptr cs)=true:=rfl
theorem zr0{cs:List D}:D.atom (.iptr cs)=true:=rfl
theorem zmv{m:Option Nat}:D.cellsL (.map m)=[.map m]:=rfl
theorem zrr{m:Option Nat}:D.storable (.map m)=true:=rfl
theorem zuc{m:Option Nat}:D.atom (.map m)=true:=rfl
theorem zql{f:Nat}{cs:List D}:D.cellsL (.fn f cs)=[.fn f cs]:=rfl
theorem zwd{f:Nat}{cs:List D}:D.storable (.fn f cs)=true:=rfl
theorem zxy{f:Nat}{cs:List D}:D.atom (.fn f cs)=true:=rfl
theorem zmz{cs:List D}:D.cellsL (.agg cs)=cs:=rfl
theorem zrv{cs:List D}:D.storable (.agg cs)=cs.all D.atom:=rfl
theorem zge:D.cellsL .nilfn=[.nilfn]:=rfl
theorem zkl:D.storable .nilfn=true:=rfl
theorem zn2:D.atom .nilfn=true:=rfl
theorem zi4:D.cellsL .nilp=[.nilp]:=rfl
theorem zns:D.storable .nilp=true:=rfl
theorem zqz:D.atom .nilp=true:=rfl
theorem zw8{cs:List D}{o:Nat}:y1x cs o 0=some []:=rfl
theorem zw9{cs:List D}{o n:Nat}:y1x cs o (n+1)=ob cs[o]? fun c=>ob (y1x cs (o+1) n) fun r=>some (c::r):=by
 simp only[y1x]
 cases cs[o]? with
 |none=>rfl
 |some c=>simp only[zf];cases y1x cs (o+1) n <;> rfl
theorem zlb{cs:List D}:yk true cs=some (.agg cs):=rfl
theorem zh8{c:D}:yk false [c]=some c:=rfl
theorem zy5  {s b:Nat} {z:List D} {q:Bool}:TI.ag ⟨.bool ,s,b,z,q⟩=false:=rfl
theorem ycp{k:aZ}{s b:Nat}{z:List D}{q:Bool}:TI.ag ⟨.int k,s,b,z,q⟩=false:=rfl
theorem ycm  {s b:Nat} {z:List D} {q:Bool}:TI.ag ⟨.str ,s,b,z,q⟩=false:=rfl
theorem zum{e:Nat}{s b:Nat}{z:List D}{q:Bool}:TI.ag ⟨.slice e,s,b,z,q⟩=false:=rfl
theorem zr8{fs:List (Nat × Nat)}{s b:Nat}{z:List D}{q:Bool}:TI.ag ⟨.struct fs,s,b,z,q⟩=true:=rfl
theorem ycq{n e:Nat}{s b:Nat}{z:List D}{q:Bool}:TI.ag ⟨.arr n e,s,b,z,q⟩=true:=rfl
theorem yco{k e:Nat}{s b:Nat}{z:List D}{q:Bool}:TI.ag ⟨.map k e,s,b,z,q⟩=false:=rfl
theorem ycn{e:Nat}{s b:Nat}{z:List D}{q:Bool}:TI.ag ⟨.ptr e,s,b,z,q⟩=false:=rfl
theorem zy4  {s b:Nat} {z:List D} {q:Bool}:TI.ag ⟨.func ,s,b,z,q⟩=false:=rfl
theorem yfu{vs:List (Nat × D)}{n:Nat}:gOf vs (.t n)=kv n vs:=rfl
theorem yfw{vs:List (Nat × D)}{d:D}:gOf vs (.c d)=d:=rfl
theorem yfv{vs:List (Nat × D)}{k:Nat}:gOf vs (.f k)=.fn k []:=rfl
theorem zx1{n m:Nat}{d:D}{r:List (Nat × D)}:kv n ((m,d)::r)=if n=m then d else kv n r:=rfl
theorem zo9{i:Nat}{d:D}:y93 env (some i) d=env.set i d:=rfl
theorem zoa{d:D}:y93 env none d=env:=rfl
theorem zl8{d:D}:y2d [d]=d:=rfl
theorem zl7{a b:D}:y2d [a,b]=.tup [a,b]:=rfl
theorem zfl{a b c:D}:y2d [a,b,c]=.tup [a,b,c]:=rfl
theorem zmc:y3k E env hp []=some []:=rfl
theorem zsx{i:Nat}{r:List (Nat × Option Nat)}:y3k E env hp ((i,none)::r)=ob env[i]? fun d=>ob (y3k E env hp r) fun l=>some (d::l):=by
 simp only[y3k]
 cases env[i]? with
 |none=>rfl
 |some d=>simp only[zf];cases y3k E env hp r <;> rfl
theorem zsy{i t:Nat}{r:List (Nat × Option Nat)}:y3k E env hp ((i,some t)::r)=ob env[i]? fun a=>ob (yo E hp t a) fun d=>ob (y3k E env hp r) fun l=>some (d::l):=by
 simp only[y3k]
 cases env[i]? with
 |none=>rfl
 |some a=>
  simp only[zf]
  cases yo E hp t a with
  |none=>rfl
  |some d=>simp only[zf];cases y3k E env hp r <;> rfl
theorem zot{k:aZ}{a b:Int}:y7i [.int k a,.int k b]=some (.int k (if a<b then b else a)):=by simp[y7i,y86]
def extV(d:D)(i:Nat):Option D:=match d with
 |.tup vs=>vs[i]?
 |_=>none
theorem ztf{vs:List D}{i:Nat}:extV (.tup vs) i=vs[i]?:=rfl
theorem zye{a:Nat}{x:Xp}{i:Nat}:xv E cP env hp (.n (.extract (.t a) i) (.cons a x .nil))=ob (xv E cP env hp x) fun u=>extV u i:=zke
theorem zkn{x:Opd}:yd E cP cS cY id g hp (.box t x)=if(g x).storable=true then some (.loc id 0,y1y hp id (.cells (g x).cellsL)) else none:=by
 simp only[yd,DOp.fin,yb]
 split <;> rfl
theorem zf3:yd E cP cS cY id g hp (.alloc t)=if(E.ty t).zero.all D.atom=true/\(E.ty t).zero.length=(E.ty t).size/\(E.ty t).size ≠ 0 then some (.loc id 0,y1y hp id (.cells (E.ty t).zero)) else none:=by
 simp only[yd,DOp.fin,yb]
 split <;> rfl
theorem zeu{a x:Opd}:yd E cP cS cY id g hp (.store t a x)=(y39 E hp t (g a) (g x)).map (.undef,·):=rfl
def writeO(o:Option Obj):Option (List D):=match o with
 |some (.cells cs)=>some cs
 |_=>none
theorem zem{cs:List D}:writeO (some (.cells cs))=some cs:=rfl
theorem z5u{i off:Nat}{x:D}:y39 E hp t (.loc i off) x=ob (writeO hp[i]?) fun cs=>if x.storable=true/\x.cellsL.length=(E.ty t).size/\off+(E.ty t).size<=cs.length then some (hp.set i (.cells (setCells cs off x.cellsL))) else none:=by
 simp only[y39]
 cases hp[i]? with
 |none=>rfl
 |some o=>cases o <;> rfl
theorem zf8{cs:List D}{o:Nat}:setCells cs o []=cs:=rfl
theorem zde{cs:List D}{o:Nat}{v:D}{r:List D}:setCells cs o (v::r)=setCells (cs.set o v) (o+1) r:=rfl
theorem zev:yd E cP cS cY id g hp (.mkmap t)=some (.map (some id),y1y hp id (.map [])):=rfl
theorem zdc{m k v:Opd}:yd E cP cS cY id g hp (.mapset t m k v)=(y30 E hp t (g m) (g k) (g v)).map (.undef,·):=rfl
theorem zf2{f:Opd}{as:List Opd}:yd E cP cS cY id g hp (.call 1 f as)=(match g f with | .fn k caps=>ob (y1p (frz hp depth) (as.map g++caps)) (fun vs=>(cP k vs).map (·,yv hp ((as.map g++caps).flatMap (ids hp depth)))) | _=>none):=by
 simp only[yd,DOp.fin,yl]
 cases g f <;> try rfl
 rename_i k caps
 simp only[]
 cases y1p (frz hp depth) (as.map g++caps) <;> rfl
theorem zf1{f:Opd}{as:List Opd}:yd E cP cS cY id g hp (.call 2 f as)=(match g f with | .fn k caps=>y16 (cS k (as.map g++caps) hp) | .bfn k r=>y16 (cS k (r::as.map g) hp) | .yld l=>cY l (as.map g) hp | _=>none):=rfl
theorem zgv{t2:Nat}{x y:Opd}:yd E cP cS cY id g hp (.append 2 t t2 x y)=y33 E hp t t2 (g x) (g y):=rfl
theorem zgw{t2:Nat}{x y:Opd}:yd E cP cS cY id g hp (.append 1 t t2 x y)=(y1s E hp id t t2 (g x) (g y)).map fun e=>(e.d,yh hp id e):=rfl
def yfn(o:Option Obj):Option (List (D × D)):=match o with
 |some (.map es)=>some es
 |_=>none
theorem zdt{es:List (D × D)}:yfn (some (.map es))=some es:=rfl
theorem z1v{i:Nat}{k:D}:y23 E hp t (.map (some i)) k false=(match (E.ty t).k with | .map kt e=>if y4d E kt k=true then ob (yfn hp[i]?) (fun es=>ob (y18 k es) fun r=>match r with | some v=>some v | none=>y22 E e) else none | _=>none):=by
 unfold y23
 cases (E.ty t).k <;> try rfl
 rename_i kt e
 by_cases h:y4d E kt k=true
 ·simp only[h,if_true]
  cases hp[i]? with
  |none=>rfl
  |some o=>
   cases o <;> try rfl
   rename_i es
   simp only[zdt,zf]
   cases y18 k es with
   |none=>rfl
   |some r=>
    cases r with
    |some v=>rfl
    |none=>simp only[zf];cases y22 E e <;> rfl
 ·simp only[h,if_false];rfl
theorem z33{i:Nat}{k v:D}:y30 E hp t (.map (some i)) k v=(match (E.ty t).k with | .map kt e=>if y4d E kt k=true/\v.storable=true/\v.cellsL.length=(E.ty e).size then ob (yfn hp[i]?) (fun es=>ob (y1j k v es) fun es=>some (hp.set i (.map es))) else none | _=>none):=by
 unfold y30
 cases (E.ty t).k <;> try rfl
 rename_i kt e
 by_cases h:y4d E kt k=true/\v.storable=true/\v.cellsL.length=(E.ty e).size
 ·simp only[if_pos h]
  cases hp[i]? with
  |none=>rfl
  |some o=>
   cases o <;> try rfl
   rename_i es
   simp only[zdt,zf]
   cases y1j k v es <;> rfl
 ·simp only[if_neg h]
theorem zp6{xs:List D}:y4d E t (.agg xs)=((E.ty t).eqc && y1r xs (E.ty t).zero):=rfl
theorem zlp:y1r [] []=true:=rfl
theorem zhl{a b:Bool}{r s:List D}:y1r (.bool a::r) (.bool b::s)=y1r r s:=rfl
theorem zlq{k:aZ}{a b:Int}{r s:List D}:y1r (.int k a::r) (.int k b::s)=y1r r s:=by simp[y1r]
theorem zxh:eqL [] []=some true:=rfl
theorem zth{x y:D}{r s:List D}:eqL (x::r) (y::s)=ob (y20 x y) fun a=>ob (eqL r s) fun b=>some (a && b):=by
 simp only[eqL]
 cases y20 x y with
 |none=>rfl
 |some a=>simp only[zf];cases eqL r s <;> rfl
theorem zi9{a b:Bool}:y20 (.bool a) (.bool b)=some (a == b):=rfl
theorem zn3{k:aZ}{a b:Int}:y20 (.int k a) (.int k b)=some (a == b):=by simp[y20]
theorem zpo{n off i len sz:Nat}{ag gr:Bool}:frz hp (n+1) (.sl i off len sz ag gr)=ob (y9a hp[i]?) fun cs=>ob (y3a sz ag len (cs.drop off)) fun els=>(y1p (frz hp n) els).map (.imm .none):=by
 simp only[frz,yz]
 cases hp[i]? with
 |none=>rfl
 |some o=>
  cases o <;> try rfl
  ·simp only[za7,zf];cases y3a sz ag len _ <;> rfl
  ·simp only[z8n,zf];cases y3a sz ag len _ <;> rfl
def ycy(o:Option Obj):Option (Nat × Nat):=match o with
 |some (.tok u s)=>some (u,s)
 |_=>none
def y2y(E:Env)(e:Nat)(els new:List D):Prop:=(els.length+new.length)*((E.ty e).bytes+1)<=yg/\(E.ty e).bytes<=65536/\(y22 E e).isSome=true/\y2u (E.ty e).size els=true
instance{e:Nat}{els new:List D}:Decidable (y2y E e els new):=inferInstanceAs (Decidable (_/\_))
def y4u(E:Env)(hp:List Obj)(id t t2:Nat)(x y:D):Option (D × List Obj):=(y32 E hp id t t2 x y).map fun e=>(e.d,yh hp id e)
def yez(E:Env)(e:Nat)(y:D):Option (List D):=match y with
 |.str s=>if 1=(E.ty e).size/\(E.ty e).ag=false then some (s.map ya) else none
 |_=>none
theorem zdb{e:Nat}{s:List UInt8}:yez E e (.str s)=if 1=(E.ty e).size/\(E.ty e).ag=false then some (s.map ya) else none:=rfl
theorem zd8{u s:Nat}:ycy (some (.tok u s))=some (u,s):=rfl
theorem z13{t2:Nat}{x y:Opd}:yd E cP cS cY id g hp (.append 0 t t2 x y)=y4u E hp id t t2 (g x) (g y):=rfl
theorem zu{t2:Nat}{els:List D}{y:D}:y4u E hp id t t2 (.imm .exact els) y=(match (E.ty t).k,(E.ty t2).k with | .slice e,.slice _=>ob (y12 hp (E.ty e).size (E.ty e).ag y) (fun new=>if y2y E e els new then some (.imm (.tok id) (els++new),y1y hp id (.tok ((els.length+new.length)*(E.ty e).size) (E.ty e).size)) else none) | .slice e,.str=>ob (yez E e y) (fun new=>if y2y E e els new then some (.imm (.tok id) (els++new),y1y hp id (.tok ((els.length+new.length)*(E.ty e).size) (E.ty e).size)) else none) | _,_=>none):=by
 have key:∀(e:Nat) (new:List D),((y2m E hp id e .exact els new).map fun e=>(e.d,yh hp id e))=if y2y E e els new then some (.imm (.tok id) (els++new),y1y hp id (.tok ((els.length+new.length)*(E.ty e).size) (E.ty e).size)) else none:=fun e new=>by
  unfold y2m
  by_cases hh:y2y E e els new
  ·have h1:(els.length+new.length)*((E.ty e).bytes+1)<=yg/\(E.ty e).bytes<=65536/\(y22 E e).isSome=true/\y2u (E.ty e).size els=true:=hh
   rw[if_pos h1,if_pos hh];rfl
  ·have h1 : ¬ ((els.length+new.length)*((E.ty e).bytes+1)<=yg/\(E.ty e).bytes<=65536/\(y22 E e).isSome=true/\y2u (E.ty e).size els=true):=hh
   rw[if_neg h1,if_neg hh];rfl
 unfold y4u y32
 cases (E.ty t).k <;> try rfl
 cases (E.ty t2).k <;> try rfl
 ·simp only[]
  cases y <;> try rfl
  rename_i e s
  simp only[zdb]
  by_cases hs:1=(E.ty e).size/\(E.ty e).ag=false
  ·simp only[if_pos hs,zf];exact key _ _
  ·simp only[if_neg hs];rfl
 ·rename_i e e2
  simp only[]
  cases y12 hp (E.ty e).size (E.ty e).ag y with
  |none=>rfl
  |some new=>simp only[zf];exact key _ _
theorem z14{t2 k:Nat}{els:List D}{y:D}:y4u E hp id t t2 (.imm (.tok k) els) y=(match (E.ty t).k,(E.ty t2).k with | .slice e,.slice _=>ob (y12 hp (E.ty e).size (E.ty e).ag y) (fun new=>if y2y E e els new then ob (ycy hp[k]?) (fun u=>if u.1=els.length*(E.ty e).size/\u.2=(E.ty e).size then some (.imm (.tok id) (els++new),y1y (hp.set k .dead) id (.tok ((els.length+new.length)*(E.ty e).size) (E.ty e).size)) else none) else none) | .slice e,.str=>ob (yez E e y) (fun new=>if y2y E e els new then ob (ycy hp[k]?) (fun u=>if u.1=els.length*(E.ty e).size/\u.2=(E.ty e).size then some (.imm (.tok id) (els++new),y1y (hp.set k .dead) id (.tok ((els.length+new.length)*(E.ty e).size) (E.ty e).size)) else none) else none) | _,_=>none):=by
 have key:∀(e:Nat) (new:List D),((y2m E hp id e (.tok k) els new).map fun e=>(e.d,yh hp id e))=if y2y E e els new then ob (ycy hp[k]?) (fun u=>if u.1=els.length*(E.ty e).size/\u.2=(E.ty e).size then some (.imm (.tok id) (els++new),y1y (hp.set k .dead) id (.tok ((els.length+new.length)*(E.ty e).size) (E.ty e).size)) else none) else none:=fun e new=>by
  unfold y2m
  by_cases hh:y2y E e els new
  ·have h1:(els.length+new.length)*((E.ty e).bytes+1)<=yg/\(E.ty e).bytes<=65536/\(y22 E e).isSome=true/\y2u (E.ty e).size els=true:=hh
   rw[if_pos h1,if_pos hh]
   simp only[]
   cases hp[k]? with
   |none=>rfl
   |some o=>
    cases o <;> try rfl
    rename_i u s
    simp only[zd8,zf]
    by_cases h2:u=els.length*(E.ty e).size/\s=(E.ty e).size
    ·simp only[if_pos h2];rfl
    ·simp only[if_neg h2];rfl
  ·have h1 : ¬ ((els.length+new.length)*((E.ty e).bytes+1)<=yg/\(E.ty e).bytes<=65536/\(y22 E e).isSome=true/\y2u (E.ty e).size els=true):=hh
   rw[if_neg h1,if_neg hh];rfl
 unfold y4u y32
 cases (E.ty t).k <;> try rfl
 cases (E.ty t2).k <;> try rfl
 ·simp only[]
  cases y <;> try rfl
  rename_i e s
  simp only[zdb]
  by_cases hs:1=(E.ty e).size/\(E.ty e).ag=false
  ·simp only[if_pos hs,zf];exact key _ _
  ·simp only[if_neg hs];rfl
 ·rename_i e e2
  simp only[]
  cases y12 hp (E.ty e).size (E.ty e).ag y with
  |none=>rfl
  |some new=>simp only[zf];exact key _ _
theorem zl9:y2d []=.tup []:=rfl
theorem zlk{sz:Nat}{ag:Bool}{sp:y13}{els:List D}:y12 hp sz ag (.imm sp els)=if(els.all fun d=>d.storable && d.cellsL.length == sz)=true then some els else none:=rfl

end
end Dv

namespace Dv

section
variable{E:Env}{cP:Nat->List D->Option D}{cS cY:Nat->List D->List Obj->Option (D × List Obj)}{env:List D}{hp:List Obj}{t id base:Nat}{g:Opd->D}

theorem zu9{k:aZ}{a b:Int}:y2l E .and t (.int k a) (.int k b)=some (.int k (ybe k a b)):=by simp[y2l,y2p]
theorem zxv{k:aZ}{a b:Int}:y2l E .or t (.int k a) (.int k b)=some (.int k (yam k a b)):=by simp[y2l,y2p]
theorem ztw{k:aZ}{a b:Int}:y2l E .xor t (.int k a) (.int k b)=some (.int k (y8d k a b)):=by simp[y2l,y2p]
theorem zf0{f:Opd}{as:List Opd}:yd E cP cS cY id g hp (.call 3 f as)=(match g f with | .fn k caps=>ob (y1p (frz hp depth) (as.map g++caps)) (fun vs=>ob (cP k vs) fun d=>if d.closed=true then some (d,hp) else none) | _=>none):=by
 simp only[yd,DOp.fin,yl]
 cases g f <;> try rfl
 rename_i k caps
 simp only[]
 cases y1p (frz hp depth) (as.map g++caps) with
 |none=>rfl
 |some vs=>simp only[zf];cases cP k vs <;> rfl
theorem zi3{b:Bool}:D.closed (.bool b)=true:=rfl
theorem zmr{k:aZ}{n:Int}:D.closed (.int k n)=true:=rfl
theorem zmp{l:List D}:D.closed (.tup l)=l.all D.flatB:=rfl
theorem zmf{b:Bool}:D.flatB (.bool b)=true:=rfl
theorem zq0{k:aZ}{n:Int}:D.flatB (.int k n)=true:=rfl
def gdV{A:Type}(u:D)(b:Bool)(x y:Option A):Option A:=match u with
 |.bool c=>if c=b then x else y
 |_=>y
theorem zzm{A:Type}{c b:Bool}{x y:Option A}:gdV (.bool c) b x y=if c=b then x else y:=rfl
theorem z24{A:Type}{u u':D}{b:Bool}{x y:Option A}(h:u=u'):gdV u b x y=gdV u' b x y:=by rw[h]
theorem zs1{x:Xp}{b:Bool}{dst:Option Nat}{op:DOp}{ks:Xs}{r:List TS}:rTS E cP cS cY base (.eff (some (x,b)) dst op ks none::r) env hp=ob (xv E cP env hp x) fun u=>gdV u b (ob (xvs E cP env hp ks) fun vs=>ob (yd E cP cS cY hp.length (gOf vs) hp op) fun p=>rTS E cP cS cY base r (y93 env dst p.1) p.2) (rTS E cP cS cY base r (y93 env dst .undef) hp):=by
 simp only[rTS,gdT]
 cases xv E cP env hp x with
 |none=>rfl
 |some u=>
  simp only[zf]
  cases u with
  |bool c=>
   simp only[zzm]
   by_cases h:c=b
   ·subst h
    simp only[beq_self_eq_true,if_true]
    cases xvs E cP env hp ks with
    |none=>rfl
    |some vs=>simp only[zf];cases yd E cP cS cY hp.length (gOf vs) hp op <;> rfl
   ·have:(c == b)=false:=by simpa using h
    simp only[this,if_neg h]
  |_=>rfl
theorem zt5{n:Nat}{cs:List D}:yba hp (n+1) (.tup cs)=(y1p (y9y hp n) cs).map .tup:=rfl
theorem zmd{n:Nat}{cs:List D}:yba hp (n+1) (.imm .exact cs)=(y1p (frz hp n) cs).map (.imm .exact):=rfl
theorem zme{n:Nat}{cs:List D}:y9y hp (n+1) (.imm .exact cs)=(y1p (frz hp n) cs).map (.imm .exact):=rfl
theorem zpu{n:Nat}{cs:List D}:y9y hp (n+1) (.imm .none cs)=(y1p (frz hp n) cs).map (.imm .none):=rfl
theorem zta{n:Nat}{k:aZ}{i:Int}:y9y hp (n+1) (.int k i)=some (.int k i):=rfl

theorem zho{b:Bool}:yw (.bool b)=false:=rfl
theorem zly{k:aZ}{n:Int}:yw (.int k n)=false:=rfl
theorem zlw{b:List UInt8}:yw (.str b)=false:=rfl
theorem zlz{sp:y13}{l:List D}:yw (.imm sp l)=false:=rfl
theorem zpb{a b c d:Nat}{e f:Bool}:yw (.sl a b c d e f)=false:=rfl
theorem zpc{a:Nat}{l:List D}:yw (.fn a l)=false:=rfl
theorem zlx{a b:Nat}:yw (.loc a b)=false:=rfl
theorem zfv:yw .undef=false:=rfl
def isU:D->Bool
 |.undef=>true
 |_=>false
theorem zhn:yw (.tup [])=false:=rfl
theorem zhp:yw (.agg [])=false:=rfl
theorem zpa:isU .undef=true:=rfl
theorem zsq{b:Bool}:isU (.bool b)=false:=rfl
theorem zx5{k:aZ}{n:Int}:isU (.int k n)=false:=rfl
theorem zx3{b:List UInt8}:isU (.str b)=false:=rfl
theorem zx6{sp:y13}{l:List D}:isU (.imm sp l)=false:=rfl
theorem zx7{l:List D}:isU (.agg l)=false:=rfl
theorem zzb{a:Nat}{l:List D}:isU (.fn a l)=false:=rfl
theorem zx4{a b:Nat}:isU (.loc a b)=false:=rfl
theorem zza{a b c d:Nat}{e f:Bool}:isU (.sl a b c d e f)=false:=rfl
theorem zse{d:D}{h:List Obj}:y16 (some (d,h))=if yw d=true then none else some (d,h):=rfl
def yca(d:D)(a b:Prop):Prop:=if yw d=true then a else b
theorem z1c{t t':D}{a b:Prop}(h:t=t'):yca t a b=yca t' a b:=by rw[h]
theorem zvw{Q:Ex->List D->List Obj->Prop}:wT E .dead Q env hp=False:=rfl
theorem zez{f:Opd}{as:List Opd}:yd E cP cS cY id g hp (.call 6 f as)=(match g f with | .fn k caps=>if E.mp k=true then cS k (as.map g++caps) hp else none | _=>none):=rfl
def yb2(d:D):Option D:=match d with
 |.loc i o=>some (.loc i o)
 |.iptr cs=>some (.iptr cs)
 |_=>none
theorem zop{i o:Nat}:yb2 (.loc i o)=some (.loc i o):=rfl
theorem zlc{l:List D}:yb2 (.iptr l)=some (.iptr l):=rfl
def yc9(b:Bool)(d:D):Option D:=match b,d with
 |false,.int .i64 n=>some (.tup [.undef,.int .i64 n])
 |true,.agg [.int .i64 n]=>some (.tup [.undef,.agg [.int .i64 n]])
 |_,_=>none
theorem zou{n:Int}:yc9 false (.int .i64 n)=some (.tup [.undef,.int .i64 n]):=rfl
theorem zov{n:Int}:yc9 true (.agg [.int .i64 n])=some (.tup [.undef,.agg [.int .i64 n]]):=rfl
theorem zvj{a:Nat}{x:Xp}:xv E cP env hp (.n (.nilc (.t a)) (.cons a x .nil))=ob (xv E cP env hp x) fun u=>yb2 u:=by
 simp only[xv,xvs]
 cases xv E cP env hp x with
 |none=>rfl
 |some d=>
  simp only[yb,gOf,kv,zf,if_true]
  cases d <;> rfl

end
end Dv

namespace Dv

section
variable{E:Env}{cP:Nat->List D->Option D}{cS cY:Nat->List D->List Obj->Option (D × List Obj)}{env:List D}{hp:List Obj}{t t2 id base:Nat}{g:Opd->D}

theorem z6z{f:Opd}{as:List Opd}:yd E cP cS cY id g hp (.mkcall f as)=(match g f with | .fn k caps=>ob (y1p (frz [] depth) (as.map g++caps)) (fun vs=>y6h cS k vs hp) | _=>none):=by
 simp only[yd,DOp.fin,yl]
 cases g f <;> try rfl
 rename_i k caps
 simp only[]
 cases y1p (frz [] depth) (as.map g++caps) <;> rfl
theorem zew{x y:Opd}:yd E cP cS cY id g hp (.mkcap t x y)=y5h E hp t (g x) (g y):=rfl
theorem zbs{x y:Opd}:yd E cP cS cY id g hp (.reslice t x y)=y37 E hp t (g x) (g y):=rfl
theorem zkm{x:Opd}:yd E cP cS cY id g hp (.clr t x)=yar E hp t (g x):=rfl
theorem zgu{x y:Opd}:yd E cP cS cY id g hp (.copy t t2 x y)=y6m E hp t t2 (g x) (g y):=rfl

theorem zbf:∀(l:List UInt8),y42 (l.map ya)=some l
 |[]=>rfl
 |b::l=>by
  simp only[av,ya,y42,zbf l]
  have:UInt8.ofNat ((b.toNat:Int)).toNat=b:=by simp
  rw[this]
theorem z9d{sp:y13}{l:List UInt8}:ybu E t t2 (.imm sp (l.map ya))=(match (E.ty t).k,(E.ty t2).k with | .slice e,.str=>if y5v E e=true then some (.str l) else none | _,_=>none):=by
 unfold ybu
 cases (E.ty t).k <;> try rfl
 cases (E.ty t2).k <;> try rfl
 simp only[zbf,aq]
theorem zry{s:List UInt8}:ybo E t t2 (.str s)=(match (E.ty t).k,(E.ty t2).k with | .str,.slice e=>if y5v E e=true then some (.imm .none (s.map ya)) else none | _,_=>none):=by
 unfold ybo
 cases (E.ty t).k <;> try rfl
 cases (E.ty t2).k <;> rfl
theorem zyf{a:Nat}{x:Xp}:xv E cP env hp (.n (.b2s t t2 (.t a)) (.cons a x .nil))=ob (xv E cP env hp x) fun u=>ybu E t t2 u:=by
 simp only[xv,xvs]
 cases xv E cP env hp x <;> try rfl
 simp only[yb,gOf,kv,if_true,zf]
 exact z16
theorem zyb{a:Nat}{x:Xp}:xv E cP env hp (.n (.s2b t t2 (.t a)) (.cons a x .nil))=ob (xv E cP env hp x) fun u=>ybo E t t2 u:=by
 simp only[xv,xvs]
 cases xv E cP env hp x <;> try rfl
 simp only[yb,gOf,kv,if_true,zf]
 exact z16
theorem zrd{a f:Nat}{x:Xp}:xv E cP env hp (.n (.mkbfn f (.t a)) (.cons a x .nil))=ob (xv E cP env hp x) fun u=>some (.bfn f u):=by
 simp only[xv,xvs]
 cases xv E cP env hp x <;> try rfl
 simp only[yb,gOf,kv,if_true,zf]
theorem zm6{cs:List D}{k:aZ}{n:Int}{m e:Nat}(h:(E.ty t).k=.arr m e):y29 E t (.iptr cs) (.int k n)=if 0<=n/\n<m then some (.iptr (cs.drop (n.toNat*(E.ty e).size))) else none:=by
 simp only[y29,h]
theorem zqv{a b:List UInt8}:y2l E .eql t (.str a) (.str b)=some (.bool (a == b)):=rfl
theorem zqu{a b:List UInt8}:y2l E .neq t (.str a) (.str b)=some (.bool (!(a == b))):=rfl
theorem zw1{k:aZ}{n:Int}:unD .xor (.int k n)=some (.int k (y8d k (if k.signed then -1 else k.max) n)):=rfl
theorem ztz{k k':aZ}{a b:Int}:y2l E .shl t (.int k a) (.int k' b)=if 0<=b then some (.int k (k.wrap (a*2 ^ (min b.toNat k.bits)))) else none:=rfl
theorem zty{k k':aZ}{a b:Int}:y2l E .shr t (.int k a) (.int k' b)=if 0<=b then some (.int k (a.fdiv (2 ^ (min b.toNat k.bits)))) else none:=rfl

def yb9(d:D):Option D:=if d.storable=true then some (.iptr d.cellsL) else none
theorem zvm{a:Nat}{x:Xp}:xv E cP env hp (.n (.ibox t (.t a)) (.cons a x .nil))=ob (xv E cP env hp x) fun u=>yb9 u:=by
 simp only[xv,xvs]
 cases xv E cP env hp x <;> try rfl
 rename_i d
 simp only[yb,gOf,kv,if_true,zf,yb9]
 by_cases hh:d.storable=true
 ·simp only[hh,if_true]
 ·simp only[hh];rfl
theorem zre{a:Nat}{x:Xp}:xv E cP env hp (.n (.iload t (.t a)) (.cons a x .nil))=ob (xv E cP env hp x) fun u=>y5j E t u:=by
 simp only[xv,xvs]
 cases xv E cP env hp x <;> try rfl
 simp only[yb,gOf,kv,if_true,zf]
 exact z16
theorem z6o{cs:List D}:y5j E t (.iptr cs)=ob (y1x cs 0 (E.ty t).size) fun r=>yk (E.ty t).ag r:=rfl

end
end Dv

namespace Dv

structure Cell where
 airport:Bool
 index:Int
 minute:Int
deriving DecidableEq

structure Use where
 cell:Cell
 places:Int

structure y8o where
 delay:Int
 cost:Int
 changes:Int
 uses:List Use

structure Var where
 a:Int
 b:Int
 leaves:List Int
 choices:List y8o

structure y7c where
 cells:List Cell
 capacity:List (List Int)
 vars:List Var

abbrev dI(n:Int):D:=.int .i64 n
abbrev y2x(c:Cell):D:=.agg [.bool c.airport,dI c.index,dI c.minute]
abbrev y6l(u:Use):D:=.agg [.bool u.cell.airport,dI u.cell.index,dI u.cell.minute,dI u.places]
abbrev y31(l:List Int):D:=.imm .none (l.map dI)
abbrev y2f(c:y8o):D:=.agg [dI c.delay,dI c.cost,dI c.changes,.imm .none (c.uses.map y6l)]
abbrev y6k(v:Var):D:=.agg [dI v.a,dI v.b,y31 v.leaves,.imm .none (v.choices.map y2f)]
abbrev y3b(p:y7c):D:=.agg [.imm .none (p.cells.map y2x),.imm .none (p.capacity.map y31),.imm .none (p.vars.map y6k)]

def i64(n:Int):Prop:=-9223372036854775808<=n/\n<=9223372036854775807

theorem zyj{n:Int}(h:(Go.Lit.int .i64 n).wf=true):i64 n:=by
 simp[Go.Lit.wf] at h
 obtain⟨h1,h2⟩:=h
 have e1:aw.min = -9223372036854775808:=by decide
 have e2:aw.max=9223372036854775807:=by decide
 first
  |exact⟨by omega,by omega⟩
  |(rw[e1] at h1;exact⟨h1,by first | exact h2 | (rw[e2] at h2;exact h2)⟩)

theorem zap{A:Type}{f:A->D}{R:A->Prop}:∀{els:List D},(∀ x,x ∈ els->∃ a,x=f a/\R a)->∃ l:List A,els=l.map f /\ ∀ a,a ∈ l->R a
 |[],_=>⟨[],rfl,fun a h=>by cases h⟩
 |x::els,h=>by
  obtain⟨a,h1,h2⟩:=h x (by simp)
  obtain⟨l,h3,h4⟩:=zap (els:=els) fun y hy=>h y (by simp[hy])
  exact⟨a::l,by simp[h1,h3],fun b hb=>by
   rcases az.1 hb with rfl | hb
   ·exact h2
   ·exact h4 b hb⟩

end Dv

namespace Dv

theorem z9t{c:Nat}{ds:List D}(h:DTc E c ds)(hk:(E.ty c).k=.int .i64):∃ n,ds=[dI n]/\i64 n:=by
 cases h with
 |int h hw=>rw[hk] at h;cases h;exact⟨_,rfl,zyj hw⟩
 |bool h=>rw[hk] at h;cases h
 |str h=>rw[hk] at h;cases h
 |slice h _ _ _=>rw[hk] at h;cases h
 |struct h _ _=>rw[hk] at h;cases h
 |arr h _ _=>rw[hk] at h;cases h

theorem zd7{c e:Nat}{ds:List D}(h:DTc E c ds)(hk:(E.ty c).k=.slice e):∃ els,ds=[.imm .none els]/\els.length<=Go.maxLen /\ ∀ x,x ∈ els->y65 E e x:=by
 cases h with
 |slice h hl he ho=>rw[hk] at h;cases h;exact⟨_,rfl,hl,fun x hx=>⟨he x hx,ho x hx⟩⟩
 |bool h=>rw[hk] at h;cases h
 |int h hw=>rw[hk] at h;cases h
 |str h=>rw[hk] at h;cases h
 |struct h _ _=>rw[hk] at h;cases h
 |arr h _ _=>rw[hk] at h;cases h

theorem z9s{c:Nat}{fs:List (Nat × Nat)}{ds:List D}(h:DTc E c ds)(hk:(E.ty c).k=.struct fs):ds.length=(E.ty c).size /\ ∀(i:Nat) p,fs[i]? = some p->DTc E p.2 ((ds.drop p.1).take (E.ty p.2).size):=by
 cases h with
 |struct h hl hf=>rw[hk] at h;cases h;exact⟨hl,hf⟩
 |bool h=>rw[hk] at h;cases h
 |int h hw=>rw[hk] at h;cases h
 |str h=>rw[hk] at h;cases h
 |slice h _ _ _=>rw[hk] at h;cases h
 |arr h _ _=>rw[hk] at h;cases h

theorem zyu{c n e:Nat}{ds:List D}(h:DTc E c ds)(hk:(E.ty c).k=.arr n e):ds.length=(E.ty c).size /\ ∀ i,i<n->DTc E e ((ds.drop (i*(E.ty e).size)).take (E.ty e).size):=by
 cases h with
 |arr h hl hf=>rw[hk] at h;cases h;exact⟨hl,hf⟩
 |bool h=>rw[hk] at h;cases h
 |int h hw=>rw[hk] at h;cases h
 |str h=>rw[hk] at h;cases h
 |slice h _ _ _=>rw[hk] at h;cases h
 |struct h _ _=>rw[hk] at h;cases h

end Dv

namespace Dv

theorem yey{ds:List D}(h:ds.length=3):∃ a b c,ds=[a,b,c]:=by
 match ds,h with
 |[a,b,c],_=>exact⟨a,b,c,rfl⟩

theorem zeq{c:Nat}{x:D}(h:y65 E c x)(ha:(E.ty c).ag=true):∃ ds,x=.agg ds/\DTc E c ds:=by
 obtain⟨h1,h2⟩:=h
 rw[ha] at h2
 simp[yk] at h2
 exact⟨x.cellsL,h2.symm,h1⟩

theorem z9r{c:Nat}{x:D}(h:y65 E c x)(ha:(E.ty c).ag=false):DTc E c [x]:=by
 obtain⟨h1,h2⟩:=h
 rw[ha] at h2
 cases hx:x.cellsL with
 |nil=>rw[hx] at h2;simp[yk] at h2
 |cons y r=>
  rw[hx] at h1 h2
  cases r with
  |nil=>simp[yk] at h2;subst h2;exact h1
  |cons _ _=>simp[yk] at h2

end Dv

namespace Dv

theorem z7{n:Int}(h:i64 n):aw.wrap n=n:=gw n h

theorem zg{i n:Nat}(h:i<n)(hn:n<=1000000000000):aw.wrap ((i:Int)+1)=(i:Int)+1:=z7 ⟨by omega,by omega⟩

theorem zk{A:Type}{l:List A}{i:Nat}(h:i<l.length):l.drop i=l[i]::l.drop (i+1):=List.drop_eq_getElem_cons h

section
variable{hp:List Obj}

theorem zt3{n:Nat}{b:Bool}:frz hp (n+1) (.bool b)=some (.bool b):=rfl
theorem z84{n:Nat}{k:aZ}{x:Int}:frz hp (n+1) (.int k x)=some (.int k x):=rfl
theorem z6p{n:Nat}{sp:y13}{els:List D}:frz hp (n+1) (.imm sp els)=(y1p (frz hp n) els).map (.imm .none):=rfl
theorem zb2{n:Nat}{els:List D}:frz hp (n+1) (.agg els)=(y1p (frz hp n) els).map .agg:=rfl
theorem zxc{n:Nat}{els:List D}:frz hp (n+1) (.tup els)=(y1p (frz hp n) els).map .tup:=rfl
theorem zzo{n:Nat}{f:Nat}{els:List D}:frz hp (n+1) (.fn f els)=(y1p (frz hp n) els).map (.fn f):=rfl
theorem zt1{n:Nat}{els:List D}:frz hp (n+1) (.iptr els)=(y1p (frz hp n) els).map .iptr:=rfl
theorem z96{f:D->Option D}:y1p f []=some []:=rfl
theorem z4z{f:D->Option D}{d:D}{r:List D}:y1p f (d::r)=ob (f d) fun d=>ob (y1p f r) fun r=>some (d::r):=by
 simp only[y1p]
 cases f d with
 |none=>rfl
 |some d=>simp only[zf];cases y1p f r <;> rfl
theorem z1e{A:Type}{f:D->Option D}{g:A->D}:∀{l:List A},(∀ x,x ∈ l->f (g x)=some (g x))->y1p f (l.map g)=some (l.map g)
 |[],_=>rfl
 |x::l,h=>by
  simp only[av,z4z,h x (by simp),zf,z1e (l:=l) fun y hy=>h y (by simp[hy])]

theorem zht{n:Nat}{l:List Int}:y1p (frz hp (n+1)) (l.map dI)=some (l.map dI):=z1e fun x _=>z84
theorem zps{n:Nat}{l:List Cell}:y1p (frz hp (n+2)) (l.map y2x)=some (l.map y2x):=z1e fun x _=>rfl
theorem zjj{n:Nat}{l:List Use}:y1p (frz hp (n+2)) (l.map y6l)=some (l.map y6l):=z1e fun x _=>rfl
theorem zpr{n:Nat}{l:List (List Int)}:y1p (frz hp (n+2)) (l.map y31)=some (l.map y31):=z1e fun x _=>by
 rw[z6p,zht];rfl
theorem zb3{n:Nat}{l:List y8o}:y1p (frz hp (n+4)) (l.map y2f)=some (l.map y2f):=z1e fun x _=>by
 rw[zb2]
 simp only[z4z,z84,zf,z6p,zjj,aq,z96]
theorem zt7{n:Nat}{l:List Var}:y1p (frz hp (n+6)) (l.map y6k)=some (l.map y6k):=z1e fun x _=>by
 rw[zb2]
 simp only[z4z,z84,zf,z6p,zht,zb3,aq,z96]

end

theorem zpy{l:List Int}:yi (l.map dI)=l.map dI:=by
 induction l with
 |nil=>rfl
 |cons x r ih=>simp only[av,yi,List.flatMap_cons] at ih ⊢;rw[ih];rfl
theorem ztc{n:Nat}{x:Int}:yi (af n (.int .i64 x))=(af n x).map dI:=by
 have:=zpy (l:=af n x)
 rw[bS] at this
 rw[bS];exact this
theorem zk0:∀{l:List Int},y3a 1 false l.length (l.map dI)=some (l.map dI)
 |[]=>rfl
 |x::r=>by
  simp only[List.length_cons,av,y3a,y1x,List.getElem?_cons_zero,yk,List.drop_succ_cons,List.drop_zero,zk0]

theorem ztu{cP:Nat->List D->Option D}{k:Nat}{caps args:List D}:yae cP (.fn k caps) args=ob (y1p (frz [] depth) (args++caps)) fun vs=>cP k vs:=by
 simp only[yae]
 cases y1p (frz [] depth) (args++caps) <;> rfl

end Dv
