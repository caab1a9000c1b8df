/- Texts that a proof of this claim uses, joined: Lw.Wp, Lw.Tidy, Lw.TidyOk, Lw.TidyOk2, Lw.TidyFn, Lw.Use, Lw.Eval, Lw.Ev2, Lw.Ev3, Lw.Ev4, Lw.Enc, Lw.Base. -/
import Derived.Test.YthcmaiplkbbioaaGreatDoorDvd
import Derived.Test.YthcmaiplkbbioaaGreatDoorDvb
import Derived.KernelRfl
import Derived.Test.YthcmaiplkbbioaaGreatDoorCode
set_option linter.all false
open Bool renaming and_eq_true->ak,false_eq_true->aT,not_eq_true'->ci,or_eq_true->cg
open Go renaming BinOp->iT,IntKind->bj
open Go.IntKind renaming i64->aJ
open Go.IntWalk renaming i64_in->gX
open List renaming all_eq_true->ay,any_eq_true->io,getD_eq_getElem?_getD->af,getElem?_eq_getElem->ac,getElem?_eq_some_iff->ae,getElem?_set_ne->bo,getElem?_set_self->aR,idxOf_lt_length_of_mem->jf,isEmpty_iff->iu,map_cons->al,map_nil->aO,map_replicate->fe,mem_append->aB,mem_cons->aA,mem_filter->eR,mem_flatMap->bB,mem_map->aL,mem_map_of_mem->iR,mem_of_getElem?->bA,replicate->ah
open Nat renaming add_zero->dY
open Ne renaming symm->dF
open Option renaming isNone_iff_eq_none->jr,map_eq_some_iff->ab,map_none->ba,map_some->aq
open Option.some renaming injEq->aa
open Prod.mk renaming injEq->aw
namespace Dv
section
variable{E:Env}
def wp(E:Env)(c:DC)(st:St)(Q:Ex->St->Prop):Prop:=∃ ex st',dL E c st=some (ex,st')/\Q ex st'
def wpR(E:Env)(os:List y1g)(st:St)(Q:St->Prop):Prop:=∃ st',yi E (yu E (dL E)) (y1j E (dL E)) (y3d (dL E)) os st=some st'/\Q st'
def zi6{c:DC}{st:St}{Q Q':Ex->St->Prop}(h:wp E c st Q)(hq:∀ ex st',Q ex st'->Q' ex st'):wp E c st Q':=by obtain⟨ex,st',h1,h2⟩:=h;exact⟨ex,st',h1,hq _ _ h2⟩
def ycr{st:St}{Q}:wp E .skip st Q ↔ Q .normal st:=by
 constructor
 ·rintro⟨ex,st',h1,h2⟩;rw[z8v]at h1;simp at h1;obtain⟨rfl,rfl⟩:=h1;exact h2
 ·intro h;exact⟨_,_,z8v,h⟩
def ygz{st:St}{Q}:wp E .ret st Q ↔ Q .ret st:=by
 constructor
 ·rintro⟨ex,st',h1,h2⟩;rw[z6s]at h1;simp at h1;obtain⟨rfl,rfl⟩:=h1;exact h2
 ·intro h;exact⟨_,_,z6s,h⟩
def yct{id:Nat}{st:St}{Q}:wp E (.exit id) st Q ↔ Q (.exit id) st:=by
 constructor
 ·rintro⟨ex,st',h1,h2⟩;rw[ztq]at h1;simp at h1;obtain⟨rfl,rfl⟩:=h1;exact h2
 ·intro h;exact⟨_,_,ztq,h⟩
def ygy{a b:DC}{st:St}{Q}:wp E (.seq a b) st Q ↔ wp E a st (fun ex st'=>match ex with | .normal=>wp E b st' Q | ex=>Q ex st'):=by
 constructor
 ·rintro⟨ex,st',h1,h2⟩;rw[z9h]at h1;split at h1
  ·rename_i st1 ha;exact⟨_,_,ha,ex,st',h1,h2⟩
  ·rename_i r hne;refine⟨_,_,h1,?_⟩;cases ex with
   |normal=>exact absurd h1 (hne st')
   |exit id=>exact h2
   |ret=>exact h2
 ·rintro⟨ex,st',h1,h2⟩;cases ex with
  |normal=>obtain⟨ex2,st2,h3,h4⟩:=h2;exact⟨ex2,st2,by rw[z9h,h1];exact h3,h4⟩
  |exit id=>exact⟨_,_,by rw[z9h,h1],h2⟩
  |ret=>exact⟨_,_,by rw[z9h,h1],h2⟩
def ycu{c:Opd}{x y:DC}{st:St}{Q}{b:Bool}(h:yq st.sl c=.bool b):wp E (.cond c x y) st Q ↔ (b=true->wp E x st Q)/\(b=false->wp E y st Q):=by unfold wp;rw[z5d,h];cases b <;> simp
def zz1{c:Opd}{x y:DC}{st:St}{Q}:wp E (.ifp c x y) st Q ↔ if yy (yq st.sl c)=true then wp E x st Q else wp E y st Q:=by unfold wp;rw[zhm];split <;> exact Iff.rfl
def zv7{id:Nat}{a:DC}{st:St}{Q}:wp E (.block id a) st Q ↔ wp E a st (fun ex st'=>match ex with | .exit i=>Q (if i=id then .normal else .exit i) st' | ex=>Q ex st'):=by
 constructor
 ·rintro⟨ex,st',h1,h2⟩;rw[za2]at h1;cases ha:dL E a st with
  |none=>rw[ha]at h1;simp at h1
  |some r=>
   obtain⟨ex1,st1⟩:=r;rw[ha]at h1;refine⟨ex1,st1,ha,?_⟩;cases ex1 with
   |normal=>simp at h1;obtain⟨rfl,rfl⟩:=h1;exact h2
   |ret=>simp at h1;obtain⟨rfl,rfl⟩:=h1;exact h2
   |exit i=>simp at h1;obtain⟨rfl,rfl⟩:=h1;exact h2
 ·rintro⟨ex,st',h1,h2⟩;cases ex with
  |normal=>exact⟨_,_,by rw[za2,h1],h2⟩
  |ret=>exact⟨_,_,by rw[za2,h1],h2⟩
  |exit i=>exact⟨_,_,by rw[za2,h1],h2⟩
def zpo{ap:List (Nat × Nat)}{ops:List y1g}{st:St}{Q}:wp E (.region false ap ops) st Q ↔ wpR E ops st (Q .normal):=by
 unfold wp wpR;rw[z5z];constructor
 ·rintro⟨ex,st',h1,h2⟩;simp only[ab,aw]at h1;obtain⟨st1,h3,rfl,rfl⟩:=h1;exact⟨_,h3,h2⟩
 ·rintro⟨st',h1,h2⟩;exact⟨_,_,by rw[h1];rfl,h2⟩
def ycs{b:DC}{Q:Ex->St->Prop}(I:Nat->St->Prop)
  (step:∀ k st,I k st->wp E b st (fun ex st'=>match ex with | .normal=>∃ k',k'<k/\I k' st' | ex=>Q ex st')):∀(k:Nat) (st:St),I k st->wp E (.loop b) st Q:=by
 intro k
 induction k using Nat.strongRecOn with
 |_ k ih=>
  intro st hI;obtain⟨ex,st',h1,h2⟩:=step k st hI;cases ex with
  |normal=>obtain⟨k',hk,hI'⟩:=h2;obtain⟨ex2,st2,h3,h4⟩:=ih k' hk st' hI';exact⟨ex2,st2,by rw[zjt,h1];exact h3,h4⟩
  |exit i=>exact⟨_,_,by rw[zjt,h1],h2⟩
  |ret=>exact⟨_,_,by rw[zjt,h1],h2⟩
end
end Dv
namespace Dv
mutual
inductive Xp where
 |v (i:Nat)
 |c (d:D)
 |n (op:DOp) (ks:Xs)
 |ite (c a b:Xp)
inductive Xs where
 |nil
 |cons (s:Nat) (x:Xp) (r:Xs)
end
def kv(n:Nat):List (Nat × D)->D
 |[]=>.undef
 |p::r=>if n=p.1 then p.2 else kv n r
def gOf(vs:List (Nat × D)):Opd->D
 |.t n=>kv n vs
 |.c d=>d
 |.f k=>.fn k []
mutual
def xv(E:Env)(cP:Nat->List D->Option D)(env:List D)(hp:List Obj):Xp->Option D
 |.v i=>env[i]?
 |.c d=>some d
 |.n op ks=>(match xvs E cP env hp ks with
  |some vs=>(match yb E cP 0 (gOf vs) hp op with
   |some e=>some e.d
   |none=>none)
  |none=>none)
 |.ite c a b=>(match xv E cP env hp c with
  |some (.bool true)=>xv E cP env hp a
  |some (.bool false)=>xv E cP env hp b
  |_=>none)
def xvs(E:Env)(cP:Nat->List D->Option D)(env:List D)(hp:List Obj):Xs->Option (List (Nat × D))
 |.nil=>some []
 |.cons s x r=>(match xv E cP env hp x,xvs E cP env hp r with
  |some d,some l=>some ((s,d)::l)
  |_,_=>none)
end
def vop(op:DOp):Bool:=y1l op || (match op with
 |.load _ _=>true
 |.lookup _ _ _ _=>true
 |.len _ _=>true
 |_=>false)
mutual
def y71(i:Option Nat)(h:Bool):Xp->Bool
 |.v j=>!(i == some j)
 |.c _=>true
 |.n op ks=>(!h || y1l op) && y9g i h ks
 |.ite c a b=>y71 i h c && y71 i h a && y71 i h b
def y9g(i:Option Nat)(h:Bool):Xs->Bool
 |.nil=>true
 |.cons _ x r=>y71 i h x && y9g i h r
end
inductive TS where
 |asg (i:Nat) (x:Xp)
 |eff (gd:Option (Xp × Bool)) (dst:Option Nat) (op:DOp) (ks:Xs) (k:Option Nat)
inductive TC where
 |skip
 |ret
 |exit (id:Nat)
 |run (pad:Nat) (l:List TS)
 |seq (a b:TC)
 |cond (i:Nat) (a b:TC)
 |ifp (i:Nat) (a b:TC)
 |dead
 |block (id:Nat) (a:TC)
 |loop (a:TC)
 |rfunc (i:Nat) (ps:List Nat) (a b:TC)
 |chk (l:List (Nat × Nat))
def gdT(E:Env)(cP:Nat->List D->Option D)(env:List D)(hp:List Obj):Option (Xp × Bool)->Option Bool
 |none=>some true
 |some (x,b)=>(match xv E cP env hp x with
  |some (.bool c)=>some (c == b)
  |some _=>some false
  |none=>none)
def ya2(env:List D):Option Nat->D->List D
 |none,_=>env
 |some i,d=>env.set i d
def rTS(E:Env)(cP:Nat->List D->Option D)(cS cY:Nat->List D->List Obj->Option (D × List Obj))(base:Nat):List TS->List D->List Obj->Option (List D × List Obj)
 |[],env,hp=>some (env,hp)
 |.asg i x::r,env,hp=>(match xv E cP env hp x with
  |some d=>rTS E cP cS cY base r (env.set i d) hp
  |none=>none)
 |.eff gd dst op ks k::r,env,hp=>(match gdT E cP env hp gd with
  |some true=>(match xvs E cP env hp ks with
   |some vs=>(match yf E cP cS cY (match k with | some k=>base+k | none=>hp.length) (gOf vs) hp op with
    |some (d,hp')=>rTS E cP cS cY base r (ya2 env dst d) hp'
    |none=>none)
   |none=>none)
  |some false=>rTS E cP cS cY base r (ya2 env dst .undef) hp
  |none=>none)
noncomputable def rTL(E:Env):Nat->List TS->List D->List Obj->Option (List D × List Obj):=rTS E (yu E (dL E)) (y1j E (dL E)) (y3d (dL E))
def yiv(env:List D)(p:Nat × Nat):Bool:=match env[p.1]?,env[p.2]? with
 |some a,some b=>y98 (did a) (did b)
 |_,_=>false
def yfq(env:List D)(l:List (Nat × Nat)):Bool:=l.all (yiv env)
def ygg(L:Bool->Option Ex->Obj):Prop:=∃ sl ps asg body,L=fun b p=>.loop b sl ps asg body p
def wT(E:Env):TC->(Ex->List D->List Obj->Prop)->List D->List Obj->Prop
 |.skip,Q,env,hp=>Q .normal env hp
 |.ret,Q,env,hp=>Q .ret env hp
 |.exit id,Q,env,hp=>Q (.exit id) env hp
 |.run pad l,Q,env,hp=>(match rTL E hp.length l env (hp++ah pad .dead)with
  |some (env',hp')=>Q .normal env' hp'
  |none=>False)
 |.chk l,Q,env,hp=>yfq env l=true/\Q .normal env hp
 |.seq a b,Q,env,hp=>wT E a (fun ex env' hp'=>match ex with
  |.normal=>wT E b Q env' hp'
  |ex=>Q ex env' hp') env hp
 |.cond i a b,Q,env,hp=>(match env[i]? with
  |some (.bool t)=>if t=true then wT E a Q env hp else wT E b Q env hp
  |_=>False)
 |.ifp i a b,Q,env,hp=>(match env[i]? with
  |some d=>if yy d=true then wT E a Q env hp else wT E b Q env hp
  |none=>False)
 |.dead,_,_,_=>False
 |.block id a,Q,env,hp=>wT E a (fun ex env' hp'=>match ex with
  |.exit i=>Q (if i=id then .normal else .exit i) env' hp'
  |ex=>Q ex env' hp') env hp
 |.loop a,Q,env,hp=>∃(I:Nat->List D->List Obj->Prop) (k:Nat),I k env hp /\ ∀ k env hp,I k env hp->wT E a (fun ex env' hp'=>match ex with
  |.normal=>∃ k',k'<k/\I k' env' hp'
  |ex=>Q ex env' hp') env hp
 |.rfunc i ps a b,Q,env,hp=>∃ k caps,(env[i]?).map (y6o E)=some (.fn k caps) /\ ∀(L:Bool->Option Ex->Obj),ygg L ->
  (∀(args:List D) (hp1:List Obj) (K:Bool->List Obj->Prop),args.length=ps.length->hp1[hp.length]? = some (L false none) ->
   wT E a (fun ex env1 hp2=>ex=.normal/\hp2[hp.length]? = some (L false none) /\
    wT E b (fun ex _ hp3=>hp3[hp.length]? = some (L true none)/\(match ex with
     |.normal=>K true (hp3.set hp.length (L false none))
     |ex=>K false (hp3.set hp.length (L false (some ex))))) env1 (hp2.set hp.length (L true none))) (y23 env ps args) hp1 ->
   ∃ t hp2,y3d (dL E) hp.length args hp1=some (.bool t,hp2)/\K t hp2) ->
  ∃ d hp',y1j E (dL E) k (.yld hp.length::caps) (hp++[L false none])=some (d,hp') /\
   ((hp'[hp.length]? = some (L false none)/\Q .normal env (hp'.set hp.length .dead)) \/ ∃ ex,hp'[hp.length]? = some (L false (some ex))/\Q ex env (hp'.set hp.length .dead))
structure SV where
 g:List (Nat × Bool)
 x:Xp
abbrev Ab:=Nat->Option SV
def yju(a b:List (Nat × Bool)):Bool:=a.all b.contains
def ya3(A:Ab)(G:List (Nat × Bool)):Opd->Option Xp
 |.c d=>some (.c d)
 |.f k=>some (.c (.fn k []))
 |.t s=>(match A s with
  |some sv=>if yju sv.g G then some sv.x else none
  |none=>none)
def y5x(A:Ab)(G:List (Nat × Bool)):List Opd->Option Xs
 |[]=>some .nil
 |.t s::r=>(match ya3 A G (.t s),y5x A G r with
  |some x,some ks=>some (.cons s x ks)
  |_,_=>none)
 |_::r=>y5x A G r
def y9y(A:Ab)(G:List (Nat × Bool))(op:DOp):Option Xp:=
 match op with
 |.move x=>ya3 A G x
 |.assign x=>ya3 A G x
 |.pick (.t c) a b=>(match ya3 A G (.t c),ya3 A ((c,true)::G) a,ya3 A ((c,false)::G) b with
  |some x,some y,some z=>some (.ite x y z)
  |_,_,_=>none)
 |op=>if vop op then(match y5x A G (y12 op)with
  |some ks=>some (.n op ks)
  |none=>none)else none
def ybl:Opd->List Nat
 |.t s=>[s]
 |_=>[]
def y77(G:List (Nat × Bool))(op:DOp):List (Nat × List (Nat × Bool)):=
 match op with
 |.move x=>(ybl x).map fun s=>(s,G)
 |.assign x=>(ybl x).map fun s=>(s,G)
 |.pick (.t c) a b=>(c,G)::((ybl a).map fun s=>(s,(c,true)::G))++((ybl b).map fun s=>(s,(c,false)::G))
 |op=>(y12 op).flatMap fun o=>(ybl o).map fun s=>(s,G)
def yaq(G:List (Nat × Bool))(op:DOp):List (Nat × List (Nat × Bool)):=(y12 op).flatMap fun o=>(ybl o).map fun s=>(s,G)
def yav:DOp->Bool
 |.move _=>true
 |.assign _=>true
 |_=>false
def y8i(A:Ab)(i:Option Nat)(h:Bool):Ab:=fun s=>match A s with
 |some sv=>if sv.g.isEmpty && y71 i h sv.x then some sv else none
 |none=>none
def y86(A:Ab)(s:Nat)(sv:SV):Ab:=fun n=>if n=s then some sv else A n
def yby(nm:List Nat)(A:Ab):Option Nat->Ab
 |none=>A
 |some d=>y86 A d ⟨[],.v (nm.idxOf d)⟩
def y9m(A:Ab)(i:Option Nat)(h:Bool)(dst:Option Nat)(dm:List (Nat × List (Nat × Bool))):List (Nat × List (Nat × Bool)):=
 dm.filter fun p=>p.2.isEmpty && !(dst == some p.1) && (y8i A i h p.1).isSome
def gdX(A:Ab):Option (Nat × Bool)->Option (Option (Xp × Bool))
 |none=>some none
 |some (j,b)=>(match ya3 A [] (.t j)with
  |some x=>some (some (x,b))
  |none=>none)
def y6n(A:Ab):Option (Nat × Bool)->Option (List (Nat × Bool))
 |none=>some []
 |some (j,b)=>(match A j with
  |some sv=>some ((j,b)::sv.g)
  |none=>none)
def ybn(nm:List Nat)(N:Nat):Option Nat->Bool
 |none=>true
 |some d=>nm.contains d && decide (d<N)
def comp(nm:List Nat)(N:Nat)(dr:Bool):Nat->List y1g->Ab->Option (List TS × List (Nat × List (Nat × Bool)))
 |_,[],_=>some ([],[])
 |pos,o::os,A=>
  if vop o.op then
   (match o.dst,y6n A o.gd with
   |some d,some G=>(match y9y A G o.op with
    |some x=>
     if nm.contains d then
      (if G.isEmpty && decide (d<N)then
       (match comp nm N dr (pos+1) os (yby nm (y8i A (some (nm.idxOf d)) false) (some d))with
       |some (ts,dm)=>some (.asg (nm.idxOf d) x::ts,y77 [] o.op++y9m A (some (nm.idxOf d)) false (some d) dm)
       |none=>none)else none)
     else
      (if(A d).isNone && decide (d<N)then
       (match comp nm N dr (pos+1) os (y86 A d ⟨G,x⟩)with
       |some (ts,dm)=>
        if dm.any (fun p=>p.1 == d && yju p.2 G)then some (ts,y77 G o.op++dm.filter fun p=>!(p.1 == d))
        else if yav o.op then some (ts,dm.filter fun p=>!(p.1 == d))else none
       |none=>none)else none)
    |none=>none)
   |_,_=>none)
  else
   (if ybn nm N o.dst then
    (match gdX A o.gd,y5x A o.gd.toList (y12 o.op)with
    |some gd,some ks=>(match comp nm N dr (pos+1) os (yby nm (y8i A (o.dst.map nm.idxOf) true) o.dst)with
     |some (ts,dm)=>some (.eff gd (o.dst.map nm.idxOf) o.op ks (if dr then some pos else none)::ts,
       yaq o.gd.toList o.op++y9m A (o.dst.map nm.idxOf) true o.dst dm)
     |none=>none)
    |_,_=>none)else none)
def yan(nm:List Nat):Ab:=fun s=>if nm.contains s then some ⟨[],.v (nm.idxOf s)⟩else none
def ybm(nm:List Nat):Opd->Option (Option Nat)
 |.t s=>if nm.contains s then some (some (nm.idxOf s))else none
 |.c d=>if(did d).isNone then some none else none
 |.f _=>some none
def ybk(nm:List Nat)(x y:Opd):Option (List (Nat × Nat)):=match ybm nm x,ybm nm y with
 |some (some i),some (some j)=>some [(i,j)]
 |some (some _),some none=>some []
 |some none,some _=>some []
 |_,_=>none
def yat{A:Type}:List (Option (List A))->Option (List A)
 |[]=>some []
 |x::r=>(match x,yat r with
  |some a,some b=>some (a++b)
  |_,_=>none)
def apX1(nm:List Nat)(a b:Option y1g):Option (List (Nat × Nat)):=match a,b with
 |some a,some b=>yat ((y1r a.op).flatMap fun x=>(y1r b.op).map fun y=>ybk nm x y)
 |_,_=>none
def apX(nm:List Nat)(ops:List y1g)(ap:List (Nat × Nat)):Option (List (Nat × Nat)):=yat (ap.map fun p=>apX1 nm ops[p.1]? ops[p.2]?)
def y2w(nm:List Nat)(N:Nat):DC->Option TC
 |.skip=>some .skip
 |.ret=>some .ret
 |.exit id=>some (.exit id)
 |.region dr ap ops=>(match comp nm N dr 0 ops (yan nm)with
  |some (ts,_)=>if dr && !ap.isEmpty then(match apX nm ops ap with
    |some l=>some (.seq (.run ops.length ts) (.chk l))
    |none=>none)
   else some (.run (if dr then ops.length else 0) ts)
  |none=>none)
 |.seq a b=>(match y2w nm N a,y2w nm N b with
  |some x,some y=>some (.seq x y)
  |_,_=>none)
 |.cond (.t k) a b=>if nm.contains k then(match y2w nm N a,y2w nm N b with
  |some x,some y=>some (.cond (nm.idxOf k) x y)
  |_,_=>none)else none
 |.cond (.c .undef) _ _=>some .dead
 |.ifp (.t k) a b=>if nm.contains k then(match y2w nm N a,y2w nm N b with
  |some x,some y=>some (.ifp (nm.idxOf k) x y)
  |_,_=>none)else none
 |.block id a=>(match y2w nm N a with
  |some x=>some (.block id x)
  |none=>none)
 |.loop a=>(match y2w nm N a with
  |some x=>some (.loop x)
  |none=>none)
 |.rfunc (.t f) ps a b=>if nm.contains f && ps.all (fun p=>nm.contains p && decide (p<N))then(match y2w nm N a,y2w nm N b with
  |some x,some y=>some (.rfunc (nm.idxOf f) (ps.map nm.idxOf) x y)
  |_,_=>none)else none
 |_=>none
end Dv
namespace Dv
section
variable{E:Env}{cP:Nat->List D->Option D}{cS cY:Nat->List D->List Obj->Option (D × List Obj)}{env env':List D}{hp hp':List Obj}{A:Ab}{N:Nat}{nm:List Nat}{sl:List D}
def yd6{op:DOp}(h:vop op=true):op.fin=false:=by
 unfold vop at h;rw[cg]at h;rcases h with h | h
 ·exact z80 h
 ·cases op <;> first | rfl | simp at h
def yh9{op:DOp}{id id':Nat}{g:Opd->D}(h:vop op=true):yb E cP id g hp op=yb E cP id' g hp op:=by
 unfold vop at h;rw[cg]at h;rcases h with h | h
 ·exact z8k h
 ·cases op <;> first | rfl | simp at h
def zv9{op:DOp}{id:Nat}{g:Opd->D}{e:Ef}(h:vop op=true)(hp:yb E cP id g hp op=some e):e.new=none/\e.kill=none:=by
 unfold vop at h;rw[cg]at h;rcases h with h | h
 ·exact z8l h hp
 ·cases op <;> first
   |(simp at h;done)
   |(simp only[yb,ab]at hp;obtain⟨_,_,rfl⟩:=hp;exact⟨rfl,rfl⟩)
def zkd{op:DOp}{id:Nat}{g:Opd->D}{e:Ef}(h:vop op=true)(he:yb E cP id g hp op=some e):yf E cP cS cY id g hp op=some (e.d,hp):=by obtain⟨h1,h2⟩:=zv9 h he;unfold yf;rw[yd6 h];simp only[he,aq,yk,h1,h2]
mutual
def z3e{i:Option Nat}{h:Bool}(hh:h=false->hp'=hp)(he:∀ j,some j ≠ i->env'[j]? = env[j]?):∀(x:Xp),y71 i h x=true->xv E cP env' hp' x=xv E cP env hp x
 |.v j,hk=>by simp only[y71,ci,beq_eq_false_iff_ne]at hk;simp only[xv];exact he j (fun e=>hk e.symm)
 |.c d,_=>by simp only[xv]
 |.n op ks,hk=>by
  simp only[y71,ak,cg,ci]at hk;simp only[xv,za9 hh he ks hk.2];rcases hk.1 with h1 | h1
  ·rw[hh h1]
  ·simp only[z8k (hp:=hp') (hp':=hp) (id':=0) h1]
 |.ite c a b,hk=>by simp only[y71,ak]at hk;simp only[xv,z3e hh he c hk.1.1,z3e hh he a hk.1.2,z3e hh he b hk.2]
def za9{i:Option Nat}{h:Bool}(hh:h=false->hp'=hp)(he:∀ j,some j ≠ i->env'[j]? = env[j]?):∀(ks:Xs),y9g i h ks=true->xvs E cP env' hp' ks=xvs E cP env hp ks
 |.nil,_=>by simp only[xvs]
 |.cons s x r,hk=>by simp only[y9g,ak]at hk;simp only[xvs,z3e hh he x hk.1,za9 hh he r hk.2]
end
def gok(E:Env)(cP:Nat->List D->Option D)(env:List D)(hp:List Obj)(A:Ab)(G:List (Nat × Bool)):Prop:=
 ∀ p,p ∈ G->∃ sv,A p.1=some sv/\xv E cP env hp sv.x=some (.bool p.2)
def z3t:gok E cP env hp A []:=fun p hp=>by cases hp
def zjh{g G:List (Nat × Bool)}(h:yju g G=true)(hG:gok E cP env hp A G):gok E cP env hp A g:=fun p hp=>hG p (by simpa using ay.1 h p hp)
def z3a{p:Nat × Bool}{G:List (Nat × Bool)}:gok E cP env hp A (p::G) ↔ (∃ sv,A p.1=some sv/\xv E cP env hp sv.x=some (.bool p.2))/\gok E cP env hp A G:=by
 constructor
 ·exact fun h=>⟨h p (by simp),fun q hq=>h q (by simp[hq])⟩
 ·rintro⟨h1,h2⟩ q hq;rcases aA.1 hq with rfl | hq
  ·exact h1
  ·exact h2 q hq
structure yab(E:Env)(cP:Nat->List D->Option D)(A:Ab)(N:Nat)(env:List D)(hp:List Obj)(sl:List D):Prop where
 len:sl.length=N
 ok:∀ s sv,A s=some sv->s<N/\(gok E cP env hp A sv.g->xv E cP env hp sv.x=some (sl.getD s .undef))/\(¬ gok E cP env hp A sv.g->sl.getD s .undef=.undef)
 cl:∀ s sv,A s=some sv->∀ p,p ∈ sv.g->A p.1 ≠ none
def z7o(R:yab E cP A N env hp sl){G:List (Nat × Bool)}{o:Opd}{x:Xp}(h:ya3 A G o=some x)(hG:gok E cP env hp A G):xv E cP env hp x=some (yq sl o):=by
 cases o with
 |c d=>simp only[ya3,aa]at h;subst h;simp only[xv,yq]
 |f k=>simp only[ya3,aa]at h;subst h;simp only[xv,yq]
 |t s=>
  simp only[ya3]at h;split at h
  ·rename_i sv hs;split at h
   ·rename_i hg;simp only[aa]at h;subst h;exact(R.ok s sv hs).2.1 (zjh hg hG)
   ·cases h
  ·cases h
def zep{G:List (Nat × Bool)}{s:Nat}{x:Xp}(h:ya3 A G (.t s)=some x):∃ sv,A s=some sv/\sv.x=x/\yju sv.g G=true:=by
 simp only[ya3]at h;split at h
 ·rename_i sv hs;split at h
  ·rename_i hg;simp only[aa]at h;exact⟨sv,hs,h,hg⟩
  ·cases h
 ·cases h
def yma{vs:List (Nat × D)}{f:Nat->D}(h:∀ p,p ∈ vs->p.2=f p.1){s:Nat}(hs:s ∈ vs.map (·.1)):kv s vs=f s:=by
 induction vs with
 |nil=>cases hs
 |cons p r ih=>
  simp only[kv]
  by_cases e:s=p.1
  ·rw[if_pos e,h p (by simp),e]
  ·rw[if_neg e];refine ih (fun q hq=>h q (by simp[hq])) ?_
   simp only[al,aA]at hs;exact hs.resolve_left e
def zbb(R:yab E cP A N env hp sl){G:List (Nat × Bool)}(hG:gok E cP env hp A G):∀{os:List Opd} {ks:Xs},y5x A G os=some ks ->
  ∃ vs,xvs E cP env hp ks=some vs/\(∀ p,p ∈ vs->p.2=sl.getD p.1 .undef) /\ ∀ s,.t s ∈ os->s ∈ vs.map (·.1)
 |[],ks,h=>by simp only[y5x,aa]at h;subst h;exact⟨[],by simp only[xvs],(fun p hq=>by cases hq),(fun s hs=>by cases hs)⟩
 |.t s::r,ks,h=>by
  simp only[y5x]at h;split at h
  ·rename_i x k h1 h2;simp only[aa]at h;subst h;obtain⟨vs,e1,e2,e3⟩:=zbb R hG h2;refine⟨(s,sl.getD s .undef)::vs,by simp only[xvs,z7o R h1 hG,e1,yq],?_,?_⟩
   ·intro p hq;rcases aA.1 hq with rfl | hq
    ·rfl
    ·exact e2 p hq
   ·intro s' hs';rcases aA.1 hs' with e | hs'
    ·simp only[Opd.t.injEq]at e;subst e;simp
    ·exact List.mem_cons_of_mem _ (e3 s' hs')
  ·cases h
 |.c d::r,ks,h=>by
  simp only[y5x]at h;obtain⟨vs,e1,e2,e3⟩:=zbb R hG h;exact⟨vs,e1,e2,fun s hs=>by
   rcases aA.1 hs with e | hs
   ·cases e
   ·exact e3 s hs⟩
 |.f k::r,ks,h=>by
  simp only[y5x]at h;obtain⟨vs,e1,e2,e3⟩:=zbb R hG h;exact⟨vs,e1,e2,fun s hs=>by
   rcases aA.1 hs with e | hs
   ·cases e
   ·exact e3 s hs⟩
def zzl{vs:List (Nat × D)}{os:List Opd}(h:∀ p,p ∈ vs->p.2=sl.getD p.1 .undef)(h':∀ s,.t s ∈ os->s ∈ vs.map (·.1)):∀ o,o ∈ os->gOf vs o=yq sl o:=by
 intro o ho;cases o with
 |c d=>rfl
 |f k=>rfl
 |t s=>unfold gOf yq;simp only;exact yma (f:=fun s=>sl.getD s .undef) h (h' s ho)
def z5u{G:List (Nat × Bool)}:∀{os:List Opd} {ks:Xs} {vs:List (Nat × D)},y5x A G os=some ks->xvs E cP env hp ks=some vs->∀ s,.t s ∈ os->∃ sv,A s=some sv /\ ∃ d,xv E cP env hp sv.x=some d
 |[],ks,vs,h,hv,s,hs=>by cases hs
 |.t s'::r,ks,vs,h,hv,s,hs=>by
  simp only[y5x]at h;split at h
  ·rename_i x k h1 h2;simp only[aa]at h;subst h;simp only[xvs]at hv;split at hv
   ·rename_i d l e1 e2;rcases aA.1 hs with e | hs
    ·simp only[Opd.t.injEq]at e;subst e;obtain⟨sv,g1,g2,_⟩:=zep h1;exact⟨sv,g1,d,by rw[g2];exact e1⟩
    ·exact z5u h2 e2 s hs
   ·cases hv
  ·cases h
 |.c d::r,ks,vs,h,hv,s,hs=>by
  simp only[y5x]at h;rcases aA.1 hs with e | hs
  ·cases e
  ·exact z5u h hv s hs
 |.f d::r,ks,vs,h,hv,s,hs=>by
  simp only[y5x]at h;rcases aA.1 hs with e | hs
  ·cases e
  ·exact z5u h hv s hs
def zz8(R:yab E cP A N env hp sl){G:List (Nat × Bool)}{op:DOp}{x:Xp}{d:D}{id:Nat}(h:y9y A G op=some x)(hG:gok E cP env hp A G)(hx:xv E cP env hp x=some d) :
  ∃ e,yb E cP id (yq sl) hp op=some e/\e.d=d:=by
 unfold y9y at h;split at h
 ·rw[z7o R h hG]at hx;exact⟨_,rfl,by simpa using hx⟩
 ·rw[z7o R h hG]at hx;exact⟨_,rfl,by simpa using hx⟩
 ·rename_i c a b;split at h
  ·rename_i xc xa xb h1 h2 h3;simp only[aa]at h;subst h;have e1:=z7o R h1 hG;obtain⟨sv,g1,g2,_⟩:=zep h1;simp only[xv,e1]at hx;split at hx
   ·rename_i hb;simp only[aa]at hb;have hG':gok E cP env hp A ((c,true)::G):=z3a.2 ⟨⟨sv,g1,by rw[g2,e1,hb]⟩,hG⟩
    rw[z7o R h2 hG']at hx;exact⟨⟨yq sl a,none,none⟩,by simp only[yb,hb,if_true],by simpa using hx⟩
   ·rename_i hb;simp only[aa]at hb;have hG':gok E cP env hp A ((c,false)::G):=z3a.2 ⟨⟨sv,g1,by rw[g2,e1,hb]⟩,hG⟩
    rw[z7o R h3 hG']at hx;exact⟨⟨yq sl b,none,none⟩,by simp only[yb,hb,aT,if_false],by simpa using hx⟩
   ·cases hx
  ·cases h
 ·split at h
  ·rename_i hv;split at h
   ·rename_i ks hk;simp only[aa]at h;subst h;obtain⟨vs,e1,e2,e3⟩:=zbb R hG hk;simp only[xv,e1]at hx;split at hx
    ·rename_i e he;rw[z42 (zzl e2 e3)]at he;rw[yh9 hv]at he;exact⟨e,he,by simpa using hx⟩
    ·cases hx
   ·cases h
  ·cases h
def z6e{o:Opd}{s:Nat}:s ∈ ybl o ↔ o=.t s:=by cases o <;> simp[ybl,eq_comm]
def zl4{G:List (Nat × Bool)}{op:DOp}{x:Xp}{d:D}(h:y9y A G op=some x)(hx:xv E cP env hp x=some d) :
  ∀ p,p ∈ y77 G op->gok E cP env hp A p.2->∀ sv,A p.1=some sv->∃ d,xv E cP env hp sv.x=some d:=by
 intro p hm hg sv hs;unfold y9y at h;split at h
 ·simp only[y77,aL]at hm;obtain⟨s,h1,rfl⟩:=hm;rw[z6e]at h1;subst h1;obtain⟨sv',g1,g2,_⟩:=zep h;rw[hs]at g1;simp only[aa]at g1;subst g1;exact⟨d,by rw[g2];exact hx⟩
 ·simp only[y77,aL]at hm;obtain⟨s,h1,rfl⟩:=hm;rw[z6e]at h1;subst h1;obtain⟨sv',g1,g2,_⟩:=zep h;rw[hs]at g1;simp only[aa]at g1;subst g1;exact⟨d,by rw[g2];exact hx⟩
 ·rename_i c a b;split at h
  ·rename_i xc xa xb h1 h2 h3;simp only[aa]at h;subst h;simp only[y77,aB,aA,aL]at hm;obtain⟨svc,g1,g2,_⟩:=zep h1;simp only[xv]at hx;have hc:∃ t,xv E cP env hp xc=some (.bool t):=by
    split at hx
    ·exact⟨_,by assumption⟩
    ·exact⟨_,by assumption⟩
    ·cases hx
   obtain⟨t,ht⟩:=hc;rcases hm with(rfl | ⟨s,hs',rfl⟩) | ⟨s,hs',rfl⟩
   ·rw[hs]at g1;simp only[aa]at g1;subst g1;exact⟨_,by rw[g2];exact ht⟩
   ·rw[z6e]at hs';subst hs';obtain⟨sva,q1,q2,_⟩:=zep h2;rw[hs]at q1;simp only[aa]at q1;subst q1;obtain⟨⟨sv2,r1,r2⟩,_⟩:=z3a.1 hg;simp only at r1 r2;rw[g1]at r1;simp only[aa]at r1;subst r1;rw[g2,ht]at r2;simp only[aa,D.bool.injEq]at r2;subst r2;rw[ht]at hx;exact⟨d,by rw[q2];exact hx⟩
   ·rw[z6e]at hs';subst hs';obtain⟨sva,q1,q2,_⟩:=zep h3;rw[hs]at q1;simp only[aa]at q1;subst q1;obtain⟨⟨sv2,r1,r2⟩,_⟩:=z3a.1 hg;simp only at r1 r2;rw[g1]at r1;simp only[aa]at r1;subst r1;rw[g2,ht]at r2;simp only[aa,D.bool.injEq]at r2;subst r2;rw[ht]at hx;exact⟨d,by rw[q2];exact hx⟩
  ·cases h
 ·rename_i hm1 hm2 hm3;split at h
  ·rename_i hv;split at h
   ·rename_i ks hk;simp only[aa]at h;subst h;have hn:y77 G op=(y12 op).flatMap fun o=>(ybl o).map fun s=>(s,G):=by
     unfold y77;split
     ·exact absurd rfl (hm1 _)
     ·exact absurd rfl (hm2 _)
     ·exact absurd rfl (hm3 _ _ _)
     ·rfl
    rw[hn]at hm;simp only[bB,aL]at hm;obtain⟨o,h1,s,h2,rfl⟩:=hm;rw[z6e]at h2;subst h2;simp only[xv]at hx;split at hx
    ·rename_i vs e1;obtain⟨sv',q1,q2⟩:=z5u hk e1 s h1;rw[hs]at q1;simp only[aa]at q1;subst q1;exact q2
    ·cases hx
   ·cases h
  ·cases h
def yee{G:List (Nat × Bool)}{op:DOp}:∀ p,p ∈ y77 G op->gok E cP env hp A p.2->gok E cP env hp A G:=by
 intro p hm hg;unfold y77 at hm;split at hm
 ·simp only[aL]at hm;obtain⟨s,_,rfl⟩:=hm;exact hg
 ·simp only[aL]at hm;obtain⟨s,_,rfl⟩:=hm;exact hg
 ·simp only[aB,aA,aL]at hm;rcases hm with(rfl | ⟨s,_,rfl⟩) | ⟨s,_,rfl⟩
  ·exact hg
  ·exact(z3a.1 hg).2
  ·exact(z3a.1 hg).2
 ·simp only[bB,aL]at hm;obtain⟨o,_,s,_,rfl⟩:=hm;exact hg
def Dem(E:Env)(cP:Nat->List D->Option D)(env:List D)(hp:List Obj)(A:Ab)(dm:List (Nat × List (Nat × Bool))):Prop:=
 ∀ p,p ∈ dm->gok E cP env hp A p.2->∀ sv,A p.1=some sv->∃ d,xv E cP env hp sv.x=some d
def zdd{i:Option Nat}{h:Bool}{s:Nat}{sv:SV}(hk:y8i A i h s=some sv):A s=some sv/\sv.g=[]/\y71 i h sv.x=true:=by
 unfold y8i at hk;split at hk
 ·rename_i sv' hs;split at hk
  ·rename_i hc;simp only[aa]at hk;subst hk;simp only[ak,iu]at hc;exact⟨hs,hc.1,hc.2⟩
  ·cases hk
 ·cases hk
def ydv{o:Option Nat}{s:Nat}(h:∀ d,o=some d->s ≠ d):yby nm A o s=A s:=by
 cases o with
 |none=>rfl
 |some d=>simp only[yby,y86];rw[if_neg (h d rfl)]
def z82{d:Nat}{sv:SV}{G:List (Nat × Bool)}(hd:A d=none)(h:gok E cP env hp A G):gok E cP env hp (y86 A d sv) G:=by
 intro p hm;obtain⟨s,h1,h2⟩:=h p hm;refine⟨s,?_,h2⟩;unfold y86;rw[if_neg (fun e=>by rw[e,hd]at h1;cases h1)]
 exact h1
def zbc{i dst:Option Nat}{h:Bool}{dm:List (Nat × List (Nat × Bool))}(hh:h=false->hp'=hp)(he:∀ j,some j ≠ i->env'[j]? = env[j]?)
  (D1:Dem E cP env' hp' (yby nm (y8i A i h) dst) dm):Dem E cP env hp A (y9m A i h dst dm):=by
 intro p hm hg sv hs;simp only[y9m,eR,ak,iu,ci,beq_eq_false_iff_ne]at hm;obtain⟨h1,⟨h2,h3⟩,h4⟩:=hm;obtain⟨sv',h5⟩:=Option.isSome_iff_exists.1 h4;obtain⟨k1,k2,k3⟩:=zdd h5;rw[hs]at k1;simp only[aa]at k1;subst k1;obtain⟨d,hd⟩:=D1 p h1 (by rw[h2];exact z3t) sv (by
  rw[ydv (fun d hd e=>h3 (by rw[hd,e]))];exact h5)
 exact⟨d,by rw[<- z3e hh he sv.x k3];exact hd⟩
def zao{i:Nat}{d:D}:∀ j,some j ≠ some i->(env.set i d)[j]? = env[j]?:=fun j h=>by rw[bo (fun e=>h (by rw[e]))]
def zcz{i:Option Nat}{d:D}:∀ j,some j ≠ i->(ya2 env i d)[j]? = env[j]?:=by
 cases i with
 |none=>intro j _;rfl
 |some i=>exact zao
def znh{G:List (Nat × Bool)}{op:DOp}{p:Nat × List (Nat × Bool)}(h:p ∈ yaq G op):p.2=G /\ .t p.1 ∈ y12 op:=by simp only[yaq,bB,aL]at h;obtain⟨o,h1,s,h2,rfl⟩:=h;rw[z6e]at h2;subst h2;exact⟨rfl,h1⟩
def zbs{base:Nat}{dr:Bool}:∀{os:List y1g} {pos:Nat} {A:Ab} {ts:List TS} {dm:List (Nat × List (Nat × Bool))},comp nm N dr pos os A=some (ts,dm) ->
  ∀{env:List D} {hp:List Obj} {r:List D × List Obj},rTS E cP cS cY base ts env hp=some r->Dem E cP env hp A dm
 |[],pos,A,ts,dm,hc,env,hp,r,hr=>by simp only[comp,aa,aw]at hc;obtain⟨_,rfl⟩:=hc;intro p hm;cases hm
 |o::os,pos,A,ts,dm,hc,env,hp,r,hr=>by
  simp only[comp]at hc;split at hc
  ·rename_i hv;split at hc
   ·rename_i d G hd hG;split at hc
    ·rename_i x hx;split at hc
     ·split at hc
      ·rename_i hcond;simp only[ak,iu]at hcond;split at hc
       ·rename_i ts' dm' hc';simp only[aa,aw]at hc;obtain⟨rfl,rfl⟩:=hc;simp only[rTS]at hr;split at hr
        ·rename_i v hxv;have IH:=zbs hc' hr;intro p hm hg sv hs;rcases aB.1 hm with hm | hm
         ·exact zl4 (G:=[]) (by rw[hcond.1]at hx;exact hx) hxv p hm hg sv hs
         ·exact zbc (fun _=>rfl) zao IH p hm hg sv hs
        ·cases hr
       ·cases hc
      ·cases hc
     ·split at hc
      ·rename_i hcond;simp only[ak,jr]at hcond;split at hc
       ·rename_i ts' dm' hc';have filt:Dem E cP env hp (y86 A d ⟨G,x⟩) dm'->Dem E cP env hp A (dm'.filter fun p=>!(p.1 == d)):=by intro IH p hm hg sv hs;simp only[eR,ci,beq_eq_false_iff_ne]at hm;exact IH p hm.1 (z82 hcond.1 hg) sv (by unfold y86;rw[if_neg hm.2];exact hs)
        split at hc
        ·rename_i hany;simp only[aa,aw]at hc;obtain⟨rfl,rfl⟩:=hc;have IH:=zbs hc' hr;intro p hm hg sv hs;rcases aB.1 hm with hm | hm
         ·obtain⟨q,q1,q2⟩:=io.1 hany;simp only[ak,beq_iff_eq]at q2;have hG1:gok E cP env hp A G:=yee p hm hg;obtain⟨v,hxv⟩:=IH q q1 (zjh q2.2 (z82 hcond.1 hG1)) ⟨G,x⟩ (by unfold y86;rw[if_pos q2.1])
          exact zl4 hx hxv p hm hg sv hs
         ·exact filt IH p hm hg sv hs
        ·split at hc
         ·simp only[aa,aw]at hc;obtain⟨rfl,rfl⟩:=hc;exact filt (zbs hc' hr)
         ·cases hc
       ·cases hc
      ·cases hc
    ·cases hc
   ·cases hc
  ·split at hc
   ·split at hc
    ·rename_i gd ks hgd hks;split at hc
     ·rename_i ts' dm' hc';simp only[aa,aw]at hc;obtain⟨rfl,rfl⟩:=hc;simp only[rTS]at hr;intro p hm hg sv hs;rcases aB.1 hm with hm | hm
      ·obtain⟨n1,n2⟩:=znh hm
       -- the guard holds
       have hgt:gdT E cP env hp gd=some true:=by
        cases hog:o.gd with
        |none=>rw[hog]at hgd;simp only[gdX,aa]at hgd;subst hgd;rfl
        |some q=>
         obtain⟨j,b⟩:=q;rw[hog]at hgd n1;simp only[gdX]at hgd;split at hgd
         ·rename_i xg hxg;simp only[aa]at hgd;subst hgd;obtain⟨svj,g1,g2,_⟩:=zep hxg;rw[n1]at hg;obtain⟨sv2,r1,r2⟩:=hg (j,b) (by simp)
          simp only at r1 r2;rw[g1]at r1;simp only[aa]at r1;subst r1;rw[g2]at r2;simp only[gdT,r2,beq_self_eq_true]
         ·cases hgd
       rw[hgt]at hr;simp only at hr;split at hr
       ·rename_i vs e1;obtain⟨sv',q1,q2⟩:=z5u hks e1 p.1 n2;rw[hs]at q1;simp only[aa]at q1;subst q1;exact q2
       ·cases hr
      ·split at hr
       ·split at hr
        ·split at hr
         ·exact zbc (fun h=>by cases h) zcz (zbs hc' hr) p hm hg sv hs
         ·cases hr
        ·cases hr
       ·exact zbc (fun h=>by cases h) zcz (zbs hc' hr) p hm hg sv hs
       ·cases hr
     ·cases hc
    ·cases hc
   ·cases hc
end
end Dv
namespace Dv
section
variable{E:Env}{cP:Nat->List D->Option D}{cS cY:Nat->List D->List Obj->Option (D × List Obj)}{env env':List D}{hp hp':List Obj}{A:Ab}{N:Nat}{nm:List Nat}{sl:List D}
def y6u(nm:List Nat)(env sl:List D):Prop:=env.length=nm.length /\ ∀(i s:Nat),nm[i]? = some s->env[i]? = some (sl.getD s .undef)
def y6u.get(S:y6u nm env sl){s:Nat}(h:nm.contains s=true):nm.idxOf s<env.length/\env[nm.idxOf s]? = some (sl.getD s .undef):=by
 have hm:s ∈ nm:=by simpa using h
 have hlt:=jf hm;refine⟨by rw[S.1];exact hlt,S.2 _ _ ?_⟩
 rw[ac hlt];simp
def zbj{n:Nat}{d e:D}(h:n<sl.length):(sl.set n d).getD n e=d:=by rw[af,aR h];rfl
def y6u.set(nd:nm.Nodup)(S:y6u nm env sl){s:Nat}{d:D}(h:nm.contains s=true)(hs:s<sl.length):y6u nm (env.set (nm.idxOf s) d) (sl.set s d):=by
 have hm:s ∈ nm:=by simpa using h
 have hlt:=jf hm;refine⟨by simpa using S.1,fun i s' h'=>?_⟩
 by_cases e:i=nm.idxOf s
 ·subst e;have:s'=s:=by rw[ac hlt]at h';simp at h';exact h'.symm
  subst this;rw[aR (by rw[S.1];exact hlt),zbj hs]
 ·rw[bo (dF e)];have hne:s ≠ s':=by
   rintro rfl;apply e;have hi:=(ae.1 h').1;have h1:nm[i]=s:=(ae.1 h').2;have h2:nm[nm.idxOf s]=s:=by simp
   exact(List.getElem_inj nd).1 (h1.trans h2.symm)
  rw[getD_set_ne hne];exact S.2 i s' h'
def y6u.other(S:y6u nm env sl){s:Nat}{d:D}(h:nm.contains s=false):y6u nm env (sl.set s d):=by
 refine⟨S.1,fun i s' h'=>?_⟩
 have hne:s ≠ s':=by rintro rfl;have:=bA h';simp at h;exact h this
 rw[getD_set_ne hne];exact S.2 i s' h'
def zqc(hl:sl.length=N)(hN:nm.all (fun s=>decide (s<N))=true)(S:y6u nm env sl):yab E cP (yan nm) N env hp sl:=by
 refine⟨hl,fun s sv h=>?_,fun s sv h p hp=>?_⟩
 all_goals unfold yan at h
 all_goals split at h
 rotate_left 2
 ·simp only[aa]at h;subst h;cases hp
 ·cases h
 ·rename_i hc;simp only[aa]at h;subst h;have hm:s ∈ nm:=by simpa using hc
  refine⟨by simpa using ay.1 hN s hm,fun _=>?_,fun h=>absurd z3t h⟩
  simp only[xv];exact(S.get hc).2
 ·cases h
def y75(dr:Bool)(E:Env)(cP:Nat->List D->Option D)(cS cY:Nat->List D->List Obj->Option (D × List Obj))(id:Nat)(os:List y1g)(st:St):Option St:=
 if dr then y16 E cP cS cY id os st else yi E cP cS cY os st
def zmr{dr:Bool}{id:Nat}{o:y1g}{os:List y1g}{st:St}:y75 dr E cP cS cY id (o::os) st =
  (if yn st.sl o.gd then
   (match yf E cP cS cY (if dr then id else st.hp.length) (yq st.sl) st.hp o.op with
   |some (d,hp)=>y75 dr E cP cS cY (id+1) os ⟨y2i st.sl o.dst d,hp⟩
   |none=>none)
  else y75 dr E cP cS cY (id+1) os ⟨y2i st.sl o.dst .undef,st.hp⟩):=by
 cases dr with
 |true=>simp only[y75,if_true,y16];rfl
 |false=>simp only[y75,aT,if_false,yi];rfl
def zod(R:yab E cP A N env hp sl){gd:Option (Nat × Bool)}{G:List (Nat × Bool)}(h:y6n A gd=some G):yn sl gd=true ↔ gok E cP env hp A G:=by
 cases gd with
 |none=>simp only[y6n,aa]at h;subst h;exact⟨fun _=>z3t,fun _=>rfl⟩
 |some p=>
  obtain⟨j,b⟩:=p;simp only[y6n]at h;split at h
  ·rename_i sv hj;simp only[aa]at h;subst h;obtain⟨_,k1,k2⟩:=R.ok j sv hj;constructor
   ·intro hw;unfold yn at hw;simp only at hw
    by_cases hg:gok E cP env hp A sv.g
    ·refine z3a.2 ⟨⟨sv,hj,?_⟩,hg⟩;rw[k1 hg];split at hw
     ·rename_i c hc;rw[hc];simp only[beq_iff_eq]at hw;rw[hw]
     ·cases hw
    ·rw[k2 hg]at hw;simp at hw
   ·intro hG;obtain⟨⟨sv',h1,h2⟩,h3⟩:=z3a.1 hG;simp only at h1 h2;rw[hj]at h1;simp only[aa]at h1;subst h1;rw[k1 h3]at h2;simp only[aa]at h2;unfold yn;simp only[h2,beq_self_eq_true]
  ·cases h
def z9r(R:yab E cP A N env hp sl){i:Option Nat}{h:Bool}(hh:h=false->hp'=hp)(he:∀ j,some j ≠ i->env'[j]? = env[j]?){s:Nat}{sv:SV}(hk:y8i A i h s=some sv) :
  s<N/\sv.g=[]/\xv E cP env' hp' sv.x=some (sl.getD s .undef):=by
 obtain⟨k1,k2,k3⟩:=zdd hk;obtain⟨h1,h2,_⟩:=R.ok s sv k1;exact⟨h1,k2,by rw[z3e hh he sv.x k3];exact h2 (by rw[k2];exact z3t)⟩
def zel(nd:nm.Nodup)(R:yab E cP A N env hp sl)(S:y6u nm env sl){dst:Option Nat}{h:Bool}{d:D}(hh:h=false->hp'=hp)(hd:ybn nm N dst=true) :
  yab E cP (yby nm (y8i A (dst.map nm.idxOf) h) dst) N (ya2 env (dst.map nm.idxOf) d) hp' (y2i sl dst d)/\y6u nm (ya2 env (dst.map nm.idxOf) d) (y2i sl dst d):=by
 cases dst with
 |none=>
  refine⟨⟨R.len,fun s sv hs=>?_,fun s sv hs p hp=>?_⟩,S⟩
  rotate_left
  ·obtain⟨_,h2,_⟩:=z9r (env':=env) R hh (fun _ _=>rfl) hs
   rw[h2]at hp;cases hp
  obtain⟨h1,h2,h3⟩:=z9r (env':=env) R hh (fun _ _=>rfl) hs
  exact⟨h1,fun _=>h3,fun hn=>absurd (by rw[h2];exact z3t) hn⟩
 |some n=>
  simp only[ybn,ak,decide_eq_true_eq]at hd;have hlen:n<sl.length:=by rw[R.len];exact hd.2
  have S':=S.set nd (d:=d) hd.1 hlen;refine⟨⟨by simp[y2i,R.len],fun s sv hs=>?_,fun s sv hs p hp=>?_⟩,S'⟩
  rotate_left
  ·simp only[yby,y86]at hs;split at hs
   ·simp only[aa]at hs;subst hs;cases hp
   ·obtain⟨_,h2,_⟩:=z9r (env':=env) R hh (fun _ _=>rfl) hs
    rw[h2]at hp;cases hp
  simp only[yby,y86]at hs;split at hs
  ·rename_i e;subst e;simp only[aa]at hs;subst hs;refine⟨hd.2,fun _=>?_,fun hn=>absurd z3t hn⟩
   simp only[xv];exact(S'.get hd.1).2
  ·rename_i e;obtain⟨h1,h2,h3⟩:=z9r R hh (zao (i:=nm.idxOf n) (d:=d)) hs;refine⟨h1,fun _=>?_,fun hn=>absurd (by rw[h2];exact z3t) hn⟩
   simp only[aq,ya2,y2i];rw[getD_set_ne (dF e)];exact h3
def zqr(R:yab E cP A N env hp sl){n:Nat}{G:List (Nat × Bool)}{x:Xp}{d:D}(hn:A n=none)(hN:n<N)(hG:∀ p,p ∈ G->A p.1 ≠ none)(h1:gok E cP env hp A G->xv E cP env hp x=some d)(h2 : ¬ gok E cP env hp A G->d=.undef) :
  yab E cP (y86 A n ⟨G,x⟩) N env hp (sl.set n d):=by
 have hlen:n<sl.length:=by rw[R.len];exact hN
 have back:∀{g:List (Nat × Bool)},(∀ p,p ∈ g->A p.1 ≠ none)->gok E cP env hp (y86 A n ⟨G,x⟩) g->gok E cP env hp A g:=by
  intro g hg h p hp;obtain⟨sv,q1,q2⟩:=h p hp;unfold y86 at q1;rw[if_neg (fun e=>hg p hp (by rw[e,hn]))]at q1
  exact⟨sv,q1,q2⟩
 refine⟨by simp[R.len],fun s sv hs=>?_,fun s sv hs p hp=>?_⟩
 ·unfold y86 at hs;split at hs
  ·rename_i e;subst e;simp only[aa]at hs;subst hs;rw[zbj hlen];exact⟨hN,fun hg=>h1 (back hG hg),fun hg=>h2 (fun hG=>hg (z82 hn hG))⟩
  ·rename_i e;obtain⟨q0,q1,q2⟩:=R.ok s sv hs;rw[getD_set_ne (dF e)];exact⟨q0,fun hg=>q1 (back (R.cl s sv hs) hg),fun hg=>q2 (fun h=>hg (z82 hn h))⟩
 ·have:A p.1 ≠ none:=by
   unfold y86 at hs;split at hs
   ·simp only[aa]at hs;subst hs;exact hG p hp
   ·exact R.cl s sv hs p hp
  unfold y86;split
  ·simp
  ·exact this
def zh8(R:yab E cP A N env hp sl){gd:Option (Nat × Bool)}{G:List (Nat × Bool)}(h:y6n A gd=some G):∀ p,p ∈ G->A p.1 ≠ none:=by
 cases gd with
 |none=>simp only[y6n,aa]at h;subst h;intro p hp;cases hp
 |some q=>
  obtain⟨j,b⟩:=q;simp only[y6n]at h;split at h
  ·rename_i sv hj;simp only[aa]at h;subst h;intro p hp;rcases aA.1 hp with rfl | hp
   ·simp only[hj];simp
   ·exact R.cl j sv hj p hp
  ·cases h
def yeg(R:yab E cP A N env hp sl){G:List (Nat × Bool)}{op:DOp}{x:Xp}(h:y9y A G op=some x)(hG:gok E cP env hp A G)(hm:yav op=true):∃ d,xv E cP env hp x=some d:=by
 cases op <;> simp[yav]at hm
 ·exact⟨_,z7o R h hG⟩
 ·exact⟨_,z7o R h hG⟩
def z8w(nd:nm.Nodup){base:Nat}{dr:Bool}:∀{os:List y1g} {pos:Nat} {A:Ab} {ts:List TS} {dm:List (Nat × List (Nat × Bool))},comp nm N dr pos os A=some (ts,dm) ->
  ∀{env:List D} {hp:List Obj} {sl:List D} {env':List D} {hp':List Obj},yab E cP A N env hp sl->y6u nm env sl->rTS E cP cS cY base ts env hp=some (env',hp') ->
  ∃ sl',y75 dr E cP cS cY (base+pos) os ⟨sl,hp⟩=some ⟨sl',hp'⟩/\sl'.length=N/\y6u nm env' sl'
 |[],pos,A,ts,dm,hc,env,hp,sl,env',hp',R,S,hr=>by simp only[comp,aa,aw]at hc;obtain⟨rfl,_⟩:=hc;simp only[rTS,aa,aw]at hr;obtain⟨rfl,rfl⟩:=hr;exact⟨sl,by cases dr <;> rfl,R.len,S⟩
 |o::os,pos,A,ts,dm,hc,env,hp,sl,env',hp',R,S,hr=>by
  have hdem:=zbs hc hr;rw[zmr];simp only[comp]at hc;split at hc
  ·rename_i hv;split at hc
   ·rename_i d G hd hG;have hgt:=zod R hG;split at hc
    ·rename_i x hx;split at hc
     ·rename_i hnm;split at hc
      ·rename_i hcond;simp only[ak,iu,decide_eq_true_eq]at hcond;split at hc
       ·rename_i ts' dm' hc';simp only[aa,aw]at hc;obtain⟨rfl,rfl⟩:=hc;simp only[rTS]at hr;split at hr
        ·rename_i v hxv;have hGn:gok E cP env hp A G:=by rw[hcond.1];exact z3t
         rw[if_pos (hgt.2 hGn)];obtain⟨e,he,hed⟩:=zz8 R (id:=if dr then base+pos else hp.length) hx hGn hxv
         rw[zkd hv he,hd];simp only;have hem:=zel (h:=false) (hp':=hp) (d:=v) (dst:=some d) nd R S (fun _=>rfl) (by simp only[ybn,ak,decide_eq_true_eq];exact⟨hnm,hcond.2⟩)
         rw[hed];exact z8w nd hc' hem.1 hem.2 hr
        ·cases hr
       ·cases hc
      ·cases hc
     ·rename_i hnm;split at hc
      ·rename_i hcond;simp only[ak,jr,decide_eq_true_eq]at hcond;split at hc
       ·rename_i ts' dm' hc';have hnm':nm.contains d=false:=by simpa using hnm
        have hts:ts=ts':=by
         split at hc
         ·simp only[aa,aw]at hc;exact hc.1.symm
         ·split at hc
          ·simp only[aa,aw]at hc;exact hc.1.symm
          ·cases hc
        subst hts
        by_cases hg:gok E cP env hp A G
        ·rw[if_pos (hgt.2 hg)];have hsome:∃ v,xv E cP env hp x=some v:=by
          split at hc
          ·rename_i hany;have D1:=zbs (base:=base) hc' hr;obtain⟨q,q1,q2⟩:=io.1 hany;simp only[ak,beq_iff_eq]at q2;exact D1 q q1 (zjh q2.2 (z82 hcond.1 hg)) ⟨G,x⟩ (by unfold y86;rw[if_pos q2.1])
          ·split at hc
           ·exact yeg R hx hg (by assumption)
           ·cases hc
         obtain⟨v,hxv⟩:=hsome;obtain⟨e,he,hed⟩:=zz8 R (id:=if dr then base+pos else hp.length) hx hg hxv
         rw[zkd hv he,hd];simp only;rw[hed];exact z8w nd hc' (zqr R hcond.1 hcond.2 (zh8 R hG) (fun _=>hxv) (fun h=>absurd hg h)) (S.other hnm') hr
        ·rw[if_neg (fun h=>hg (hgt.1 h)),hd]
         exact z8w nd hc' (zqr R hcond.1 hcond.2 (zh8 R hG) (fun h=>absurd h hg) (fun _=>rfl)) (S.other hnm') hr
       ·cases hc
      ·cases hc
    ·cases hc
   ·cases hc
  ·split at hc
   ·rename_i hdst;split at hc
    ·rename_i gd ks hgd hks;split at hc
     ·rename_i ts' dm' hc';simp only[aa,aw]at hc;obtain⟨rfl,rfl⟩:=hc;simp only[rTS]at hr;have hgv:gdT E cP env hp gd=some (yn sl o.gd)/\(yn sl o.gd=true->gok E cP env hp A o.gd.toList):=by
       cases hog:o.gd with
       |none=>rw[hog]at hgd;simp only[gdX,aa]at hgd;subst hgd;exact⟨rfl,fun _=>z3t⟩
       |some q=>
        obtain⟨j,b⟩:=q;rw[hog]at hgd;simp only[gdX]at hgd;split at hgd
        ·rename_i xg hxg;simp only[aa]at hgd;subst hgd;have e1:=z7o R hxg z3t;obtain⟨svj,g1,g2,_⟩:=zep hxg;simp only[yq]at e1;unfold yn gdT;simp only[e1];refine⟨?_,fun hw=>?_⟩
         ·split <;> simp_all
         ·refine z3a.2 ⟨⟨svj,g1,?_⟩,z3t⟩;rw[g2,e1];split at hw
          ·rename_i c hc;rw[hc];simp only[beq_iff_eq]at hw;rw[hw]
          ·cases hw
        ·cases hgd
      rw[hgv.1]at hr;cases hw:yn sl o.gd with
      |true=>
       rw[hw]at hr;simp only at hr;simp only[if_true];split at hr
       ·rename_i vs e1;obtain⟨vs',f1,f2,f3⟩:=zbb R (hgv.2 hw) hks;rw[e1]at f1;simp only[aa]at f1;subst f1;split at hr
        ·rename_i d hp1 hst;have hst':yf E cP cS cY (if dr=true then base+pos else hp.length) (gOf vs) hp o.op=some (d,hp1):=by cases dr <;> exact hst
         rw[z95 (zzl f2 f3)]at hst';rw[hst'];have hem:=zel (h:=true) (hp':=hp1) (d:=d) nd R S (fun h=>by cases h) hdst
         exact z8w nd hc' hem.1 hem.2 hr
        ·cases hr
       ·cases hr
      |false=>
       rw[hw]at hr;simp only at hr;simp only[aT,if_false];have hem:=zel (h:=true) (hp':=hp) (d:=.undef) nd R S (fun h=>by cases h) hdst
       exact z8w nd hc' hem.1 hem.2 hr
     ·cases hc
    ·cases hc
   ·cases hc
def zap(nd:nm.Nodup):∀(ps:List Nat) (args sl env:List D),ps.all (fun p=>nm.contains p && decide (p<N))=true->sl.length=N->y6u nm env sl ->
  (y23 sl ps args).length=N/\y6u nm (y23 env (ps.map nm.idxOf) args) (y23 sl ps args)
 |[],args,sl,env,_,hl,S=>⟨by simpa[y23]using hl,by simpa[y23]using S⟩
 |p::ps,[],sl,env,_,hl,S=>⟨by simpa[y23]using hl,by simpa[y23]using S⟩
 |p::ps,v::vs,sl,env,h,hl,S=>by simp only[List.all_cons,ak,decide_eq_true_eq]at h;simp only[y23,al];exact zap nd ps vs _ _ (by simpa using h.2) (by simpa using hl) (S.set nd h.1.1 (by rw[hl];exact h.1.2))
def zjd{A:Type}:∀{ls:List (Option (List A))} {r:List A},yat ls=some r->∀ x,x ∈ ls->∃ r',x=some r' /\ ∀ y,y ∈ r'->y ∈ r
 |[],_,_,x,hx=>by cases hx
 |x::ls,r,h,z,hz=>by
  simp only[yat]at h;split at h
  ·rename_i a b h1;simp only[aa]at h;subst h;rcases aA.1 hz with rfl | hz
   ·exact⟨a,rfl,fun y hy=>List.mem_append_left _ hy⟩
   ·obtain⟨r',e1,e2⟩:=zjd h1 z hz;exact⟨r',e1,fun y hy=>List.mem_append_right _ (e2 y hy)⟩
  ·cases h
def ye4{env sl:List D}(S:y6u nm env sl){x y:Opd}{r:List (Nat × Nat)}(h:ybk nm x y=some r)(hc:∀ p,p ∈ r->yiv env p=true):y98 (did (yq sl x)) (did (yq sl y))=true:=by
 have none1:∀{o:Option Nat},y98 none o=true:=fun {o}=>by cases o <;> rfl
 have none2:∀{o:Option Nat},y98 o none=true:=fun {o}=>by cases o <;> rfl
 have key:∀{z:Opd},ybm nm z=some none->did (yq sl z)=none:=by
  intro z hz;cases z with
  |t s=>simp only[ybm]at hz;split at hz <;> simp at hz
  |c d=>
   simp only[ybm]at hz;split at hz
   ·rename_i h1;simpa[yq]using h1
   ·cases hz
  |f k=>rfl
 have key2:∀{z:Opd} {i:Nat},ybm nm z=some (some i)->env[i]? = some (yq sl z):=by
  intro z i hz;cases z with
  |t s=>
   simp only[ybm]at hz;split at hz
   ·rename_i h1;simp only[aa]at hz;subst hz;exact(S.get h1).2
   ·cases hz
  |c d=>simp only[ybm]at hz;split at hz <;> simp at hz
  |f k=>simp[ybm]at hz
 unfold ybk at h;split at h
 ·rename_i i j h1 h2;simp only[aa]at h;subst h;have:=hc (i,j) (by simp)
  simp only[yiv,key2 h1,key2 h2]at this;exact this
 ·rename_i h2;rw[key h2];exact none2
 ·rename_i h1 h2;rw[key h1];exact none1
 ·cases h
def zyu{env sl:List D}(S:y6u nm env sl){ops:List y1g}{ap l:List (Nat × Nat)}(h:apX nm ops ap=some l)(hc:yfq env l=true):y8p sl ops ap=true:=by
 unfold yfq at hc;rw[ay]at hc;unfold y8p;rw[ay];intro p hp;obtain⟨r,e1,e2⟩:=zjd h _ (iR hp);unfold apX1 at e1;unfold yb5;split at e1
 ·rename_i a b h1 h2;rw[h1,h2];simp only[];rw[ay];intro x hx;rw[ay];intro y hy;obtain⟨r2,f1,f2⟩:=zjd e1 (ybk nm x y) (bB.2 ⟨x,hx,iR hy⟩);exact ye4 S f1 fun q hq=>hc q (e2 q (f2 q hq))
 ·cases e1
def zxw(nd:nm.Nodup)(hN:nm.all (fun s=>decide (s<N))=true):∀{dc:DC} {tc:TC},y2w nm N dc=some tc->∀{Q:Ex->List D->List Obj->Prop} {env:List D} {hp:List Obj} {sl:List D},
  sl.length=N->y6u nm env sl->wT E tc Q env hp->wp E dc ⟨sl,hp⟩ (fun ex st'=>st'.sl.length=N /\ ∃ env',y6u nm env' st'.sl/\Q ex env' st'.hp):=by
 intro dc
 induction dc with
 |skip=>intro tc hc Q env hp sl hl S h;simp only[y2w,aa]at hc;subst hc;exact ycr.2 ⟨hl,env,S,h⟩
 |ret=>intro tc hc Q env hp sl hl S h;simp only[y2w,aa]at hc;subst hc;exact ygz.2 ⟨hl,env,S,h⟩
 |exit id=>intro tc hc Q env hp sl hl S h;simp only[y2w,aa]at hc;subst hc;exact yct.2 ⟨hl,env,S,h⟩
 |region dr ap ops=>
  intro tc hc Q env hp sl hl S h;simp only[y2w]at hc;split at hc
  ·rename_i ts dm hcc;have base:∀{Q:Ex->List D->List Obj->Prop},wT E (.run (if dr then ops.length else 0) ts) Q env hp->∃ sl' hp' env',y75 dr E (yu E (dL E)) (y1j E (dL E)) (y3d (dL E)) (hp.length+0) ops ⟨sl,hp++ah (if dr then ops.length else 0) .dead⟩=some ⟨sl',hp'⟩/\sl'.length=N/\y6u nm env' sl'/\Q .normal env' hp':=by
    intro Q h;simp only[wT]at h;split at h
    ·rename_i env' hp' hr;obtain⟨sl',h1,h2,h3⟩:=z8w nd (base:=hp.length) hcc (zqc hl hN S) S hr;exact⟨sl',hp',env',h1,h2,h3,h⟩
    ·exact h.elim
   split at hc
   ·rename_i hda;simp only[ak,ci]at hda;obtain⟨rfl,hap⟩:=hda;split at hc
    ·rename_i l hX;simp only[aa]at hc;subst hc;obtain⟨sl',hp',env',h1,h2,h3,h4⟩:=base (Q:=fun ex env' hp'=>match ex with
      |.normal=>wT E (.chk l) Q env' hp'
      |ex=>Q ex env' hp') h
     simp only[wT]at h4;refine⟨.normal,⟨sl',hp'⟩,?_,h2,env',h3,h4.2⟩;rw[ztr];simp only[y75,if_true,dY]at h1;simp only[h1,y2l,zyu h3 hX h4.1,if_true,aq]
    ·cases hc
   ·rename_i hda;simp only[aa]at hc;subst hc;obtain⟨sl',hp',env',h1,h2,h3,h4⟩:=base h;cases dr with
    |false=>refine zpo.2 ⟨⟨sl',hp'⟩,?_,h2,env',h3,h4⟩;simpa[y75]using h1
    |true=>
     have hap':ap=[]:=by simpa using hda
     subst hap';refine⟨.normal,⟨sl',hp'⟩,?_,h2,env',h3,h4⟩;rw[ztr];simp only[y75,if_true,dY]at h1;simp only[h1,y2l,y8p,List.all_nil,if_true,aq]
  ·cases hc
 |seq a b iha ihb=>
  intro tc hc Q env hp sl hl S h;simp only[y2w]at hc;split at hc
  ·rename_i x y hx hy;simp only[aa]at hc;subst hc;simp only[wT]at h;refine ygy.2 (zi6 (iha hx hl S h) ?_);rintro ex st' ⟨hl',env',S',hq⟩;cases ex with
   |normal=>exact ihb hy hl' S' hq
   |exit i=>exact⟨hl',env',S',hq⟩
   |ret=>exact⟨hl',env',S',hq⟩
  ·cases hc
 |cond c a b iha ihb=>
  intro tc hc Q env hp sl hl S h;cases c with
  |c d=>
   cases d with
   |undef=>simp only[y2w,aa]at hc;subst hc;exact h.elim
   |_=>simp[y2w]at hc
  |f k=>simp[y2w]at hc
  |t k=>
   simp only[y2w]at hc;split at hc
   ·rename_i hk;split at hc
    ·rename_i x y hx hy;simp only[aa]at hc;subst hc;simp only[wT,(S.get hk).2]at h;split at h
     ·rename_i t ht;simp only[aa]at ht;refine(ycu (b:=t) (by simp only[yq];exact ht)).2 ⟨fun e=>?_,fun e=>?_⟩
      ·subst e;simp only[if_true]at h;exact iha hx hl S h
      ·subst e;simp only[aT,if_false]at h;exact ihb hy hl S h
     ·exact h.elim
    ·cases hc
   ·cases hc
 |ifp c a b iha ihb=>
  intro tc hc Q env hp sl hl S h;cases c with
  |c d=>simp[y2w]at hc
  |f k=>simp[y2w]at hc
  |t k=>
   simp only[y2w]at hc;split at hc
   ·rename_i hk;split at hc
    ·rename_i x y hx hy;simp only[aa]at hc;subst hc;simp only[wT,(S.get hk).2]at h;split at h
     ·rename_i hm;exact zz1.2 ((if_pos (show yy (yq sl (.t k))=true from hm)).mpr (iha hx hl S h))
     ·rename_i hm;exact zz1.2 ((if_neg (show ¬ yy (yq sl (.t k))=true from hm)).mpr (ihb hy hl S h))
    ·cases hc
   ·cases hc
 |block id a iha=>
  intro tc hc Q env hp sl hl S h;simp only[y2w]at hc;split at hc
  ·rename_i x hx;simp only[aa]at hc;subst hc;simp only[wT]at h;refine zv7.2 (zi6 (iha hx hl S h) ?_);rintro ex st' ⟨hl',env',S',hq⟩;cases ex with
   |normal=>exact⟨hl',env',S',hq⟩
   |exit i=>exact⟨hl',env',S',hq⟩
   |ret=>exact⟨hl',env',S',hq⟩
  ·cases hc
 |loop a iha=>
  intro tc hc Q env hp sl hl S h;simp only[y2w]at hc;split at hc
  ·rename_i x hx;simp only[aa]at hc;subst hc;simp only[wT]at h;obtain⟨I,k,hI,step⟩:=h;refine ycs (fun k st=>st.sl.length=N /\ ∃ env,y6u nm env st.sl/\I k env st.hp) ?_ k ⟨sl,hp⟩ ⟨hl,env,S,hI⟩
   rintro k ⟨sl,hp⟩ ⟨hl,env,S,hI⟩;refine zi6 (iha hx hl S (step k env hp hI)) ?_;rintro ex st' ⟨hl',env',S',hq⟩;cases ex with
   |normal=>obtain⟨k',hk,hI'⟩:=hq;exact⟨k',hk,hl',env',S',hI'⟩
   |exit i=>exact⟨hl',env',S',hq⟩
   |ret=>exact⟨hl',env',S',hq⟩
  ·cases hc
 |rfunc f ps asg body iha ihb=>
  intro tc hc Q env hp sl hl S h;cases f with
  |c d=>simp[y2w]at hc
  |f k=>simp[y2w]at hc
  |t f=>
   simp only[y2w]at hc;split at hc
   ·rename_i hk;simp only[ak]at hk;split at hc
    ·rename_i x y hx hy;simp only[aa]at hc;subst hc;simp only[wT]at h;obtain⟨k,caps,h1,h2⟩:=h;have hf:y6o E (sl.getD f .undef)=.fn k caps:=by have:=(S.get hk.1).2;rw[this]at h1;simpa using h1
     obtain⟨d,hp',h3,h4⟩:=h2 (fun b p=>.loop b sl ps asg body p) ⟨_,_,_,_,rfl⟩ (by
      intro args hp1 K hlen hat hw;have hlen':args.length=ps.length:=by simpa using hlen
      obtain⟨hsl,S1⟩:=zap nd ps args sl env hk.2 hl S;obtain⟨ex,st1,r1,hl1,env1,S1',rfl,hat1,hw1⟩:=iha hx hsl S1 hw;obtain⟨ex2,st2,r2,hl2,env2,S2',hat2,hK⟩:=ihb hy (sl:=st1.sl) (hp:=st1.hp.set hp.length (.loop true sl ps asg body none)) hl1 S1' hw1;unfold y3d;simp only[hat,hlen',if_true,r1,hat1,r2,hat2];cases ex2 with
      |normal=>exact⟨_,_,rfl,hK⟩
      |exit i=>exact⟨_,_,rfl,hK⟩
      |ret=>exact⟨_,_,rfl,hK⟩)
     rcases h4 with⟨h5,h6⟩ | ⟨ex,h5,h6⟩
     ·refine⟨.normal,⟨sl,hp'.set hp.length .dead⟩,?_,hl,env,S,h6⟩;rw[zm4];simp only[yq,hf,h3,h5]
     ·refine⟨ex,⟨sl,hp'.set hp.length .dead⟩,?_,hl,env,S,h6⟩;rw[zm4];simp only[yq,hf,h3,h5]
    ·cases hc
   ·cases hc
end
end Dv
namespace Dv
def y3q(E:Env)(env:List D)(hp:List Obj):List (Nat × Option Nat)->Option (List D)
 |[]=>some []
 |(i,none)::r=>(match env[i]?,y3q E env hp r with
  |some d,some l=>some (d::l)
  |_,_=>none)
 |(i,some t)::r=>(match env[i]? with
  |some a=>(match y1c E hp t a,y3q E env hp r with
   |some d,some l=>some (d::l)
   |_,_=>none)
  |none=>none)
def yad(nm:List Nat):List RV->List (Nat × Option Nat)->Bool
 |[],[]=>true
 |.tmp t::r,(i,none)::is=>nm.contains t && nm.idxOf t == i && yad nm r is
 |.cell a t::r,(i,some t')::is=>nm.contains a && nm.idxOf a == i && t == t' && yad nm r is
 |_,_=>false
def Ret(E:Env)(is:List (Nat × Option Nat))(R:D->List Obj->Prop):Ex->List D->List Obj->Prop:=fun ex env hp=>(ex=.ret\/ex=.normal) /\ ∃ l,y3q E env hp is=some l/\R (y2r l) hp
section
variable{E:Env}
structure TF(E:Env)(f:Nat)(nm:List Nat)(is:List (Nat × Option Nat))(tc:TC)(N:Nat):Prop where
 ex:∃ F,E.fn f=some F/\F.ntmps=N/\y2w nm F.ntmps F.body=some tc/\nm.Nodup/\nm.all (fun s=>decide (s<F.ntmps))=true/\yad nm F.results is=true
def y9l:List Nat->Bool
 |[]=>true
 |x::r=>!r.contains x && y9l r
def zgw:∀{l:List Nat},y9l l=true->l.Nodup
 |[],_=>List.nodup_nil
 |x::r,h=>by simp only[y9l,ak,ci]at h;exact List.nodup_cons.2 ⟨by simpa using h.1,zgw h.2⟩
def zi{f:Nat}{nm:List Nat}{is:List (Nat × Option Nat)}{tc:TC}{F:DFn}(h:E.fn f=some F:=by rfl)(hc:y2w nm F.ntmps F.body=some tc:=by kernel_rfl)(hb:(y9l nm && nm.all (fun s=>decide (s<F.ntmps)) && yad nm F.results is)=true:=by decide):TF E f nm is tc F.ntmps:=by simp only[ak]at hb;exact⟨F,h,rfl,hc,zgw hb.1.1,hb.1.2,hb.2⟩
def zqq{nm:List Nat}{env:List D}{st:St}(S:y6u nm env st.sl):∀{rs:List RV} {is:List (Nat × Option Nat)} {l:List D},yad nm rs is=true->y3q E env st.hp is=some l->y6c E st rs=some l
 |[],[],l,_,h=>by simp only[y3q,aa]at h;subst h;rfl
 |.tmp t::r,(i,none)::is,l,h,h'=>by
  simp only[yad,ak,beq_iff_eq]at h;simp only[y3q]at h';split at h'
  ·rename_i d l' h1 h2;simp only[aa]at h';subst h';have:=(S.get h.1.1).2;rw[h.1.2,h1]at this;simp only[aa]at this;simp only[y6c,zqq S h.2 h2,this]
  ·cases h'
 |.cell a t::r,(i,some t')::is,l,h,h'=>by
  simp only[yad,ak,beq_iff_eq]at h;simp only[y3q]at h';split at h'
  ·rename_i p hp;split at h'
   ·rename_i d l' h1 h2;simp only[aa]at h';subst h';have:=(S.get h.1.1.1).2;rw[h.1.1.2,hp]at this;simp only[aa]at this;rw[<- h.1.2,this]at h1;simp only[y6c,zqq S h.2 h2,h1]
   ·cases h'
  ·cases h'
 |.cell _ _::_,[],_,h,_=>by simp[yad]at h
 |.cell _ _::_,(_,none)::_,_,h,_=>by simp[yad]at h
 |[],_::_,_,h,_=>by simp[yad]at h
 |.tmp _::_,[],_,h,_=>by simp[yad]at h
 |.tmp _::_,(_,some _)::_,_,h,_=>by simp[yad]at h
def y2p(nm:List Nat)(args:List D):List D:=nm.map fun s=>args.getD s .undef
def zmu{nm:List Nat}{args:List D}{N:Nat}:y6u nm (y2p nm args) (args++ah (N - args.length) .undef):=by
 refine⟨by simp[y2p],fun i s h=>?_⟩
 simp only[y2p,List.getElem?_map,h,aq,aa];simp only[af]
 by_cases hs:s<args.length
 ·rw[List.getElem?_append_left hs]
 ·rw[List.getElem?_append_right (by omega),List.getElem?_eq_none (by omega)]
  cases h2:(ah (N - args.length) D.undef)[s - args.length]? with
  |none=>rfl
  |some d=>have:=bA h2;rw[List.mem_replicate]at this;rw[this.2];rfl
def z1j{f:Nat}{nm:List Nat}{is:List (Nat × Option Nat)}{tc:TC}{N:Nat}(t:TF E f nm is tc N){args:List D}{hp:List Obj}{R:D->List Obj->Prop}(hl:args.length<=N)
  (h:wT E tc (Ret E is R) (y2p nm args) hp) (hb:E.mp f=false:=by rfl):∃ d hp',y1j E (dL E) f args hp=some (d,hp')/\R d hp':=by
 obtain⟨F,hF,rfl,hc,nd,hN,hr⟩:=t.ex;obtain⟨ex,st',h1,h2,env',S,⟨hx,l,hg,hR⟩⟩:=zxw nd hN hc (sl:=args++ah (F.ntmps - args.length) .undef) (by simp;omega) zmu h
 have hres:=zqq (E:=E) S hr hg;refine⟨y2r l,st'.hp,?_,hR⟩;unfold y1j;simp only[hF,yp,h1,hb,y2s];rcases hx with rfl | rfl <;> simp only[y29,hres,aq]
def zg{f:Nat}{nm:List Nat}{is:List (Nat × Option Nat)}{tc:TC}{N:Nat}(t:TF E f nm is tc N){args:List D}{r:D}(hl:args.length<=N)
  (h:wT E tc (Ret E is fun d hp=>frz hp depth d=some r) (y2p nm args) []) (hk:E.keep f=false:=by rfl) (hb:E.mp f=false:=by rfl):yu E (dL E) f args=some r:=by
 obtain⟨d,hp',h1,h2⟩:=z1j t hl h hb;unfold yu;simp only[h1,hk,ybe,h2]
def zqn{f:Nat}{nm:List Nat}{is:List (Nat × Option Nat)}{tc:TC}{N:Nat}(t:TF E f nm is tc N){args:List D}{r:D}(hl:args.length<=N)
  (h:wT E tc (Ret E is fun d hp=>yc4 hp depth d=some r) (y2p nm args) []) (hk:E.keep f=true:=by rfl) (hb:E.mp f=false:=by rfl):yu E (dL E) f args=some r:=by
 obtain⟨d,hp',h1,h2⟩:=z1j t hl h hb;unfold yu;simp only[h1,hk,ybe,h2]
end
end Dv
namespace Dv
section
variable{E:Env}{Q:Ex->List D->List Obj->Prop}{env:List D}{hp:List Obj}
def yd1:wT E .skip Q env hp=Q .normal env hp:=rfl
def yh6:wT E .ret Q env hp=Q .ret env hp:=rfl
def yd3{id:Nat}:wT E (.exit id) Q env hp=Q (.exit id) env hp:=rfl
def yh5{a b:TC}:wT E (.seq a b) Q env hp=wT E a (fun ex env' hp'=>match ex with
  |.normal=>wT E b Q env' hp'
  |ex=>Q ex env' hp') env hp:=rfl
def zv8{id:Nat}{a:TC}:wT E (.block id a) Q env hp=wT E a (fun ex env' hp'=>match ex with
  |.exit i=>Q (if i=id then .normal else .exit i) env' hp'
  |ex=>Q ex env' hp') env hp:=rfl
def wK{l:List (Nat × Nat)}:wT E (.chk l) Q env hp=(yfq env l=true/\Q .normal env hp):=rfl
def zy0:yfq env []=true:=rfl
def ztw{i j:Nat}{l:List (Nat × Nat)}:yfq env ((i,j)::l)=(yiv env (i,j) && yfq env l):=rfl
def z8c:∀{c:TC} {Q Q':Ex->List D->List Obj->Prop} {env:List D} {hp:List Obj},(∀ ex env hp,Q ex env hp->Q' ex env hp)->wT E c Q env hp->wT E c Q' env hp:=by
 intro c
 induction c with
 |skip=>intro Q Q' env hp hq h;exact hq _ _ _ h
 |ret=>intro Q Q' env hp hq h;exact hq _ _ _ h
 |exit id=>intro Q Q' env hp hq h;exact hq _ _ _ h
 |run pad l=>
  intro Q Q' env hp hq h;simp only[wT]at h ⊢;split at h
  ·exact hq _ _ _ h
  ·exact h.elim
 |seq a b iha ihb=>
  intro Q Q' env hp hq h;refine iha (fun ex env hp h=>?_) h
  cases ex with
  |normal=>exact ihb hq h
  |exit i=>exact hq _ _ _ h
  |ret=>exact hq _ _ _ h
 |cond i a b iha ihb=>
  intro Q Q' env hp hq h;simp only[wT]at h ⊢;split at h
  ·split at h
   ·rename_i ht;rw[if_pos ht];exact iha hq h
   ·rename_i ht;rw[if_neg ht];exact ihb hq h
  ·exact h.elim
 |ifp i a b iha ihb=>
  intro Q Q' env hp hq h;simp only[wT]at h ⊢;split at h
  ·split at h
   ·rename_i ht;rw[if_pos ht];exact iha hq h
   ·rename_i ht;rw[if_neg ht];exact ihb hq h
  ·exact h.elim
 |dead=>intro Q Q' env hp hq h;exact h.elim
 |block id a iha=>
  intro Q Q' env hp hq h;refine iha (fun ex env hp h=>?_) h
  cases ex <;> exact hq _ _ _ h
 |loop a iha=>
  intro Q Q' env hp hq h;obtain⟨I,k,hI,step⟩:=h;refine⟨I,k,hI,fun k env hp hI=>iha (fun ex env hp h=>?_) (step k env hp hI)⟩
  cases ex with
  |normal=>exact h
  |exit i=>exact hq _ _ _ h
  |ret=>exact hq _ _ _ h
 |chk l=>intro Q Q' env hp hq h;exact⟨h.1,hq _ _ _ h.2⟩
 |rfunc i ps a b iha ihb=>
  intro Q Q' env hp hq h;obtain⟨k,caps,h1,h2⟩:=h;refine⟨k,caps,h1,fun L hL hcb=>?_⟩
  obtain⟨d,hp',h3,h4⟩:=h2 L hL hcb;refine⟨d,hp',h3,?_⟩;rcases h4 with⟨h5,h6⟩ | ⟨ex,h5,h6⟩
  ·exact .inl ⟨h5,hq _ _ _ h6⟩
  ·exact .inr ⟨ex,h5,hq _ _ _ h6⟩
def z1f{E:Env}{c:TC}{Q:Ex->List D->List Obj->Prop}{env env':List D}{hp hp':List Obj}(h:env=env')(h':hp=hp'):wT E c Q env hp=wT E c Q env' hp':=by rw[h,h']
def zo{a:TC}(n:Nat)(I:Nat->List D->List Obj->Prop)(i:Nat)(hi:i<=n)(h0:I i env hp)
  (step:∀ i env hp,i<=n->I i env hp->wT E a (fun ex env' hp'=>match ex with
   |.normal=>i<n/\I (i+1) env' hp'
   |ex=>Q ex env' hp') env hp):wT E (.loop a) Q env hp:=by
 refine⟨fun k env hp=>∃ i,i<=n/\k=n - i/\I i env hp,n - i,⟨i,hi,rfl,h0⟩,?_⟩
 rintro k env hp ⟨i,hi,rfl,hI⟩;refine z8c (fun ex env' hp' h=>?_) (step i env hp hi hI)
 cases ex with
 |normal=>exact⟨n - (i+1),by omega,i+1,by omega,rfl,h.2⟩
 |exit _=>exact h
 |ret=>exact h
end
end Dv
namespace Dv
def ob{A B:Type}(x:Option A)(f:A->Option B):Option B:=x.bind f
def obP{A:Type}(x:Option A)(f:A->Prop):Prop:=match x with | some a=>f a | none=>False
def zc{A B:Type}{a:A}{f:A->Option B}:ob (some a) f=f a:=rfl
def zw3{A:Type}{a:A}{f:A->Prop}:obP (some a) f=f a:=rfl
def z1g{A B:Type}{x y:Option A}{f:A->Option B}(h:x=y):ob x f=ob y f:=by rw[h]
def z16{A:Type}{x y:Option A}{f:A->Prop}(h:x=y):obP x f=obP y f:=by rw[h]
section
variable{E:Env}{cP:Nat->List D->Option D}{env:List D}{hp:List Obj}
def z19{X:Option D}:(match Option.map (fun x=>(⟨x,none,none⟩:Ef)) X with | some e=>some e.d | none=>none)=X:=by cases X <;> rfl
def xv_v{i:Nat}:xv E cP env hp (.v i)=env[i]?:=by simp only[xv]
def xv_c{d:D}:xv E cP env hp (.c d)=some d:=by simp only[xv]
def yi7(t:D)(a b:Option D):Option D:=match t with
 |.bool t=>if t=true then a else b
 |_=>none
def yi6{t:Bool}{a b:Option D}:yi7 (.bool t) a b=if t=true then a else b:=rfl
def ygu{c a b:Xp}:xv E cP env hp (.ite c a b)=ob (xv E cP env hp c) fun t=>yi7 t (xv E cP env hp a) (xv E cP env hp b):=by
 simp only[xv];cases h:xv E cP env hp c with
 |none=>rfl
 |some d=>
  cases d with
  |bool t=>cases t <;> rfl
  |_=>rfl
def zpi{op:iT}{t:Nat}{a:Nat}{b:Nat}{x0:Xp}{x1:Xp}(h10:b ≠ a):xv E cP env hp (.n (.bin op t (.t a) (.t b)) (.cons a x0 (.cons b x1 .nil)))=ob (xv E cP env hp x0) fun u0=>ob (xv E cP env hp x1) fun u1=>y3h E op t u0 u1:=by
 simp only[xv,xvs];cases xv E cP env hp x0 <;> try rfl
 cases xv E cP env hp x1 <;> try rfl
 simp only[yb,al,aO,aq,ba,gOf,kv,zc,if_true,if_false,h10,↓reduceIte];exact z19
def zpj{op:iT}{t:Nat}{a:Nat}{x0:Xp}{d1:D}  : xv E cP env hp (.n (.bin op t (.t a) (.c d1)) (.cons a x0 .nil))=ob (xv E cP env hp x0) fun u0=>y3h E op t u0 d1:=by
 simp only[xv,xvs];cases xv E cP env hp x0 <;> try rfl
 simp only[yb,al,aO,aq,ba,gOf,kv,zc,if_true,if_false,↓reduceIte];exact z19
def zpk{op:iT}{t:Nat}{b:Nat}{x1:Xp}{d0:D}  : xv E cP env hp (.n (.bin op t (.c d0) (.t b)) (.cons b x1 .nil))=ob (xv E cP env hp x1) fun u1=>y3h E op t d0 u1:=by
 simp only[xv,xvs];cases xv E cP env hp x1 <;> try rfl
 simp only[yb,al,aO,aq,ba,gOf,kv,zc,if_true,if_false,↓reduceIte];exact z19
def zpl{op:iT}{t:Nat}{d0:D}{d1:D}  : xv E cP env hp (.n (.bin op t (.c d0) (.c d1)) .nil)=y3h E op t d0 d1:=by simp only[xv,xvs];simp only[yb,al,aO,aq,ba,gOf,kv,zc,if_true,if_false,↓reduceIte];exact z19
def yck{op:Go.UnOp}{a:Nat}{x0:Xp}  : xv E cP env hp (.n (.un op (.t a)) (.cons a x0 .nil))=ob (xv E cP env hp x0) fun u0=>unD op u0:=by
 simp only[xv,xvs];cases xv E cP env hp x0 <;> try rfl
 simp only[yb,al,aO,aq,ba,gOf,kv,zc,if_true,if_false,↓reduceIte];exact z19
def zpg{s1 s2:Nat}{a:Nat}{x0:Xp}  : xv E cP env hp (.n (.conv s1 s2 (.t a)) (.cons a x0 .nil))=ob (xv E cP env hp x0) fun u0=>y49 E s1 s2 u0:=by
 simp only[xv,xvs];cases xv E cP env hp x0 <;> try rfl
 simp only[yb,al,aO,aq,ba,gOf,kv,zc,if_true,if_false,↓reduceIte];exact z19
def ycn{t:Nat}{a:Nat}{x0:Xp}  : xv E cP env hp (.n (.load t (.t a)) (.cons a x0 .nil))=ob (xv E cP env hp x0) fun u0=>y1c E hp t u0:=by
 simp only[xv,xvs];cases xv E cP env hp x0 <;> try rfl
 simp only[yb,al,aO,aq,ba,gOf,kv,zc,if_true,if_false,↓reduceIte];exact z19
def ygt{t:Nat}{a:Nat}{x0:Xp}  : xv E cP env hp (.n (.len t (.t a)) (.cons a x0 .nil))=ob (xv E cP env hp x0) fun u0=>y7l E hp t u0:=by
 simp only[xv,xvs];cases xv E cP env hp x0 <;> try rfl
 simp only[yb,al,aO,aq,ba,gOf,kv,zc,if_true,if_false,↓reduceIte];exact z19
def zv3{t f:Nat}{a:Nat}{x0:Xp}  : xv E cP env hp (.n (.faddr t (.t a) f) (.cons a x0 .nil))=ob (xv E cP env hp x0) fun u0=>y69 E t u0 f:=by
 simp only[xv,xvs];cases xv E cP env hp x0 <;> try rfl
 simp only[yb,al,aO,aq,ba,gOf,kv,zc,if_true,if_false,↓reduceIte];exact z19
def zv2{t f:Nat}{a:Nat}{x0:Xp}  : xv E cP env hp (.n (.field t (.t a) f) (.cons a x0 .nil))=ob (xv E cP env hp x0) fun u0=>y9q E t u0 f:=by
 simp only[xv,xvs];cases xv E cP env hp x0 <;> try rfl
 simp only[yb,al,aO,aq,ba,gOf,kv,zc,if_true,if_false,↓reduceIte];exact z19
def zi2{t:Nat}{a:Nat}{b:Nat}{x0:Xp}{x1:Xp}(h10:b ≠ a):xv E cP env hp (.n (.iaddr t (.t a) (.t b)) (.cons a x0 (.cons b x1 .nil)))=ob (xv E cP env hp x0) fun u0=>ob (xv E cP env hp x1) fun u1=>y3w E t u0 u1:=by
 simp only[xv,xvs];cases xv E cP env hp x0 <;> try rfl
 cases xv E cP env hp x1 <;> try rfl
 simp only[yb,al,aO,aq,ba,gOf,kv,zc,if_true,if_false,h10,↓reduceIte];exact z19
def zi3{t:Nat}{a:Nat}{x0:Xp}{d1:D}  : xv E cP env hp (.n (.iaddr t (.t a) (.c d1)) (.cons a x0 .nil))=ob (xv E cP env hp x0) fun u0=>y3w E t u0 d1:=by
 simp only[xv,xvs];cases xv E cP env hp x0 <;> try rfl
 simp only[yb,al,aO,aq,ba,gOf,kv,zc,if_true,if_false,↓reduceIte];exact z19
def zi0{t:Nat}{a:Nat}{b:Nat}{x0:Xp}{x1:Xp}(h10:b ≠ a):xv E cP env hp (.n (.index t (.t a) (.t b)) (.cons a x0 (.cons b x1 .nil)))=ob (xv E cP env hp x0) fun u0=>ob (xv E cP env hp x1) fun u1=>y6m E t u0 u1:=by
 simp only[xv,xvs];cases xv E cP env hp x0 <;> try rfl
 cases xv E cP env hp x1 <;> try rfl
 simp only[yb,al,aO,aq,ba,gOf,kv,zc,if_true,if_false,h10,↓reduceIte];exact z19
def zi1{t:Nat}{a:Nat}{x0:Xp}{d1:D}  : xv E cP env hp (.n (.index t (.t a) (.c d1)) (.cons a x0 .nil))=ob (xv E cP env hp x0) fun u0=>y6m E t u0 d1:=by
 simp only[xv,xvs];cases xv E cP env hp x0 <;> try rfl
 simp only[yb,al,aO,aq,ba,gOf,kv,zc,if_true,if_false,↓reduceIte];exact z19
def zfo{t:Nat}{ok:Bool}{a:Nat}{b:Nat}{x0:Xp}{x1:Xp}(h10:b ≠ a):xv E cP env hp (.n (.lookup t (.t a) (.t b) ok) (.cons a x0 (.cons b x1 .nil)))=ob (xv E cP env hp x0) fun u0=>ob (xv E cP env hp x1) fun u1=>y2f E hp t u0 u1 ok:=by
 simp only[xv,xvs];cases xv E cP env hp x0 <;> try rfl
 cases xv E cP env hp x1 <;> try rfl
 simp only[yb,al,aO,aq,ba,gOf,kv,zc,if_true,if_false,h10,↓reduceIte];exact z19
def zpc  {a:Nat} {b:Nat} {x0:Xp} {x1:Xp} (h10:b ≠ a):xv E cP env hp (.n (.maxi [(.t a),(.t b)]) (.cons a x0 (.cons b x1 .nil)))=ob (xv E cP env hp x0) fun u0=>ob (xv E cP env hp x1) fun u1=>y8c [u0,u1]:=by
 simp only[xv,xvs];cases xv E cP env hp x0 <;> try rfl
 cases xv E cP env hp x1 <;> try rfl
 simp only[yb,al,aO,aq,ba,gOf,kv,zc,if_true,if_false,h10,↓reduceIte];exact z19
def zp9  {a:Nat} {b:Nat} {x0:Xp} {x1:Xp} (h10:b ≠ a):xv E cP env hp (.n (.mini [(.t a),(.t b)]) (.cons a x0 (.cons b x1 .nil)))=ob (xv E cP env hp x0) fun u0=>ob (xv E cP env hp x1) fun u1=>y8b [u0,u1]:=by
 simp only[xv,xvs];cases xv E cP env hp x0 <;> try rfl
 cases xv E cP env hp x1 <;> try rfl
 simp only[yb,al,aO,aq,ba,gOf,kv,zc,if_true,if_false,h10,↓reduceIte];exact z19
def zpd  {a:Nat} {x0:Xp} {d1:D}  : xv E cP env hp (.n (.maxi [(.t a),(.c d1)]) (.cons a x0 .nil))=ob (xv E cP env hp x0) fun u0=>y8c [u0,d1]:=by
 simp only[xv,xvs];cases xv E cP env hp x0 <;> try rfl
 simp only[yb,al,aO,aq,ba,gOf,kv,zc,if_true,if_false,↓reduceIte];exact z19
def zpa  {a:Nat} {x0:Xp} {d1:D}  : xv E cP env hp (.n (.mini [(.t a),(.c d1)]) (.cons a x0 .nil))=ob (xv E cP env hp x0) fun u0=>y8b [u0,d1]:=by
 simp only[xv,xvs];cases xv E cP env hp x0 <;> try rfl
 simp only[yb,al,aO,aq,ba,gOf,kv,zc,if_true,if_false,↓reduceIte];exact z19
def zpe  {b:Nat} {x1:Xp} {d0:D}  : xv E cP env hp (.n (.maxi [(.c d0),(.t b)]) (.cons b x1 .nil))=ob (xv E cP env hp x1) fun u1=>y8c [d0,u1]:=by
 simp only[xv,xvs];cases xv E cP env hp x1 <;> try rfl
 simp only[yb,al,aO,aq,ba,gOf,kv,zc,if_true,if_false,↓reduceIte];exact z19
def zpb  {b:Nat} {x1:Xp} {d0:D}  : xv E cP env hp (.n (.mini [(.c d0),(.t b)]) (.cons b x1 .nil))=ob (xv E cP env hp x1) fun u1=>y8b [d0,u1]:=by
 simp only[xv,xvs];cases xv E cP env hp x1 <;> try rfl
 simp only[yb,al,aO,aq,ba,gOf,kv,zc,if_true,if_false,↓reduceIte];exact z19
def zdz{t:Nat}{a:Nat}{b:Nat}{x0:Xp}{x1:Xp}(h10:b ≠ a):xv E cP env hp (.n (.slice t (.t a) (some (.t b)) none none) (.cons a x0 (.cons b x1 .nil)))=ob (xv E cP env hp x0) fun u0=>ob (xv E cP env hp x1) fun u1=>y13 E t u0 (some u1) none none:=by
 simp only[xv,xvs];cases xv E cP env hp x0 <;> try rfl
 cases xv E cP env hp x1 <;> try rfl
 simp only[yb,al,aO,aq,ba,gOf,kv,zc,if_true,if_false,h10,↓reduceIte];exact z19
def ze0{t:Nat}{a:Nat}{x0:Xp}{d1:D}  : xv E cP env hp (.n (.slice t (.t a) (some (.c d1)) none none) (.cons a x0 .nil))=ob (xv E cP env hp x0) fun u0=>y13 E t u0 (some d1) none none:=by
 simp only[xv,xvs];cases xv E cP env hp x0 <;> try rfl
 simp only[yb,al,aO,aq,ba,gOf,kv,zc,if_true,if_false,↓reduceIte];exact z19
def ze1{t:Nat}{a:Nat}{b:Nat}{x0:Xp}{x1:Xp}(h10:b ≠ a):xv E cP env hp (.n (.slice t (.t a) none (some (.t b)) none) (.cons a x0 (.cons b x1 .nil)))=ob (xv E cP env hp x0) fun u0=>ob (xv E cP env hp x1) fun u1=>y13 E t u0 none (some u1) none:=by
 simp only[xv,xvs];cases xv E cP env hp x0 <;> try rfl
 cases xv E cP env hp x1 <;> try rfl
 simp only[yb,al,aO,aq,ba,gOf,kv,zc,if_true,if_false,h10,↓reduceIte];exact z19
def zfn{t:Nat}{a:Nat}{x0:Xp}  : xv E cP env hp (.n (.slice t (.t a) none none none) (.cons a x0 .nil))=ob (xv E cP env hp x0) fun u0=>y13 E t u0 none none none:=by
 simp only[xv,xvs];cases xv E cP env hp x0 <;> try rfl
 simp only[yb,al,aO,aq,ba,gOf,kv,zc,if_true,if_false,↓reduceIte];exact z19
def zml{a:Nat}{x:Xp}{i:Nat}:xv E cP env hp (.n (.extract (.t a) i) (.cons a x .nil))=ob (xv E cP env hp x) fun u=>match u with | .tup vs=>vs[i]? | _=>none:=by
 simp only[xv,xvs];cases xv E cP env hp x with
 |none=>rfl
 |some d=>
  simp only[yb,gOf,kv,zc,if_true];cases d <;> try rfl
  rename_i vs;simp only[];cases vs[i]? <;> rfl
def ybt(cP:Nat->List D->Option D)(f:D)(args:List D):Option D:=match f with
 |.fn k caps=>(match y1k (frz [] depth) (args++caps)with
  |some vs=>cP k vs
  |none=>none)
 |_=>none
def ycp{f:Opd}{as:List Opd}{ks:Xs}:xv E cP env hp (.n (.call 0 f as) ks)=ob (xvs E cP env hp ks) fun vs=>ybt cP (gOf vs f) (as.map (gOf vs)):=by
 simp only[xv];cases xvs E cP env hp ks with
 |none=>rfl
 |some vs=>
  simp only[yb,zc,ybt];cases gOf vs f <;> try rfl
  rename_i k caps;simp only[];cases y1k (frz [] depth) (as.map (gOf vs)++caps)with
  |none=>rfl
  |some l=>simp only[];cases cP k l <;> rfl
def ycj:xvs E cP env hp .nil=some []:=by simp only[xvs]
def zuz{s:Nat}{x:Xp}{r:Xs}:xvs E cP env hp (.cons s x r)=ob (xv E cP env hp x) fun d=>ob (xvs E cP env hp r) fun l=>some ((s,d)::l):=by
 simp only[xvs];cases xv E cP env hp x with
 |none=>rfl
 |some d=>simp only[zc];cases xvs E cP env hp r <;> rfl
def y9a(E:Env)(t len:Nat)(ps:List (Nat × D)):Option D:=match (E.ty t).k with
 |.slice e=>(match y28 E e with
  |some z=>if len*(E.ty e).size<=16777216 then(match y7c (E.ty e).size (ah len z) ps with
   |some els=>some (.imm .exact els)
   |none=>none)else none
  |none=>none)
 |_=>none
def zph{t len:Nat}{ps:List (Nat × Opd)}{ks:Xs}:xv E cP env hp (.n (.bslice false t len ps) ks)=ob (xvs E cP env hp ks) fun vs=>y9a E t len (ps.map fun p=>(p.1,gOf vs p.2)):=by
 simp only[xv];cases xvs E cP env hp ks with
 |none=>rfl
 |some vs=>
  simp only[yb,zc,y9a,aT,false_and,if_false];cases (E.ty t).k <;> try rfl
  rename_i e;simp only[];cases hz:y28 E e with
  |none=>rfl
  |some z=>
   by_cases hh:len*(E.ty e).size<=16777216
   ·simp only[hh,if_true];cases y7c (E.ty e).size (ah len z) (ps.map fun p=>(p.1,gOf vs p.2)) <;> rfl
   ·simp only[hh,if_false]
def yb4(E:Env)(t:Nat)(ps:List (Nat × D)):Option D:=if(E.ty t).zero.length=(E.ty t).size/\(E.ty t).size ≠ 0 then y8n E t ps else none
def zv4{t:Nat}{ps:List (Nat × Opd)}{ks:Xs}:xv E cP env hp (.n (.build t ps) ks)=ob (xvs E cP env hp ks) fun vs=>yb4 E t (ps.map fun p=>(p.1,gOf vs p.2)):=by
 simp only[xv];cases xvs E cP env hp ks with
 |none=>rfl
 |some vs=>
  simp only[yb,zc,yb4]
  by_cases hh:(E.ty t).zero.length=(E.ty t).size/\(E.ty t).size ≠ 0
  ·simp only[if_pos hh];exact z19
  ·simp only[if_neg hh]
def ycm{f:Nat}{cs:List Opd}{ks:Xs}:xv E cP env hp (.n (.mkfn f cs) ks)=ob (xvs E cP env hp ks) fun vs=>some (.fn f (cs.map (gOf vs))):=by simp only[xv];cases xvs E cP env hp ks <;> rfl
def y6h(E:Env)(t:Nat)(l c:D):Option D:=match (E.ty t).k,l,c with
 |.slice e,.int _ l,.int _ c=>(match y28 E e with
  |some z=>if 0<=l/\l=c/\c*((E.ty e).bytes+1)<=yg then some (.imm .exact (ah l.toNat z))else none
  |none=>none)
 |_,_,_=>none
def opV(E:Env)(cP:Nat->List D->Option D)(hp:List Obj)(op:DOp)(vs:List (Nat × D)):Option D:=match yb E cP 0 (gOf vs) hp op with
 |some e=>some e.d
 |none=>none
def yjx{op:DOp}{ks:Xs}:xv E cP env hp (.n op ks)=ob (xvs E cP env hp ks) fun vs=>opV E cP hp op vs:=by simp only[xv];cases xvs E cP env hp ks <;> rfl
variable{cS cY:Nat->List D->List Obj->Option (D × List Obj)}{base:Nat}
def ydz:rTS E cP cS cY base [] env hp=some (env,hp):=rfl
def ye1{i:Nat}{x:Xp}{r:List TS}:rTS E cP cS cY base (.asg i x::r) env hp=ob (xv E cP env hp x) fun d=>rTS E cP cS cY base r (env.set i d) hp:=by simp only[rTS];cases xv E cP env hp x <;> rfl
def ye0{dst:Option Nat}{op:DOp}{ks:Xs}{r:List TS}:rTS E cP cS cY base (.eff none dst op ks none::r) env hp=ob (xvs E cP env hp ks) fun vs=>ob (yf E cP cS cY hp.length (gOf vs) hp op) fun p=>rTS E cP cS cY base r (ya2 env dst p.1) p.2:=by
 simp only[rTS,gdT];cases xvs E cP env hp ks with
 |none=>rfl
 |some vs=>simp only[zc];cases yf E cP cS cY hp.length (gOf vs) hp op <;> rfl
def zvp{k:Nat}{dst:Option Nat}{op:DOp}{ks:Xs}{r:List TS}:rTS E cP cS cY base (.eff none dst op ks (some k)::r) env hp=ob (xvs E cP env hp ks) fun vs=>ob (yf E cP cS cY (base+k) (gOf vs) hp op) fun p=>rTS E cP cS cY base r (ya2 env dst p.1) p.2:=by
 simp only[rTS,gdT];cases xvs E cP env hp ks with
 |none=>rfl
 |some vs=>simp only[zc];cases yf E cP cS cY (base+k) (gOf vs) hp op <;> rfl
variable{Q:Ex->List D->List Obj->Prop}
def wR{l:List TS}:wT E (.run 0 l) Q env hp=obP (rTS E (yu E (dL E)) (y1j E (dL E)) (y3d (dL E)) hp.length l env hp) fun p=>Q .normal p.1 p.2:=by simp only[wT,List.replicate_zero,List.append_nil,rTL];cases rTS E (yu E (dL E)) (y1j E (dL E)) (y3d (dL E)) hp.length l env hp <;> rfl
def wRp{n:Nat}{l:List TS}:wT E (.run n l) Q env hp=obP (rTS E (yu E (dL E)) (y1j E (dL E)) (y3d (dL E)) hp.length l env (hp++ah n .dead)) fun p=>Q .normal p.1 p.2:=by simp only[wT,rTL];cases rTS E (yu E (dL E)) (y1j E (dL E)) (y3d (dL E)) hp.length l env (hp++ah n .dead) <;> rfl
def ybs(t:D)(a b:Prop):Prop:=match t with
 |.bool t=>if t=true then a else b
 |_=>False
def yfm{t:Bool}{a b:Prop}:ybs (.bool t) a b=if t=true then a else b:=rfl
def zx{t t':D}{a b:Prop}(h:t=t'):ybs t a b=ybs t' a b:=by rw[h]
def z12{t t':D}{a b:Option D}(h:t=t'):yi7 t a b=yi7 t' a b:=by rw[h]
def wC{i:Nat}{a b:TC}:wT E (.cond i a b) Q env hp=obP env[i]? fun t=>ybs t (wT E a Q env hp) (wT E b Q env hp):=by
 simp only[wT];cases env[i]? with
 |none=>rfl
 |some d=>cases d <;> rfl
end
end Dv
namespace Dv
section
variable{E:Env}{cP:Nat->List D->Option D}{cS cY:Nat->List D->List Obj->Option (D × List Obj)}{env:List D}{hp:List Obj}{t id:Nat}{g:Opd->D}
def zyi{k:bj}{a b:Int}:y3h E .add t (.int k a) (.int k b)=some (.int k (k.wrap (a+b))):=by simp[y3h,y38]
def zy7{k:bj}{a b:Int}:y3h E .sub t (.int k a) (.int k b)=some (.int k (k.wrap (a - b))):=by simp[y3h,y38]
def zyb{k:bj}{a b:Int}:y3h E .mul t (.int k a) (.int k b)=some (.int k (k.wrap (a*b))):=by simp[y3h,y38]
def zyg{k:bj}{a b:Int}:y3h E .eql t (.int k a) (.int k b)=some (.bool (a == b)):=by simp[y3h,y38]
def zya{k:bj}{a b:Int}:y3h E .neq t (.int k a) (.int k b)=some (.bool (a != b)):=by simp[y3h,y38]
def zyc{k:bj}{a b:Int}:y3h E .lss t (.int k a) (.int k b)=some (.bool (decide (a<b))):=by simp[y3h,y38]
def zyd{k:bj}{a b:Int}:y3h E .leq t (.int k a) (.int k b)=some (.bool (decide (a<=b))):=by simp[y3h,y38]
def zye{k:bj}{a b:Int}:y3h E .gtr t (.int k a) (.int k b)=some (.bool (decide (b<a))):=by simp[y3h,y38]
def zyf{k:bj}{a b:Int}:y3h E .geq t (.int k a) (.int k b)=some (.bool (decide (b<=a))):=by simp[y3h,y38]
def yiz{a b:Bool}:y3h E .eql t (.bool a) (.bool b)=(match (E.ty t).k with | .bool=>some (.bool (a == b)) | _=>none):=by simp only[y3h];cases (E.ty t).k <;> rfl
def zue{a b:Bool}:y3h E .neq t (.bool a) (.bool b)=(match (E.ty t).k with | .bool=>some (.bool (!(a == b))) | _=>none):=by simp only[y3h];cases (E.ty t).k <;> rfl
def zug{a b:List D}:y3h E .eql t (.agg a) (.agg b)=if(E.ty t).eqc=true/\y24 a (E.ty t).zero=true then ob (eqL a b) (fun r=>some (.bool r))else none:=by
 simp only[y3h];split
 ·cases eqL a b <;> rfl
 ·rfl
def zuf{a b:List D}:y3h E .neq t (.agg a) (.agg b)=if(E.ty t).eqc=true/\y24 a (E.ty t).zero=true then ob (eqL a b) (fun r=>some (.bool (!r)))else none:=by
 simp only[y3h];split
 ·cases eqL a b <;> rfl
 ·rfl
def ydb{b:Bool}:unD .not (.bool b)=some (.bool (!b)):=rfl
def ydc{k:bj}{n:Int}:unD .neg (.int k n)=some (.int k (k.wrap (0 - n))):=rfl
def zwe{sp:yt}{els:List D}:y7l E hp t (.imm sp els)=(match (E.ty t).k with | .slice _=>some (.int .i64 els.length) | .arr n _=>some (.int .i64 n) | _=>none):=by unfold y7l;cases (E.ty t).k <;> rfl
def yel{i off len sz:Nat}{ag gr:Bool}:y7l E hp t (.sl i off len sz ag gr)=(match (E.ty t).k with | .slice _=>some (.int .i64 len) | .arr n _=>some (.int .i64 n) | _=>none):=by unfold y7l;cases (E.ty t).k <;> rfl
def zwc{s:List UInt8}:y7l E hp t (.str s)=(match (E.ty t).k with | .str=>some (.int .i64 s.length) | .arr n _=>some (.int .i64 n) | _=>none):=by unfold y7l;cases (E.ty t).k <;> rfl
def ya1(o:Option Obj):Option (List D):=match o with
 |some (.cells cs)=>some cs
 |some (.frozen cs)=>some cs
 |_=>none
def z6y{cs:List D}:ya1 (some (.cells cs))=some cs:=rfl
def z99{cs:List D}:ya1 (some (.frozen cs))=some cs:=rfl
def z1c{i off:Nat}:y1c E hp t (.loc i off)=ob (ya1 hp[i]?) fun cs=>ob (y2d cs off (E.ty t).size) (ym (E.ty t).ag):=by
 simp only[y1c];cases hp[i]? with
 |none=>rfl
 |some o=>cases o <;> rfl
def z8i{cs:List D}:y1c E hp t (.iptr cs)=ob (y2d cs 0 (E.ty t).size) (ym (E.ty t).ag):=rfl
def zo9{sp:yt}{els:List D}{k:bj}{n:Int}:y3w E t (.imm sp els) (.int k n)=(match (E.ty t).k with | .slice e=>if 0<=n then ob els[n.toNat]? (fun d=>if d.cellsL.length=(E.ty e).size then some (.iptr d.cellsL)else none)else none | _=>none):=by
 unfold y3w;cases (E.ty t).k <;> try rfl
 by_cases h:0<=n
 ·simp only[h,if_true];cases els[n.toNat]? <;> rfl
 ·simp only[h,if_false]
def zsc{i off len sz:Nat}{ag gr:Bool}{k:bj}{n:Int}:y3w E t (.sl i off len sz ag gr) (.int k n)=(match (E.ty t).k with | .slice e=>if 0<=n/\n<len/\sz=(E.ty e).size then some (.loc i (off+n.toNat*sz))else none | _=>none):=by unfold y3w;cases (E.ty t).k <;> rfl
def zo8{i off:Nat}{k:bj}{n:Int}:y3w E t (.loc i off) (.int k n)=(match (E.ty t).k with | .arr len e=>if 0<=n/\n<len then some (.loc i (off+n.toNat*(E.ty e).size))else none | _=>none):=by unfold y3w;cases (E.ty t).k <;> rfl
def zom{i off f:Nat}:y69 E t (.loc i off) f=(match (E.ty t).k with | .struct fs=>ob fs[f]? (fun p=>if(E.ty p.2).size=0 then none else some (.loc i (off+p.1))) | _=>none):=by
 unfold y69;cases (E.ty t).k <;> try rfl
 rename_i fs;simp only[];cases fs[f]? <;> rfl
def zjp{cs:List D}{f:Nat}:y69 E t (.iptr cs) f=(match (E.ty t).k with | .struct fs=>ob fs[f]? (fun p=>if(E.ty p.2).size=0 then none else some (.iptr (cs.drop p.1))) | _=>none):=by
 unfold y69;cases (E.ty t).k <;> try rfl
 rename_i fs;simp only[];cases fs[f]? <;> rfl
def zo6{cs:List D}{k:bj}{n:Int}:y6m E t (.agg cs) (.int k n)=(match (E.ty t).k with | .arr len e=>if 0<=n/\n<len then ob (y2d cs (n.toNat*(E.ty e).size) (E.ty e).size) (ym (E.ty e).ag)else none | _=>none):=by unfold y6m;cases (E.ty t).k <;> rfl
def zjz{b:Bool}:D.cellsL (.bool b)=[.bool b]:=rfl
def zqa{b:Bool}:D.storable (.bool b)=true:=rfl
def zun{b:Bool}:D.atom (.bool b)=true:=rfl
def zp0{k:bj}{n:Int}:D.cellsL (.int k n)=[.int k n]:=rfl
def zvh{k:bj}{n:Int}:D.storable (.int k n)=true:=rfl
def zyo{k:bj}{n:Int}:D.atom (.int k n)=true:=rfl
def zox{s:List UInt8}:D.cellsL (.str s)=[.str s]:=rfl
def zve{s:List UInt8}:D.storable (.str s)=true:=rfl
def zyl{s:List UInt8}:D.atom (.str s)=true:=rfl
def zp1{sp:yt}{els:List D}:D.cellsL (.imm sp els)=[.imm sp els]:=rfl
def zvi{sp:yt}{els:List D}:D.storable (.imm sp els)=true:=rfl
def zyp{sp:yt}{els:List D}:D.atom (.imm sp els)=true:=rfl
def zty{i off len sz:Nat}{ag gr:Bool}:D.cellsL (.sl i off len sz ag gr)=[.sl i off len sz ag gr]:=rfl
def ydm{i off len sz:Nat}{ag gr:Bool}:D.storable (.sl i off len sz ag gr)=true:=rfl
def yfz{i off len sz:Nat}{ag gr:Bool}:D.atom (.sl i off len sz ag gr)=true:=rfl
def zoz{i off:Nat}:D.cellsL (.loc i off)=[.loc i off]:=rfl
def zvg{i off:Nat}:D.storable (.loc i off)=true:=rfl
def zyn{i off:Nat}:D.atom (.loc i off)=true:=rfl
def zjy{cs:List D}:D.cellsL (.iptr cs)=[.iptr cs]:=rfl
def zq9{cs:List D}:D.storable (.iptr cs)=true:=rfl
def zum{cs:List D}:D.atom (.iptr cs)=true:=rfl
def zoy{m:Option Nat}:D.cellsL (.map m)=[.map m]:=rfl
def zvf{m:Option Nat}:D.storable (.map m)=true:=rfl
def zym{m:Option Nat}:D.atom (.map m)=true:=rfl
def ztz{f:Nat}{cs:List D}:D.cellsL (.fn f cs)=[.fn f cs]:=rfl
def ydn{f:Nat}{cs:List D}:D.storable (.fn f cs)=true:=rfl
def yg0{f:Nat}{cs:List D}:D.atom (.fn f cs)=true:=rfl
def z2e{cs:List D}:D.cellsL (.agg cs)=cs:=rfl
def zvj{cs:List D}:D.storable (.agg cs)=cs.all D.atom:=rfl
def zhq:D.cellsL .nilfn=[.nilfn]:=rfl
def zmo:D.storable .nilfn=true:=rfl
def zp4:D.atom .nilfn=true:=rfl
def zjx:D.cellsL .nilp=[.nilp]:=rfl
def zq8:D.storable .nilp=true:=rfl
def zul:D.atom .nilp=true:=rfl
def ydg{cs:List D}{o:Nat}:y2d cs o 0=some []:=rfl
def ydh{cs:List D}{o n:Nat}:y2d cs o (n+1)=ob cs[o]? fun c=>ob (y2d cs (o+1) n) fun r=>some (c::r):=by
 simp only[y2d];cases cs[o]? with
 |none=>rfl
 |some c=>simp only[zc];cases y2d cs (o+1) n <;> rfl
def zne{cs:List D}:ym true cs=some (.agg cs):=rfl
def ziu{c:D}:ym false [c]=some c:=rfl
def ygb  {s b:Nat} {z:List D} {q:Bool}:TI.ag ⟨.bool ,s,b,z,q⟩=false:=rfl
def yj7{k:bj}{s b:Nat}{z:List D}{q:Bool}:TI.ag ⟨.int k,s,b,z,q⟩=false:=rfl
def yj4  {s b:Nat} {z:List D} {q:Bool}:TI.ag ⟨.str ,s,b,z,q⟩=false:=rfl
def zyy{e:Nat}{s b:Nat}{z:List D}{q:Bool}:TI.ag ⟨.slice e,s,b,z,q⟩=false:=rfl
def zuw{fs:List (Nat × Nat)}{s b:Nat}{z:List D}{q:Bool}:TI.ag ⟨.struct fs,s,b,z,q⟩=true:=rfl
def yj8{n e:Nat}{s b:Nat}{z:List D}{q:Bool}:TI.ag ⟨.arr n e,s,b,z,q⟩=true:=rfl
def yj6{k e:Nat}{s b:Nat}{z:List D}{q:Bool}:TI.ag ⟨.map k e,s,b,z,q⟩=false:=rfl
def yj5{e:Nat}{s b:Nat}{z:List D}{q:Bool}:TI.ag ⟨.ptr e,s,b,z,q⟩=false:=rfl
def yga  {s b:Nat} {z:List D} {q:Bool}:TI.ag ⟨.func ,s,b,z,q⟩=false:=rfl
def yme{vs:List (Nat × D)}{n:Nat}:gOf vs (.t n)=kv n vs:=rfl
def ymg{vs:List (Nat × D)}{d:D}:gOf vs (.c d)=d:=rfl
def ymf{vs:List (Nat × D)}{k:Nat}:gOf vs (.f k)=.fn k []:=rfl
def yeo{n m:Nat}{d:D}{r:List (Nat × D)}:kv n ((m,d)::r)=if n=m then d else kv n r:=rfl
def zqu{i:Nat}{d:D}:ya2 env (some i) d=env.set i d:=rfl
def zqv{d:D}:ya2 env none d=env:=rfl
def zna{d:D}:y2r [d]=d:=rfl
def zn9{a b:D}:y2r [a,b]=.tup [a,b]:=rfl
def zgv{a b c:D}:y2r [a,b,c]=.tup [a,b,c]:=rfl
def zof:y3q E env hp []=some []:=rfl
def zwp{i:Nat}{r:List (Nat × Option Nat)}:y3q E env hp ((i,none)::r)=ob env[i]? fun d=>ob (y3q E env hp r) fun l=>some (d::l):=by
 simp only[y3q];cases env[i]? with
 |none=>rfl
 |some d=>simp only[zc];cases y3q E env hp r <;> rfl
def zwq{i t:Nat}{r:List (Nat × Option Nat)}:y3q E env hp ((i,some t)::r)=ob env[i]? fun a=>ob (y1c E hp t a) fun d=>ob (y3q E env hp r) fun l=>some (d::l):=by
 simp only[y3q];cases env[i]? with
 |none=>rfl
 |some a=>
  simp only[zc];cases y1c E hp t a with
  |none=>rfl
  |some d=>simp only[zc];cases y3q E env hp r <;> rfl
def zrg{k:bj}{a b:Int}:y8c [.int k a,.int k b]=some (.int k (if a<b then b else a)):=by simp[y8c,y8k]
def zrf{k:bj}{a b:Int}:y8b [.int k a,.int k b]=some (.int k (if b<a then b else a)):=by simp[y8b,y8k]
def extV(d:D)(i:Nat):Option D:=match d with
 |.tup vs=>vs[i]?
 |_=>none
def zxd{vs:List D}{i:Nat}:extV (.tup vs) i=vs[i]?:=rfl
def ygv{a:Nat}{x:Xp}{i:Nat}:xv E cP env hp (.n (.extract (.t a) i) (.cons a x .nil))=ob (xv E cP env hp x) fun u=>extV u i:=zml
def zmq{x:Opd}:yf E cP cS cY id g hp (.box t x)=if(g x).storable=true then some (.loc id 0,y2e hp id (.cells (g x).cellsL))else none:=by simp only[yf,DOp.fin,yb];split <;> rfl
def zga:yf E cP cS cY id g hp (.alloc t)=if(E.ty t).zero.all D.atom=true/\(E.ty t).zero.length=(E.ty t).size/\(E.ty t).size ≠ 0 then some (.loc id 0,y2e hp id (.cells (E.ty t).zero))else none:=by simp only[yf,DOp.fin,yb];split <;> rfl
def zg1{a x:Opd}:yf E cP cS cY id g hp (.store t a x)=(y4e E hp t (g a) (g x)).map (.undef,·):=rfl
def writeO(o:Option Obj):Option (List D):=match o with
 |some (.cells cs)=>some cs
 |_=>none
def zfp{cs:List D}:writeO (some (.cells cs))=some cs:=rfl
def zmn{i off:Nat}{x:D}:y4e E hp t (.loc i off) x=ob (writeO hp[i]?) fun cs=>if x.storable=true/\x.cellsL.length=(E.ty t).size/\off+(E.ty t).size<=cs.length then some (hp.set i (.cells (setCells cs off x.cellsL)))else none:=by
 simp only[y4e];cases hp[i]? with
 |none=>rfl
 |some o=>cases o <;> rfl
def zgh{cs:List D}{o:Nat}:setCells cs o []=cs:=rfl
def zeh{cs:List D}{o:Nat}{v:D}{r:List D}:setCells cs o (v::r)=setCells (cs.set o v) (o+1) r:=rfl
def zg2:yf E cP cS cY id g hp (.mkmap t)=some (.map (some id),y2e hp id (.map [])):=rfl
def zee{m k v:Opd}:yf E cP cS cY id g hp (.mapset t m k v)=(y39 E hp t (g m) (g k) (g v)).map (.undef,·):=rfl
def zg9{f:Opd}{as:List Opd}:yf E cP cS cY id g hp (.call 1 f as)=(match g f with | .fn k caps=>ob (y1k (frz hp depth) (as.map g++caps)) (fun vs=>(cP k vs).map (·,y11 hp ((as.map g++caps).flatMap (ids hp depth)))) | _=>none):=by
 simp only[yf,DOp.fin,yo];cases g f <;> try rfl
 rename_i k caps;simp only[];cases y1k (frz hp depth) (as.map g++caps) <;> rfl
def zg8{f:Opd}{as:List Opd}:yf E cP cS cY id g hp (.call 2 f as)=(match g f with | .fn k caps=>y18 (cS k (as.map g++caps) hp) | .bfn k r=>y18 (cS k (r::as.map g) hp) | .yld l=>cY l (as.map g) hp | _=>none):=rfl
def zia{t2:Nat}{x y:Opd}:yf E cP cS cY id g hp (.append 2 t t2 x y)=y3b E hp t t2 (g x) (g y):=rfl
def zib{t2:Nat}{x y:Opd}:yf E cP cS cY id g hp (.append 1 t t2 x y)=(y1q E hp id t t2 (g x) (g y)).map fun e=>(e.d,yk hp id e):=rfl
def zcb{l c:Opd}:yf E cP cS cY id g hp (.mkslice true t l c)=(match (E.ty t).k,g l,g c with | .slice e,.int _ l,.int _ c=>ob (y28 E e) (fun z=>if 0<=l/\l=c/\c*((E.ty e).bytes+1)<=yg then some (.sl id 0 l.toNat (E.ty e).size (E.ty e).ag true,y2e hp id (.cells (yr (ah l.toNat z))))else none) | _,_,_=>none):=by
 simp only[yf,DOp.fin,yb];cases (E.ty t).k <;> try rfl
 rename_i e;cases g l <;> try rfl
 cases g c <;> try rfl
 rename_i k1 a k2 b;simp only[];cases y28 E e with
 |none=>rfl
 |some z=>simp only[zc];split <;> rfl
def ym7(o:Option Obj):Option (List (D × D)):=match o with
 |some (.map es)=>some es
 |_=>none
def zev{es:List (D × D)}:ym7 (some (.map es))=some es:=rfl
def z1y{i:Nat}{k:D}:y2f E hp t (.map (some i)) k false=(match (E.ty t).k with | .map kt e=>if y4w E kt k=true then ob (ym7 hp[i]?) (fun es=>ob (y17 k es) fun r=>match r with | some v=>some v | none=>y28 E e)else none | _=>none):=by
 unfold y2f;cases (E.ty t).k <;> try rfl
 rename_i kt e
 by_cases h:y4w E kt k=true
 ·simp only[h,if_true];cases hp[i]? with
  |none=>rfl
  |some o=>
   cases o <;> try rfl
   rename_i es;simp only[zev,zc];cases y17 k es with
   |none=>rfl
   |some r=>
    cases r with
    |some v=>rfl
    |none=>simp only[zc];cases y28 E e <;> rfl
 ·simp only[h,if_false];rfl
def z31{i:Nat}{k v:D}:y39 E hp t (.map (some i)) k v=(match (E.ty t).k with | .map kt e=>if y4w E kt k=true/\v.storable=true/\v.cellsL.length=(E.ty e).size then ob (ym7 hp[i]?) (fun es=>ob (y1n k v es) fun es=>some (hp.set i (.map es)))else none | _=>none):=by
 unfold y39;cases (E.ty t).k <;> try rfl
 rename_i kt e
 by_cases h:y4w E kt k=true/\v.storable=true/\v.cellsL.length=(E.ty e).size
 ·simp only[if_pos h];cases hp[i]? with
  |none=>rfl
  |some o=>
   cases o <;> try rfl
   rename_i es;simp only[zev,zc];cases y1n k v es <;> rfl
 ·simp only[if_neg h]
def zs0{xs:List D}:y4w E t (.agg xs)=((E.ty t).eqc && y24 xs (E.ty t).zero):=rfl
def znt:y24 [] []=true:=rfl
def zjb{a b:Bool}{r s:List D}:y24 (.bool a::r) (.bool b::s)=y24 r s:=rfl
def znu{k:bj}{a b:Int}{r s:List D}:y24 (.int k a::r) (.int k b::s)=y24 r s:=by simp[y24]
def yfc:eqL [] []=some true:=rfl
def zxf{x y:D}{r s:List D}:eqL (x::r) (y::s)=ob (y2a x y) fun a=>ob (eqL r s) fun b=>some (a && b):=by
 simp only[eqL];cases y2a x y with
 |none=>rfl
 |some a=>simp only[zc];cases eqL r s <;> rfl
def zk3{a b:Bool}:y2a (.bool a) (.bool b)=some (a == b):=rfl
def zp5{k:bj}{a b:Int}:y2a (.int k a) (.int k b)=some (a == b):=by simp[y2a]
def zlk{n off i len sz:Nat}{ag gr:Bool}:frz hp (n+1) (.sl i off len sz ag gr)=ob (ya1 hp[i]?) fun cs=>ob (y31 sz ag len (cs.drop off)) fun els=>(y1k (frz hp n) els).map (.imm .none):=by
 simp only[frz,y14];cases hp[i]? with
 |none=>rfl
 |some o=>
  cases o <;> try rfl
  ·simp only[z6y,zc];cases y31 sz ag len _ <;> rfl
  ·simp only[z99,zc];cases y31 sz ag len _ <;> rfl
def yjg(o:Option Obj):Option (Nat × Nat):=match o with
 |some (.tok u s)=>some (u,s)
 |_=>none
def y2o(E:Env)(e:Nat)(els new:List D):Prop:=(els.length+new.length)*((E.ty e).bytes+1)<=yg/\(E.ty e).bytes<=65536/\(y28 E e).isSome=true/\y2k (E.ty e).size els=true
instance{e:Nat}{els new:List D}:Decidable (y2o E e els new):=inferInstanceAs (Decidable (_/\_))
def y9b(E:Env)(hp:List Obj)(id t t2:Nat)(x y:D):Option (D × List Obj):=(y3a E hp id t t2 x y).map fun e=>(e.d,yk hp id e)
def ylk(E:Env)(e:Nat)(y:D):Option (List D):=match y with
 |.str s=>if 1=(E.ty e).size/\(E.ty e).ag=false then some (s.map yd)else none
 |_=>none
def zed{e:Nat}{s:List UInt8}:ylk E e (.str s)=if 1=(E.ty e).size/\(E.ty e).ag=false then some (s.map yd)else none:=rfl
def z65{u s:Nat}:yjg (some (.tok u s))=some (u,s):=rfl
def zq{t2:Nat}{x y:Opd}:yf E cP cS cY id g hp (.append 0 t t2 x y)=y9b E hp id t t2 (g x) (g y):=rfl
def zz{t2:Nat}{els:List D}{y:D}:y9b E hp id t t2 (.imm .exact els) y=(match (E.ty t).k,(E.ty t2).k with | .slice e,.slice _=>ob (y1b hp (E.ty e).size (E.ty e).ag y) (fun new=>if y2o E e els new then some (.imm (.tok id) (els++new),y2e hp id (.tok ((els.length+new.length)*(E.ty e).size) (E.ty e).size))else none) | .slice e,.str=>ob (ylk E e y) (fun new=>if y2o E e els new then some (.imm (.tok id) (els++new),y2e hp id (.tok ((els.length+new.length)*(E.ty e).size) (E.ty e).size))else none) | _,_=>none):=by
 have key:∀(e:Nat) (new:List D),((y2x E hp id e .exact els new).map fun e=>(e.d,yk hp id e))=if y2o E e els new then some (.imm (.tok id) (els++new),y2e hp id (.tok ((els.length+new.length)*(E.ty e).size) (E.ty e).size))else none:=fun e new=>by
  unfold y2x
  by_cases hh:y2o E e els new
  ·have h1:(els.length+new.length)*((E.ty e).bytes+1)<=yg/\(E.ty e).bytes<=65536/\(y28 E e).isSome=true/\y2k (E.ty e).size els=true:=hh;rw[if_pos h1,if_pos hh];rfl
  ·have h1 : ¬ ((els.length+new.length)*((E.ty e).bytes+1)<=yg/\(E.ty e).bytes<=65536/\(y28 E e).isSome=true/\y2k (E.ty e).size els=true):=hh;rw[if_neg h1,if_neg hh];rfl
 unfold y9b y3a;cases (E.ty t).k <;> try rfl
 cases (E.ty t2).k <;> try rfl
 ·simp only[];cases y <;> try rfl
  rename_i e s;simp only[zed]
  by_cases hs:1=(E.ty e).size/\(E.ty e).ag=false
  ·simp only[if_pos hs,zc];exact key _ _
  ·simp only[if_neg hs];rfl
 ·rename_i e e2;simp only[];cases y1b hp (E.ty e).size (E.ty e).ag y with
  |none=>rfl
  |some new=>simp only[zc];exact key _ _
def z14{t2 k:Nat}{els:List D}{y:D}:y9b E hp id t t2 (.imm (.tok k) els) y=(match (E.ty t).k,(E.ty t2).k with | .slice e,.slice _=>ob (y1b hp (E.ty e).size (E.ty e).ag y) (fun new=>if y2o E e els new then ob (yjg hp[k]?) (fun u=>if u.1=els.length*(E.ty e).size/\u.2=(E.ty e).size then some (.imm (.tok id) (els++new),y2e (hp.set k .dead) id (.tok ((els.length+new.length)*(E.ty e).size) (E.ty e).size))else none)else none) | .slice e,.str=>ob (ylk E e y) (fun new=>if y2o E e els new then ob (yjg hp[k]?) (fun u=>if u.1=els.length*(E.ty e).size/\u.2=(E.ty e).size then some (.imm (.tok id) (els++new),y2e (hp.set k .dead) id (.tok ((els.length+new.length)*(E.ty e).size) (E.ty e).size))else none)else none) | _,_=>none):=by
 have key:∀(e:Nat) (new:List D),((y2x E hp id e (.tok k) els new).map fun e=>(e.d,yk hp id e))=if y2o E e els new then ob (yjg hp[k]?) (fun u=>if u.1=els.length*(E.ty e).size/\u.2=(E.ty e).size then some (.imm (.tok id) (els++new),y2e (hp.set k .dead) id (.tok ((els.length+new.length)*(E.ty e).size) (E.ty e).size))else none)else none:=fun e new=>by
  unfold y2x
  by_cases hh:y2o E e els new
  ·have h1:(els.length+new.length)*((E.ty e).bytes+1)<=yg/\(E.ty e).bytes<=65536/\(y28 E e).isSome=true/\y2k (E.ty e).size els=true:=hh;rw[if_pos h1,if_pos hh];simp only[];cases hp[k]? with
   |none=>rfl
   |some o=>
    cases o <;> try rfl
    rename_i u s;simp only[z65,zc]
    by_cases h2:u=els.length*(E.ty e).size/\s=(E.ty e).size
    ·simp only[if_pos h2];rfl
    ·simp only[if_neg h2];rfl
  ·have h1 : ¬ ((els.length+new.length)*((E.ty e).bytes+1)<=yg/\(E.ty e).bytes<=65536/\(y28 E e).isSome=true/\y2k (E.ty e).size els=true):=hh;rw[if_neg h1,if_neg hh];rfl
 unfold y9b y3a;cases (E.ty t).k <;> try rfl
 cases (E.ty t2).k <;> try rfl
 ·simp only[];cases y <;> try rfl
  rename_i e s;simp only[zed]
  by_cases hs:1=(E.ty e).size/\(E.ty e).ag=false
  ·simp only[if_pos hs,zc];exact key _ _
  ·simp only[if_neg hs];rfl
 ·rename_i e e2;simp only[];cases y1b hp (E.ty e).size (E.ty e).ag y with
  |none=>rfl
  |some new=>simp only[zc];exact key _ _
def yf8{n off i:Nat}:frz hp (n+1) (.loc i off)=ob (ya1 hp[i]?) fun cs=>(y1k (frz hp n) (cs.drop off)).map .iptr:=by
 simp only[frz,y14];cases hp[i]? with
 |none=>rfl
 |some o=>cases o <;> rfl
def znb:y2r []=.tup []:=rfl
def z2q{sz:Nat}{ag:Bool}{sp:yt}{els:List D}:y1b hp sz ag (.imm sp els)=if(els.all fun d=>d.storable && d.cellsL.length == sz)=true then some els else none:=rfl
end
end Dv
namespace Dv
section
variable{E:Env}{cP:Nat->List D->Option D}{cS cY:Nat->List D->List Obj->Option (D × List Obj)}{env:List D}{hp:List Obj}{t id base:Nat}{g:Opd->D}
def zyh{k:bj}{a b:Int}:y3h E .and t (.int k a) (.int k b)=some (.int k (yg8 k a b)):=by simp[y3h,y38]
def yfv{k:bj}{a b:Int}:y3h E .or t (.int k a) (.int k b)=some (.int k (yc3 k a b)):=by simp[y3h,y38]
def zy6{k:bj}{a b:Int}:y3h E .xor t (.int k a) (.int k b)=some (.int k (y9x k a b)):=by simp[y3h,y38]
def zg7{f:Opd}{as:List Opd}:yf E cP cS cY id g hp (.call 3 f as)=(match g f with | .fn k caps=>ob (y1k (frz hp depth) (as.map g++caps)) (fun vs=>ob (cP k vs) fun d=>if d.closed=true then some (d,hp)else none) | _=>none):=by
 simp only[yf,DOp.fin,yo];cases g f <;> try rfl
 rename_i k caps;simp only[];cases y1k (frz hp depth) (as.map g++caps)with
 |none=>rfl
 |some vs=>simp only[zc];cases cP k vs <;> rfl
def zju{b:Bool}:D.closed (.bool b)=true:=rfl
def zou{k:bj}{n:Int}:D.closed (.int k n)=true:=rfl
def zos{l:List D}:D.closed (.tup l)=l.all D.flatB:=rfl
def zoi{b:Bool}:D.flatB (.bool b)=true:=rfl
def zt2{k:bj}{n:Int}:D.flatB (.int k n)=true:=rfl
def gdV{A:Type}(u:D)(b:Bool)(x y:Option A):Option A:=match u with
 |.bool c=>if c=b then x else y
 |_=>y
def yic{A:Type}{c b:Bool}{x y:Option A}:gdV (.bool c) b x y=if c=b then x else y:=rfl
def z17{A:Type}{u u':D}{b:Bool}{x y:Option A}(h:u=u'):gdV u b x y=gdV u' b x y:=by rw[h]
def zvq{x:Xp}{b:Bool}{dst:Option Nat}{op:DOp}{ks:Xs}{r:List TS}:rTS E cP cS cY base (.eff (some (x,b)) dst op ks none::r) env hp=ob (xv E cP env hp x) fun u=>gdV u b (ob (xvs E cP env hp ks) fun vs=>ob (yf E cP cS cY hp.length (gOf vs) hp op) fun p=>rTS E cP cS cY base r (ya2 env dst p.1) p.2) (rTS E cP cS cY base r (ya2 env dst .undef) hp):=by
 simp only[rTS,gdT];cases xv E cP env hp x with
 |none=>rfl
 |some u=>
  simp only[zc];cases u with
  |bool c=>
   simp only[yic]
   by_cases h:c=b
   ·subst h;simp only[beq_self_eq_true,if_true];cases xvs E cP env hp ks with
    |none=>rfl
    |some vs=>simp only[zc];cases yf E cP cS cY hp.length (gOf vs) hp op <;> rfl
   ·have:(c == b)=false:=by simpa using h
    simp only[this,if_neg h]
  |_=>rfl
def zwy{n:Nat}{cs:List D}:yc4 hp (n+1) (.tup cs)=(y1k (ybf hp n) cs).map .tup:=rfl
def zog{n:Nat}{cs:List D}:yc4 hp (n+1) (.imm .exact cs)=(y1k (frz hp n) cs).map (.imm .exact):=rfl
def zoh{n:Nat}{cs:List D}:ybf hp (n+1) (.imm .exact cs)=(y1k (frz hp n) cs).map (.imm .exact):=rfl
def zsv{n:Nat}{cs:List D}:ybf hp (n+1) (.imm .none cs)=(y1k (frz hp n) cs).map (.imm .none):=rfl
def zx4{n:Nat}{k:bj}{i:Int}:ybf hp (n+1) (.int k i)=some (.int k i):=rfl
def zjf{b:Bool}:yy (.bool b)=false:=rfl
def zo2{k:bj}{n:Int}:yy (.int k n)=false:=rfl
def zo0{b:List UInt8}:yy (.str b)=false:=rfl
def zo3{sp:yt}{l:List D}:yy (.imm sp l)=false:=rfl
def zs6{a b c d:Nat}{e f:Bool}:yy (.sl a b c d e f)=false:=rfl
def zs7{a:Nat}{l:List D}:yy (.fn a l)=false:=rfl
def zo1{a b:Nat}:yy (.loc a b)=false:=rfl
def zh7:yy .undef=false:=rfl
def isU:D->Bool
 |.undef=>true
 |_=>false
def zje:yy (.tup [])=false:=rfl
def zjg:yy (.agg [])=false:=rfl
def zs5:isU .undef=true:=rfl
def zwj{b:Bool}:isU (.bool b)=false:=rfl
def yey{k:bj}{n:Int}:isU (.int k n)=false:=rfl
def yew{b:List UInt8}:isU (.str b)=false:=rfl
def yez{sp:yt}{l:List D}:isU (.imm sp l)=false:=rfl
def yf0{l:List D}:isU (.agg l)=false:=rfl
def yi9{a:Nat}{l:List D}:isU (.fn a l)=false:=rfl
def yex{a b:Nat}:isU (.loc a b)=false:=rfl
def yi8{a b c d:Nat}{e f:Bool}:isU (.sl a b c d e f)=false:=rfl
def zw4{d:D}{h:List Obj}:y18 (some (d,h))=if yy d=true then none else some (d,h):=rfl
def yi1(d:D)(a b:Prop):Prop:=if yy d=true then a else b
def zw{t t':D}{a b:Prop}(h:t=t'):yi1 t a b=yi1 t' a b:=by rw[h]
def yd4{Q:Ex->List D->List Obj->Prop}:wT E .dead Q env hp=False:=rfl
def zg6{f:Opd}{as:List Opd}:yf E cP cS cY id g hp (.call 6 f as)=(match g f with | .fn k caps=>if E.mp k=true then cS k (as.map g++caps) hp else none | _=>none):=rfl
def yeb(d:D):Option D:=match d with
 |.loc i o=>some (.loc i o)
 |.iptr cs=>some (.iptr cs)
 |_=>none
def zr8{i o:Nat}:yeb (.loc i o)=some (.loc i o):=rfl
def znf{l:List D}:yeb (.iptr l)=some (.iptr l):=rfl
def yi0(b:Bool)(d:D):Option D:=match b,d with
 |false,.int .i64 n=>some (.tup [.undef,.int .i64 n])
 |true,.agg [.int .i64 n]=>some (.tup [.undef,.agg [.int .i64 n]])
 |_,_=>none
def zrh{n:Int}:yi0 false (.int .i64 n)=some (.tup [.undef,.int .i64 n]):=rfl
def zri{n:Int}:yi0 true (.agg [.int .i64 n])=some (.tup [.undef,.agg [.int .i64 n]]):=rfl
def ycl{a:Nat}{x:Xp}:xv E cP env hp (.n (.nilc (.t a)) (.cons a x .nil))=ob (xv E cP env hp x) fun u=>yeb u:=by
 simp only[xv,xvs];cases xv E cP env hp x with
 |none=>rfl
 |some d=>simp only[yb,gOf,kv,zc,if_true];cases d <;> rfl
end
end Dv
namespace Dv
section
variable{E:Env}{cP:Nat->List D->Option D}{cS cY:Nat->List D->List Obj->Option (D × List Obj)}{env:List D}{hp:List Obj}{t t2 id base:Nat}{g:Opd->D}
def z7g{f:Opd}{as:List Opd}:yf E cP cS cY id g hp (.mkcall f as)=(match g f with | .fn k caps=>ob (y1k (frz [] depth) (as.map g++caps)) (fun vs=>y79 cS k vs hp) | _=>none):=by
 simp only[yf,DOp.fin,yo];cases g f <;> try rfl
 rename_i k caps;simp only[];cases y1k (frz [] depth) (as.map g++caps) <;> rfl
def zg3{x y:Opd}:yf E cP cS cY id g hp (.mkcap t x y)=y67 E hp t (g x) (g y):=rfl
def zca{x y:Opd}:yf E cP cS cY id g hp (.reslice t x y)=y3e E hp t (g x) (g y):=rfl
def zmp{x:Opd}:yf E cP cS cY id g hp (.clr t x)=yc9 E hp t (g x):=rfl
def zi9{x y:Opd}:yf E cP cS cY id g hp (.copy t t2 x y)=y7d E hp t t2 (g x) (g y):=rfl
def zby:∀(l:List UInt8),y4b (l.map yd)=some l
 |[]=>rfl
 |b::l=>by
  simp only[al,yd,y4b,zby l];have:UInt8.ofNat ((b.toNat:Int)).toNat=b:=by simp
  rw[this]
def zfk{sp:yt}{l:List UInt8}:ygq E t t2 (.imm sp (l.map yd))=(match (E.ty t).k,(E.ty t2).k with | .slice e,.str=>if y6l E e=true then some (.str l)else none | _,_=>none):=by
 unfold ygq;cases (E.ty t).k <;> try rfl
 cases (E.ty t2).k <;> try rfl
 simp only[zby,aq]
def zvn{s:List UInt8}:ygk E t t2 (.str s)=(match (E.ty t).k,(E.ty t2).k with | .str,.slice e=>if y6l E e=true then some (.imm .none (s.map yd))else none | _,_=>none):=by
 unfold ygk;cases (E.ty t).k <;> try rfl
 cases (E.ty t2).k <;> rfl
def ygw{a:Nat}{x:Xp}:xv E cP env hp (.n (.b2s t t2 (.t a)) (.cons a x .nil))=ob (xv E cP env hp x) fun u=>ygq E t t2 u:=by
 simp only[xv,xvs];cases xv E cP env hp x <;> try rfl
 simp only[yb,gOf,kv,if_true,zc];exact z19
def ygs{a:Nat}{x:Xp}:xv E cP env hp (.n (.s2b t t2 (.t a)) (.cons a x .nil))=ob (xv E cP env hp x) fun u=>ygk E t t2 u:=by
 simp only[xv,xvs];cases xv E cP env hp x <;> try rfl
 simp only[yb,gOf,kv,if_true,zc];exact z19
def zv0{a f:Nat}{x:Xp}:xv E cP env hp (.n (.mkbfn f (.t a)) (.cons a x .nil))=ob (xv E cP env hp x) fun u=>some (.bfn f u):=by
 simp only[xv,xvs];cases xv E cP env hp x <;> try rfl
 simp only[yb,gOf,kv,if_true,zc]
def zoa{cs:List D}{k:bj}{n:Int}{m e:Nat}(h:(E.ty t).k=.arr m e):y3w E t (.iptr cs) (.int k n)=if 0<=n/\n<m then some (.iptr (cs.drop (n.toNat*(E.ty e).size)))else none:=by simp only[y3w,h]
def zud{a b:List UInt8}:y3h E .eql t (.str a) (.str b)=some (.bool (a == b)):=rfl
def zuc{a b:List UInt8}:y3h E .neq t (.str a) (.str b)=some (.bool (!(a == b))):=rfl
def yda{k:bj}{n:Int}:unD .xor (.int k n)=some (.int k (y9x k (if k.signed then -1 else k.max) n)):=rfl
def zy9{k k':bj}{a b:Int}:y3h E .shl t (.int k a) (.int k' b)=if 0<=b then some (.int k (k.wrap (a*2 ^ (min b.toNat k.bits))))else none:=rfl
def zy8{k k':bj}{a b:Int}:y3h E .shr t (.int k a) (.int k' b)=if 0<=b then some (.int k (a.fdiv (2 ^ (min b.toNat k.bits))))else none:=rfl
def yf4(d:D):Option D:=if d.storable=true then some (.iptr d.cellsL)else none
def yco{a:Nat}{x:Xp}:xv E cP env hp (.n (.ibox t (.t a)) (.cons a x .nil))=ob (xv E cP env hp x) fun u=>yf4 u:=by
 simp only[xv,xvs];cases xv E cP env hp x <;> try rfl
 rename_i d;simp only[yb,gOf,kv,if_true,zc,yf4]
 by_cases hh:d.storable=true
 ·simp only[hh,if_true]
 ·simp only[hh];rfl
def zv1{a:Nat}{x:Xp}:xv E cP env hp (.n (.iload t (.t a)) (.cons a x .nil))=ob (xv E cP env hp x) fun u=>y8j E t u:=by
 simp only[xv,xvs];cases xv E cP env hp x <;> try rfl
 simp only[yb,gOf,kv,if_true,zc];exact z19
def zbf{cs:List D}:y8j E t (.iptr cs)=ob (y2d cs 0 (E.ty t).size) fun r=>ym (E.ty t).ag r:=rfl
end
end Dv
namespace Dv
structure Cell where
 airport:Bool
 index:Int
 minute:Int
deriving DecidableEq
structure Use where
 cell:Cell
 places:Int
structure y1p where
 delay:Int
 cost:Int
 changes:Int
 uses:List Use
structure Var where
 a:Int
 b:Int
 leaves:List Int
 choices:List y1p
structure yj where
 cells:List Cell
 capacity:List (List Int)
 vars:List Var
abbrev dI(n:Int):D:=.int .i64 n
abbrev y1z(c:Cell):D:=.agg [.bool c.airport,dI c.index,dI c.minute]
abbrev y51(u:Use):D:=.agg [.bool u.cell.airport,dI u.cell.index,dI u.cell.minute,dI u.places]
abbrev ya(l:List Int):D:=.imm .none (l.map dI)
abbrev y15(c:y1p):D:=.agg [dI c.delay,dI c.cost,dI c.changes,.imm .none (c.uses.map y51)]
abbrev y4p(v:Var):D:=.agg [dI v.a,dI v.b,ya v.leaves,.imm .none (v.choices.map y15)]
abbrev ye(p:yj):D:=.agg [.imm .none (p.cells.map y1z),.imm .none (p.capacity.map ya),.imm .none (p.vars.map y4p)]
def i64(n:Int):Prop:=-9223372036854775808<=n/\n<=9223372036854775807
def yh2{n:Int}(h:(Go.Lit.int .i64 n).wf=true):i64 n:=by
 simp[Go.Lit.wf]at h;obtain⟨h1,h2⟩:=h;have e1:aJ.min = -9223372036854775808:=by decide
 have e2:aJ.max=9223372036854775807:=by decide
 first
  |exact⟨by omega,by omega⟩
  |(rw[e1]at h1;exact⟨h1,by first | exact h2 | (rw[e2]at h2;exact h2)⟩)
def z56{A:Type}{f:A->D}{R:A->Prop}:∀{els:List D},(∀ x,x ∈ els->∃ a,x=f a/\R a)->∃ l:List A,els=l.map f /\ ∀ a,a ∈ l->R a
 |[],_=>⟨[],rfl,fun a h=>by cases h⟩
 |x::els,h=>by
  obtain⟨a,h1,h2⟩:=h x (by simp)
  obtain⟨l,h3,h4⟩:=z56 (els:=els) fun y hy=>h y (by simp[hy])
  exact⟨a::l,by simp[h1,h3],fun b hb=>by
   rcases aA.1 hb with rfl | hb
   ·exact h2
   ·exact h4 b hb⟩
end Dv
namespace Dv
def z5l{c:Nat}{ds:List D}(h:DTc E c ds)(hk:(E.ty c).k=.int .i64):∃ n,ds=[dI n]/\i64 n:=by
 cases h with
 |int h hw=>rw[hk]at h;cases h;exact⟨_,rfl,yh2 hw⟩
 |bool h=>rw[hk]at h;cases h
 |str h=>rw[hk]at h;cases h
 |slice h _ _ _=>rw[hk]at h;cases h
 |struct h _ _=>rw[hk]at h;cases h
 |arr h _ _=>rw[hk]at h;cases h
def yde{c:Nat}{ds:List D}(h:DTc E c ds)(hk:(E.ty c).k=.bool):∃ b,ds=[.bool b]:=by
 cases h with
 |bool h=>exact⟨_,rfl⟩
 |int h hw=>rw[hk]at h;cases h
 |str h=>rw[hk]at h;cases h
 |slice h _ _ _=>rw[hk]at h;cases h
 |struct h _ _=>rw[hk]at h;cases h
 |arr h _ _=>rw[hk]at h;cases h
def z3y{c e:Nat}{ds:List D}(h:DTc E c ds)(hk:(E.ty c).k=.slice e):∃ els,ds=[.imm .none els]/\els.length<=Go.maxLen /\ ∀ x,x ∈ els->y5e E e x:=by
 cases h with
 |slice h hl he ho=>rw[hk]at h;cases h;exact⟨_,rfl,hl,fun x hx=>⟨he x hx,ho x hx⟩⟩
 |bool h=>rw[hk]at h;cases h
 |int h hw=>rw[hk]at h;cases h
 |str h=>rw[hk]at h;cases h
 |struct h _ _=>rw[hk]at h;cases h
 |arr h _ _=>rw[hk]at h;cases h
def z4e{c:Nat}{fs:List (Nat × Nat)}{ds:List D}(h:DTc E c ds)(hk:(E.ty c).k=.struct fs):ds.length=(E.ty c).size /\ ∀(i:Nat) p,fs[i]? = some p->DTc E p.2 ((ds.drop p.1).take (E.ty p.2).size):=by
 cases h with
 |struct h hl hf=>rw[hk]at h;cases h;exact⟨hl,hf⟩
 |bool h=>rw[hk]at h;cases h
 |int h hw=>rw[hk]at h;cases h
 |str h=>rw[hk]at h;cases h
 |slice h _ _ _=>rw[hk]at h;cases h
 |arr h _ _=>rw[hk]at h;cases h
end Dv
namespace Dv
def y89(c:Cell):Prop:=i64 c.index/\i64 c.minute
def ye8(u:Use):Prop:=y89 u.cell/\i64 u.places
def y7s(c:y1p):Prop:=i64 c.delay/\i64 c.cost/\i64 c.changes /\ ∀ u,u ∈ c.uses->ye8 u
def y88(l:List Int):Prop:=∀ n,n ∈ l->i64 n
def ye7(v:Var):Prop:=i64 v.a/\i64 v.b/\y88 v.leaves /\ ∀ c,c ∈ v.choices->y7s c
def yhr(p:yj):Prop:=(∀ c,c ∈ p.cells->y89 c)/\(∀ l,l ∈ p.capacity->y88 l) /\ ∀ v,v ∈ p.vars->ye7 v
def yhg{ds:List D}(h:ds.length=3):∃ a b c,ds=[a,b,c]:=by
 match ds,h with
 |[a,b,c],_=>exact⟨a,b,c,rfl⟩
def yjv{ds:List D}(h:ds.length=4):∃ a b c d,ds=[a,b,c,d]:=by
 match ds,h with
 |[a,b,c,d],_=>exact⟨a,b,c,d,rfl⟩
def zdr{ds:List D}(h:DTc E 20 ds):∃ c,ds=[.bool c.airport,dI c.index,dI c.minute]/\y89 c:=by obtain⟨hl,hf⟩:=z4e h (fs:=[(0,7),(1,2),(2,2)]) rfl;obtain⟨x,y,z,rfl⟩:=yhg hl;obtain⟨b,h1⟩:=yde (hf 0 _ rfl) rfl;obtain⟨n,h2,o2⟩:=z5l (hf 1 _ rfl) rfl;obtain⟨m,h3,o3⟩:=z5l (hf 2 _ rfl) rfl;simp[E,y4i]at h1 h2 h3;subst h1 h2 h3;exact⟨⟨b,n,m⟩,rfl,o2,o3⟩
def z4d{c:Nat}{x:D}(h:y5e E c x)(ha:(E.ty c).ag=true):∃ ds,x=.agg ds/\DTc E c ds:=by obtain⟨h1,h2⟩:=h;rw[ha]at h2;simp[ym]at h2;exact⟨x.cellsL,h2.symm,h1⟩
def z4c{c:Nat}{x:D}(h:y5e E c x)(ha:(E.ty c).ag=false):DTc E c [x]:=by
 obtain⟨h1,h2⟩:=h;rw[ha]at h2;cases hx:x.cellsL with
 |nil=>rw[hx]at h2;simp[ym]at h2
 |cons y r=>
  rw[hx]at h1 h2;cases r with
  |nil=>simp[ym]at h2;subst h2;exact h1
  |cons _ _=>simp[ym]at h2
def ydd{x:D}(h:y5e E 20 x):∃ c,x=y1z c/\y89 c:=by obtain⟨ds,rfl,h1⟩:=z4d h rfl;obtain⟨c,rfl,o⟩:=zdr h1;exact⟨c,rfl,o⟩
def yhe{x:D}(h:y5e E 19 x):∃ u,x=y51 u/\ye8 u:=by obtain⟨ds,rfl,h1⟩:=z4d h rfl;obtain⟨hl,hf⟩:=z4e h1 (fs:=[(0,20),(3,2)]) rfl;obtain⟨x,y,z,w,rfl⟩:=yjv hl;obtain⟨c,h2,o2⟩:=zdr (hf 0 _ rfl);obtain⟨m,h3,o3⟩:=z5l (hf 1 _ rfl) rfl;simp[E,y4i]at h2 h3;obtain⟨rfl,rfl,rfl⟩:=h2;subst h3;exact⟨⟨c,m⟩,rfl,o2,o3⟩
def ze5{c:Nat}{ds:List D}(h:DTc E c ds)(hk:(E.ty c).k=.slice 2):∃ l,ds=[ya l]/\y88 l:=by
 obtain⟨els,rfl,_,h1⟩:=z3y h hk;obtain⟨l,rfl,o⟩:=z56 (f:=dI) (R:=i64) (els:=els) fun x hx=>by obtain⟨n,h2,o⟩:=z5l (z4c (h1 x hx) rfl) rfl;simp at h2;exact⟨n,h2,o⟩
 exact⟨l,rfl,o⟩
def zq0{x:D}(h:y5e E 17 x):∃ c,x=y15 c/\y7s c:=by
 obtain⟨ds,rfl,h1⟩:=z4d h rfl;obtain⟨hl,hf⟩:=z4e h1 (fs:=[(0,2),(1,2),(2,2),(3,18)]) rfl;obtain⟨x,y,z,w,rfl⟩:=yjv hl;obtain⟨a,h2,o2⟩:=z5l (hf 0 _ rfl) rfl;obtain⟨b,h3,o3⟩:=z5l (hf 1 _ rfl) rfl;obtain⟨c,h4,o4⟩:=z5l (hf 2 _ rfl) rfl;obtain⟨els,h5,_,h6⟩:=z3y (hf 3 _ rfl) (e:=19) rfl;simp[E,y4i]at h2 h3 h4 h5;subst h2 h3 h4 h5;obtain⟨l,rfl,o⟩:=z56 (f:=y51) (R:=ye8) (els:=els) fun x hx=>yhe (h6 x hx)
 exact⟨⟨a,b,c,l⟩,rfl,o2,o3,o4,o⟩
def yhd{x:D}(h:y5e E 15 x):∃ v,x=y4p v/\ye7 v:=by
 obtain⟨ds,rfl,h1⟩:=z4d h rfl;obtain⟨hl,hf⟩:=z4e h1 (fs:=[(0,2),(1,2),(2,6),(3,16)]) rfl;obtain⟨x,y,z,w,rfl⟩:=yjv hl;obtain⟨a,h2,o2⟩:=z5l (hf 0 _ rfl) rfl;obtain⟨b,h3,o3⟩:=z5l (hf 1 _ rfl) rfl;obtain⟨c,h4,o4⟩:=ze5 (hf 2 _ rfl) rfl;obtain⟨els,h5,_,h6⟩:=z3y (hf 3 _ rfl) (e:=17) rfl;simp[E,y4i]at h2 h3 h4 h5;subst h2 h3 h4 h5;obtain⟨l,rfl,o⟩:=z56 (f:=y15) (R:=y7s) (els:=els) fun x hx=>zq0 (h6 x hx)
 exact⟨⟨a,b,c,l⟩,rfl,o2,o3,o4,o⟩
def zpy{x:D}(h:y5e E 0 x):∃ p,x=ye p/\yhr p:=by
 obtain⟨ds,rfl,h1⟩:=z4d h rfl;obtain⟨hl,hf⟩:=z4e h1 (fs:=[(0,10),(1,9),(2,14)]) rfl;obtain⟨x,y,z,rfl⟩:=yhg hl;obtain⟨e1,h2,_,g2⟩:=z3y (hf 0 _ rfl) (e:=20) rfl;obtain⟨e2,h3,_,g3⟩:=z3y (hf 1 _ rfl) (e:=6) rfl;obtain⟨e3,h4,_,g4⟩:=z3y (hf 2 _ rfl) (e:=15) rfl;simp[E,y4i]at h2 h3 h4;subst h2 h3 h4;obtain⟨l1,rfl,o1⟩:=z56 (f:=y1z) (R:=y89) (els:=e1) fun x hx=>ydd (g2 x hx)
 obtain⟨l2,rfl,o2⟩:=z56 (f:=ya) (R:=y88) (els:=e2) fun x hx=>by obtain⟨l,h,o⟩:=ze5 (z4c (g3 x hx) rfl) rfl;simp at h;exact⟨l,h,o⟩
 obtain⟨l3,rfl,o3⟩:=z56 (f:=y4p) (R:=ye7) (els:=e3) fun x hx=>yhd (g4 x hx)
 exact⟨⟨l1,l2,l3⟩,rfl,o1,o2,o3⟩
end Dv
namespace Dv
def za{n:Int}(h:i64 n):aJ.wrap n=n:=gX n h
def ze{i n:Nat}(h:i<n)(hn:n<=1000000000000):aJ.wrap ((i:Int)+1)=(i:Int)+1:=za ⟨by omega,by omega⟩
def zh{A:Type}{l:List A}{i:Nat}(h:i<l.length):l.drop i=l[i]::l.drop (i+1):=List.drop_eq_getElem_cons h
section
variable{hp:List Obj}
def zww{n:Nat}{b:Bool}:frz hp (n+1) (.bool b)=some (.bool b):=rfl
def z4b{n:Nat}{k:bj}{x:Int}:frz hp (n+1) (.int k x)=some (.int k x):=rfl
def z3u{n:Nat}{sp:yt}{els:List D}:frz hp (n+1) (.imm sp els)=(y1k (frz hp n) els).map (.imm .none):=rfl
def z5b{n:Nat}{els:List D}:frz hp (n+1) (.agg els)=(y1k (frz hp n) els).map .agg:=rfl
def yf6{n:Nat}{els:List D}:frz hp (n+1) (.tup els)=(y1k (frz hp n) els).map .tup:=rfl
def yie{n:Nat}{f:Nat}{els:List D}:frz hp (n+1) (.fn f els)=(y1k (frz hp n) els).map (.fn f):=rfl
def zwv{n:Nat}{els:List D}:frz hp (n+1) (.iptr els)=(y1k (frz hp n) els).map .iptr:=rfl
def z3d{f:D->Option D}:y1k f []=some []:=rfl
def z1k{f:D->Option D}{d:D}{r:List D}:y1k f (d::r)=ob (f d) fun d=>ob (y1k f r) fun r=>some (d::r):=by
 simp only[y1k];cases f d with
 |none=>rfl
 |some d=>simp only[zc];cases y1k f r <;> rfl
def z1e{A:Type}{f:D->Option D}{g:A->D}:∀{l:List A},(∀ x,x ∈ l->f (g x)=some (g x))->y1k f (l.map g)=some (l.map g)
 |[],_=>rfl
 |x::l,h=>by simp only[al,z1k,h x (by simp),zc,z1e (l:=l) fun y hy=>h y (by simp[hy])]
def z5x{n:Nat}{l:List Int}:y1k (frz hp (n+1)) (l.map dI)=some (l.map dI):=z1e fun x _=>z4b
def zst{n:Nat}{l:List Cell}:y1k (frz hp (n+2)) (l.map y1z)=some (l.map y1z):=z1e fun x _=>rfl
def zlm{n:Nat}{l:List Use}:y1k (frz hp (n+2)) (l.map y51)=some (l.map y51):=z1e fun x _=>rfl
def z83{n:Nat}{l:List (List Int)}:y1k (frz hp (n+2)) (l.map ya)=some (l.map ya):=z1e fun x _=>by rw[z3u,z5x];rfl
def zbk{n:Nat}{l:List y1p}:y1k (frz hp (n+4)) (l.map y15)=some (l.map y15):=z1e fun x _=>by rw[z5b];simp only[z1k,z4b,zc,z3u,zlm,aq,z3d]
def zx0{n:Nat}{l:List Var}:y1k (frz hp (n+6)) (l.map y4p)=some (l.map y4p):=z1e fun x _=>by rw[z5b];simp only[z1k,z4b,zc,z3u,z5x,zbk,aq,z3d]
end
def zjm{l:List Int}:yr (l.map dI)=l.map dI:=by
 induction l with
 |nil=>rfl
 |cons x r ih=>simp only[al,yr,List.flatMap_cons]at ih ⊢;rw[ih];rfl
def zx6{n:Nat}{x:Int}:yr (ah n (.int .i64 x))=(ah n x).map dI:=by have:=zjm (l:=ah n x);rw[fe]at this;rw[fe];exact this
def za3:∀{l:List Int},y31 1 false l.length (l.map dI)=some (l.map dI)
 |[]=>rfl
 |x::r=>by simp only[List.length_cons,al,y31,y2d,List.getElem?_cons_zero,ym,List.drop_succ_cons,List.drop_zero,za3]
def zy1{cP:Nat->List D->Option D}{k:Nat}{caps args:List D}:ybt cP (.fn k caps) args=ob (y1k (frz [] depth) (args++caps)) fun vs=>cP k vs:=by simp only[ybt];cases y1k (frz [] depth) (args++caps) <;> rfl
end Dv
