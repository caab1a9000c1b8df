/- Texts that a proof of this claim uses, joined: Lw.Wp, Lw.Tidy, Lw.TidyOk, Lw.TidyOk2, Lw.TidyFn, Lw.Use, Lw.Eval, Lw.Ev2, Lw.Ev3, Lw.Ev4, Lw.Enc, Lw.Base. -/
import Derived.Test.YthcmaiplkbbioaaGreatDoorDvd
import Derived.Test.YthcmaiplkbbioaaGreatDoorDvb
import Derived.KernelRfl
import Derived.Test.YthcmaiplkbbioaaGreatDoorCode
set_option linter.all false
open Bool renaming and_eq_true->ak,false_eq_true->aS,not_eq_true'->ci,or_eq_true->cg
open Go renaming BinOp->iN,IntKind->bh
open Go.IntKind renaming i64->aH
open Go.IntWalk renaming i64_in->gN
open List renaming all_eq_true->ay,any_eq_true->ib,getD_eq_getElem?_getD->af,getElem?_eq_getElem->ac,getElem?_eq_some_iff->ae,getElem?_set_ne->bj,getElem?_set_self->aQ,idxOf_lt_length_of_mem->i9,isEmpty_iff->ii,map_cons->av,map_nil->aN,map_replicate->eZ,mem_append->aC,mem_cons->aA,mem_filter->iD,mem_flatMap->bE,mem_map->aK,mem_map_of_mem->kR,mem_of_getElem?->bw,replicate->ah
open Nat renaming add_zero->dQ
open Ne renaming symm->du
open Option renaming isNone_iff_eq_none->jl,map_eq_some_iff->ab,map_none->aY,map_some->al
open Option.some renaming injEq->aa
open Prod.mk renaming injEq->aw
namespace Dv
section
variable{E:Env}
def wp(E:Env)(c:DC)(st:St)(Q:Ex->St->Prop):Prop:=∃ ex st',dL E c st=some (ex,st')/\Q ex st'
def wpR(E:Env)(os:List y1f)(st:St)(Q:St->Prop):Prop:=∃ st',yi E (yu E (dL E)) (y1g E (dL E)) (y3c (dL E)) os st=some st'/\Q st'
theorem zht{c:DC}{st:St}{Q Q':Ex->St->Prop}(h:wp E c st Q)(hq:∀ ex st',Q ex st'->Q' ex st'):wp E c st Q':=by obtain⟨ex,st',h1,h2⟩:=h;exact⟨ex,st',h1,hq _ _ h2⟩
theorem zzk{st:St}{Q}:wp E .skip st Q ↔ Q .normal st:=by
 constructor
 ·rintro⟨ex,st',h1,h2⟩;rw[z8v]at h1;simp at h1;obtain⟨rfl,rfl⟩:=h1;exact h2
 ·intro h;exact⟨_,_,z8v,h⟩
theorem yg5{st:St}{Q}:wp E .ret st Q ↔ Q .ret st:=by
 constructor
 ·rintro⟨ex,st',h1,h2⟩;rw[z6q]at h1;simp at h1;obtain⟨rfl,rfl⟩:=h1;exact h2
 ·intro h;exact⟨_,_,z6q,h⟩
theorem zzm{id:Nat}{st:St}{Q}:wp E (.exit id) st Q ↔ Q (.exit id) st:=by
 constructor
 ·rintro⟨ex,st',h1,h2⟩;rw[zt3]at h1;simp at h1;obtain⟨rfl,rfl⟩:=h1;exact h2
 ·intro h;exact⟨_,_,zt3,h⟩
theorem yg4{a b:DC}{st:St}{Q}:wp E (.seq a b) st Q ↔ wp E a st (fun ex st'=>match ex with | .normal=>wp E b st' Q | ex=>Q ex st'):=by
 constructor
 ·rintro⟨ex,st',h1,h2⟩;rw[z9h]at h1;split at h1
  ·rename_i st1 ha;exact⟨_,_,ha,ex,st',h1,h2⟩
  ·rename_i r hne;refine⟨_,_,h1,?_⟩;cases ex with
   |normal=>exact absurd h1 (hne st')
   |exit id=>exact h2
   |ret=>exact h2
 ·rintro⟨ex,st',h1,h2⟩;cases ex with
  |normal=>obtain⟨ex2,st2,h3,h4⟩:=h2;exact⟨ex2,st2,by rw[z9h,h1];exact h3,h4⟩
  |exit id=>exact⟨_,_,by rw[z9h,h1],h2⟩
  |ret=>exact⟨_,_,by rw[z9h,h1],h2⟩
theorem zzn{c:Opd}{x y:DC}{st:St}{Q}{b:Bool}(h:yq st.sl c=.bool b):wp E (.cond c x y) st Q ↔ (b=true->wp E x st Q)/\(b=false->wp E y st Q):=by unfold wp;rw[z5b,h];cases b <;> simp
theorem zyb{c:Opd}{x y:DC}{st:St}{Q}:wp E (.ifp c x y) st Q ↔ if yy (yq st.sl c)=true then wp E x st Q else wp E y st Q:=by unfold wp;rw[zhd];split <;> exact Iff.rfl
theorem zug{id:Nat}{a:DC}{st:St}{Q}:wp E (.block id a) st Q ↔ wp E a st (fun ex st'=>match ex with | .exit i=>Q (if i=id then .normal else .exit i) st' | ex=>Q ex st'):=by
 constructor
 ·rintro⟨ex,st',h1,h2⟩;rw[z9z]at h1;cases ha:dL E a st with
  |none=>rw[ha]at h1;simp at h1
  |some r=>
   obtain⟨ex1,st1⟩:=r;rw[ha]at h1;refine⟨ex1,st1,ha,?_⟩;cases ex1 with
   |normal=>simp at h1;obtain⟨rfl,rfl⟩:=h1;exact h2
   |ret=>simp at h1;obtain⟨rfl,rfl⟩:=h1;exact h2
   |exit i=>simp at h1;obtain⟨rfl,rfl⟩:=h1;exact h2
 ·rintro⟨ex,st',h1,h2⟩;cases ex with
  |normal=>exact⟨_,_,by rw[z9z,h1],h2⟩
  |ret=>exact⟨_,_,by rw[z9z,h1],h2⟩
  |exit i=>exact⟨_,_,by rw[z9z,h1],h2⟩
theorem zp5{ap:List (Nat × Nat)}{ops:List y1f}{st:St}{Q}:wp E (.region false ap ops) st Q ↔ wpR E ops st (Q .normal):=by
 unfold wp wpR;rw[z5w];constructor
 ·rintro⟨ex,st',h1,h2⟩;simp only[ab,aw]at h1;obtain⟨st1,h3,rfl,rfl⟩:=h1;exact⟨_,h3,h2⟩
 ·rintro⟨st',h1,h2⟩;exact⟨_,_,by rw[h1];rfl,h2⟩
theorem zzl{b:DC}{Q:Ex->St->Prop}(I:Nat->St->Prop)
  (step:∀ k st,I k st->wp E b st (fun ex st'=>match ex with | .normal=>∃ k',k'<k/\I k' st' | ex=>Q ex st')):∀(k:Nat) (st:St),I k st->wp E (.loop b) st Q:=by
 intro k
 induction k using Nat.strongRecOn with
 |_ k ih=>
  intro st hI;obtain⟨ex,st',h1,h2⟩:=step k st hI;cases ex with
  |normal=>obtain⟨k',hk,hI'⟩:=h2;obtain⟨ex2,st2,h3,h4⟩:=ih k' hk st' hI';exact⟨ex2,st2,by rw[zjg,h1];exact h3,h4⟩
  |exit i=>exact⟨_,_,by rw[zjg,h1],h2⟩
  |ret=>exact⟨_,_,by rw[zjg,h1],h2⟩
end
end Dv
namespace Dv
mutual
inductive Xp where
 |v (i:Nat)
 |c (d:D)
 |n (op:DOp) (ks:Xs)
 |ite (c a b:Xp)
inductive Xs where
 |nil
 |cons (s:Nat) (x:Xp) (r:Xs)
end
def kv(n:Nat):List (Nat × D)->D
 |[]=>.undef
 |p::r=>if n=p.1 then p.2 else kv n r
def gOf(vs:List (Nat × D)):Opd->D
 |.t n=>kv n vs
 |.c d=>d
 |.f k=>.fn k []
mutual
def xv(E:Env)(cP:Nat->List D->Option D)(env:List D)(hp:List Obj):Xp->Option D
 |.v i=>env[i]?
 |.c d=>some d
 |.n op ks=>(match xvs E cP env hp ks with
  |some vs=>(match yb E cP 0 (gOf vs) hp op with
   |some e=>some e.d
   |none=>none)
  |none=>none)
 |.ite c a b=>(match xv E cP env hp c with
  |some (.bool true)=>xv E cP env hp a
  |some (.bool false)=>xv E cP env hp b
  |_=>none)
def xvs(E:Env)(cP:Nat->List D->Option D)(env:List D)(hp:List Obj):Xs->Option (List (Nat × D))
 |.nil=>some []
 |.cons s x r=>(match xv E cP env hp x,xvs E cP env hp r with
  |some d,some l=>some ((s,d)::l)
  |_,_=>none)
end
def vop(op:DOp):Bool:=y1i op || (match op with
 |.load _ _=>true
 |.lookup _ _ _ _=>true
 |.len _ _=>true
 |_=>false)
mutual
def y6y(i:Option Nat)(h:Bool):Xp->Bool
 |.v j=>!(i == some j)
 |.c _=>true
 |.n op ks=>(!h || y1i op) && y9c i h ks
 |.ite c a b=>y6y i h c && y6y i h a && y6y i h b
def y9c(i:Option Nat)(h:Bool):Xs->Bool
 |.nil=>true
 |.cons _ x r=>y6y i h x && y9c i h r
end
inductive TS where
 |asg (i:Nat) (x:Xp)
 |eff (gd:Option (Xp × Bool)) (dst:Option Nat) (op:DOp) (ks:Xs) (k:Option Nat)
inductive TC where
 |skip
 |ret
 |exit (id:Nat)
 |run (pad:Nat) (l:List TS)
 |seq (a b:TC)
 |cond (i:Nat) (a b:TC)
 |ifp (i:Nat) (a b:TC)
 |dead
 |block (id:Nat) (a:TC)
 |loop (a:TC)
 |rfunc (i:Nat) (ps:List Nat) (a b:TC)
 |chk (l:List (Nat × Nat))
def gdT(E:Env)(cP:Nat->List D->Option D)(env:List D)(hp:List Obj):Option (Xp × Bool)->Option Bool
 |none=>some true
 |some (x,b)=>(match xv E cP env hp x with
  |some (.bool c)=>some (c == b)
  |some _=>some false
  |none=>none)
def y9y(env:List D):Option Nat->D->List D
 |none,_=>env
 |some i,d=>env.set i d
def rTS(E:Env)(cP:Nat->List D->Option D)(cS cY:Nat->List D->List Obj->Option (D × List Obj))(base:Nat):List TS->List D->List Obj->Option (List D × List Obj)
 |[],env,hp=>some (env,hp)
 |.asg i x::r,env,hp=>(match xv E cP env hp x with
  |some d=>rTS E cP cS cY base r (env.set i d) hp
  |none=>none)
 |.eff gd dst op ks k::r,env,hp=>(match gdT E cP env hp gd with
  |some true=>(match xvs E cP env hp ks with
   |some vs=>(match yf E cP cS cY (match k with | some k=>base+k | none=>hp.length) (gOf vs) hp op with
    |some (d,hp')=>rTS E cP cS cY base r (y9y env dst d) hp'
    |none=>none)
   |none=>none)
  |some false=>rTS E cP cS cY base r (y9y env dst .undef) hp
  |none=>none)
noncomputable def rTL(E:Env):Nat->List TS->List D->List Obj->Option (List D × List Obj):=rTS E (yu E (dL E)) (y1g E (dL E)) (y3c (dL E))
def yhz(env:List D)(p:Nat × Nat):Bool:=match env[p.1]?,env[p.2]? with
 |some a,some b=>y93 (did a) (did b)
 |_,_=>false
def yeq(env:List D)(l:List (Nat × Nat)):Bool:=l.all (yhz env)
def yfj(L:Bool->Option Ex->Obj):Prop:=∃ sl ps asg body,L=fun b p=>.loop b sl ps asg body p
def wT(E:Env):TC->(Ex->List D->List Obj->Prop)->List D->List Obj->Prop
 |.skip,Q,env,hp=>Q .normal env hp
 |.ret,Q,env,hp=>Q .ret env hp
 |.exit id,Q,env,hp=>Q (.exit id) env hp
 |.run pad l,Q,env,hp=>(match rTL E hp.length l env (hp++ah pad .dead)with
  |some (env',hp')=>Q .normal env' hp'
  |none=>False)
 |.chk l,Q,env,hp=>yeq env l=true/\Q .normal env hp
 |.seq a b,Q,env,hp=>wT E a (fun ex env' hp'=>match ex with
  |.normal=>wT E b Q env' hp'
  |ex=>Q ex env' hp') env hp
 |.cond i a b,Q,env,hp=>(match env[i]? with
  |some (.bool t)=>if t=true then wT E a Q env hp else wT E b Q env hp
  |_=>False)
 |.ifp i a b,Q,env,hp=>(match env[i]? with
  |some d=>if yy d=true then wT E a Q env hp else wT E b Q env hp
  |none=>False)
 |.dead,_,_,_=>False
 |.block id a,Q,env,hp=>wT E a (fun ex env' hp'=>match ex with
  |.exit i=>Q (if i=id then .normal else .exit i) env' hp'
  |ex=>Q ex env' hp') env hp
 |.loop a,Q,env,hp=>∃(I:Nat->List D->List Obj->Prop) (k:Nat),I k env hp /\ ∀ k env hp,I k env hp->wT E a (fun ex env' hp'=>match ex with
  |.normal=>∃ k',k'<k/\I k' env' hp'
  |ex=>Q ex env' hp') env hp
 |.rfunc i ps a b,Q,env,hp=>∃ k caps,(env[i]?).map (y6j E)=some (.fn k caps) /\ ∀(L:Bool->Option Ex->Obj),yfj L ->
  (∀(args:List D) (hp1:List Obj) (K:Bool->List Obj->Prop),args.length=ps.length->hp1[hp.length]? = some (L false none) ->
   wT E a (fun ex env1 hp2=>ex=.normal/\hp2[hp.length]? = some (L false none) /\
    wT E b (fun ex _ hp3=>hp3[hp.length]? = some (L true none)/\(match ex with
     |.normal=>K true (hp3.set hp.length (L false none))
     |ex=>K false (hp3.set hp.length (L false (some ex))))) env1 (hp2.set hp.length (L true none))) (y23 env ps args) hp1 ->
   ∃ t hp2,y3c (dL E) hp.length args hp1=some (.bool t,hp2)/\K t hp2) ->
  ∃ d hp',y1g E (dL E) k (.yld hp.length::caps) (hp++[L false none])=some (d,hp') /\
   ((hp'[hp.length]? = some (L false none)/\Q .normal env (hp'.set hp.length .dead)) \/ ∃ ex,hp'[hp.length]? = some (L false (some ex))/\Q ex env (hp'.set hp.length .dead))
structure SV where
 g:List (Nat × Bool)
 x:Xp
abbrev Ab:=Nat->Option SV
def yiv(a b:List (Nat × Bool)):Bool:=a.all b.contains
def y9z(A:Ab)(G:List (Nat × Bool)):Opd->Option Xp
 |.c d=>some (.c d)
 |.f k=>some (.c (.fn k []))
 |.t s=>(match A s with
  |some sv=>if yiv sv.g G then some sv.x else none
  |none=>none)
def y5s(A:Ab)(G:List (Nat × Bool)):List Opd->Option Xs
 |[]=>some .nil
 |.t s::r=>(match y9z A G (.t s),y5s A G r with
  |some x,some ks=>some (.cons s x ks)
  |_,_=>none)
 |_::r=>y5s A G r
def y9u(A:Ab)(G:List (Nat × Bool))(op:DOp):Option Xp:=
 match op with
 |.move x=>y9z A G x
 |.assign x=>y9z A G x
 |.pick (.t c) a b=>(match y9z A G (.t c),y9z A ((c,true)::G) a,y9z A ((c,false)::G) b with
  |some x,some y,some z=>some (.ite x y z)
  |_,_,_=>none)
 |op=>if vop op then(match y5s A G (y11 op)with
  |some ks=>some (.n op ks)
  |none=>none)else none
def ybg:Opd->List Nat
 |.t s=>[s]
 |_=>[]
def y73(G:List (Nat × Bool))(op:DOp):List (Nat × List (Nat × Bool)):=
 match op with
 |.move x=>(ybg x).map fun s=>(s,G)
 |.assign x=>(ybg x).map fun s=>(s,G)
 |.pick (.t c) a b=>(c,G)::((ybg a).map fun s=>(s,(c,true)::G))++((ybg b).map fun s=>(s,(c,false)::G))
 |op=>(y11 op).flatMap fun o=>(ybg o).map fun s=>(s,G)
def yal(G:List (Nat × Bool))(op:DOp):List (Nat × List (Nat × Bool)):=(y11 op).flatMap fun o=>(ybg o).map fun s=>(s,G)
def yaq:DOp->Bool
 |.move _=>true
 |.assign _=>true
 |_=>false
def y8b(A:Ab)(i:Option Nat)(h:Bool):Ab:=fun s=>match A s with
 |some sv=>if sv.g.isEmpty && y6y i h sv.x then some sv else none
 |none=>none
def y81(A:Ab)(s:Nat)(sv:SV):Ab:=fun n=>if n=s then some sv else A n
def ybs(nm:List Nat)(A:Ab):Option Nat->Ab
 |none=>A
 |some d=>y81 A d ⟨[],.v (nm.idxOf d)⟩
def y9i(A:Ab)(i:Option Nat)(h:Bool)(dst:Option Nat)(dm:List (Nat × List (Nat × Bool))):List (Nat × List (Nat × Bool)):=
 dm.filter fun p=>p.2.isEmpty && !(dst == some p.1) && (y8b A i h p.1).isSome
def gdX(A:Ab):Option (Nat × Bool)->Option (Option (Xp × Bool))
 |none=>some none
 |some (j,b)=>(match y9z A [] (.t j)with
  |some x=>some (some (x,b))
  |none=>none)
def y6i(A:Ab):Option (Nat × Bool)->Option (List (Nat × Bool))
 |none=>some []
 |some (j,b)=>(match A j with
  |some sv=>some ((j,b)::sv.g)
  |none=>none)
def ybi(nm:List Nat)(N:Nat):Option Nat->Bool
 |none=>true
 |some d=>nm.contains d && decide (d<N)
def comp(nm:List Nat)(N:Nat)(dr:Bool):Nat->List y1f->Ab->Option (List TS × List (Nat × List (Nat × Bool)))
 |_,[],_=>some ([],[])
 |pos,o::os,A=>
  if vop o.op then
   (match o.dst,y6i A o.gd with
   |some d,some G=>(match y9u A G o.op with
    |some x=>
     if nm.contains d then
      (if G.isEmpty && decide (d<N)then
       (match comp nm N dr (pos+1) os (ybs nm (y8b A (some (nm.idxOf d)) false) (some d))with
       |some (ts,dm)=>some (.asg (nm.idxOf d) x::ts,y73 [] o.op++y9i A (some (nm.idxOf d)) false (some d) dm)
       |none=>none)else none)
     else
      (if(A d).isNone && decide (d<N)then
       (match comp nm N dr (pos+1) os (y81 A d ⟨G,x⟩)with
       |some (ts,dm)=>
        if dm.any (fun p=>p.1 == d && yiv p.2 G)then some (ts,y73 G o.op++dm.filter fun p=>!(p.1 == d))
        else if yaq o.op then some (ts,dm.filter fun p=>!(p.1 == d))else none
       |none=>none)else none)
    |none=>none)
   |_,_=>none)
  else
   (if ybi nm N o.dst then
    (match gdX A o.gd,y5s A o.gd.toList (y11 o.op)with
    |some gd,some ks=>(match comp nm N dr (pos+1) os (ybs nm (y8b A (o.dst.map nm.idxOf) true) o.dst)with
     |some (ts,dm)=>some (.eff gd (o.dst.map nm.idxOf) o.op ks (if dr then some pos else none)::ts,
       yal o.gd.toList o.op++y9i A (o.dst.map nm.idxOf) true o.dst dm)
     |none=>none)
    |_,_=>none)else none)
def yaj(nm:List Nat):Ab:=fun s=>if nm.contains s then some ⟨[],.v (nm.idxOf s)⟩else none
def ybh(nm:List Nat):Opd->Option (Option Nat)
 |.t s=>if nm.contains s then some (some (nm.idxOf s))else none
 |.c d=>if(did d).isNone then some none else none
 |.f _=>some none
def ybf(nm:List Nat)(x y:Opd):Option (List (Nat × Nat)):=match ybh nm x,ybh nm y with
 |some (some i),some (some j)=>some [(i,j)]
 |some (some _),some none=>some []
 |some none,some _=>some []
 |_,_=>none
def yao{A:Type}:List (Option (List A))->Option (List A)
 |[]=>some []
 |x::r=>(match x,yao r with
  |some a,some b=>some (a++b)
  |_,_=>none)
def apX1(nm:List Nat)(a b:Option y1f):Option (List (Nat × Nat)):=match a,b with
 |some a,some b=>yao ((y1p a.op).flatMap fun x=>(y1p b.op).map fun y=>ybf nm x y)
 |_,_=>none
def apX(nm:List Nat)(ops:List y1f)(ap:List (Nat × Nat)):Option (List (Nat × Nat)):=yao (ap.map fun p=>apX1 nm ops[p.1]? ops[p.2]?)
def y2v(nm:List Nat)(N:Nat):DC->Option TC
 |.skip=>some .skip
 |.ret=>some .ret
 |.exit id=>some (.exit id)
 |.region dr ap ops=>(match comp nm N dr 0 ops (yaj nm)with
  |some (ts,_)=>if dr && !ap.isEmpty then(match apX nm ops ap with
    |some l=>some (.seq (.run ops.length ts) (.chk l))
    |none=>none)
   else some (.run (if dr then ops.length else 0) ts)
  |none=>none)
 |.seq a b=>(match y2v nm N a,y2v nm N b with
  |some x,some y=>some (.seq x y)
  |_,_=>none)
 |.cond (.t k) a b=>if nm.contains k then(match y2v nm N a,y2v nm N b with
  |some x,some y=>some (.cond (nm.idxOf k) x y)
  |_,_=>none)else none
 |.cond (.c .undef) _ _=>some .dead
 |.ifp (.t k) a b=>if nm.contains k then(match y2v nm N a,y2v nm N b with
  |some x,some y=>some (.ifp (nm.idxOf k) x y)
  |_,_=>none)else none
 |.block id a=>(match y2v nm N a with
  |some x=>some (.block id x)
  |none=>none)
 |.loop a=>(match y2v nm N a with
  |some x=>some (.loop x)
  |none=>none)
 |.rfunc (.t f) ps a b=>if nm.contains f && ps.all (fun p=>nm.contains p && decide (p<N))then(match y2v nm N a,y2v nm N b with
  |some x,some y=>some (.rfunc (nm.idxOf f) (ps.map nm.idxOf) x y)
  |_,_=>none)else none
 |_=>none
end Dv
namespace Dv
section
variable{E:Env}{cP:Nat->List D->Option D}{cS cY:Nat->List D->List Obj->Option (D × List Obj)}{env env':List D}{hp hp':List Obj}{A:Ab}{N:Nat}{nm:List Nat}{sl:List D}
theorem zzx{op:DOp}(h:vop op=true):op.fin=false:=by
 unfold vop at h;rw[cg]at h;rcases h with h | h
 ·exact z81 h
 ·cases op <;> first | rfl | simp at h
theorem ygf{op:DOp}{id id':Nat}{g:Opd->D}(h:vop op=true):yb E cP id g hp op=yb E cP id' g hp op:=by
 unfold vop at h;rw[cg]at h;rcases h with h | h
 ·exact z8k h
 ·cases op <;> first | rfl | simp at h
theorem zui{op:DOp}{id:Nat}{g:Opd->D}{e:Ef}(h:vop op=true)(hp:yb E cP id g hp op=some e):e.new=none/\e.kill=none:=by
 unfold vop at h;rw[cg]at h;rcases h with h | h
 ·exact z8l h hp
 ·cases op <;> first
   |(simp at h;done)
   |(simp only[yb,ab]at hp;obtain⟨_,_,rfl⟩:=hp;exact⟨rfl,rfl⟩)
theorem zk0{op:DOp}{id:Nat}{g:Opd->D}{e:Ef}(h:vop op=true)(he:yb E cP id g hp op=some e):yf E cP cS cY id g hp op=some (e.d,hp):=by obtain⟨h1,h2⟩:=zui h he;unfold yf;rw[zzx h];simp only[he,al,yj,h1,h2]
mutual
theorem z3g{i:Option Nat}{h:Bool}(hh:h=false->hp'=hp)(he:∀ j,some j ≠ i->env'[j]? = env[j]?):∀(x:Xp),y6y i h x=true->xv E cP env' hp' x=xv E cP env hp x
 |.v j,hk=>by simp only[y6y,ci,beq_eq_false_iff_ne]at hk;simp only[xv];exact he j (fun e=>hk e.symm)
 |.c d,_=>by simp only[xv]
 |.n op ks,hk=>by
  simp only[y6y,ak,cg,ci]at hk;simp only[xv,za6 hh he ks hk.2];rcases hk.1 with h1 | h1
  ·rw[hh h1]
  ·simp only[z8k (hp:=hp') (hp':=hp) (id':=0) h1]
 |.ite c a b,hk=>by simp only[y6y,ak]at hk;simp only[xv,z3g hh he c hk.1.1,z3g hh he a hk.1.2,z3g hh he b hk.2]
theorem za6{i:Option Nat}{h:Bool}(hh:h=false->hp'=hp)(he:∀ j,some j ≠ i->env'[j]? = env[j]?):∀(ks:Xs),y9c i h ks=true->xvs E cP env' hp' ks=xvs E cP env hp ks
 |.nil,_=>by simp only[xvs]
 |.cons s x r,hk=>by simp only[y9c,ak]at hk;simp only[xvs,z3g hh he x hk.1,za6 hh he r hk.2]
end
def gok(E:Env)(cP:Nat->List D->Option D)(env:List D)(hp:List Obj)(A:Ab)(G:List (Nat × Bool)):Prop:=
 ∀ p,p ∈ G->∃ sv,A p.1=some sv/\xv E cP env hp sv.x=some (.bool p.2)
theorem z3u:gok E cP env hp A []:=fun p hp=>by cases hp
theorem zj4{g G:List (Nat × Bool)}(h:yiv g G=true)(hG:gok E cP env hp A G):gok E cP env hp A g:=fun p hp=>hG p (by simpa using ay.1 h p hp)
theorem z3d{p:Nat × Bool}{G:List (Nat × Bool)}:gok E cP env hp A (p::G) ↔ (∃ sv,A p.1=some sv/\xv E cP env hp sv.x=some (.bool p.2))/\gok E cP env hp A G:=by
 constructor
 ·exact fun h=>⟨h p (by simp),fun q hq=>h q (by simp[hq])⟩
 ·rintro⟨h1,h2⟩ q hq;rcases aA.1 hq with rfl | hq
  ·exact h1
  ·exact h2 q hq
structure ya7(E:Env)(cP:Nat->List D->Option D)(A:Ab)(N:Nat)(env:List D)(hp:List Obj)(sl:List D):Prop where
 len:sl.length=N
 ok:∀ s sv,A s=some sv->s<N/\(gok E cP env hp A sv.g->xv E cP env hp sv.x=some (sl.getD s .undef))/\(¬ gok E cP env hp A sv.g->sl.getD s .undef=.undef)
 cl:∀ s sv,A s=some sv->∀ p,p ∈ sv.g->A p.1 ≠ none
theorem z7p(R:ya7 E cP A N env hp sl){G:List (Nat × Bool)}{o:Opd}{x:Xp}(h:y9z A G o=some x)(hG:gok E cP env hp A G):xv E cP env hp x=some (yq sl o):=by
 cases o with
 |c d=>simp only[y9z,aa]at h;subst h;simp only[xv,yq]
 |f k=>simp only[y9z,aa]at h;subst h;simp only[xv,yq]
 |t s=>
  simp only[y9z]at h;split at h
  ·rename_i sv hs;split at h
   ·rename_i hg;simp only[aa]at h;subst h;exact(R.ok s sv hs).2.1 (zj4 hg hG)
   ·cases h
  ·cases h
theorem zel{G:List (Nat × Bool)}{s:Nat}{x:Xp}(h:y9z A G (.t s)=some x):∃ sv,A s=some sv/\sv.x=x/\yiv sv.g G=true:=by
 simp only[y9z]at h;split at h
 ·rename_i sv hs;split at h
  ·rename_i hg;simp only[aa]at h;exact⟨sv,hs,h,hg⟩
  ·cases h
 ·cases h
theorem ylc{vs:List (Nat × D)}{f:Nat->D}(h:∀ p,p ∈ vs->p.2=f p.1){s:Nat}(hs:s ∈ vs.map (·.1)):kv s vs=f s:=by
 induction vs with
 |nil=>cases hs
 |cons p r ih=>
  simp only[kv]
  by_cases e:s=p.1
  ·rw[if_pos e,h p (by simp),e]
  ·rw[if_neg e];refine ih (fun q hq=>h q (by simp[hq])) ?_
   simp only[av,aA]at hs;exact hs.resolve_left e
theorem zb9(R:ya7 E cP A N env hp sl){G:List (Nat × Bool)}(hG:gok E cP env hp A G):∀{os:List Opd} {ks:Xs},y5s A G os=some ks ->
  ∃ vs,xvs E cP env hp ks=some vs/\(∀ p,p ∈ vs->p.2=sl.getD p.1 .undef) /\ ∀ s,.t s ∈ os->s ∈ vs.map (·.1)
 |[],ks,h=>by simp only[y5s,aa]at h;subst h;exact⟨[],by simp only[xvs],(fun p hq=>by cases hq),(fun s hs=>by cases hs)⟩
 |.t s::r,ks,h=>by
  simp only[y5s]at h;split at h
  ·rename_i x k h1 h2;simp only[aa]at h;subst h;obtain⟨vs,e1,e2,e3⟩:=zb9 R hG h2;refine⟨(s,sl.getD s .undef)::vs,by simp only[xvs,z7p R h1 hG,e1,yq],?_,?_⟩
   ·intro p hq;rcases aA.1 hq with rfl | hq
    ·rfl
    ·exact e2 p hq
   ·intro s' hs';rcases aA.1 hs' with e | hs'
    ·simp only[Opd.t.injEq]at e;subst e;simp
    ·exact List.mem_cons_of_mem _ (e3 s' hs')
  ·cases h
 |.c d::r,ks,h=>by
  simp only[y5s]at h;obtain⟨vs,e1,e2,e3⟩:=zb9 R hG h;exact⟨vs,e1,e2,fun s hs=>by
   rcases aA.1 hs with e | hs
   ·cases e
   ·exact e3 s hs⟩
 |.f k::r,ks,h=>by
  simp only[y5s]at h;obtain⟨vs,e1,e2,e3⟩:=zb9 R hG h;exact⟨vs,e1,e2,fun s hs=>by
   rcases aA.1 hs with e | hs
   ·cases e
   ·exact e3 s hs⟩
theorem zyt{vs:List (Nat × D)}{os:List Opd}(h:∀ p,p ∈ vs->p.2=sl.getD p.1 .undef)(h':∀ s,.t s ∈ os->s ∈ vs.map (·.1)):∀ o,o ∈ os->gOf vs o=yq sl o:=by
 intro o ho;cases o with
 |c d=>rfl
 |f k=>rfl
 |t s=>unfold gOf yq;simp only;exact ylc (f:=fun s=>sl.getD s .undef) h (h' s ho)
theorem z5r{G:List (Nat × Bool)}:∀{os:List Opd} {ks:Xs} {vs:List (Nat × D)},y5s A G os=some ks->xvs E cP env hp ks=some vs->∀ s,.t s ∈ os->∃ sv,A s=some sv /\ ∃ d,xv E cP env hp sv.x=some d
 |[],ks,vs,h,hv,s,hs=>by cases hs
 |.t s'::r,ks,vs,h,hv,s,hs=>by
  simp only[y5s]at h;split at h
  ·rename_i x k h1 h2;simp only[aa]at h;subst h;simp only[xvs]at hv;split at hv
   ·rename_i d l e1 e2;rcases aA.1 hs with e | hs
    ·simp only[Opd.t.injEq]at e;subst e;obtain⟨sv,g1,g2,_⟩:=zel h1;exact⟨sv,g1,d,by rw[g2];exact e1⟩
    ·exact z5r h2 e2 s hs
   ·cases hv
  ·cases h
 |.c d::r,ks,vs,h,hv,s,hs=>by
  simp only[y5s]at h;rcases aA.1 hs with e | hs
  ·cases e
  ·exact z5r h hv s hs
 |.f d::r,ks,vs,h,hv,s,hs=>by
  simp only[y5s]at h;rcases aA.1 hs with e | hs
  ·cases e
  ·exact z5r h hv s hs
theorem zyg(R:ya7 E cP A N env hp sl){G:List (Nat × Bool)}{op:DOp}{x:Xp}{d:D}{id:Nat}(h:y9u A G op=some x)(hG:gok E cP env hp A G)(hx:xv E cP env hp x=some d) :
  ∃ e,yb E cP id (yq sl) hp op=some e/\e.d=d:=by
 unfold y9u at h;split at h
 ·rw[z7p R h hG]at hx;exact⟨_,rfl,by simpa using hx⟩
 ·rw[z7p R h hG]at hx;exact⟨_,rfl,by simpa using hx⟩
 ·rename_i c a b;split at h
  ·rename_i xc xa xb h1 h2 h3;simp only[aa]at h;subst h;have e1:=z7p R h1 hG;obtain⟨sv,g1,g2,_⟩:=zel h1;simp only[xv,e1]at hx;split at hx
   ·rename_i hb;simp only[aa]at hb;have hG':gok E cP env hp A ((c,true)::G):=z3d.2 ⟨⟨sv,g1,by rw[g2,e1,hb]⟩,hG⟩
    rw[z7p R h2 hG']at hx;exact⟨⟨yq sl a,none,none⟩,by simp only[yb,hb,if_true],by simpa using hx⟩
   ·rename_i hb;simp only[aa]at hb;have hG':gok E cP env hp A ((c,false)::G):=z3d.2 ⟨⟨sv,g1,by rw[g2,e1,hb]⟩,hG⟩
    rw[z7p R h3 hG']at hx;exact⟨⟨yq sl b,none,none⟩,by simp only[yb,hb,aS,if_false],by simpa using hx⟩
   ·cases hx
  ·cases h
 ·split at h
  ·rename_i hv;split at h
   ·rename_i ks hk;simp only[aa]at h;subst h;obtain⟨vs,e1,e2,e3⟩:=zb9 R hG hk;simp only[xv,e1]at hx;split at hx
    ·rename_i e he;rw[z44 (zyt e2 e3)]at he;rw[ygf hv]at he;exact⟨e,he,by simpa using hx⟩
    ·cases hx
   ·cases h
  ·cases h
theorem z6b{o:Opd}{s:Nat}:s ∈ ybg o ↔ o=.t s:=by cases o <;> simp[ybg,eq_comm]
theorem zkr{G:List (Nat × Bool)}{op:DOp}{x:Xp}{d:D}(h:y9u A G op=some x)(hx:xv E cP env hp x=some d) :
  ∀ p,p ∈ y73 G op->gok E cP env hp A p.2->∀ sv,A p.1=some sv->∃ d,xv E cP env hp sv.x=some d:=by
 intro p hm hg sv hs;unfold y9u at h;split at h
 ·simp only[y73,aK]at hm;obtain⟨s,h1,rfl⟩:=hm;rw[z6b]at h1;subst h1;obtain⟨sv',g1,g2,_⟩:=zel h;rw[hs]at g1;simp only[aa]at g1;subst g1;exact⟨d,by rw[g2];exact hx⟩
 ·simp only[y73,aK]at hm;obtain⟨s,h1,rfl⟩:=hm;rw[z6b]at h1;subst h1;obtain⟨sv',g1,g2,_⟩:=zel h;rw[hs]at g1;simp only[aa]at g1;subst g1;exact⟨d,by rw[g2];exact hx⟩
 ·rename_i c a b;split at h
  ·rename_i xc xa xb h1 h2 h3;simp only[aa]at h;subst h;simp only[y73,aC,aA,aK]at hm;obtain⟨svc,g1,g2,_⟩:=zel h1;simp only[xv]at hx;have hc:∃ t,xv E cP env hp xc=some (.bool t):=by
    split at hx
    ·exact⟨_,by assumption⟩
    ·exact⟨_,by assumption⟩
    ·cases hx
   obtain⟨t,ht⟩:=hc;rcases hm with(rfl | ⟨s,hs',rfl⟩) | ⟨s,hs',rfl⟩
   ·rw[hs]at g1;simp only[aa]at g1;subst g1;exact⟨_,by rw[g2];exact ht⟩
   ·rw[z6b]at hs';subst hs';obtain⟨sva,q1,q2,_⟩:=zel h2;rw[hs]at q1;simp only[aa]at q1;subst q1;obtain⟨⟨sv2,r1,r2⟩,_⟩:=z3d.1 hg;simp only at r1 r2;rw[g1]at r1;simp only[aa]at r1;subst r1;rw[g2,ht]at r2;simp only[aa,D.bool.injEq]at r2;subst r2;rw[ht]at hx;exact⟨d,by rw[q2];exact hx⟩
   ·rw[z6b]at hs';subst hs';obtain⟨sva,q1,q2,_⟩:=zel h3;rw[hs]at q1;simp only[aa]at q1;subst q1;obtain⟨⟨sv2,r1,r2⟩,_⟩:=z3d.1 hg;simp only at r1 r2;rw[g1]at r1;simp only[aa]at r1;subst r1;rw[g2,ht]at r2;simp only[aa,D.bool.injEq]at r2;subst r2;rw[ht]at hx;exact⟨d,by rw[q2];exact hx⟩
  ·cases h
 ·rename_i hm1 hm2 hm3;split at h
  ·rename_i hv;split at h
   ·rename_i ks hk;simp only[aa]at h;subst h;have hn:y73 G op=(y11 op).flatMap fun o=>(ybg o).map fun s=>(s,G):=by
     unfold y73;split
     ·exact absurd rfl (hm1 _)
     ·exact absurd rfl (hm2 _)
     ·exact absurd rfl (hm3 _ _ _)
     ·rfl
    rw[hn]at hm;simp only[bE,aK]at hm;obtain⟨o,h1,s,h2,rfl⟩:=hm;rw[z6b]at h2;subst h2;simp only[xv]at hx;split at hx
    ·rename_i vs e1;obtain⟨sv',q1,q2⟩:=z5r hk e1 s h1;rw[hs]at q1;simp only[aa]at q1;subst q1;exact q2
    ·cases hx
   ·cases h
  ·cases h
theorem ydf{G:List (Nat × Bool)}{op:DOp}:∀ p,p ∈ y73 G op->gok E cP env hp A p.2->gok E cP env hp A G:=by
 intro p hm hg;unfold y73 at hm;split at hm
 ·simp only[aK]at hm;obtain⟨s,_,rfl⟩:=hm;exact hg
 ·simp only[aK]at hm;obtain⟨s,_,rfl⟩:=hm;exact hg
 ·simp only[aC,aA,aK]at hm;rcases hm with(rfl | ⟨s,_,rfl⟩) | ⟨s,_,rfl⟩
  ·exact hg
  ·exact(z3d.1 hg).2
  ·exact(z3d.1 hg).2
 ·simp only[bE,aK]at hm;obtain⟨o,_,s,_,rfl⟩:=hm;exact hg
def Dem(E:Env)(cP:Nat->List D->Option D)(env:List D)(hp:List Obj)(A:Ab)(dm:List (Nat × List (Nat × Bool))):Prop:=
 ∀ p,p ∈ dm->gok E cP env hp A p.2->∀ sv,A p.1=some sv->∃ d,xv E cP env hp sv.x=some d
theorem zda{i:Option Nat}{h:Bool}{s:Nat}{sv:SV}(hk:y8b A i h s=some sv):A s=some sv/\sv.g=[]/\y6y i h sv.x=true:=by
 unfold y8b at hk;split at hk
 ·rename_i sv' hs;split at hk
  ·rename_i hc;simp only[aa]at hk;subst hk;simp only[ak,ii]at hc;exact⟨hs,hc.1,hc.2⟩
  ·cases hk
 ·cases hk
theorem ycw{o:Option Nat}{s:Nat}(h:∀ d,o=some d->s ≠ d):ybs nm A o s=A s:=by
 cases o with
 |none=>rfl
 |some d=>simp only[ybs,y81];rw[if_neg (h d rfl)]
theorem z83{d:Nat}{sv:SV}{G:List (Nat × Bool)}(hd:A d=none)(h:gok E cP env hp A G):gok E cP env hp (y81 A d sv) G:=by
 intro p hm;obtain⟨s,h1,h2⟩:=h p hm;refine⟨s,?_,h2⟩;unfold y81;rw[if_neg (fun e=>by rw[e,hd]at h1;cases h1)]
 exact h1
theorem zba{i dst:Option Nat}{h:Bool}{dm:List (Nat × List (Nat × Bool))}(hh:h=false->hp'=hp)(he:∀ j,some j ≠ i->env'[j]? = env[j]?)
  (D1:Dem E cP env' hp' (ybs nm (y8b A i h) dst) dm):Dem E cP env hp A (y9i A i h dst dm):=by
 intro p hm hg sv hs;simp only[y9i,iD,ak,ii,ci,beq_eq_false_iff_ne]at hm;obtain⟨h1,⟨h2,h3⟩,h4⟩:=hm;obtain⟨sv',h5⟩:=Option.isSome_iff_exists.1 h4;obtain⟨k1,k2,k3⟩:=zda h5;rw[hs]at k1;simp only[aa]at k1;subst k1;obtain⟨d,hd⟩:=D1 p h1 (by rw[h2];exact z3u) sv (by
  rw[ycw (fun d hd e=>h3 (by rw[hd,e]))];exact h5)
 exact⟨d,by rw[<- z3g hh he sv.x k3];exact hd⟩
theorem zam{i:Nat}{d:D}:∀ j,some j ≠ some i->(env.set i d)[j]? = env[j]?:=fun j h=>by rw[bj (fun e=>h (by rw[e]))]
theorem zcx{i:Option Nat}{d:D}:∀ j,some j ≠ i->(y9y env i d)[j]? = env[j]?:=by
 cases i with
 |none=>intro j _;rfl
 |some i=>exact zam
theorem zmz{G:List (Nat × Bool)}{op:DOp}{p:Nat × List (Nat × Bool)}(h:p ∈ yal G op):p.2=G /\ .t p.1 ∈ y11 op:=by simp only[yal,bE,aK]at h;obtain⟨o,h1,s,h2,rfl⟩:=h;rw[z6b]at h2;subst h2;exact⟨rfl,h1⟩
theorem zbr{base:Nat}{dr:Bool}:∀{os:List y1f} {pos:Nat} {A:Ab} {ts:List TS} {dm:List (Nat × List (Nat × Bool))},comp nm N dr pos os A=some (ts,dm) ->
  ∀{env:List D} {hp:List Obj} {r:List D × List Obj},rTS E cP cS cY base ts env hp=some r->Dem E cP env hp A dm
 |[],pos,A,ts,dm,hc,env,hp,r,hr=>by simp only[comp,aa,aw]at hc;obtain⟨_,rfl⟩:=hc;intro p hm;cases hm
 |o::os,pos,A,ts,dm,hc,env,hp,r,hr=>by
  simp only[comp]at hc;split at hc
  ·rename_i hv;split at hc
   ·rename_i d G hd hG;split at hc
    ·rename_i x hx;split at hc
     ·split at hc
      ·rename_i hcond;simp only[ak,ii]at hcond;split at hc
       ·rename_i ts' dm' hc';simp only[aa,aw]at hc;obtain⟨rfl,rfl⟩:=hc;simp only[rTS]at hr;split at hr
        ·rename_i v hxv;have IH:=zbr hc' hr;intro p hm hg sv hs;rcases aC.1 hm with hm | hm
         ·exact zkr (G:=[]) (by rw[hcond.1]at hx;exact hx) hxv p hm hg sv hs
         ·exact zba (fun _=>rfl) zam IH p hm hg sv hs
        ·cases hr
       ·cases hc
      ·cases hc
     ·split at hc
      ·rename_i hcond;simp only[ak,jl]at hcond;split at hc
       ·rename_i ts' dm' hc';have filt:Dem E cP env hp (y81 A d ⟨G,x⟩) dm'->Dem E cP env hp A (dm'.filter fun p=>!(p.1 == d)):=by intro IH p hm hg sv hs;simp only[iD,ci,beq_eq_false_iff_ne]at hm;exact IH p hm.1 (z83 hcond.1 hg) sv (by unfold y81;rw[if_neg hm.2];exact hs)
        split at hc
        ·rename_i hany;simp only[aa,aw]at hc;obtain⟨rfl,rfl⟩:=hc;have IH:=zbr hc' hr;intro p hm hg sv hs;rcases aC.1 hm with hm | hm
         ·obtain⟨q,q1,q2⟩:=ib.1 hany;simp only[ak,beq_iff_eq]at q2;have hG1:gok E cP env hp A G:=ydf p hm hg;obtain⟨v,hxv⟩:=IH q q1 (zj4 q2.2 (z83 hcond.1 hG1)) ⟨G,x⟩ (by unfold y81;rw[if_pos q2.1])
          exact zkr hx hxv p hm hg sv hs
         ·exact filt IH p hm hg sv hs
        ·split at hc
         ·simp only[aa,aw]at hc;obtain⟨rfl,rfl⟩:=hc;exact filt (zbr hc' hr)
         ·cases hc
       ·cases hc
      ·cases hc
    ·cases hc
   ·cases hc
  ·split at hc
   ·split at hc
    ·rename_i gd ks hgd hks;split at hc
     ·rename_i ts' dm' hc';simp only[aa,aw]at hc;obtain⟨rfl,rfl⟩:=hc;simp only[rTS]at hr;intro p hm hg sv hs;rcases aC.1 hm with hm | hm
      ·obtain⟨n1,n2⟩:=zmz hm
       -- the guard holds
       have hgt:gdT E cP env hp gd=some true:=by
        cases hog:o.gd with
        |none=>rw[hog]at hgd;simp only[gdX,aa]at hgd;subst hgd;rfl
        |some q=>
         obtain⟨j,b⟩:=q;rw[hog]at hgd n1;simp only[gdX]at hgd;split at hgd
         ·rename_i xg hxg;simp only[aa]at hgd;subst hgd;obtain⟨svj,g1,g2,_⟩:=zel hxg;rw[n1]at hg;obtain⟨sv2,r1,r2⟩:=hg (j,b) (by simp)
          simp only at r1 r2;rw[g1]at r1;simp only[aa]at r1;subst r1;rw[g2]at r2;simp only[gdT,r2,beq_self_eq_true]
         ·cases hgd
       rw[hgt]at hr;simp only at hr;split at hr
       ·rename_i vs e1;obtain⟨sv',q1,q2⟩:=z5r hks e1 p.1 n2;rw[hs]at q1;simp only[aa]at q1;subst q1;exact q2
       ·cases hr
      ·split at hr
       ·split at hr
        ·split at hr
         ·exact zba (fun h=>by cases h) zcx (zbr hc' hr) p hm hg sv hs
         ·cases hr
        ·cases hr
       ·exact zba (fun h=>by cases h) zcx (zbr hc' hr) p hm hg sv hs
       ·cases hr
     ·cases hc
    ·cases hc
   ·cases hc
end
end Dv
namespace Dv
section
variable{E:Env}{cP:Nat->List D->Option D}{cS cY:Nat->List D->List Obj->Option (D × List Obj)}{env env':List D}{hp hp':List Obj}{A:Ab}{N:Nat}{nm:List Nat}{sl:List D}
def y6o(nm:List Nat)(env sl:List D):Prop:=env.length=nm.length /\ ∀(i s:Nat),nm[i]? = some s->env[i]? = some (sl.getD s .undef)
theorem y6o.get(S:y6o nm env sl){s:Nat}(h:nm.contains s=true):nm.idxOf s<env.length/\env[nm.idxOf s]? = some (sl.getD s .undef):=by
 have hm:s ∈ nm:=by simpa using h
 have hlt:=i9 hm;refine⟨by rw[S.1];exact hlt,S.2 _ _ ?_⟩
 rw[ac hlt];simp
theorem zbh{n:Nat}{d e:D}(h:n<sl.length):(sl.set n d).getD n e=d:=by rw[af,aQ h];rfl
theorem y6o.set(nd:nm.Nodup)(S:y6o nm env sl){s:Nat}{d:D}(h:nm.contains s=true)(hs:s<sl.length):y6o nm (env.set (nm.idxOf s) d) (sl.set s d):=by
 have hm:s ∈ nm:=by simpa using h
 have hlt:=i9 hm;refine⟨by simpa using S.1,fun i s' h'=>?_⟩
 by_cases e:i=nm.idxOf s
 ·subst e;have:s'=s:=by rw[ac hlt]at h';simp at h';exact h'.symm
  subst this;rw[aQ (by rw[S.1];exact hlt),zbh hs]
 ·rw[bj (du e)];have hne:s ≠ s':=by
   rintro rfl;apply e;have hi:=(ae.1 h').1;have h1:nm[i]=s:=(ae.1 h').2;have h2:nm[nm.idxOf s]=s:=by simp
   exact(List.getElem_inj nd).1 (h1.trans h2.symm)
  rw[getD_set_ne hne];exact S.2 i s' h'
theorem y6o.other(S:y6o nm env sl){s:Nat}{d:D}(h:nm.contains s=false):y6o nm env (sl.set s d):=by
 refine⟨S.1,fun i s' h'=>?_⟩
 have hne:s ≠ s':=by rintro rfl;have:=bw h';simp at h;exact h this
 rw[getD_set_ne hne];exact S.2 i s' h'
theorem zpt(hl:sl.length=N)(hN:nm.all (fun s=>decide (s<N))=true)(S:y6o nm env sl):ya7 E cP (yaj nm) N env hp sl:=by
 refine⟨hl,fun s sv h=>?_,fun s sv h p hp=>?_⟩
 all_goals unfold yaj at h
 all_goals split at h
 rotate_left 2
 ·simp only[aa]at h;subst h;cases hp
 ·cases h
 ·rename_i hc;simp only[aa]at h;subst h;have hm:s ∈ nm:=by simpa using hc
  refine⟨by simpa using ay.1 hN s hm,fun _=>?_,fun h=>absurd z3u h⟩
  simp only[xv];exact(S.get hc).2
 ·cases h
def y72(dr:Bool)(E:Env)(cP:Nat->List D->Option D)(cS cY:Nat->List D->List Obj->Option (D × List Obj))(id:Nat)(os:List y1f)(st:St):Option St:=
 if dr then y14 E cP cS cY id os st else yi E cP cS cY os st
theorem zm9{dr:Bool}{id:Nat}{o:y1f}{os:List y1f}{st:St}:y72 dr E cP cS cY id (o::os) st =
  (if yn st.sl o.gd then
   (match yf E cP cS cY (if dr then id else st.hp.length) (yq st.sl) st.hp o.op with
   |some (d,hp)=>y72 dr E cP cS cY (id+1) os ⟨y2g st.sl o.dst d,hp⟩
   |none=>none)
  else y72 dr E cP cS cY (id+1) os ⟨y2g st.sl o.dst .undef,st.hp⟩):=by
 cases dr with
 |true=>simp only[y72,if_true,y14];rfl
 |false=>simp only[y72,aS,if_false,yi];rfl
theorem znv(R:ya7 E cP A N env hp sl){gd:Option (Nat × Bool)}{G:List (Nat × Bool)}(h:y6i A gd=some G):yn sl gd=true ↔ gok E cP env hp A G:=by
 cases gd with
 |none=>simp only[y6i,aa]at h;subst h;exact⟨fun _=>z3u,fun _=>rfl⟩
 |some p=>
  obtain⟨j,b⟩:=p;simp only[y6i]at h;split at h
  ·rename_i sv hj;simp only[aa]at h;subst h;obtain⟨_,k1,k2⟩:=R.ok j sv hj;constructor
   ·intro hw;unfold yn at hw;simp only at hw
    by_cases hg:gok E cP env hp A sv.g
    ·refine z3d.2 ⟨⟨sv,hj,?_⟩,hg⟩;rw[k1 hg];split at hw
     ·rename_i c hc;rw[hc];simp only[beq_iff_eq]at hw;rw[hw]
     ·cases hw
    ·rw[k2 hg]at hw;simp at hw
   ·intro hG;obtain⟨⟨sv',h1,h2⟩,h3⟩:=z3d.1 hG;simp only at h1 h2;rw[hj]at h1;simp only[aa]at h1;subst h1;rw[k1 h3]at h2;simp only[aa]at h2;unfold yn;simp only[h2,beq_self_eq_true]
  ·cases h
theorem z9q(R:ya7 E cP A N env hp sl){i:Option Nat}{h:Bool}(hh:h=false->hp'=hp)(he:∀ j,some j ≠ i->env'[j]? = env[j]?){s:Nat}{sv:SV}(hk:y8b A i h s=some sv) :
  s<N/\sv.g=[]/\xv E cP env' hp' sv.x=some (sl.getD s .undef):=by
 obtain⟨k1,k2,k3⟩:=zda hk;obtain⟨h1,h2,_⟩:=R.ok s sv k1;exact⟨h1,k2,by rw[z3g hh he sv.x k3];exact h2 (by rw[k2];exact z3u)⟩
theorem zeh(nd:nm.Nodup)(R:ya7 E cP A N env hp sl)(S:y6o nm env sl){dst:Option Nat}{h:Bool}{d:D}(hh:h=false->hp'=hp)(hd:ybi nm N dst=true) :
  ya7 E cP (ybs nm (y8b A (dst.map nm.idxOf) h) dst) N (y9y env (dst.map nm.idxOf) d) hp' (y2g sl dst d)/\y6o nm (y9y env (dst.map nm.idxOf) d) (y2g sl dst d):=by
 cases dst with
 |none=>
  refine⟨⟨R.len,fun s sv hs=>?_,fun s sv hs p hp=>?_⟩,S⟩
  rotate_left
  ·obtain⟨_,h2,_⟩:=z9q (env':=env) R hh (fun _ _=>rfl) hs
   rw[h2]at hp;cases hp
  obtain⟨h1,h2,h3⟩:=z9q (env':=env) R hh (fun _ _=>rfl) hs
  exact⟨h1,fun _=>h3,fun hn=>absurd (by rw[h2];exact z3u) hn⟩
 |some n=>
  simp only[ybi,ak,decide_eq_true_eq]at hd;have hlen:n<sl.length:=by rw[R.len];exact hd.2
  have S':=S.set nd (d:=d) hd.1 hlen;refine⟨⟨by simp[y2g,R.len],fun s sv hs=>?_,fun s sv hs p hp=>?_⟩,S'⟩
  rotate_left
  ·simp only[ybs,y81]at hs;split at hs
   ·simp only[aa]at hs;subst hs;cases hp
   ·obtain⟨_,h2,_⟩:=z9q (env':=env) R hh (fun _ _=>rfl) hs
    rw[h2]at hp;cases hp
  simp only[ybs,y81]at hs;split at hs
  ·rename_i e;subst e;simp only[aa]at hs;subst hs;refine⟨hd.2,fun _=>?_,fun hn=>absurd z3u hn⟩
   simp only[xv];exact(S'.get hd.1).2
  ·rename_i e;obtain⟨h1,h2,h3⟩:=z9q R hh (zam (i:=nm.idxOf n) (d:=d)) hs;refine⟨h1,fun _=>?_,fun hn=>absurd (by rw[h2];exact z3u) hn⟩
   simp only[al,y9y,y2g];rw[getD_set_ne (du e)];exact h3
theorem zq8(R:ya7 E cP A N env hp sl){n:Nat}{G:List (Nat × Bool)}{x:Xp}{d:D}(hn:A n=none)(hN:n<N)(hG:∀ p,p ∈ G->A p.1 ≠ none)(h1:gok E cP env hp A G->xv E cP env hp x=some d)(h2 : ¬ gok E cP env hp A G->d=.undef) :
  ya7 E cP (y81 A n ⟨G,x⟩) N env hp (sl.set n d):=by
 have hlen:n<sl.length:=by rw[R.len];exact hN
 have back:∀{g:List (Nat × Bool)},(∀ p,p ∈ g->A p.1 ≠ none)->gok E cP env hp (y81 A n ⟨G,x⟩) g->gok E cP env hp A g:=by
  intro g hg h p hp;obtain⟨sv,q1,q2⟩:=h p hp;unfold y81 at q1;rw[if_neg (fun e=>hg p hp (by rw[e,hn]))]at q1
  exact⟨sv,q1,q2⟩
 refine⟨by simp[R.len],fun s sv hs=>?_,fun s sv hs p hp=>?_⟩
 ·unfold y81 at hs;split at hs
  ·rename_i e;subst e;simp only[aa]at hs;subst hs;rw[zbh hlen];exact⟨hN,fun hg=>h1 (back hG hg),fun hg=>h2 (fun hG=>hg (z83 hn hG))⟩
  ·rename_i e;obtain⟨q0,q1,q2⟩:=R.ok s sv hs;rw[getD_set_ne (du e)];exact⟨q0,fun hg=>q1 (back (R.cl s sv hs) hg),fun hg=>q2 (fun h=>hg (z83 hn h))⟩
 ·have:A p.1 ≠ none:=by
   unfold y81 at hs;split at hs
   ·simp only[aa]at hs;subst hs;exact hG p hp
   ·exact R.cl s sv hs p hp
  unfold y81;split
  ·simp
  ·exact this
theorem zh0(R:ya7 E cP A N env hp sl){gd:Option (Nat × Bool)}{G:List (Nat × Bool)}(h:y6i A gd=some G):∀ p,p ∈ G->A p.1 ≠ none:=by
 cases gd with
 |none=>simp only[y6i,aa]at h;subst h;intro p hp;cases hp
 |some q=>
  obtain⟨j,b⟩:=q;simp only[y6i]at h;split at h
  ·rename_i sv hj;simp only[aa]at h;subst h;intro p hp;rcases aA.1 hp with rfl | hp
   ·simp only[hj];simp
   ·exact R.cl j sv hj p hp
  ·cases h
theorem ydh(R:ya7 E cP A N env hp sl){G:List (Nat × Bool)}{op:DOp}{x:Xp}(h:y9u A G op=some x)(hG:gok E cP env hp A G)(hm:yaq op=true):∃ d,xv E cP env hp x=some d:=by
 cases op <;> simp[yaq]at hm
 ·exact⟨_,z7p R h hG⟩
 ·exact⟨_,z7p R h hG⟩
theorem z8w(nd:nm.Nodup){base:Nat}{dr:Bool}:∀{os:List y1f} {pos:Nat} {A:Ab} {ts:List TS} {dm:List (Nat × List (Nat × Bool))},comp nm N dr pos os A=some (ts,dm) ->
  ∀{env:List D} {hp:List Obj} {sl:List D} {env':List D} {hp':List Obj},ya7 E cP A N env hp sl->y6o nm env sl->rTS E cP cS cY base ts env hp=some (env',hp') ->
  ∃ sl',y72 dr E cP cS cY (base+pos) os ⟨sl,hp⟩=some ⟨sl',hp'⟩/\sl'.length=N/\y6o nm env' sl'
 |[],pos,A,ts,dm,hc,env,hp,sl,env',hp',R,S,hr=>by simp only[comp,aa,aw]at hc;obtain⟨rfl,_⟩:=hc;simp only[rTS,aa,aw]at hr;obtain⟨rfl,rfl⟩:=hr;exact⟨sl,by cases dr <;> rfl,R.len,S⟩
 |o::os,pos,A,ts,dm,hc,env,hp,sl,env',hp',R,S,hr=>by
  have hdem:=zbr hc hr;rw[zm9];simp only[comp]at hc;split at hc
  ·rename_i hv;split at hc
   ·rename_i d G hd hG;have hgt:=znv R hG;split at hc
    ·rename_i x hx;split at hc
     ·rename_i hnm;split at hc
      ·rename_i hcond;simp only[ak,ii,decide_eq_true_eq]at hcond;split at hc
       ·rename_i ts' dm' hc';simp only[aa,aw]at hc;obtain⟨rfl,rfl⟩:=hc;simp only[rTS]at hr;split at hr
        ·rename_i v hxv;have hGn:gok E cP env hp A G:=by rw[hcond.1];exact z3u
         rw[if_pos (hgt.2 hGn)];obtain⟨e,he,hed⟩:=zyg R (id:=if dr then base+pos else hp.length) hx hGn hxv
         rw[zk0 hv he,hd];simp only;have hem:=zeh (h:=false) (hp':=hp) (d:=v) (dst:=some d) nd R S (fun _=>rfl) (by simp only[ybi,ak,decide_eq_true_eq];exact⟨hnm,hcond.2⟩)
         rw[hed];exact z8w nd hc' hem.1 hem.2 hr
        ·cases hr
       ·cases hc
      ·cases hc
     ·rename_i hnm;split at hc
      ·rename_i hcond;simp only[ak,jl,decide_eq_true_eq]at hcond;split at hc
       ·rename_i ts' dm' hc';have hnm':nm.contains d=false:=by simpa using hnm
        have hts:ts=ts':=by
         split at hc
         ·simp only[aa,aw]at hc;exact hc.1.symm
         ·split at hc
          ·simp only[aa,aw]at hc;exact hc.1.symm
          ·cases hc
        subst hts
        by_cases hg:gok E cP env hp A G
        ·rw[if_pos (hgt.2 hg)];have hsome:∃ v,xv E cP env hp x=some v:=by
          split at hc
          ·rename_i hany;have D1:=zbr (base:=base) hc' hr;obtain⟨q,q1,q2⟩:=ib.1 hany;simp only[ak,beq_iff_eq]at q2;exact D1 q q1 (zj4 q2.2 (z83 hcond.1 hg)) ⟨G,x⟩ (by unfold y81;rw[if_pos q2.1])
          ·split at hc
           ·exact ydh R hx hg (by assumption)
           ·cases hc
         obtain⟨v,hxv⟩:=hsome;obtain⟨e,he,hed⟩:=zyg R (id:=if dr then base+pos else hp.length) hx hg hxv
         rw[zk0 hv he,hd];simp only;rw[hed];exact z8w nd hc' (zq8 R hcond.1 hcond.2 (zh0 R hG) (fun _=>hxv) (fun h=>absurd hg h)) (S.other hnm') hr
        ·rw[if_neg (fun h=>hg (hgt.1 h)),hd]
         exact z8w nd hc' (zq8 R hcond.1 hcond.2 (zh0 R hG) (fun h=>absurd h hg) (fun _=>rfl)) (S.other hnm') hr
       ·cases hc
      ·cases hc
    ·cases hc
   ·cases hc
  ·split at hc
   ·rename_i hdst;split at hc
    ·rename_i gd ks hgd hks;split at hc
     ·rename_i ts' dm' hc';simp only[aa,aw]at hc;obtain⟨rfl,rfl⟩:=hc;simp only[rTS]at hr;have hgv:gdT E cP env hp gd=some (yn sl o.gd)/\(yn sl o.gd=true->gok E cP env hp A o.gd.toList):=by
       cases hog:o.gd with
       |none=>rw[hog]at hgd;simp only[gdX,aa]at hgd;subst hgd;exact⟨rfl,fun _=>z3u⟩
       |some q=>
        obtain⟨j,b⟩:=q;rw[hog]at hgd;simp only[gdX]at hgd;split at hgd
        ·rename_i xg hxg;simp only[aa]at hgd;subst hgd;have e1:=z7p R hxg z3u;obtain⟨svj,g1,g2,_⟩:=zel hxg;simp only[yq]at e1;unfold yn gdT;simp only[e1];refine⟨?_,fun hw=>?_⟩
         ·split <;> simp_all
         ·refine z3d.2 ⟨⟨svj,g1,?_⟩,z3u⟩;rw[g2,e1];split at hw
          ·rename_i c hc;rw[hc];simp only[beq_iff_eq]at hw;rw[hw]
          ·cases hw
        ·cases hgd
      rw[hgv.1]at hr;cases hw:yn sl o.gd with
      |true=>
       rw[hw]at hr;simp only at hr;simp only[if_true];split at hr
       ·rename_i vs e1;obtain⟨vs',f1,f2,f3⟩:=zb9 R (hgv.2 hw) hks;rw[e1]at f1;simp only[aa]at f1;subst f1;split at hr
        ·rename_i d hp1 hst;have hst':yf E cP cS cY (if dr=true then base+pos else hp.length) (gOf vs) hp o.op=some (d,hp1):=by cases dr <;> exact hst
         rw[z95 (zyt f2 f3)]at hst';rw[hst'];have hem:=zeh (h:=true) (hp':=hp1) (d:=d) nd R S (fun h=>by cases h) hdst
         exact z8w nd hc' hem.1 hem.2 hr
        ·cases hr
       ·cases hr
      |false=>
       rw[hw]at hr;simp only at hr;simp only[aS,if_false];have hem:=zeh (h:=true) (hp':=hp) (d:=.undef) nd R S (fun h=>by cases h) hdst
       exact z8w nd hc' hem.1 hem.2 hr
     ·cases hc
    ·cases hc
   ·cases hc
theorem zan(nd:nm.Nodup):∀(ps:List Nat) (args sl env:List D),ps.all (fun p=>nm.contains p && decide (p<N))=true->sl.length=N->y6o nm env sl ->
  (y23 sl ps args).length=N/\y6o nm (y23 env (ps.map nm.idxOf) args) (y23 sl ps args)
 |[],args,sl,env,_,hl,S=>⟨by simpa[y23]using hl,by simpa[y23]using S⟩
 |p::ps,[],sl,env,_,hl,S=>⟨by simpa[y23]using hl,by simpa[y23]using S⟩
 |p::ps,v::vs,sl,env,h,hl,S=>by simp only[List.all_cons,ak,decide_eq_true_eq]at h;simp only[y23,av];exact zan nd ps vs _ _ (by simpa using h.2) (by simpa using hl) (S.set nd h.1.1 (by rw[hl];exact h.1.2))
theorem zj0{A:Type}:∀{ls:List (Option (List A))} {r:List A},yao ls=some r->∀ x,x ∈ ls->∃ r',x=some r' /\ ∀ y,y ∈ r'->y ∈ r
 |[],_,_,x,hx=>by cases hx
 |x::ls,r,h,z,hz=>by
  simp only[yao]at h;split at h
  ·rename_i a b h1;simp only[aa]at h;subst h;rcases aA.1 hz with rfl | hz
   ·exact⟨a,rfl,fun y hy=>List.mem_append_left _ hy⟩
   ·obtain⟨r',e1,e2⟩:=zj0 h1 z hz;exact⟨r',e1,fun y hy=>List.mem_append_right _ (e2 y hy)⟩
  ·cases h
theorem yd5{env sl:List D}(S:y6o nm env sl){x y:Opd}{r:List (Nat × Nat)}(h:ybf nm x y=some r)(hc:∀ p,p ∈ r->yhz env p=true):y93 (did (yq sl x)) (did (yq sl y))=true:=by
 have none1:∀{o:Option Nat},y93 none o=true:=fun {o}=>by cases o <;> rfl
 have none2:∀{o:Option Nat},y93 o none=true:=fun {o}=>by cases o <;> rfl
 have key:∀{z:Opd},ybh nm z=some none->did (yq sl z)=none:=by
  intro z hz;cases z with
  |t s=>simp only[ybh]at hz;split at hz <;> simp at hz
  |c d=>
   simp only[ybh]at hz;split at hz
   ·rename_i h1;simpa[yq]using h1
   ·cases hz
  |f k=>rfl
 have key2:∀{z:Opd} {i:Nat},ybh nm z=some (some i)->env[i]? = some (yq sl z):=by
  intro z i hz;cases z with
  |t s=>
   simp only[ybh]at hz;split at hz
   ·rename_i h1;simp only[aa]at hz;subst hz;exact(S.get h1).2
   ·cases hz
  |c d=>simp only[ybh]at hz;split at hz <;> simp at hz
  |f k=>simp[ybh]at hz
 unfold ybf at h;split at h
 ·rename_i i j h1 h2;simp only[aa]at h;subst h;have:=hc (i,j) (by simp)
  simp only[yhz,key2 h1,key2 h2]at this;exact this
 ·rename_i h2;rw[key h2];exact none2
 ·rename_i h1 h2;rw[key h1];exact none1
 ·cases h
theorem zy3{env sl:List D}(S:y6o nm env sl){ops:List y1f}{ap l:List (Nat × Nat)}(h:apX nm ops ap=some l)(hc:yeq env l=true):y8l sl ops ap=true:=by
 unfold yeq at hc;rw[ay]at hc;unfold y8l;rw[ay];intro p hp;obtain⟨r,e1,e2⟩:=zj0 h _ (kR hp);unfold apX1 at e1;unfold yb0;split at e1
 ·rename_i a b h1 h2;rw[h1,h2];simp only[];rw[ay];intro x hx;rw[ay];intro y hy;obtain⟨r2,f1,f2⟩:=zj0 e1 (ybf nm x y) (bE.2 ⟨x,hx,kR hy⟩);exact yd5 S f1 fun q hq=>hc q (e2 q (f2 q hq))
 ·cases e1
theorem zx6(nd:nm.Nodup)(hN:nm.all (fun s=>decide (s<N))=true):∀{dc:DC} {tc:TC},y2v nm N dc=some tc->∀{Q:Ex->List D->List Obj->Prop} {env:List D} {hp:List Obj} {sl:List D},
  sl.length=N->y6o nm env sl->wT E tc Q env hp->wp E dc ⟨sl,hp⟩ (fun ex st'=>st'.sl.length=N /\ ∃ env',y6o nm env' st'.sl/\Q ex env' st'.hp):=by
 intro dc
 induction dc with
 |skip=>intro tc hc Q env hp sl hl S h;simp only[y2v,aa]at hc;subst hc;exact zzk.2 ⟨hl,env,S,h⟩
 |ret=>intro tc hc Q env hp sl hl S h;simp only[y2v,aa]at hc;subst hc;exact yg5.2 ⟨hl,env,S,h⟩
 |exit id=>intro tc hc Q env hp sl hl S h;simp only[y2v,aa]at hc;subst hc;exact zzm.2 ⟨hl,env,S,h⟩
 |region dr ap ops=>
  intro tc hc Q env hp sl hl S h;simp only[y2v]at hc;split at hc
  ·rename_i ts dm hcc;have base:∀{Q:Ex->List D->List Obj->Prop},wT E (.run (if dr then ops.length else 0) ts) Q env hp->∃ sl' hp' env',y72 dr E (yu E (dL E)) (y1g E (dL E)) (y3c (dL E)) (hp.length+0) ops ⟨sl,hp++ah (if dr then ops.length else 0) .dead⟩=some ⟨sl',hp'⟩/\sl'.length=N/\y6o nm env' sl'/\Q .normal env' hp':=by
    intro Q h;simp only[wT]at h;split at h
    ·rename_i env' hp' hr;obtain⟨sl',h1,h2,h3⟩:=z8w nd (base:=hp.length) hcc (zpt hl hN S) S hr;exact⟨sl',hp',env',h1,h2,h3,h⟩
    ·exact h.elim
   split at hc
   ·rename_i hda;simp only[ak,ci]at hda;obtain⟨rfl,hap⟩:=hda;split at hc
    ·rename_i l hX;simp only[aa]at hc;subst hc;obtain⟨sl',hp',env',h1,h2,h3,h4⟩:=base (Q:=fun ex env' hp'=>match ex with
      |.normal=>wT E (.chk l) Q env' hp'
      |ex=>Q ex env' hp') h
     simp only[wT]at h4;refine⟨.normal,⟨sl',hp'⟩,?_,h2,env',h3,h4.2⟩;rw[zt4];simp only[y72,if_true,dQ]at h1;simp only[h1,y2l,zy3 h3 hX h4.1,if_true,al]
    ·cases hc
   ·rename_i hda;simp only[aa]at hc;subst hc;obtain⟨sl',hp',env',h1,h2,h3,h4⟩:=base h;cases dr with
    |false=>refine zp5.2 ⟨⟨sl',hp'⟩,?_,h2,env',h3,h4⟩;simpa[y72]using h1
    |true=>
     have hap':ap=[]:=by simpa using hda
     subst hap';refine⟨.normal,⟨sl',hp'⟩,?_,h2,env',h3,h4⟩;rw[zt4];simp only[y72,if_true,dQ]at h1;simp only[h1,y2l,y8l,List.all_nil,if_true,al]
  ·cases hc
 |seq a b iha ihb=>
  intro tc hc Q env hp sl hl S h;simp only[y2v]at hc;split at hc
  ·rename_i x y hx hy;simp only[aa]at hc;subst hc;simp only[wT]at h;refine yg4.2 (zht (iha hx hl S h) ?_);rintro ex st' ⟨hl',env',S',hq⟩;cases ex with
   |normal=>exact ihb hy hl' S' hq
   |exit i=>exact⟨hl',env',S',hq⟩
   |ret=>exact⟨hl',env',S',hq⟩
  ·cases hc
 |cond c a b iha ihb=>
  intro tc hc Q env hp sl hl S h;cases c with
  |c d=>
   cases d with
   |undef=>simp only[y2v,aa]at hc;subst hc;exact h.elim
   |_=>simp[y2v]at hc
  |f k=>simp[y2v]at hc
  |t k=>
   simp only[y2v]at hc;split at hc
   ·rename_i hk;split at hc
    ·rename_i x y hx hy;simp only[aa]at hc;subst hc;simp only[wT,(S.get hk).2]at h;split at h
     ·rename_i t ht;simp only[aa]at ht;refine(zzn (b:=t) (by simp only[yq];exact ht)).2 ⟨fun e=>?_,fun e=>?_⟩
      ·subst e;simp only[if_true]at h;exact iha hx hl S h
      ·subst e;simp only[aS,if_false]at h;exact ihb hy hl S h
     ·exact h.elim
    ·cases hc
   ·cases hc
 |ifp c a b iha ihb=>
  intro tc hc Q env hp sl hl S h;cases c with
  |c d=>simp[y2v]at hc
  |f k=>simp[y2v]at hc
  |t k=>
   simp only[y2v]at hc;split at hc
   ·rename_i hk;split at hc
    ·rename_i x y hx hy;simp only[aa]at hc;subst hc;simp only[wT,(S.get hk).2]at h;split at h
     ·rename_i hm;exact zyb.2 ((if_pos (show yy (yq sl (.t k))=true from hm)).mpr (iha hx hl S h))
     ·rename_i hm;exact zyb.2 ((if_neg (show ¬ yy (yq sl (.t k))=true from hm)).mpr (ihb hy hl S h))
    ·cases hc
   ·cases hc
 |block id a iha=>
  intro tc hc Q env hp sl hl S h;simp only[y2v]at hc;split at hc
  ·rename_i x hx;simp only[aa]at hc;subst hc;simp only[wT]at h;refine zug.2 (zht (iha hx hl S h) ?_);rintro ex st' ⟨hl',env',S',hq⟩;cases ex with
   |normal=>exact⟨hl',env',S',hq⟩
   |exit i=>exact⟨hl',env',S',hq⟩
   |ret=>exact⟨hl',env',S',hq⟩
  ·cases hc
 |loop a iha=>
  intro tc hc Q env hp sl hl S h;simp only[y2v]at hc;split at hc
  ·rename_i x hx;simp only[aa]at hc;subst hc;simp only[wT]at h;obtain⟨I,k,hI,step⟩:=h;refine zzl (fun k st=>st.sl.length=N /\ ∃ env,y6o nm env st.sl/\I k env st.hp) ?_ k ⟨sl,hp⟩ ⟨hl,env,S,hI⟩
   rintro k ⟨sl,hp⟩ ⟨hl,env,S,hI⟩;refine zht (iha hx hl S (step k env hp hI)) ?_;rintro ex st' ⟨hl',env',S',hq⟩;cases ex with
   |normal=>obtain⟨k',hk,hI'⟩:=hq;exact⟨k',hk,hl',env',S',hI'⟩
   |exit i=>exact⟨hl',env',S',hq⟩
   |ret=>exact⟨hl',env',S',hq⟩
  ·cases hc
 |rfunc f ps asg body iha ihb=>
  intro tc hc Q env hp sl hl S h;cases f with
  |c d=>simp[y2v]at hc
  |f k=>simp[y2v]at hc
  |t f=>
   simp only[y2v]at hc;split at hc
   ·rename_i hk;simp only[ak]at hk;split at hc
    ·rename_i x y hx hy;simp only[aa]at hc;subst hc;simp only[wT]at h;obtain⟨k,caps,h1,h2⟩:=h;have hf:y6j E (sl.getD f .undef)=.fn k caps:=by have:=(S.get hk.1).2;rw[this]at h1;simpa using h1
     obtain⟨d,hp',h3,h4⟩:=h2 (fun b p=>.loop b sl ps asg body p) ⟨_,_,_,_,rfl⟩ (by
      intro args hp1 K hlen hat hw;have hlen':args.length=ps.length:=by simpa using hlen
      obtain⟨hsl,S1⟩:=zan nd ps args sl env hk.2 hl S;obtain⟨ex,st1,r1,hl1,env1,S1',rfl,hat1,hw1⟩:=iha hx hsl S1 hw;obtain⟨ex2,st2,r2,hl2,env2,S2',hat2,hK⟩:=ihb hy (sl:=st1.sl) (hp:=st1.hp.set hp.length (.loop true sl ps asg body none)) hl1 S1' hw1;unfold y3c;simp only[hat,hlen',if_true,r1,hat1,r2,hat2];cases ex2 with
      |normal=>exact⟨_,_,rfl,hK⟩
      |exit i=>exact⟨_,_,rfl,hK⟩
      |ret=>exact⟨_,_,rfl,hK⟩)
     rcases h4 with⟨h5,h6⟩ | ⟨ex,h5,h6⟩
     ·refine⟨.normal,⟨sl,hp'.set hp.length .dead⟩,?_,hl,env,S,h6⟩;rw[zlq];simp only[yq,hf,h3,h5]
     ·refine⟨ex,⟨sl,hp'.set hp.length .dead⟩,?_,hl,env,S,h6⟩;rw[zlq];simp only[yq,hf,h3,h5]
    ·cases hc
   ·cases hc
end
end Dv
namespace Dv
def y3o(E:Env)(env:List D)(hp:List Obj):List (Nat × Option Nat)->Option (List D)
 |[]=>some []
 |(i,none)::r=>(match env[i]?,y3o E env hp r with
  |some d,some l=>some (d::l)
  |_,_=>none)
 |(i,some t)::r=>(match env[i]? with
  |some a=>(match y15 E hp t a,y3o E env hp r with
   |some d,some l=>some (d::l)
   |_,_=>none)
  |none=>none)
def ya9(nm:List Nat):List RV->List (Nat × Option Nat)->Bool
 |[],[]=>true
 |.tmp t::r,(i,none)::is=>nm.contains t && nm.idxOf t == i && ya9 nm r is
 |.cell a t::r,(i,some t')::is=>nm.contains a && nm.idxOf a == i && t == t' && ya9 nm r is
 |_,_=>false
def Ret(E:Env)(is:List (Nat × Option Nat))(R:D->List Obj->Prop):Ex->List D->List Obj->Prop:=fun ex env hp=>(ex=.ret\/ex=.normal) /\ ∃ l,y3o E env hp is=some l/\R (y2r l) hp
section
variable{E:Env}
structure TF(E:Env)(f:Nat)(nm:List Nat)(is:List (Nat × Option Nat))(tc:TC)(N:Nat):Prop where
 ex:∃ F,E.fn f=some F/\F.ntmps=N/\y2v nm F.ntmps F.body=some tc/\nm.Nodup/\nm.all (fun s=>decide (s<F.ntmps))=true/\ya9 nm F.results is=true
def y9h:List Nat->Bool
 |[]=>true
 |x::r=>!r.contains x && y9h r
theorem zgp:∀{l:List Nat},y9h l=true->l.Nodup
 |[],_=>List.nodup_nil
 |x::r,h=>by simp only[y9h,ak,ci]at h;exact List.nodup_cons.2 ⟨by simpa using h.1,zgp h.2⟩
theorem zi{f:Nat}{nm:List Nat}{is:List (Nat × Option Nat)}{tc:TC}{F:DFn}(h:E.fn f=some F:=by rfl)(hc:y2v nm F.ntmps F.body=some tc:=by kernel_rfl)(hb:(y9h nm && nm.all (fun s=>decide (s<F.ntmps)) && ya9 nm F.results is)=true:=by decide):TF E f nm is tc F.ntmps:=by simp only[ak]at hb;exact⟨F,h,rfl,hc,zgp hb.1.1,hb.1.2,hb.2⟩
theorem zq7{nm:List Nat}{env:List D}{st:St}(S:y6o nm env st.sl):∀{rs:List RV} {is:List (Nat × Option Nat)} {l:List D},ya9 nm rs is=true->y3o E env st.hp is=some l->y67 E st rs=some l
 |[],[],l,_,h=>by simp only[y3o,aa]at h;subst h;rfl
 |.tmp t::r,(i,none)::is,l,h,h'=>by
  simp only[ya9,ak,beq_iff_eq]at h;simp only[y3o]at h';split at h'
  ·rename_i d l' h1 h2;simp only[aa]at h';subst h';have:=(S.get h.1.1).2;rw[h.1.2,h1]at this;simp only[aa]at this;simp only[y67,zq7 S h.2 h2,this]
  ·cases h'
 |.cell a t::r,(i,some t')::is,l,h,h'=>by
  simp only[ya9,ak,beq_iff_eq]at h;simp only[y3o]at h';split at h'
  ·rename_i p hp;split at h'
   ·rename_i d l' h1 h2;simp only[aa]at h';subst h';have:=(S.get h.1.1.1).2;rw[h.1.1.2,hp]at this;simp only[aa]at this;rw[<- h.1.2,this]at h1;simp only[y67,zq7 S h.2 h2,h1]
   ·cases h'
  ·cases h'
 |.cell _ _::_,[],_,h,_=>by simp[ya9]at h
 |.cell _ _::_,(_,none)::_,_,h,_=>by simp[ya9]at h
 |[],_::_,_,h,_=>by simp[ya9]at h
 |.tmp _::_,[],_,h,_=>by simp[ya9]at h
 |.tmp _::_,(_,some _)::_,_,h,_=>by simp[ya9]at h
def y2q(nm:List Nat)(args:List D):List D:=nm.map fun s=>args.getD s .undef
theorem zmc{nm:List Nat}{args:List D}{N:Nat}:y6o nm (y2q nm args) (args++ah (N - args.length) .undef):=by
 refine⟨by simp[y2q],fun i s h=>?_⟩
 simp only[y2q,List.getElem?_map,h,al,aa];simp only[af]
 by_cases hs:s<args.length
 ·rw[List.getElem?_append_left hs]
 ·rw[List.getElem?_append_right (by omega),List.getElem?_eq_none (by omega)]
  cases h2:(ah (N - args.length) D.undef)[s - args.length]? with
  |none=>rfl
  |some d=>have:=bw h2;rw[List.mem_replicate]at this;rw[this.2];rfl
theorem z1i{f:Nat}{nm:List Nat}{is:List (Nat × Option Nat)}{tc:TC}{N:Nat}(t:TF E f nm is tc N){args:List D}{hp:List Obj}{R:D->List Obj->Prop}(hl:args.length<=N)
  (h:wT E tc (Ret E is R) (y2q nm args) hp) (hb:E.mp f=false:=by rfl):∃ d hp',y1g E (dL E) f args hp=some (d,hp')/\R d hp':=by
 obtain⟨F,hF,rfl,hc,nd,hN,hr⟩:=t.ex;obtain⟨ex,st',h1,h2,env',S,⟨hx,l,hg,hR⟩⟩:=zx6 nd hN hc (sl:=args++ah (F.ntmps - args.length) .undef) (by simp;omega) zmc h
 have hres:=zq7 (E:=E) S hr hg;refine⟨y2r l,st'.hp,?_,hR⟩;unfold y1g;simp only[hF,yp,h1,hb,y2s];rcases hx with rfl | rfl <;> simp only[y29,hres,al]
theorem zg{f:Nat}{nm:List Nat}{is:List (Nat × Option Nat)}{tc:TC}{N:Nat}(t:TF E f nm is tc N){args:List D}{r:D}(hl:args.length<=N)
  (h:wT E tc (Ret E is fun d hp=>frz hp depth d=some r) (y2q nm args) []) (hk:E.keep f=false:=by rfl) (hb:E.mp f=false:=by rfl):yu E (dL E) f args=some r:=by
 obtain⟨d,hp',h1,h2⟩:=z1i t hl h hb;unfold yu;simp only[h1,hk,yb8,h2]
theorem zq4{f:Nat}{nm:List Nat}{is:List (Nat × Option Nat)}{tc:TC}{N:Nat}(t:TF E f nm is tc N){args:List D}{r:D}(hl:args.length<=N)
  (h:wT E tc (Ret E is fun d hp=>ybx hp depth d=some r) (y2q nm args) []) (hk:E.keep f=true:=by rfl) (hb:E.mp f=false:=by rfl):yu E (dL E) f args=some r:=by
 obtain⟨d,hp',h1,h2⟩:=z1i t hl h hb;unfold yu;simp only[h1,hk,yb8,h2]
end
end Dv
namespace Dv
section
variable{E:Env}{Q:Ex->List D->List Obj->Prop}{env:List D}{hp:List Obj}
theorem zzs:wT E .skip Q env hp=Q .normal env hp:=rfl
theorem ygc:wT E .ret Q env hp=Q .ret env hp:=rfl
theorem zzu{id:Nat}:wT E (.exit id) Q env hp=Q (.exit id) env hp:=rfl
theorem ygb{a b:TC}:wT E (.seq a b) Q env hp=wT E a (fun ex env' hp'=>match ex with
  |.normal=>wT E b Q env' hp'
  |ex=>Q ex env' hp') env hp:=rfl
theorem zuh{id:Nat}{a:TC}:wT E (.block id a) Q env hp=wT E a (fun ex env' hp'=>match ex with
  |.exit i=>Q (if i=id then .normal else .exit i) env' hp'
  |ex=>Q ex env' hp') env hp:=rfl
theorem wK{l:List (Nat × Nat)}:wT E (.chk l) Q env hp=(yeq env l=true/\Q .normal env hp):=rfl
theorem zxa:yeq env []=true:=rfl
theorem zta{i j:Nat}{l:List (Nat × Nat)}:yeq env ((i,j)::l)=(yhz env (i,j) && yeq env l):=rfl
theorem z8d:∀{c:TC} {Q Q':Ex->List D->List Obj->Prop} {env:List D} {hp:List Obj},(∀ ex env hp,Q ex env hp->Q' ex env hp)->wT E c Q env hp->wT E c Q' env hp:=by
 intro c
 induction c with
 |skip=>intro Q Q' env hp hq h;exact hq _ _ _ h
 |ret=>intro Q Q' env hp hq h;exact hq _ _ _ h
 |exit id=>intro Q Q' env hp hq h;exact hq _ _ _ h
 |run pad l=>
  intro Q Q' env hp hq h;simp only[wT]at h ⊢;split at h
  ·exact hq _ _ _ h
  ·exact h.elim
 |seq a b iha ihb=>
  intro Q Q' env hp hq h;refine iha (fun ex env hp h=>?_) h
  cases ex with
  |normal=>exact ihb hq h
  |exit i=>exact hq _ _ _ h
  |ret=>exact hq _ _ _ h
 |cond i a b iha ihb=>
  intro Q Q' env hp hq h;simp only[wT]at h ⊢;split at h
  ·split at h
   ·rename_i ht;rw[if_pos ht];exact iha hq h
   ·rename_i ht;rw[if_neg ht];exact ihb hq h
  ·exact h.elim
 |ifp i a b iha ihb=>
  intro Q Q' env hp hq h;simp only[wT]at h ⊢;split at h
  ·split at h
   ·rename_i ht;rw[if_pos ht];exact iha hq h
   ·rename_i ht;rw[if_neg ht];exact ihb hq h
  ·exact h.elim
 |dead=>intro Q Q' env hp hq h;exact h.elim
 |block id a iha=>
  intro Q Q' env hp hq h;refine iha (fun ex env hp h=>?_) h
  cases ex <;> exact hq _ _ _ h
 |loop a iha=>
  intro Q Q' env hp hq h;obtain⟨I,k,hI,step⟩:=h;refine⟨I,k,hI,fun k env hp hI=>iha (fun ex env hp h=>?_) (step k env hp hI)⟩
  cases ex with
  |normal=>exact h
  |exit i=>exact hq _ _ _ h
  |ret=>exact hq _ _ _ h
 |chk l=>intro Q Q' env hp hq h;exact⟨h.1,hq _ _ _ h.2⟩
 |rfunc i ps a b iha ihb=>
  intro Q Q' env hp hq h;obtain⟨k,caps,h1,h2⟩:=h;refine⟨k,caps,h1,fun L hL hcb=>?_⟩
  obtain⟨d,hp',h3,h4⟩:=h2 L hL hcb;refine⟨d,hp',h3,?_⟩;rcases h4 with⟨h5,h6⟩ | ⟨ex,h5,h6⟩
  ·exact .inl ⟨h5,hq _ _ _ h6⟩
  ·exact .inr ⟨ex,h5,hq _ _ _ h6⟩
theorem z1j{E:Env}{c:TC}{Q:Ex->List D->List Obj->Prop}{env env':List D}{hp hp':List Obj}(h:env=env')(h':hp=hp'):wT E c Q env hp=wT E c Q env' hp':=by rw[h,h']
theorem zl{a:TC}(n:Nat)(I:Nat->List D->List Obj->Prop)(i:Nat)(hi:i<=n)(h0:I i env hp)
  (step:∀ i env hp,i<=n->I i env hp->wT E a (fun ex env' hp'=>match ex with
   |.normal=>i<n/\I (i+1) env' hp'
   |ex=>Q ex env' hp') env hp):wT E (.loop a) Q env hp:=by
 refine⟨fun k env hp=>∃ i,i<=n/\k=n - i/\I i env hp,n - i,⟨i,hi,rfl,h0⟩,?_⟩
 rintro k env hp ⟨i,hi,rfl,hI⟩;refine z8d (fun ex env' hp' h=>?_) (step i env hp hi hI)
 cases ex with
 |normal=>exact⟨n - (i+1),by omega,i+1,by omega,rfl,h.2⟩
 |exit _=>exact h
 |ret=>exact h
end
end Dv
namespace Dv
def ob{A B:Type}(x:Option A)(f:A->Option B):Option B:=x.bind f
def obP{A:Type}(x:Option A)(f:A->Prop):Prop:=match x with | some a=>f a | none=>False
theorem zc{A B:Type}{a:A}{f:A->Option B}:ob (some a) f=f a:=rfl
theorem zvd{A:Type}{a:A}{f:A->Prop}:obP (some a) f=f a:=rfl
theorem z1k{A B:Type}{x y:Option A}{f:A->Option B}(h:x=y):ob x f=ob y f:=by rw[h]
theorem z19{A:Type}{x y:Option A}{f:A->Prop}(h:x=y):obP x f=obP y f:=by rw[h]
section
variable{E:Env}{cP:Nat->List D->Option D}{env:List D}{hp:List Obj}
theorem z17{X:Option D}:(match Option.map (fun x=>(⟨x,none,none⟩:Ef)) X with | some e=>some e.d | none=>none)=X:=by cases X <;> rfl
theorem xv_v{i:Nat}:xv E cP env hp (.v i)=env[i]?:=by simp only[xv]
theorem xv_c{d:D}:xv E cP env hp (.c d)=some d:=by simp only[xv]
def yhc(t:D)(a b:Option D):Option D:=match t with
 |.bool t=>if t=true then a else b
 |_=>none
theorem yhb{t:Bool}{a b:Option D}:yhc (.bool t) a b=if t=true then a else b:=rfl
theorem yg0{c a b:Xp}:xv E cP env hp (.ite c a b)=ob (xv E cP env hp c) fun t=>yhc t (xv E cP env hp a) (xv E cP env hp b):=by
 simp only[xv];cases h:xv E cP env hp c with
 |none=>rfl
 |some d=>
  cases d with
  |bool t=>cases t <;> rfl
  |_=>rfl
theorem zoz{op:iN}{t:Nat}{a:Nat}{b:Nat}{x0:Xp}{x1:Xp}(h10:b ≠ a):xv E cP env hp (.n (.bin op t (.t a) (.t b)) (.cons a x0 (.cons b x1 .nil)))=ob (xv E cP env hp x0) fun u0=>ob (xv E cP env hp x1) fun u1=>y32 E op t u0 u1:=by
 simp only[xv,xvs];cases xv E cP env hp x0 <;> try rfl
 cases xv E cP env hp x1 <;> try rfl
 simp only[yb,av,aN,al,aY,gOf,kv,zc,if_true,if_false,h10,↓reduceIte];exact z17
theorem zp0{op:iN}{t:Nat}{a:Nat}{x0:Xp}{d1:D}  : xv E cP env hp (.n (.bin op t (.t a) (.c d1)) (.cons a x0 .nil))=ob (xv E cP env hp x0) fun u0=>y32 E op t u0 d1:=by
 simp only[xv,xvs];cases xv E cP env hp x0 <;> try rfl
 simp only[yb,av,aN,al,aY,gOf,kv,zc,if_true,if_false,↓reduceIte];exact z17
theorem zp1{op:iN}{t:Nat}{b:Nat}{x1:Xp}{d0:D}  : xv E cP env hp (.n (.bin op t (.c d0) (.t b)) (.cons b x1 .nil))=ob (xv E cP env hp x1) fun u1=>y32 E op t d0 u1:=by
 simp only[xv,xvs];cases xv E cP env hp x1 <;> try rfl
 simp only[yb,av,aN,al,aY,gOf,kv,zc,if_true,if_false,↓reduceIte];exact z17
theorem zp2{op:iN}{t:Nat}{d0:D}{d1:D}  : xv E cP env hp (.n (.bin op t (.c d0) (.c d1)) .nil)=y32 E op t d0 d1:=by simp only[xv,xvs];simp only[yb,av,aN,al,aY,gOf,kv,zc,if_true,if_false,↓reduceIte];exact z17
theorem zzd{op:Go.UnOp}{a:Nat}{x0:Xp}  : xv E cP env hp (.n (.un op (.t a)) (.cons a x0 .nil))=ob (xv E cP env hp x0) fun u0=>unD op u0:=by
 simp only[xv,xvs];cases xv E cP env hp x0 <;> try rfl
 simp only[yb,av,aN,al,aY,gOf,kv,zc,if_true,if_false,↓reduceIte];exact z17
theorem zox{s1 s2:Nat}{a:Nat}{x0:Xp}  : xv E cP env hp (.n (.conv s1 s2 (.t a)) (.cons a x0 .nil))=ob (xv E cP env hp x0) fun u0=>y40 E s1 s2 u0:=by
 simp only[xv,xvs];cases xv E cP env hp x0 <;> try rfl
 simp only[yb,av,aN,al,aY,gOf,kv,zc,if_true,if_false,↓reduceIte];exact z17
theorem zzg{t:Nat}{a:Nat}{x0:Xp}  : xv E cP env hp (.n (.load t (.t a)) (.cons a x0 .nil))=ob (xv E cP env hp x0) fun u0=>y15 E hp t u0:=by
 simp only[xv,xvs];cases xv E cP env hp x0 <;> try rfl
 simp only[yb,av,aN,al,aY,gOf,kv,zc,if_true,if_false,↓reduceIte];exact z17
theorem yfz{t:Nat}{a:Nat}{x0:Xp}  : xv E cP env hp (.n (.len t (.t a)) (.cons a x0 .nil))=ob (xv E cP env hp x0) fun u0=>y7i E hp t u0:=by
 simp only[xv,xvs];cases xv E cP env hp x0 <;> try rfl
 simp only[yb,av,aN,al,aY,gOf,kv,zc,if_true,if_false,↓reduceIte];exact z17
theorem zuc{t f:Nat}{a:Nat}{x0:Xp}  : xv E cP env hp (.n (.faddr t (.t a) f) (.cons a x0 .nil))=ob (xv E cP env hp x0) fun u0=>y64 E t u0 f:=by
 simp only[xv,xvs];cases xv E cP env hp x0 <;> try rfl
 simp only[yb,av,aN,al,aY,gOf,kv,zc,if_true,if_false,↓reduceIte];exact z17
theorem zub{t f:Nat}{a:Nat}{x0:Xp}  : xv E cP env hp (.n (.field t (.t a) f) (.cons a x0 .nil))=ob (xv E cP env hp x0) fun u0=>y9m E t u0 f:=by
 simp only[xv,xvs];cases xv E cP env hp x0 <;> try rfl
 simp only[yb,av,aN,al,aY,gOf,kv,zc,if_true,if_false,↓reduceIte];exact z17
theorem zhp{t:Nat}{a:Nat}{b:Nat}{x0:Xp}{x1:Xp}(h10:b ≠ a):xv E cP env hp (.n (.iaddr t (.t a) (.t b)) (.cons a x0 (.cons b x1 .nil)))=ob (xv E cP env hp x0) fun u0=>ob (xv E cP env hp x1) fun u1=>y3u E t u0 u1:=by
 simp only[xv,xvs];cases xv E cP env hp x0 <;> try rfl
 cases xv E cP env hp x1 <;> try rfl
 simp only[yb,av,aN,al,aY,gOf,kv,zc,if_true,if_false,h10,↓reduceIte];exact z17
theorem zhq{t:Nat}{a:Nat}{x0:Xp}{d1:D}  : xv E cP env hp (.n (.iaddr t (.t a) (.c d1)) (.cons a x0 .nil))=ob (xv E cP env hp x0) fun u0=>y3u E t u0 d1:=by
 simp only[xv,xvs];cases xv E cP env hp x0 <;> try rfl
 simp only[yb,av,aN,al,aY,gOf,kv,zc,if_true,if_false,↓reduceIte];exact z17
theorem zhn{t:Nat}{a:Nat}{b:Nat}{x0:Xp}{x1:Xp}(h10:b ≠ a):xv E cP env hp (.n (.index t (.t a) (.t b)) (.cons a x0 (.cons b x1 .nil)))=ob (xv E cP env hp x0) fun u0=>ob (xv E cP env hp x1) fun u1=>y6h E t u0 u1:=by
 simp only[xv,xvs];cases xv E cP env hp x0 <;> try rfl
 cases xv E cP env hp x1 <;> try rfl
 simp only[yb,av,aN,al,aY,gOf,kv,zc,if_true,if_false,h10,↓reduceIte];exact z17
theorem zho{t:Nat}{a:Nat}{x0:Xp}{d1:D}  : xv E cP env hp (.n (.index t (.t a) (.c d1)) (.cons a x0 .nil))=ob (xv E cP env hp x0) fun u0=>y6h E t u0 d1:=by
 simp only[xv,xvs];cases xv E cP env hp x0 <;> try rfl
 simp only[yb,av,aN,al,aY,gOf,kv,zc,if_true,if_false,↓reduceIte];exact z17
theorem zfk{t:Nat}{ok:Bool}{a:Nat}{b:Nat}{x0:Xp}{x1:Xp}(h10:b ≠ a):xv E cP env hp (.n (.lookup t (.t a) (.t b) ok) (.cons a x0 (.cons b x1 .nil)))=ob (xv E cP env hp x0) fun u0=>ob (xv E cP env hp x1) fun u1=>y2c E hp t u0 u1 ok:=by
 simp only[xv,xvs];cases xv E cP env hp x0 <;> try rfl
 cases xv E cP env hp x1 <;> try rfl
 simp only[yb,av,aN,al,aY,gOf,kv,zc,if_true,if_false,h10,↓reduceIte];exact z17
theorem zot  {a:Nat} {b:Nat} {x0:Xp} {x1:Xp} (h10:b ≠ a):xv E cP env hp (.n (.maxi [(.t a),(.t b)]) (.cons a x0 (.cons b x1 .nil)))=ob (xv E cP env hp x0) fun u0=>ob (xv E cP env hp x1) fun u1=>y86 [u0,u1]:=by
 simp only[xv,xvs];cases xv E cP env hp x0 <;> try rfl
 cases xv E cP env hp x1 <;> try rfl
 simp only[yb,av,aN,al,aY,gOf,kv,zc,if_true,if_false,h10,↓reduceIte];exact z17
theorem zoq  {a:Nat} {b:Nat} {x0:Xp} {x1:Xp} (h10:b ≠ a):xv E cP env hp (.n (.mini [(.t a),(.t b)]) (.cons a x0 (.cons b x1 .nil)))=ob (xv E cP env hp x0) fun u0=>ob (xv E cP env hp x1) fun u1=>y85 [u0,u1]:=by
 simp only[xv,xvs];cases xv E cP env hp x0 <;> try rfl
 cases xv E cP env hp x1 <;> try rfl
 simp only[yb,av,aN,al,aY,gOf,kv,zc,if_true,if_false,h10,↓reduceIte];exact z17
theorem zou  {a:Nat} {x0:Xp} {d1:D}  : xv E cP env hp (.n (.maxi [(.t a),(.c d1)]) (.cons a x0 .nil))=ob (xv E cP env hp x0) fun u0=>y86 [u0,d1]:=by
 simp only[xv,xvs];cases xv E cP env hp x0 <;> try rfl
 simp only[yb,av,aN,al,aY,gOf,kv,zc,if_true,if_false,↓reduceIte];exact z17
theorem zor  {a:Nat} {x0:Xp} {d1:D}  : xv E cP env hp (.n (.mini [(.t a),(.c d1)]) (.cons a x0 .nil))=ob (xv E cP env hp x0) fun u0=>y85 [u0,d1]:=by
 simp only[xv,xvs];cases xv E cP env hp x0 <;> try rfl
 simp only[yb,av,aN,al,aY,gOf,kv,zc,if_true,if_false,↓reduceIte];exact z17
theorem zov  {b:Nat} {x1:Xp} {d0:D}  : xv E cP env hp (.n (.maxi [(.c d0),(.t b)]) (.cons b x1 .nil))=ob (xv E cP env hp x1) fun u1=>y86 [d0,u1]:=by
 simp only[xv,xvs];cases xv E cP env hp x1 <;> try rfl
 simp only[yb,av,aN,al,aY,gOf,kv,zc,if_true,if_false,↓reduceIte];exact z17
theorem zos  {b:Nat} {x1:Xp} {d0:D}  : xv E cP env hp (.n (.mini [(.c d0),(.t b)]) (.cons b x1 .nil))=ob (xv E cP env hp x1) fun u1=>y85 [d0,u1]:=by
 simp only[xv,xvs];cases xv E cP env hp x1 <;> try rfl
 simp only[yb,av,aN,al,aY,gOf,kv,zc,if_true,if_false,↓reduceIte];exact z17
theorem zdw{t:Nat}{a:Nat}{b:Nat}{x0:Xp}{x1:Xp}(h10:b ≠ a):xv E cP env hp (.n (.slice t (.t a) (some (.t b)) none none) (.cons a x0 (.cons b x1 .nil)))=ob (xv E cP env hp x0) fun u0=>ob (xv E cP env hp x1) fun u1=>y12 E t u0 (some u1) none none:=by
 simp only[xv,xvs];cases xv E cP env hp x0 <;> try rfl
 cases xv E cP env hp x1 <;> try rfl
 simp only[yb,av,aN,al,aY,gOf,kv,zc,if_true,if_false,h10,↓reduceIte];exact z17
theorem zdx{t:Nat}{a:Nat}{x0:Xp}{d1:D}  : xv E cP env hp (.n (.slice t (.t a) (some (.c d1)) none none) (.cons a x0 .nil))=ob (xv E cP env hp x0) fun u0=>y12 E t u0 (some d1) none none:=by
 simp only[xv,xvs];cases xv E cP env hp x0 <;> try rfl
 simp only[yb,av,aN,al,aY,gOf,kv,zc,if_true,if_false,↓reduceIte];exact z17
theorem zdy{t:Nat}{a:Nat}{b:Nat}{x0:Xp}{x1:Xp}(h10:b ≠ a):xv E cP env hp (.n (.slice t (.t a) none (some (.t b)) none) (.cons a x0 (.cons b x1 .nil)))=ob (xv E cP env hp x0) fun u0=>ob (xv E cP env hp x1) fun u1=>y12 E t u0 none (some u1) none:=by
 simp only[xv,xvs];cases xv E cP env hp x0 <;> try rfl
 cases xv E cP env hp x1 <;> try rfl
 simp only[yb,av,aN,al,aY,gOf,kv,zc,if_true,if_false,h10,↓reduceIte];exact z17
theorem zfj{t:Nat}{a:Nat}{x0:Xp}  : xv E cP env hp (.n (.slice t (.t a) none none none) (.cons a x0 .nil))=ob (xv E cP env hp x0) fun u0=>y12 E t u0 none none none:=by
 simp only[xv,xvs];cases xv E cP env hp x0 <;> try rfl
 simp only[yb,av,aN,al,aY,gOf,kv,zc,if_true,if_false,↓reduceIte];exact z17
theorem zm3{a:Nat}{x:Xp}{i:Nat}:xv E cP env hp (.n (.extract (.t a) i) (.cons a x .nil))=ob (xv E cP env hp x) fun u=>match u with | .tup vs=>vs[i]? | _=>none:=by
 simp only[xv,xvs];cases xv E cP env hp x with
 |none=>rfl
 |some d=>
  simp only[yb,gOf,kv,zc,if_true];cases d <;> try rfl
  rename_i vs;simp only[];cases vs[i]? <;> rfl
def ybo(cP:Nat->List D->Option D)(f:D)(args:List D):Option D:=match f with
 |.fn k caps=>(match y1h (frz [] depth) (args++caps)with
  |some vs=>cP k vs
  |none=>none)
 |_=>none
theorem zzi{f:Opd}{as:List Opd}{ks:Xs}:xv E cP env hp (.n (.call 0 f as) ks)=ob (xvs E cP env hp ks) fun vs=>ybo cP (gOf vs f) (as.map (gOf vs)):=by
 simp only[xv];cases xvs E cP env hp ks with
 |none=>rfl
 |some vs=>
  simp only[yb,zc,ybo];cases gOf vs f <;> try rfl
  rename_i k caps;simp only[];cases y1h (frz [] depth) (as.map (gOf vs)++caps)with
  |none=>rfl
  |some l=>simp only[];cases cP k l <;> rfl
theorem zzc:xvs E cP env hp .nil=some []:=by simp only[xvs]
theorem zu8{s:Nat}{x:Xp}{r:Xs}:xvs E cP env hp (.cons s x r)=ob (xv E cP env hp x) fun d=>ob (xvs E cP env hp r) fun l=>some ((s,d)::l):=by
 simp only[xvs];cases xv E cP env hp x with
 |none=>rfl
 |some d=>simp only[zc];cases xvs E cP env hp r <;> rfl
def y96(E:Env)(t len:Nat)(ps:List (Nat × D)):Option D:=match (E.ty t).k with
 |.slice e=>(match y26 E e with
  |some z=>if len*(E.ty e).size<=16777216 then(match y78 (E.ty e).size (ah len z) ps with
   |some els=>some (.imm .exact els)
   |none=>none)else none
  |none=>none)
 |_=>none
theorem zoy{t len:Nat}{ps:List (Nat × Opd)}{ks:Xs}:xv E cP env hp (.n (.bslice false t len ps) ks)=ob (xvs E cP env hp ks) fun vs=>y96 E t len (ps.map fun p=>(p.1,gOf vs p.2)):=by
 simp only[xv];cases xvs E cP env hp ks with
 |none=>rfl
 |some vs=>
  simp only[yb,zc,y96,aS,false_and,if_false];cases (E.ty t).k <;> try rfl
  rename_i e;simp only[];cases hz:y26 E e with
  |none=>rfl
  |some z=>
   by_cases hh:len*(E.ty e).size<=16777216
   ·simp only[hh,if_true];cases y78 (E.ty e).size (ah len z) (ps.map fun p=>(p.1,gOf vs p.2)) <;> rfl
   ·simp only[hh,if_false]
def yaz(E:Env)(t:Nat)(ps:List (Nat × D)):Option D:=if(E.ty t).zero.length=(E.ty t).size/\(E.ty t).size ≠ 0 then y8j E t ps else none
theorem zud{t:Nat}{ps:List (Nat × Opd)}{ks:Xs}:xv E cP env hp (.n (.build t ps) ks)=ob (xvs E cP env hp ks) fun vs=>yaz E t (ps.map fun p=>(p.1,gOf vs p.2)):=by
 simp only[xv];cases xvs E cP env hp ks with
 |none=>rfl
 |some vs=>
  simp only[yb,zc,yaz]
  by_cases hh:(E.ty t).zero.length=(E.ty t).size/\(E.ty t).size ≠ 0
  ·simp only[if_pos hh];exact z17
  ·simp only[if_neg hh]
theorem zzf{f:Nat}{cs:List Opd}{ks:Xs}:xv E cP env hp (.n (.mkfn f cs) ks)=ob (xvs E cP env hp ks) fun vs=>some (.fn f (cs.map (gOf vs))):=by simp only[xv];cases xvs E cP env hp ks <;> rfl
def y6c(E:Env)(t:Nat)(l c:D):Option D:=match (E.ty t).k,l,c with
 |.slice e,.int _ l,.int _ c=>(match y26 E e with
  |some z=>if 0<=l/\l=c/\c*((E.ty e).bytes+1)<=yg then some (.imm .exact (ah l.toNat z))else none
  |none=>none)
 |_,_,_=>none
def opV(E:Env)(cP:Nat->List D->Option D)(hp:List Obj)(op:DOp)(vs:List (Nat × D)):Option D:=match yb E cP 0 (gOf vs) hp op with
 |some e=>some e.d
 |none=>none
theorem yiy{op:DOp}{ks:Xs}:xv E cP env hp (.n op ks)=ob (xvs E cP env hp ks) fun vs=>opV E cP hp op vs:=by simp only[xv];cases xvs E cP env hp ks <;> rfl
variable{cS cY:Nat->List D->List Obj->Option (D × List Obj)}{base:Nat}
theorem yd0:rTS E cP cS cY base [] env hp=some (env,hp):=rfl
theorem yd2{i:Nat}{x:Xp}{r:List TS}:rTS E cP cS cY base (.asg i x::r) env hp=ob (xv E cP env hp x) fun d=>rTS E cP cS cY base r (env.set i d) hp:=by simp only[rTS];cases xv E cP env hp x <;> rfl
theorem yd1{dst:Option Nat}{op:DOp}{ks:Xs}{r:List TS}:rTS E cP cS cY base (.eff none dst op ks none::r) env hp=ob (xvs E cP env hp ks) fun vs=>ob (yf E cP cS cY hp.length (gOf vs) hp op) fun p=>rTS E cP cS cY base r (y9y env dst p.1) p.2:=by
 simp only[rTS,gdT];cases xvs E cP env hp ks with
 |none=>rfl
 |some vs=>simp only[zc];cases yf E cP cS cY hp.length (gOf vs) hp op <;> rfl
theorem zuy{k:Nat}{dst:Option Nat}{op:DOp}{ks:Xs}{r:List TS}:rTS E cP cS cY base (.eff none dst op ks (some k)::r) env hp=ob (xvs E cP env hp ks) fun vs=>ob (yf E cP cS cY (base+k) (gOf vs) hp op) fun p=>rTS E cP cS cY base r (y9y env dst p.1) p.2:=by
 simp only[rTS,gdT];cases xvs E cP env hp ks with
 |none=>rfl
 |some vs=>simp only[zc];cases yf E cP cS cY (base+k) (gOf vs) hp op <;> rfl
variable{Q:Ex->List D->List Obj->Prop}
theorem wR{l:List TS}:wT E (.run 0 l) Q env hp=obP (rTS E (yu E (dL E)) (y1g E (dL E)) (y3c (dL E)) hp.length l env hp) fun p=>Q .normal p.1 p.2:=by simp only[wT,List.replicate_zero,List.append_nil,rTL];cases rTS E (yu E (dL E)) (y1g E (dL E)) (y3c (dL E)) hp.length l env hp <;> rfl
theorem wRp{n:Nat}{l:List TS}:wT E (.run n l) Q env hp=obP (rTS E (yu E (dL E)) (y1g E (dL E)) (y3c (dL E)) hp.length l env (hp++ah n .dead)) fun p=>Q .normal p.1 p.2:=by simp only[wT,rTL];cases rTS E (yu E (dL E)) (y1g E (dL E)) (y3c (dL E)) hp.length l env (hp++ah n .dead) <;> rfl
def ybn(t:D)(a b:Prop):Prop:=match t with
 |.bool t=>if t=true then a else b
 |_=>False
theorem yem{t:Bool}{a b:Prop}:ybn (.bool t) a b=if t=true then a else b:=rfl
theorem zw{t t':D}{a b:Prop}(h:t=t'):ybn t a b=ybn t' a b:=by rw[h]
theorem z12{t t':D}{a b:Option D}(h:t=t'):yhc t a b=yhc t' a b:=by rw[h]
theorem wC{i:Nat}{a b:TC}:wT E (.cond i a b) Q env hp=obP env[i]? fun t=>ybn t (wT E a Q env hp) (wT E b Q env hp):=by
 simp only[wT];cases env[i]? with
 |none=>rfl
 |some d=>cases d <;> rfl
end
end Dv
namespace Dv
section
variable{E:Env}{cP:Nat->List D->Option D}{cS cY:Nat->List D->List Obj->Option (D × List Obj)}{env:List D}{hp:List Obj}{t id:Nat}{g:Opd->D}
theorem zxs{k:bh}{a b:Int}:y32 E .add t (.int k a) (.int k b)=some (.int k (k.wrap (a+b))):=by simp[y32,y35]
theorem zxg{k:bh}{a b:Int}:y32 E .sub t (.int k a) (.int k b)=some (.int k (k.wrap (a - b))):=by simp[y32,y35]
theorem zxl{k:bh}{a b:Int}:y32 E .mul t (.int k a) (.int k b)=some (.int k (k.wrap (a*b))):=by simp[y32,y35]
theorem zxq{k:bh}{a b:Int}:y32 E .eql t (.int k a) (.int k b)=some (.bool (a == b)):=by simp[y32,y35]
theorem zxk{k:bh}{a b:Int}:y32 E .neq t (.int k a) (.int k b)=some (.bool (a != b)):=by simp[y32,y35]
theorem zxm{k:bh}{a b:Int}:y32 E .lss t (.int k a) (.int k b)=some (.bool (decide (a<b))):=by simp[y32,y35]
theorem zxn{k:bh}{a b:Int}:y32 E .leq t (.int k a) (.int k b)=some (.bool (decide (a<=b))):=by simp[y32,y35]
theorem zxo{k:bh}{a b:Int}:y32 E .gtr t (.int k a) (.int k b)=some (.bool (decide (b<a))):=by simp[y32,y35]
theorem zxp{k:bh}{a b:Int}:y32 E .geq t (.int k a) (.int k b)=some (.bool (decide (b<=a))):=by simp[y32,y35]
theorem zxj{k:bh}{a b:Int}:y32 E .rem t (.int k a) (.int k b)=if b=0 then none else some (.int k (a.tmod b)):=by simp[y32,y35]
theorem yi3{a b:Bool}:y32 E .eql t (.bool a) (.bool b)=(match (E.ty t).k with | .bool=>some (.bool (a == b)) | _=>none):=by simp only[y32];cases (E.ty t).k <;> rfl
theorem zts{a b:Bool}:y32 E .neq t (.bool a) (.bool b)=(match (E.ty t).k with | .bool=>some (.bool (!(a == b))) | _=>none):=by simp only[y32];cases (E.ty t).k <;> rfl
theorem zc0{a b:List D}:y32 E .eql t (.agg a) (.agg b)=if(E.ty t).eqc=true/\y1y a (E.ty t).zero=true then ob (eqL a b) (fun r=>some (.bool r))else none:=by
 simp only[y32];split
 ·cases eqL a b <;> rfl
 ·rfl
theorem zbz{a b:List D}:y32 E .neq t (.agg a) (.agg b)=if(E.ty t).eqc=true/\y1y a (E.ty t).zero=true then ob (eqL a b) (fun r=>some (.bool (!r)))else none:=by
 simp only[y32];split
 ·cases eqL a b <;> rfl
 ·rfl
theorem ycd{b:Bool}:unD .not (.bool b)=some (.bool (!b)):=rfl
theorem yce{k:bh}{n:Int}:unD .neg (.int k n)=some (.int k (k.wrap (0 - n))):=rfl
theorem zvo{sp:yt}{els:List D}:y7i E hp t (.imm sp els)=(match (E.ty t).k with | .slice _=>some (.int .i64 els.length) | .arr n _=>some (.int .i64 n) | _=>none):=by unfold y7i;cases (E.ty t).k <;> rfl
theorem ydm{i off len sz:Nat}{ag gr:Bool}:y7i E hp t (.sl i off len sz ag gr)=(match (E.ty t).k with | .slice _=>some (.int .i64 len) | .arr n _=>some (.int .i64 n) | _=>none):=by unfold y7i;cases (E.ty t).k <;> rfl
theorem zvm{s:List UInt8}:y7i E hp t (.str s)=(match (E.ty t).k with | .str=>some (.int .i64 s.length) | .arr n _=>some (.int .i64 n) | _=>none):=by unfold y7i;cases (E.ty t).k <;> rfl
def y9x(o:Option Obj):Option (List D):=match o with
 |some (.cells cs)=>some cs
 |some (.frozen cs)=>some cs
 |_=>none
theorem z6y{cs:List D}:y9x (some (.cells cs))=some cs:=rfl
theorem z99{cs:List D}:y9x (some (.frozen cs))=some cs:=rfl
theorem z1c{i off:Nat}:y15 E hp t (.loc i off)=ob (y9x hp[i]?) fun cs=>ob (y2b cs off (E.ty t).size) (ym (E.ty t).ag):=by
 simp only[y15];cases hp[i]? with
 |none=>rfl
 |some o=>cases o <;> rfl
theorem z1f{cs:List D}:y15 E hp t (.iptr cs)=ob (y2b cs 0 (E.ty t).size) (ym (E.ty t).ag):=rfl
theorem znr{sp:yt}{els:List D}{k:bh}{n:Int}:y3u E t (.imm sp els) (.int k n)=(match (E.ty t).k with | .slice e=>if 0<=n then ob els[n.toNat]? (fun d=>if d.cellsL.length=(E.ty e).size then some (.iptr d.cellsL)else none)else none | _=>none):=by
 unfold y3u;cases (E.ty t).k <;> try rfl
 by_cases h:0<=n
 ·simp only[h,if_true];cases els[n.toNat]? <;> rfl
 ·simp only[h,if_false]
theorem zrt{i off len sz:Nat}{ag gr:Bool}{k:bh}{n:Int}:y3u E t (.sl i off len sz ag gr) (.int k n)=(match (E.ty t).k with | .slice e=>if 0<=n/\n<len/\sz=(E.ty e).size then some (.loc i (off+n.toNat*sz))else none | _=>none):=by unfold y3u;cases (E.ty t).k <;> rfl
theorem znq{i off:Nat}{k:bh}{n:Int}:y3u E t (.loc i off) (.int k n)=(match (E.ty t).k with | .arr len e=>if 0<=n/\n<len then some (.loc i (off+n.toNat*(E.ty e).size))else none | _=>none):=by unfold y3u;cases (E.ty t).k <;> rfl
theorem zo4{i off f:Nat}:y64 E t (.loc i off) f=(match (E.ty t).k with | .struct fs=>ob fs[f]? (fun p=>if(E.ty p.2).size=0 then none else some (.loc i (off+p.1))) | _=>none):=by
 unfold y64;cases (E.ty t).k <;> try rfl
 rename_i fs;simp only[];cases fs[f]? <;> rfl
theorem zjc{cs:List D}{f:Nat}:y64 E t (.iptr cs) f=(match (E.ty t).k with | .struct fs=>ob fs[f]? (fun p=>if(E.ty p.2).size=0 then none else some (.iptr (cs.drop p.1))) | _=>none):=by
 unfold y64;cases (E.ty t).k <;> try rfl
 rename_i fs;simp only[];cases fs[f]? <;> rfl
theorem zno{cs:List D}{k:bh}{n:Int}:y6h E t (.agg cs) (.int k n)=(match (E.ty t).k with | .arr len e=>if 0<=n/\n<len then ob (y2b cs (n.toNat*(E.ty e).size) (E.ty e).size) (ym (E.ty e).ag)else none | _=>none):=by unfold y6h;cases (E.ty t).k <;> rfl
theorem zjm{b:Bool}:D.cellsL (.bool b)=[.bool b]:=rfl
theorem zpr{b:Bool}:D.storable (.bool b)=true:=rfl
theorem zty{b:Bool}:D.atom (.bool b)=true:=rfl
theorem zoi{k:bh}{n:Int}:D.cellsL (.int k n)=[.int k n]:=rfl
theorem zuq{k:bh}{n:Int}:D.storable (.int k n)=true:=rfl
theorem zxx{k:bh}{n:Int}:D.atom (.int k n)=true:=rfl
theorem zof{s:List UInt8}:D.cellsL (.str s)=[.str s]:=rfl
theorem zun{s:List UInt8}:D.storable (.str s)=true:=rfl
theorem zxu{s:List UInt8}:D.atom (.str s)=true:=rfl
theorem zoj{sp:yt}{els:List D}:D.cellsL (.imm sp els)=[.imm sp els]:=rfl
theorem zur{sp:yt}{els:List D}:D.storable (.imm sp els)=true:=rfl
theorem zxy{sp:yt}{els:List D}:D.atom (.imm sp els)=true:=rfl
theorem ztc{i off len sz:Nat}{ag gr:Bool}:D.cellsL (.sl i off len sz ag gr)=[.sl i off len sz ag gr]:=rfl
theorem yco{i off len sz:Nat}{ag gr:Bool}:D.storable (.sl i off len sz ag gr)=true:=rfl
theorem yf3{i off len sz:Nat}{ag gr:Bool}:D.atom (.sl i off len sz ag gr)=true:=rfl
theorem zoh{i off:Nat}:D.cellsL (.loc i off)=[.loc i off]:=rfl
theorem zup{i off:Nat}:D.storable (.loc i off)=true:=rfl
theorem zxw{i off:Nat}:D.atom (.loc i off)=true:=rfl
theorem zjl{cs:List D}:D.cellsL (.iptr cs)=[.iptr cs]:=rfl
theorem zpq{cs:List D}:D.storable (.iptr cs)=true:=rfl
theorem ztx{cs:List D}:D.atom (.iptr cs)=true:=rfl
theorem zog{m:Option Nat}:D.cellsL (.map m)=[.map m]:=rfl
theorem zuo{m:Option Nat}:D.storable (.map m)=true:=rfl
theorem zxv{m:Option Nat}:D.atom (.map m)=true:=rfl
theorem ztd{f:Nat}{cs:List D}:D.cellsL (.fn f cs)=[.fn f cs]:=rfl
theorem ycp{f:Nat}{cs:List D}:D.storable (.fn f cs)=true:=rfl
theorem yf4{f:Nat}{cs:List D}:D.atom (.fn f cs)=true:=rfl
theorem z2e{cs:List D}:D.cellsL (.agg cs)=cs:=rfl
theorem zus{cs:List D}:D.storable (.agg cs)=cs.all D.atom:=rfl
theorem zhh:D.cellsL .nilfn=[.nilfn]:=rfl
theorem zm6:D.storable .nilfn=true:=rfl
theorem zom:D.atom .nilfn=true:=rfl
theorem zjk:D.cellsL .nilp=[.nilp]:=rfl
theorem zpp:D.storable .nilp=true:=rfl
theorem ztw:D.atom .nilp=true:=rfl
theorem yck{cs:List D}{o:Nat}:y2b cs o 0=some []:=rfl
theorem ycl{cs:List D}{o n:Nat}:y2b cs o (n+1)=ob cs[o]? fun c=>ob (y2b cs (o+1) n) fun r=>some (c::r):=by
 simp only[y2b];cases cs[o]? with
 |none=>rfl
 |some c=>simp only[zc];cases y2b cs (o+1) n <;> rfl
theorem zmw{cs:List D}:ym true cs=some (.agg cs):=rfl
theorem zih{c:D}:ym false [c]=some c:=rfl
theorem yfe  {s b:Nat} {z:List D} {q:Bool}:TI.ag ⟨.bool ,s,b,z,q⟩=false:=rfl
theorem yia{k:bh}{s b:Nat}{z:List D}{q:Bool}:TI.ag ⟨.int k,s,b,z,q⟩=false:=rfl
theorem yi7  {s b:Nat} {z:List D} {q:Bool}:TI.ag ⟨.str ,s,b,z,q⟩=false:=rfl
theorem zy8{e:Nat}{s b:Nat}{z:List D}{q:Bool}:TI.ag ⟨.slice e,s,b,z,q⟩=false:=rfl
theorem zu6{fs:List (Nat × Nat)}{s b:Nat}{z:List D}{q:Bool}:TI.ag ⟨.struct fs,s,b,z,q⟩=true:=rfl
theorem yib{n e:Nat}{s b:Nat}{z:List D}{q:Bool}:TI.ag ⟨.arr n e,s,b,z,q⟩=true:=rfl
theorem yi9{k e:Nat}{s b:Nat}{z:List D}{q:Bool}:TI.ag ⟨.map k e,s,b,z,q⟩=false:=rfl
theorem yi8{e:Nat}{s b:Nat}{z:List D}{q:Bool}:TI.ag ⟨.ptr e,s,b,z,q⟩=false:=rfl
theorem yfd  {s b:Nat} {z:List D} {q:Bool}:TI.ag ⟨.func ,s,b,z,q⟩=false:=rfl
theorem ylh{vs:List (Nat × D)}{n:Nat}:gOf vs (.t n)=kv n vs:=rfl
theorem ylj{vs:List (Nat × D)}{d:D}:gOf vs (.c d)=d:=rfl
theorem yli{vs:List (Nat × D)}{k:Nat}:gOf vs (.f k)=.fn k []:=rfl
theorem ydp{n m:Nat}{d:D}{r:List (Nat × D)}:kv n ((m,d)::r)=if n=m then d else kv n r:=rfl
theorem zqb{i:Nat}{d:D}:y9y env (some i) d=env.set i d:=rfl
theorem zqc{d:D}:y9y env none d=env:=rfl
theorem zms{d:D}:y2r [d]=d:=rfl
theorem zmr{a b:D}:y2r [a,b]=.tup [a,b]:=rfl
theorem zgo{a b c:D}:y2r [a,b,c]=.tup [a,b,c]:=rfl
theorem znx:y3o E env hp []=some []:=rfl
theorem zvz{i:Nat}{r:List (Nat × Option Nat)}:y3o E env hp ((i,none)::r)=ob env[i]? fun d=>ob (y3o E env hp r) fun l=>some (d::l):=by
 simp only[y3o];cases env[i]? with
 |none=>rfl
 |some d=>simp only[zc];cases y3o E env hp r <;> rfl
theorem zw0{i t:Nat}{r:List (Nat × Option Nat)}:y3o E env hp ((i,some t)::r)=ob env[i]? fun a=>ob (y15 E hp t a) fun d=>ob (y3o E env hp r) fun l=>some (d::l):=by
 simp only[y3o];cases env[i]? with
 |none=>rfl
 |some a=>
  simp only[zc];cases y15 E hp t a with
  |none=>rfl
  |some d=>simp only[zc];cases y3o E env hp r <;> rfl
theorem zr1{k:bh}{a b:Int}:y86 [.int k a,.int k b]=some (.int k (if a<b then b else a)):=by simp[y86,y8d]
theorem zr0{k:bh}{a b:Int}:y85 [.int k a,.int k b]=some (.int k (if b<a then b else a)):=by simp[y85,y8d]
def extV(d:D)(i:Nat):Option D:=match d with
 |.tup vs=>vs[i]?
 |_=>none
theorem zwn{vs:List D}{i:Nat}:extV (.tup vs) i=vs[i]?:=rfl
theorem yg1{a:Nat}{x:Xp}{i:Nat}:xv E cP env hp (.n (.extract (.t a) i) (.cons a x .nil))=ob (xv E cP env hp x) fun u=>extV u i:=zm3
theorem zm8{x:Opd}:yf E cP cS cY id g hp (.box t x)=if(g x).storable=true then some (.loc id 0,y2f hp id (.cells (g x).cellsL))else none:=by simp only[yf,DOp.fin,yb];split <;> rfl
theorem zg3:yf E cP cS cY id g hp (.alloc t)=if(E.ty t).zero.all D.atom=true/\(E.ty t).zero.length=(E.ty t).size/\(E.ty t).size ≠ 0 then some (.loc id 0,y2f hp id (.cells (E.ty t).zero))else none:=by simp only[yf,DOp.fin,yb];split <;> rfl
theorem zfu{a x:Opd}:yf E cP cS cY id g hp (.store t a x)=(y4c E hp t (g a) (g x)).map (.undef,·):=rfl
def writeO(o:Option Obj):Option (List D):=match o with
 |some (.cells cs)=>some cs
 |_=>none
theorem zfl{cs:List D}:writeO (some (.cells cs))=some cs:=rfl
theorem zm5{i off:Nat}{x:D}:y4c E hp t (.loc i off) x=ob (writeO hp[i]?) fun cs=>if x.storable=true/\x.cellsL.length=(E.ty t).size/\off+(E.ty t).size<=cs.length then some (hp.set i (.cells (setCells cs off x.cellsL)))else none:=by
 simp only[y4c];cases hp[i]? with
 |none=>rfl
 |some o=>cases o <;> rfl
theorem zga{cs:List D}{o:Nat}:setCells cs o []=cs:=rfl
theorem zed{cs:List D}{o:Nat}{v:D}{r:List D}:setCells cs o (v::r)=setCells (cs.set o v) (o+1) r:=rfl
theorem zfv:yf E cP cS cY id g hp (.mkmap t)=some (.map (some id),y2f hp id (.map [])):=rfl
theorem zea{m k v:Opd}:yf E cP cS cY id g hp (.mapset t m k v)=(y38 E hp t (g m) (g k) (g v)).map (.undef,·):=rfl
theorem zg2{f:Opd}{as:List Opd}:yf E cP cS cY id g hp (.call 1 f as)=(match g f with | .fn k caps=>ob (y1h (frz hp depth) (as.map g++caps)) (fun vs=>(cP k vs).map (·,yz hp ((as.map g++caps).flatMap (ids hp depth)))) | _=>none):=by
 simp only[yf,DOp.fin,yo];cases g f <;> try rfl
 rename_i k caps;simp only[];cases y1h (frz hp depth) (as.map g++caps) <;> rfl
theorem zg1{f:Opd}{as:List Opd}:yf E cP cS cY id g hp (.call 2 f as)=(match g f with | .fn k caps=>y18 (cS k (as.map g++caps) hp) | .bfn k r=>y18 (cS k (r::as.map g) hp) | .yld l=>cY l (as.map g) hp | _=>none):=rfl
theorem zhy{t2:Nat}{x y:Opd}:yf E cP cS cY id g hp (.append 2 t t2 x y)=y3a E hp t t2 (g x) (g y):=rfl
theorem zhz{t2:Nat}{x y:Opd}:yf E cP cS cY id g hp (.append 1 t t2 x y)=(y1o E hp id t t2 (g x) (g y)).map fun e=>(e.d,yj hp id e):=rfl
theorem zc9{l c:Opd}:yf E cP cS cY id g hp (.mkslice true t l c)=(match (E.ty t).k,g l,g c with | .slice e,.int _ l,.int _ c=>ob (y26 E e) (fun z=>if 0<=l/\l=c/\c*((E.ty e).bytes+1)<=yg then some (.sl id 0 l.toNat (E.ty e).size (E.ty e).ag true,y2f hp id (.cells (yr (ah l.toNat z))))else none) | _,_,_=>none):=by
 simp only[yf,DOp.fin,yb];cases (E.ty t).k <;> try rfl
 rename_i e;cases g l <;> try rfl
 cases g c <;> try rfl
 rename_i k1 a k2 b;simp only[];cases y26 E e with
 |none=>rfl
 |some z=>simp only[zc];split <;> rfl
def yl9(o:Option Obj):Option (List (D × D)):=match o with
 |some (.map es)=>some es
 |_=>none
theorem zep{es:List (D × D)}:yl9 (some (.map es))=some es:=rfl
theorem z1z{i:Nat}{k:D}:y2c E hp t (.map (some i)) k false=(match (E.ty t).k with | .map kt e=>if y4r E kt k=true then ob (yl9 hp[i]?) (fun es=>ob (y17 k es) fun r=>match r with | some v=>some v | none=>y26 E e)else none | _=>none):=by
 unfold y2c;cases (E.ty t).k <;> try rfl
 rename_i kt e
 by_cases h:y4r E kt k=true
 ·simp only[h,if_true];cases hp[i]? with
  |none=>rfl
  |some o=>
   cases o <;> try rfl
   rename_i es;simp only[zep,zc];cases y17 k es with
   |none=>rfl
   |some r=>
    cases r with
    |some v=>rfl
    |none=>simp only[zc];cases y26 E e <;> rfl
 ·simp only[h,if_false];rfl
theorem z33{i:Nat}{k v:D}:y38 E hp t (.map (some i)) k v=(match (E.ty t).k with | .map kt e=>if y4r E kt k=true/\v.storable=true/\v.cellsL.length=(E.ty e).size then ob (yl9 hp[i]?) (fun es=>ob (y1k k v es) fun es=>some (hp.set i (.map es)))else none | _=>none):=by
 unfold y38;cases (E.ty t).k <;> try rfl
 rename_i kt e
 by_cases h:y4r E kt k=true/\v.storable=true/\v.cellsL.length=(E.ty e).size
 ·simp only[if_pos h];cases hp[i]? with
  |none=>rfl
  |some o=>
   cases o <;> try rfl
   rename_i es;simp only[zep,zc];cases y1k k v es <;> rfl
 ·simp only[if_neg h]
theorem zri{xs:List D}:y4r E t (.agg xs)=((E.ty t).eqc && y1y xs (E.ty t).zero):=rfl
theorem znb:y1y [] []=true:=rfl
theorem ziz{a b:Bool}{r s:List D}:y1y (.bool a::r) (.bool b::s)=y1y r s:=rfl
theorem znc{k:bh}{a b:Int}{r s:List D}:y1y (.int k a::r) (.int k b::s)=y1y r s:=by simp[y1y]
theorem yed:eqL [] []=some true:=rfl
theorem zwp{x y:D}{r s:List D}:eqL (x::r) (y::s)=ob (y27 x y) fun a=>ob (eqL r s) fun b=>some (a && b):=by
 simp only[eqL];cases y27 x y with
 |none=>rfl
 |some a=>simp only[zc];cases eqL r s <;> rfl
theorem zjo{a b:Bool}:y27 (.bool a) (.bool b)=some (a == b):=rfl
theorem zon{k:bh}{a b:Int}:y27 (.int k a) (.int k b)=some (a == b):=by simp[y27]
theorem zl6{n off i len sz:Nat}{ag gr:Bool}:frz hp (n+1) (.sl i off len sz ag gr)=ob (y9x hp[i]?) fun cs=>ob (y31 sz ag len (cs.drop off)) fun els=>(y1h (frz hp n) els).map (.imm .none):=by
 simp only[frz,y13];cases hp[i]? with
 |none=>rfl
 |some o=>
  cases o <;> try rfl
  ·simp only[z6y,zc];cases y31 sz ag len _ <;> rfl
  ·simp only[z99,zc];cases y31 sz ag len _ <;> rfl
def yij(o:Option Obj):Option (Nat × Nat):=match o with
 |some (.tok u s)=>some (u,s)
 |_=>none
def y2o(E:Env)(e:Nat)(els new:List D):Prop:=(els.length+new.length)*((E.ty e).bytes+1)<=yg/\(E.ty e).bytes<=65536/\(y26 E e).isSome=true/\y2j (E.ty e).size els=true
instance{e:Nat}{els new:List D}:Decidable (y2o E e els new):=inferInstanceAs (Decidable (_/\_))
def y97(E:Env)(hp:List Obj)(id t t2:Nat)(x y:D):Option (D × List Obj):=(y39 E hp id t t2 x y).map fun e=>(e.d,yj hp id e)
def ykl(E:Env)(e:Nat)(y:D):Option (List D):=match y with
 |.str s=>if 1=(E.ty e).size/\(E.ty e).ag=false then some (s.map yd)else none
 |_=>none
theorem ze9{e:Nat}{s:List UInt8}:ykl E e (.str s)=if 1=(E.ty e).size/\(E.ty e).ag=false then some (s.map yd)else none:=rfl
theorem z64{u s:Nat}:yij (some (.tok u s))=some (u,s):=rfl
theorem zo{t2:Nat}{x y:Opd}:yf E cP cS cY id g hp (.append 0 t t2 x y)=y97 E hp id t t2 (g x) (g y):=rfl
theorem zz{t2:Nat}{els:List D}{y:D}:y97 E hp id t t2 (.imm .exact els) y=(match (E.ty t).k,(E.ty t2).k with | .slice e,.slice _=>ob (y1a hp (E.ty e).size (E.ty e).ag y) (fun new=>if y2o E e els new then some (.imm (.tok id) (els++new),y2f hp id (.tok ((els.length+new.length)*(E.ty e).size) (E.ty e).size))else none) | .slice e,.str=>ob (ykl E e y) (fun new=>if y2o E e els new then some (.imm (.tok id) (els++new),y2f hp id (.tok ((els.length+new.length)*(E.ty e).size) (E.ty e).size))else none) | _,_=>none):=by
 have key:∀(e:Nat) (new:List D),((y2w E hp id e .exact els new).map fun e=>(e.d,yj hp id e))=if y2o E e els new then some (.imm (.tok id) (els++new),y2f hp id (.tok ((els.length+new.length)*(E.ty e).size) (E.ty e).size))else none:=fun e new=>by
  unfold y2w
  by_cases hh:y2o E e els new
  ·have h1:(els.length+new.length)*((E.ty e).bytes+1)<=yg/\(E.ty e).bytes<=65536/\(y26 E e).isSome=true/\y2j (E.ty e).size els=true:=hh;rw[if_pos h1,if_pos hh];rfl
  ·have h1 : ¬ ((els.length+new.length)*((E.ty e).bytes+1)<=yg/\(E.ty e).bytes<=65536/\(y26 E e).isSome=true/\y2j (E.ty e).size els=true):=hh;rw[if_neg h1,if_neg hh];rfl
 unfold y97 y39;cases (E.ty t).k <;> try rfl
 cases (E.ty t2).k <;> try rfl
 ·simp only[];cases y <;> try rfl
  rename_i e s;simp only[ze9]
  by_cases hs:1=(E.ty e).size/\(E.ty e).ag=false
  ·simp only[if_pos hs,zc];exact key _ _
  ·simp only[if_neg hs];rfl
 ·rename_i e e2;simp only[];cases y1a hp (E.ty e).size (E.ty e).ag y with
  |none=>rfl
  |some new=>simp only[zc];exact key _ _
theorem z14{t2 k:Nat}{els:List D}{y:D}:y97 E hp id t t2 (.imm (.tok k) els) y=(match (E.ty t).k,(E.ty t2).k with | .slice e,.slice _=>ob (y1a hp (E.ty e).size (E.ty e).ag y) (fun new=>if y2o E e els new then ob (yij hp[k]?) (fun u=>if u.1=els.length*(E.ty e).size/\u.2=(E.ty e).size then some (.imm (.tok id) (els++new),y2f (hp.set k .dead) id (.tok ((els.length+new.length)*(E.ty e).size) (E.ty e).size))else none)else none) | .slice e,.str=>ob (ykl E e y) (fun new=>if y2o E e els new then ob (yij hp[k]?) (fun u=>if u.1=els.length*(E.ty e).size/\u.2=(E.ty e).size then some (.imm (.tok id) (els++new),y2f (hp.set k .dead) id (.tok ((els.length+new.length)*(E.ty e).size) (E.ty e).size))else none)else none) | _,_=>none):=by
 have key:∀(e:Nat) (new:List D),((y2w E hp id e (.tok k) els new).map fun e=>(e.d,yj hp id e))=if y2o E e els new then ob (yij hp[k]?) (fun u=>if u.1=els.length*(E.ty e).size/\u.2=(E.ty e).size then some (.imm (.tok id) (els++new),y2f (hp.set k .dead) id (.tok ((els.length+new.length)*(E.ty e).size) (E.ty e).size))else none)else none:=fun e new=>by
  unfold y2w
  by_cases hh:y2o E e els new
  ·have h1:(els.length+new.length)*((E.ty e).bytes+1)<=yg/\(E.ty e).bytes<=65536/\(y26 E e).isSome=true/\y2j (E.ty e).size els=true:=hh;rw[if_pos h1,if_pos hh];simp only[];cases hp[k]? with
   |none=>rfl
   |some o=>
    cases o <;> try rfl
    rename_i u s;simp only[z64,zc]
    by_cases h2:u=els.length*(E.ty e).size/\s=(E.ty e).size
    ·simp only[if_pos h2];rfl
    ·simp only[if_neg h2];rfl
  ·have h1 : ¬ ((els.length+new.length)*((E.ty e).bytes+1)<=yg/\(E.ty e).bytes<=65536/\(y26 E e).isSome=true/\y2j (E.ty e).size els=true):=hh;rw[if_neg h1,if_neg hh];rfl
 unfold y97 y39;cases (E.ty t).k <;> try rfl
 cases (E.ty t2).k <;> try rfl
 ·simp only[];cases y <;> try rfl
  rename_i e s;simp only[ze9]
  by_cases hs:1=(E.ty e).size/\(E.ty e).ag=false
  ·simp only[if_pos hs,zc];exact key _ _
  ·simp only[if_neg hs];rfl
 ·rename_i e e2;simp only[];cases y1a hp (E.ty e).size (E.ty e).ag y with
  |none=>rfl
  |some new=>simp only[zc];exact key _ _
theorem ye7{n off i:Nat}:frz hp (n+1) (.loc i off)=ob (y9x hp[i]?) fun cs=>(y1h (frz hp n) (cs.drop off)).map .iptr:=by
 simp only[frz,y13];cases hp[i]? with
 |none=>rfl
 |some o=>cases o <;> rfl
theorem zmt:y2r []=.tup []:=rfl
theorem z2r{sz:Nat}{ag:Bool}{sp:yt}{els:List D}:y1a hp sz ag (.imm sp els)=if(els.all fun d=>d.storable && d.cellsL.length == sz)=true then some els else none:=rfl
end
end Dv
namespace Dv
section
variable{E:Env}{cP:Nat->List D->Option D}{cS cY:Nat->List D->List Obj->Option (D × List Obj)}{env:List D}{hp:List Obj}{t id base:Nat}{g:Opd->D}
theorem zxr{k:bh}{a b:Int}:y32 E .and t (.int k a) (.int k b)=some (.int k (yfc k a b)):=by simp[y32,y35]
theorem yey{k:bh}{a b:Int}:y32 E .or t (.int k a) (.int k b)=some (.int k (ybw k a b)):=by simp[y32,y35]
theorem zxf{k:bh}{a b:Int}:y32 E .xor t (.int k a) (.int k b)=some (.int k (y9t k a b)):=by simp[y32,y35]
theorem zg0{f:Opd}{as:List Opd}:yf E cP cS cY id g hp (.call 3 f as)=(match g f with | .fn k caps=>ob (y1h (frz hp depth) (as.map g++caps)) (fun vs=>ob (cP k vs) fun d=>if d.closed=true then some (d,hp)else none) | _=>none):=by
 simp only[yf,DOp.fin,yo];cases g f <;> try rfl
 rename_i k caps;simp only[];cases y1h (frz hp depth) (as.map g++caps)with
 |none=>rfl
 |some vs=>simp only[zc];cases cP k vs <;> rfl
theorem zjh{b:Bool}:D.closed (.bool b)=true:=rfl
theorem zoc{k:bh}{n:Int}:D.closed (.int k n)=true:=rfl
theorem zoa{l:List D}:D.closed (.tup l)=l.all D.flatB:=rfl
theorem zo0{b:Bool}:D.flatB (.bool b)=true:=rfl
theorem zsi{k:bh}{n:Int}:D.flatB (.int k n)=true:=rfl
def gdV{A:Type}(u:D)(b:Bool)(x y:Option A):Option A:=match u with
 |.bool c=>if c=b then x else y
 |_=>y
theorem yhh{A:Type}{c b:Bool}{x y:Option A}:gdV (.bool c) b x y=if c=b then x else y:=rfl
theorem z1a{A:Type}{u u':D}{b:Bool}{x y:Option A}(h:u=u'):gdV u b x y=gdV u' b x y:=by rw[h]
theorem zuz{x:Xp}{b:Bool}{dst:Option Nat}{op:DOp}{ks:Xs}{r:List TS}:rTS E cP cS cY base (.eff (some (x,b)) dst op ks none::r) env hp=ob (xv E cP env hp x) fun u=>gdV u b (ob (xvs E cP env hp ks) fun vs=>ob (yf E cP cS cY hp.length (gOf vs) hp op) fun p=>rTS E cP cS cY base r (y9y env dst p.1) p.2) (rTS E cP cS cY base r (y9y env dst .undef) hp):=by
 simp only[rTS,gdT];cases xv E cP env hp x with
 |none=>rfl
 |some u=>
  simp only[zc];cases u with
  |bool c=>
   simp only[yhh]
   by_cases h:c=b
   ·subst h;simp only[beq_self_eq_true,if_true];cases xvs E cP env hp ks with
    |none=>rfl
    |some vs=>simp only[zc];cases yf E cP cS cY hp.length (gOf vs) hp op <;> rfl
   ·have:(c == b)=false:=by simpa using h
    simp only[this,if_neg h]
  |_=>rfl
theorem zw8{n:Nat}{cs:List D}:ybx hp (n+1) (.tup cs)=(y1h (yb9 hp n) cs).map .tup:=rfl
theorem zny{n:Nat}{cs:List D}:ybx hp (n+1) (.imm .exact cs)=(y1h (frz hp n) cs).map (.imm .exact):=rfl
theorem znz{n:Nat}{cs:List D}:yb9 hp (n+1) (.imm .exact cs)=(y1h (frz hp n) cs).map (.imm .exact):=rfl
theorem zsb{n:Nat}{cs:List D}:yb9 hp (n+1) (.imm .none cs)=(y1h (frz hp n) cs).map (.imm .none):=rfl
theorem zwe{n:Nat}{k:bh}{i:Int}:yb9 hp (n+1) (.int k i)=some (.int k i):=rfl
theorem zj2{b:Bool}:yy (.bool b)=false:=rfl
theorem znk{k:bh}{n:Int}:yy (.int k n)=false:=rfl
theorem zni{b:List UInt8}:yy (.str b)=false:=rfl
theorem znl{sp:yt}{l:List D}:yy (.imm sp l)=false:=rfl
theorem zro{a b c d:Nat}{e f:Bool}:yy (.sl a b c d e f)=false:=rfl
theorem zrp{a:Nat}{l:List D}:yy (.fn a l)=false:=rfl
theorem znj{a b:Nat}:yy (.loc a b)=false:=rfl
theorem zgz:yy .undef=false:=rfl
def isU:D->Bool
 |.undef=>true
 |_=>false
theorem zj1:yy (.tup [])=false:=rfl
theorem zj3:yy (.agg [])=false:=rfl
theorem zrn:isU .undef=true:=rfl
theorem zvt{b:Bool}:isU (.bool b)=false:=rfl
theorem ydx{k:bh}{n:Int}:isU (.int k n)=false:=rfl
theorem ydv{b:List UInt8}:isU (.str b)=false:=rfl
theorem ydy{sp:yt}{l:List D}:isU (.imm sp l)=false:=rfl
theorem ydz{l:List D}:isU (.agg l)=false:=rfl
theorem yhe{a:Nat}{l:List D}:isU (.fn a l)=false:=rfl
theorem ydw{a b:Nat}:isU (.loc a b)=false:=rfl
theorem yhd{a b c d:Nat}{e f:Bool}:isU (.sl a b c d e f)=false:=rfl
theorem zve{d:D}{h:List Obj}:y18 (some (d,h))=if yy d=true then none else some (d,h):=rfl
def yh8(d:D)(a b:Prop):Prop:=if yy d=true then a else b
theorem zu{t t':D}{a b:Prop}(h:t=t'):yh8 t a b=yh8 t' a b:=by rw[h]
theorem zzv{Q:Ex->List D->List Obj->Prop}:wT E .dead Q env hp=False:=rfl
theorem zfz{f:Opd}{as:List Opd}:yf E cP cS cY id g hp (.call 6 f as)=(match g f with | .fn k caps=>if E.mp k=true then cS k (as.map g++caps) hp else none | _=>none):=rfl
def ydc(d:D):Option D:=match d with
 |.loc i o=>some (.loc i o)
 |.iptr cs=>some (.iptr cs)
 |_=>none
theorem zqt{i o:Nat}:ydc (.loc i o)=some (.loc i o):=rfl
theorem zmx{l:List D}:ydc (.iptr l)=some (.iptr l):=rfl
def yh7(b:Bool)(d:D):Option D:=match b,d with
 |false,.int .i64 n=>some (.tup [.undef,.int .i64 n])
 |true,.agg [.int .i64 n]=>some (.tup [.undef,.agg [.int .i64 n]])
 |_,_=>none
theorem zr2{n:Int}:yh7 false (.int .i64 n)=some (.tup [.undef,.int .i64 n]):=rfl
theorem zr3{n:Int}:yh7 true (.agg [.int .i64 n])=some (.tup [.undef,.agg [.int .i64 n]]):=rfl
theorem zze{a:Nat}{x:Xp}:xv E cP env hp (.n (.nilc (.t a)) (.cons a x .nil))=ob (xv E cP env hp x) fun u=>ydc u:=by
 simp only[xv,xvs];cases xv E cP env hp x with
 |none=>rfl
 |some d=>simp only[yb,gOf,kv,zc,if_true];cases d <;> rfl
end
end Dv
namespace Dv
section
variable{E:Env}{cP:Nat->List D->Option D}{cS cY:Nat->List D->List Obj->Option (D × List Obj)}{env:List D}{hp:List Obj}{t t2 id base:Nat}{g:Opd->D}
theorem z7h{f:Opd}{as:List Opd}:yf E cP cS cY id g hp (.mkcall f as)=(match g f with | .fn k caps=>ob (y1h (frz [] depth) (as.map g++caps)) (fun vs=>y75 cS k vs hp) | _=>none):=by
 simp only[yf,DOp.fin,yo];cases g f <;> try rfl
 rename_i k caps;simp only[];cases y1h (frz [] depth) (as.map g++caps) <;> rfl
theorem zfw{x y:Opd}:yf E cP cS cY id g hp (.mkcap t x y)=y62 E hp t (g x) (g y):=rfl
theorem zc8{x y:Opd}:yf E cP cS cY id g hp (.reslice t x y)=y3d E hp t (g x) (g y):=rfl
theorem zm7{x:Opd}:yf E cP cS cY id g hp (.clr t x)=yc1 E hp t (g x):=rfl
theorem zhx{x y:Opd}:yf E cP cS cY id g hp (.copy t t2 x y)=y7a E hp t t2 (g x) (g y):=rfl
theorem zbw:∀(l:List UInt8),y49 (l.map yd)=some l
 |[]=>rfl
 |b::l=>by
  simp only[av,yd,y49,zbw l];have:UInt8.ofNat ((b.toNat:Int)).toNat=b:=by simp
  rw[this]
theorem zff{sp:yt}{l:List UInt8}:yfv E t t2 (.imm sp (l.map yd))=(match (E.ty t).k,(E.ty t2).k with | .slice e,.str=>if y6g E e=true then some (.str l)else none | _,_=>none):=by
 unfold yfv;cases (E.ty t).k <;> try rfl
 cases (E.ty t2).k <;> try rfl
 simp only[zbw,al]
theorem zuw{s:List UInt8}:yfn E t t2 (.str s)=(match (E.ty t).k,(E.ty t2).k with | .str,.slice e=>if y6g E e=true then some (.imm .none (s.map yd))else none | _,_=>none):=by
 unfold yfn;cases (E.ty t).k <;> try rfl
 cases (E.ty t2).k <;> rfl
theorem yg2{a:Nat}{x:Xp}:xv E cP env hp (.n (.b2s t t2 (.t a)) (.cons a x .nil))=ob (xv E cP env hp x) fun u=>yfv E t t2 u:=by
 simp only[xv,xvs];cases xv E cP env hp x <;> try rfl
 simp only[yb,gOf,kv,if_true,zc];exact z17
theorem yfy{a:Nat}{x:Xp}:xv E cP env hp (.n (.s2b t t2 (.t a)) (.cons a x .nil))=ob (xv E cP env hp x) fun u=>yfn E t t2 u:=by
 simp only[xv,xvs];cases xv E cP env hp x <;> try rfl
 simp only[yb,gOf,kv,if_true,zc];exact z17
theorem zu9{a f:Nat}{x:Xp}:xv E cP env hp (.n (.mkbfn f (.t a)) (.cons a x .nil))=ob (xv E cP env hp x) fun u=>some (.bfn f u):=by
 simp only[xv,xvs];cases xv E cP env hp x <;> try rfl
 simp only[yb,gOf,kv,if_true,zc]
theorem zns{cs:List D}{k:bh}{n:Int}{m e:Nat}(h:(E.ty t).k=.arr m e):y3u E t (.iptr cs) (.int k n)=if 0<=n/\n<m then some (.iptr (cs.drop (n.toNat*(E.ty e).size)))else none:=by simp only[y3u,h]
theorem ztr{a b:List UInt8}:y32 E .eql t (.str a) (.str b)=some (.bool (a == b)):=rfl
theorem ztq{a b:List UInt8}:y32 E .neq t (.str a) (.str b)=some (.bool (!(a == b))):=rfl
theorem ycc{k:bh}{n:Int}:unD .xor (.int k n)=some (.int k (y9t k (if k.signed then -1 else k.max) n)):=rfl
theorem zxi{k k':bh}{a b:Int}:y32 E .shl t (.int k a) (.int k' b)=if 0<=b then some (.int k (k.wrap (a*2 ^ (min b.toNat k.bits))))else none:=rfl
theorem zxh{k k':bh}{a b:Int}:y32 E .shr t (.int k a) (.int k' b)=if 0<=b then some (.int k (a.fdiv (2 ^ (min b.toNat k.bits))))else none:=rfl
def ye3(d:D):Option D:=if d.storable=true then some (.iptr d.cellsL)else none
theorem zzh{a:Nat}{x:Xp}:xv E cP env hp (.n (.ibox t (.t a)) (.cons a x .nil))=ob (xv E cP env hp x) fun u=>ye3 u:=by
 simp only[xv,xvs];cases xv E cP env hp x <;> try rfl
 rename_i d;simp only[yb,gOf,kv,if_true,zc,ye3]
 by_cases hh:d.storable=true
 ·simp only[hh,if_true]
 ·simp only[hh];rfl
theorem zua{a:Nat}{x:Xp}:xv E cP env hp (.n (.iload t (.t a)) (.cons a x .nil))=ob (xv E cP env hp x) fun u=>y8c E t u:=by
 simp only[xv,xvs];cases xv E cP env hp x <;> try rfl
 simp only[yb,gOf,kv,if_true,zc];exact z17
theorem zbd{cs:List D}:y8c E t (.iptr cs)=ob (y2b cs 0 (E.ty t).size) fun r=>ym (E.ty t).ag r:=rfl
end
end Dv
namespace Dv
structure Cell where
 airport:Bool
 index:Int
 minute:Int
deriving DecidableEq
structure Use where
 cell:Cell
 places:Int
structure y1m where
 delay:Int
 cost:Int
 changes:Int
 uses:List Use
structure Var where
 a:Int
 b:Int
 leaves:List Int
 choices:List y1m
structure yl where
 cells:List Cell
 capacity:List (List Int)
 vars:List Var
abbrev dI(n:Int):D:=.int .i64 n
abbrev y22(c:Cell):D:=.agg [.bool c.airport,dI c.index,dI c.minute]
abbrev y4y(u:Use):D:=.agg [.bool u.cell.airport,dI u.cell.index,dI u.cell.minute,dI u.places]
abbrev ya(l:List Int):D:=.imm .none (l.map dI)
abbrev y16(c:y1m):D:=.agg [dI c.delay,dI c.cost,dI c.changes,.imm .none (c.uses.map y4y)]
abbrev y4t(v:Var):D:=.agg [dI v.a,dI v.b,ya v.leaves,.imm .none (v.choices.map y16)]
abbrev ye(p:yl):D:=.agg [.imm .none (p.cells.map y22),.imm .none (p.capacity.map ya),.imm .none (p.vars.map y4t)]
def i64(n:Int):Prop:=-9223372036854775808<=n/\n<=9223372036854775807
theorem yg8{n:Int}(h:(Go.Lit.int .i64 n).wf=true):i64 n:=by
 simp[Go.Lit.wf]at h;obtain⟨h1,h2⟩:=h;have e1:aH.min = -9223372036854775808:=by decide
 have e2:aH.max=9223372036854775807:=by decide
 first
  |exact⟨by omega,by omega⟩
  |(rw[e1]at h1;exact⟨h1,by first | exact h2 | (rw[e2]at h2;exact h2)⟩)
theorem z52{A:Type}{f:A->D}{R:A->Prop}:∀{els:List D},(∀ x,x ∈ els->∃ a,x=f a/\R a)->∃ l:List A,els=l.map f /\ ∀ a,a ∈ l->R a
 |[],_=>⟨[],rfl,fun a h=>by cases h⟩
 |x::els,h=>by
  obtain⟨a,h1,h2⟩:=h x (by simp)
  obtain⟨l,h3,h4⟩:=z52 (els:=els) fun y hy=>h y (by simp[hy])
  exact⟨a::l,by simp[h1,h3],fun b hb=>by
   rcases aA.1 hb with rfl | hb
   ·exact h2
   ·exact h4 b hb⟩
end Dv
namespace Dv
theorem z6m{c:Nat}{ds:List D}(h:DTc E c ds)(hk:(E.ty c).k=.int .i64):∃ n,ds=[dI n]/\i64 n:=by
 cases h with
 |int h hw=>rw[hk]at h;cases h;exact⟨_,rfl,yg8 hw⟩
 |bool h=>rw[hk]at h;cases h
 |str h=>rw[hk]at h;cases h
 |slice h _ _ _=>rw[hk]at h;cases h
 |struct h _ _=>rw[hk]at h;cases h
 |arr h _ _=>rw[hk]at h;cases h
theorem yci{c:Nat}{ds:List D}(h:DTc E c ds)(hk:(E.ty c).k=.bool):∃ b,ds=[.bool b]:=by
 cases h with
 |bool h=>exact⟨_,rfl⟩
 |int h hw=>rw[hk]at h;cases h
 |str h=>rw[hk]at h;cases h
 |slice h _ _ _=>rw[hk]at h;cases h
 |struct h _ _=>rw[hk]at h;cases h
 |arr h _ _=>rw[hk]at h;cases h
theorem z3z{c e:Nat}{ds:List D}(h:DTc E c ds)(hk:(E.ty c).k=.slice e):∃ els,ds=[.imm .none els]/\els.length<=Go.maxLen /\ ∀ x,x ∈ els->y59 E e x:=by
 cases h with
 |slice h hl he ho=>rw[hk]at h;cases h;exact⟨_,rfl,hl,fun x hx=>⟨he x hx,ho x hx⟩⟩
 |bool h=>rw[hk]at h;cases h
 |int h hw=>rw[hk]at h;cases h
 |str h=>rw[hk]at h;cases h
 |struct h _ _=>rw[hk]at h;cases h
 |arr h _ _=>rw[hk]at h;cases h
theorem z4f{c:Nat}{fs:List (Nat × Nat)}{ds:List D}(h:DTc E c ds)(hk:(E.ty c).k=.struct fs):ds.length=(E.ty c).size /\ ∀(i:Nat) p,fs[i]? = some p->DTc E p.2 ((ds.drop p.1).take (E.ty p.2).size):=by
 cases h with
 |struct h hl hf=>rw[hk]at h;cases h;exact⟨hl,hf⟩
 |bool h=>rw[hk]at h;cases h
 |int h hw=>rw[hk]at h;cases h
 |str h=>rw[hk]at h;cases h
 |slice h _ _ _=>rw[hk]at h;cases h
 |arr h _ _=>rw[hk]at h;cases h
end Dv
namespace Dv
def y84(c:Cell):Prop:=i64 c.index/\i64 c.minute
def yd9(u:Use):Prop:=y84 u.cell/\i64 u.places
def y7q(c:y1m):Prop:=i64 c.delay/\i64 c.cost/\i64 c.changes /\ ∀ u,u ∈ c.uses->yd9 u
def y83(l:List Int):Prop:=∀ n,n ∈ l->i64 n
def yd8(v:Var):Prop:=i64 v.a/\i64 v.b/\y83 v.leaves /\ ∀ c,c ∈ v.choices->y7q c
def ygw(p:yl):Prop:=(∀ c,c ∈ p.cells->y84 c)/\(∀ l,l ∈ p.capacity->y83 l) /\ ∀ v,v ∈ p.vars->yd8 v
theorem ygm{ds:List D}(h:ds.length=3):∃ a b c,ds=[a,b,c]:=by
 match ds,h with
 |[a,b,c],_=>exact⟨a,b,c,rfl⟩
theorem yiw{ds:List D}(h:ds.length=4):∃ a b c d,ds=[a,b,c,d]:=by
 match ds,h with
 |[a,b,c,d],_=>exact⟨a,b,c,d,rfl⟩
theorem zdo{ds:List D}(h:DTc E 20 ds):∃ c,ds=[.bool c.airport,dI c.index,dI c.minute]/\y84 c:=by obtain⟨hl,hf⟩:=z4f h (fs:=[(0,7),(1,2),(2,2)]) rfl;obtain⟨x,y,z,rfl⟩:=ygm hl;obtain⟨b,h1⟩:=yci (hf 0 _ rfl) rfl;obtain⟨n,h2,o2⟩:=z6m (hf 1 _ rfl) rfl;obtain⟨m,h3,o3⟩:=z6m (hf 2 _ rfl) rfl;simp[E,y46]at h1 h2 h3;subst h1 h2 h3;exact⟨⟨b,n,m⟩,rfl,o2,o3⟩
theorem z4e{c:Nat}{x:D}(h:y59 E c x)(ha:(E.ty c).ag=true):∃ ds,x=.agg ds/\DTc E c ds:=by obtain⟨h1,h2⟩:=h;rw[ha]at h2;simp[ym]at h2;exact⟨x.cellsL,h2.symm,h1⟩
theorem z4d{c:Nat}{x:D}(h:y59 E c x)(ha:(E.ty c).ag=false):DTc E c [x]:=by
 obtain⟨h1,h2⟩:=h;rw[ha]at h2;cases hx:x.cellsL with
 |nil=>rw[hx]at h2;simp[ym]at h2
 |cons y r=>
  rw[hx]at h1 h2;cases r with
  |nil=>simp[ym]at h2;subst h2;exact h1
  |cons _ _=>simp[ym]at h2
theorem ych{x:D}(h:y59 E 20 x):∃ c,x=y22 c/\y84 c:=by obtain⟨ds,rfl,h1⟩:=z4e h rfl;obtain⟨c,rfl,o⟩:=zdo h1;exact⟨c,rfl,o⟩
theorem ygk{x:D}(h:y59 E 19 x):∃ u,x=y4y u/\yd9 u:=by obtain⟨ds,rfl,h1⟩:=z4e h rfl;obtain⟨hl,hf⟩:=z4f h1 (fs:=[(0,20),(3,2)]) rfl;obtain⟨x,y,z,w,rfl⟩:=yiw hl;obtain⟨c,h2,o2⟩:=zdo (hf 0 _ rfl);obtain⟨m,h3,o3⟩:=z6m (hf 1 _ rfl) rfl;simp[E,y46]at h2 h3;obtain⟨rfl,rfl,rfl⟩:=h2;subst h3;exact⟨⟨c,m⟩,rfl,o2,o3⟩
theorem ze2{c:Nat}{ds:List D}(h:DTc E c ds)(hk:(E.ty c).k=.slice 2):∃ l,ds=[ya l]/\y83 l:=by
 obtain⟨els,rfl,_,h1⟩:=z3z h hk;obtain⟨l,rfl,o⟩:=z52 (f:=dI) (R:=i64) (els:=els) fun x hx=>by obtain⟨n,h2,o⟩:=z6m (z4d (h1 x hx) rfl) rfl;simp at h2;exact⟨n,h2,o⟩
 exact⟨l,rfl,o⟩
theorem zpg{x:D}(h:y59 E 17 x):∃ c,x=y16 c/\y7q c:=by
 obtain⟨ds,rfl,h1⟩:=z4e h rfl;obtain⟨hl,hf⟩:=z4f h1 (fs:=[(0,2),(1,2),(2,2),(3,18)]) rfl;obtain⟨x,y,z,w,rfl⟩:=yiw hl;obtain⟨a,h2,o2⟩:=z6m (hf 0 _ rfl) rfl;obtain⟨b,h3,o3⟩:=z6m (hf 1 _ rfl) rfl;obtain⟨c,h4,o4⟩:=z6m (hf 2 _ rfl) rfl;obtain⟨els,h5,_,h6⟩:=z3z (hf 3 _ rfl) (e:=19) rfl;simp[E,y46]at h2 h3 h4 h5;subst h2 h3 h4 h5;obtain⟨l,rfl,o⟩:=z52 (f:=y4y) (R:=yd9) (els:=els) fun x hx=>ygk (h6 x hx)
 exact⟨⟨a,b,c,l⟩,rfl,o2,o3,o4,o⟩
theorem ygj{x:D}(h:y59 E 15 x):∃ v,x=y4t v/\yd8 v:=by
 obtain⟨ds,rfl,h1⟩:=z4e h rfl;obtain⟨hl,hf⟩:=z4f h1 (fs:=[(0,2),(1,2),(2,6),(3,16)]) rfl;obtain⟨x,y,z,w,rfl⟩:=yiw hl;obtain⟨a,h2,o2⟩:=z6m (hf 0 _ rfl) rfl;obtain⟨b,h3,o3⟩:=z6m (hf 1 _ rfl) rfl;obtain⟨c,h4,o4⟩:=ze2 (hf 2 _ rfl) rfl;obtain⟨els,h5,_,h6⟩:=z3z (hf 3 _ rfl) (e:=17) rfl;simp[E,y46]at h2 h3 h4 h5;subst h2 h3 h4 h5;obtain⟨l,rfl,o⟩:=z52 (f:=y16) (R:=y7q) (els:=els) fun x hx=>zpg (h6 x hx)
 exact⟨⟨a,b,c,l⟩,rfl,o2,o3,o4,o⟩
theorem ycf{x:D}(h:y59 E 0 x):∃ p,x=ye p/\ygw p:=by
 obtain⟨ds,rfl,h1⟩:=z4e h rfl;obtain⟨hl,hf⟩:=z4f h1 (fs:=[(0,10),(1,9),(2,14)]) rfl;obtain⟨x,y,z,rfl⟩:=ygm hl;obtain⟨e1,h2,_,g2⟩:=z3z (hf 0 _ rfl) (e:=20) rfl;obtain⟨e2,h3,_,g3⟩:=z3z (hf 1 _ rfl) (e:=6) rfl;obtain⟨e3,h4,_,g4⟩:=z3z (hf 2 _ rfl) (e:=15) rfl;simp[E,y46]at h2 h3 h4;subst h2 h3 h4;obtain⟨l1,rfl,o1⟩:=z52 (f:=y22) (R:=y84) (els:=e1) fun x hx=>ych (g2 x hx)
 obtain⟨l2,rfl,o2⟩:=z52 (f:=ya) (R:=y83) (els:=e2) fun x hx=>by obtain⟨l,h,o⟩:=ze2 (z4d (g3 x hx) rfl) rfl;simp at h;exact⟨l,h,o⟩
 obtain⟨l3,rfl,o3⟩:=z52 (f:=y4t) (R:=yd8) (els:=e3) fun x hx=>ygj (g4 x hx)
 exact⟨⟨l1,l2,l3⟩,rfl,o1,o2,o3⟩
end Dv
namespace Dv
theorem za{n:Int}(h:i64 n):aH.wrap n=n:=gN n h
theorem ze{i n:Nat}(h:i<n)(hn:n<=1000000000000):aH.wrap ((i:Int)+1)=(i:Int)+1:=za ⟨by omega,by omega⟩
theorem zh{A:Type}{l:List A}{i:Nat}(h:i<l.length):l.drop i=l[i]::l.drop (i+1):=List.drop_eq_getElem_cons h
section
variable{hp:List Obj}
theorem zw6{n:Nat}{b:Bool}:frz hp (n+1) (.bool b)=some (.bool b):=rfl
theorem z4c{n:Nat}{k:bh}{x:Int}:frz hp (n+1) (.int k x)=some (.int k x):=rfl
theorem z3v{n:Nat}{sp:yt}{els:List D}:frz hp (n+1) (.imm sp els)=(y1h (frz hp n) els).map (.imm .none):=rfl
theorem z59{n:Nat}{els:List D}:frz hp (n+1) (.agg els)=(y1h (frz hp n) els).map .agg:=rfl
theorem ye5{n:Nat}{els:List D}:frz hp (n+1) (.tup els)=(y1h (frz hp n) els).map .tup:=rfl
theorem yhj{n:Nat}{f:Nat}{els:List D}:frz hp (n+1) (.fn f els)=(y1h (frz hp n) els).map (.fn f):=rfl
theorem zw5{n:Nat}{els:List D}:frz hp (n+1) (.iptr els)=(y1h (frz hp n) els).map .iptr:=rfl
theorem z3f{f:D->Option D}:y1h f []=some []:=rfl
theorem z1l{f:D->Option D}{d:D}{r:List D}:y1h f (d::r)=ob (f d) fun d=>ob (y1h f r) fun r=>some (d::r):=by
 simp only[y1h];cases f d with
 |none=>rfl
 |some d=>simp only[zc];cases y1h f r <;> rfl
theorem z1e{A:Type}{f:D->Option D}{g:A->D}:∀{l:List A},(∀ x,x ∈ l->f (g x)=some (g x))->y1h f (l.map g)=some (l.map g)
 |[],_=>rfl
 |x::l,h=>by simp only[av,z1l,h x (by simp),zc,z1e (l:=l) fun y hy=>h y (by simp[hy])]
theorem z5u{n:Nat}{l:List Int}:y1h (frz hp (n+1)) (l.map dI)=some (l.map dI):=z1e fun x _=>z4c
theorem zs9{n:Nat}{l:List Cell}:y1h (frz hp (n+2)) (l.map y22)=some (l.map y22):=z1e fun x _=>rfl
theorem zl8{n:Nat}{l:List Use}:y1h (frz hp (n+2)) (l.map y4y)=some (l.map y4y):=z1e fun x _=>rfl
theorem z84{n:Nat}{l:List (List Int)}:y1h (frz hp (n+2)) (l.map ya)=some (l.map ya):=z1e fun x _=>by rw[z3v,z5u];rfl
theorem zbi{n:Nat}{l:List y1m}:y1h (frz hp (n+4)) (l.map y16)=some (l.map y16):=z1e fun x _=>by rw[z59];simp only[z1l,z4c,zc,z3v,zl8,al,z3f]
theorem zwa{n:Nat}{l:List Var}:y1h (frz hp (n+6)) (l.map y4t)=some (l.map y4t):=z1e fun x _=>by rw[z59];simp only[z1l,z4c,zc,z3v,z5u,zbi,al,z3f]
end
theorem zj9{l:List Int}:yr (l.map dI)=l.map dI:=by
 induction l with
 |nil=>rfl
 |cons x r ih=>simp only[av,yr,List.flatMap_cons]at ih ⊢;rw[ih];rfl
theorem zwg{n:Nat}{x:Int}:yr (ah n (.int .i64 x))=(ah n x).map dI:=by have:=zj9 (l:=ah n x);rw[eZ]at this;rw[eZ];exact this
theorem za0:∀{l:List Int},y31 1 false l.length (l.map dI)=some (l.map dI)
 |[]=>rfl
 |x::r=>by simp only[List.length_cons,av,y31,y2b,List.getElem?_cons_zero,ym,List.drop_succ_cons,List.drop_zero,za0]
theorem zxb{cP:Nat->List D->Option D}{k:Nat}{caps args:List D}:ybo cP (.fn k caps) args=ob (y1h (frz [] depth) (args++caps)) fun vs=>cP k vs:=by simp only[ybo];cases y1h (frz [] depth) (args++caps) <;> rfl
end Dv
