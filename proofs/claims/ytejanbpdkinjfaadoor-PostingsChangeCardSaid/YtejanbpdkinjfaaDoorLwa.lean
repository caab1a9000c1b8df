/- Texts that a proof of this claim uses, joined: Lw.Wp, Lw.Tidy, Lw.TidyOk, Lw.TidyOk2, Lw.TidyFn, Lw.Use, Lw.Eval, Lw.Ev2, Lw.Ev3, Lw.Ev4, Lw.Enc, Lw.Base. -/
import Derived.Test.YtejanbpdkinjfaaDoorDvd
import Derived.Test.YtejanbpdkinjfaaDoorDvb
import Derived.Test.YtejanbpdkinjfaaDoorCode
set_option linter.all false
namespace Dv

section
variable {E : Env}

def wp (E : Env) (c : DC) (st : St) (Q : Ex -> St -> Prop) : Prop:=∃ ex st',dL E c st = some (ex,st') /\ Q ex st'

def wpR (E : Env) (os : List DOpr) (st : St) (Q : St -> Prop) : Prop:=∃ st',stepOps E (runP E (dL E)) (runS E (dL E)) (runY (dL E)) os st = some st' /\ Q st'

theorem zds {c : DC} {st : St} {Q Q' : Ex -> St -> Prop} (h : wp E c st Q) (hq : ∀ ex st',Q ex st' -> Q' ex st') : wp E c st Q':=by
 obtain ⟨ex,st',h1,h2⟩:=h
 exact ⟨ex,st',h1,hq _ _ h2⟩

theorem zqi {st : St} {Q} : wp E .skip st Q ↔ Q .normal st:=by
 constructor
 ·rintro ⟨ex,st',h1,h2⟩
  rw [z9a] at h1; simp at h1; obtain ⟨rfl,rfl⟩:=h1; exact h2
 ·intro h; exact ⟨_,_,z9a,h⟩
theorem zt7 {st : St} {Q} : wp E .ret st Q ↔ Q .ret st:=by
 constructor
 ·rintro ⟨ex,st',h1,h2⟩
  rw [z7h] at h1; simp at h1; obtain ⟨rfl,rfl⟩:=h1; exact h2
 ·intro h; exact ⟨_,_,z7h,h⟩
theorem zqk {id : Nat} {st : St} {Q} : wp E (.exit id) st Q ↔ Q (.exit id) st:=by
 constructor
 ·rintro ⟨ex,st',h1,h2⟩
  rw [zlx] at h1; simp at h1; obtain ⟨rfl,rfl⟩:=h1; exact h2
 ·intro h; exact ⟨_,_,zlx,h⟩

theorem zt6 {a b : DC} {st : St} {Q} : wp E (.seq a b) st Q ↔ wp E a st (fun ex st'=>match ex with | .normal=>wp E b st' Q | ex=>Q ex st'):=by
 constructor
 ·rintro ⟨ex,st',h1,h2⟩
  rw [z9b] at h1
  split at h1
  ·rename_i st1 ha
   exact ⟨_,_,ha,ex,st',h1,h2⟩
  ·rename_i r hne
   refine ⟨_,_,h1,?_⟩
   cases ex with
   | normal=>exact absurd h1 (hne st')
   | exit id=>exact h2
   | ret=>exact h2
 ·rintro ⟨ex,st',h1,h2⟩
  cases ex with
  | normal=>
   obtain ⟨ex2,st2,h3,h4⟩:=h2
   exact ⟨ex2,st2,by rw [z9b,h1]; exact h3,h4⟩
  | exit id=>exact ⟨_,_,by rw [z9b,h1],h2⟩
  | ret=>exact ⟨_,_,by rw [z9b,h1],h2⟩

theorem zql {c : Opd} {x y : DC} {st : St} {Q} {b : Bool} (h : getO st.sl c = .bool b) : wp E (.cond c x y) st Q ↔ (b = true -> wp E x st Q) /\ (b = false -> wp E y st Q):=by
 unfold wp
 rw [z5f,h]
 cases b <;> simp

theorem zpn {c : Opd} {x y : DC} {st : St} {Q} : wp E (.ifp c x y) st Q ↔ if isMark (getO st.sl c) = true then wp E x st Q else wp E y st Q:=by
 unfold wp
 rw [zgf]
 split <;> exact Iff.rfl

theorem zmv {id : Nat} {a : DC} {st : St} {Q} : wp E (.block id a) st Q ↔ wp E a st (fun ex st'=>match ex with | .exit i=>Q (if i = id then .normal else .exit i) st' | ex=>Q ex st'):=by
 constructor
 ·rintro ⟨ex,st',h1,h2⟩
  rw [z7u] at h1
  cases ha : dL E a st with
  | none=>rw [ha] at h1; simp at h1
  | some r=>
   obtain ⟨ex1,st1⟩:=r
   rw [ha] at h1
   refine ⟨ex1,st1,ha,?_⟩
   cases ex1 with
   | normal=>simp at h1; obtain ⟨rfl,rfl⟩:=h1; exact h2
   | ret=>simp at h1; obtain ⟨rfl,rfl⟩:=h1; exact h2
   | exit i=>simp at h1; obtain ⟨rfl,rfl⟩:=h1; exact h2
 ·rintro ⟨ex,st',h1,h2⟩
  cases ex with
  | normal=>exact ⟨_,_,by rw [z7u,h1],h2⟩
  | ret=>exact ⟨_,_,by rw [z7u,h1],h2⟩
  | exit i=>exact ⟨_,_,by rw [z7u,h1],h2⟩

theorem zjd {ap : List (Nat × Nat)} {ops : List DOpr} {st : St} {Q} : wp E (.region false ap ops) st Q ↔ wpR E ops st (Q .normal):=by
 unfold wp wpR
 rw [z6d]
 constructor
 ·rintro ⟨ex,st',h1,h2⟩
  simp only [Option.map_eq_some_iff,Prod.mk.injEq] at h1
  obtain ⟨st1,h3,rfl,rfl⟩:=h1
  exact ⟨_,h3,h2⟩
 ·rintro ⟨st',h1,h2⟩
  exact ⟨_,_,by rw [h1]; rfl,h2⟩

theorem zqj {b : DC} {Q : Ex -> St -> Prop} (I : Nat -> St -> Prop)
  (step : ∀ k st,I k st -> wp E b st (fun ex st'=>match ex with | .normal=>∃ k',k' < k /\ I k' st' | ex=>Q ex st')) : ∀ (k : Nat) (st : St),I k st -> wp E (.loop b) st Q:=by
 intro k
 induction k using Nat.strongRecOn with
 | _ k ih=>
  intro st hI
  obtain ⟨ex,st',h1,h2⟩:=step k st hI
  cases ex with
  | normal=>
   obtain ⟨k',hk,hI'⟩:=h2
   obtain ⟨ex2,st2,h3,h4⟩:=ih k' hk st' hI'
   exact ⟨ex2,st2,by rw [zf1,h1]; exact h3,h4⟩
  | exit i=>exact ⟨_,_,by rw [zf1,h1],h2⟩
  | ret=>exact ⟨_,_,by rw [zf1,h1],h2⟩

end
end Dv

namespace Dv

mutual
inductive Xp where
 | v (i : Nat)
 | c (d : D)
 | n (op : DOp) (ks : Xs)
 | ite (c a b : Xp)
inductive Xs where
 | nil
 | cons (s : Nat) (x : Xp) (r : Xs)
end

def kv (n : Nat) : List (Nat × D) -> D
 | []=>.undef
 | p :: r=>if n = p.1 then p.2 else kv n r

def gOf (vs : List (Nat × D)) : Opd -> D
 | .t n=>kv n vs
 | .c d=>d
 | .f k=>.fn k []

mutual
def xv (E : Env) (cP : Nat -> List D -> Option D) (env : List D) (hp : List Obj) : Xp -> Option D
 | .v i=>env[i]?
 | .c d=>some d
 | .n op ks=>(match xvs E cP env hp ks with
  | some vs=>(match pureOp E cP 0 (gOf vs) hp op with
   | some e=>some e.d
   | none=>none)
  | none=>none)
 | .ite c a b=>(match xv E cP env hp c with
  | some (.bool true)=>xv E cP env hp a
  | some (.bool false)=>xv E cP env hp b
  | _=>none)
def xvs (E : Env) (cP : Nat -> List D -> Option D) (env : List D) (hp : List Obj) : Xs -> Option (List (Nat × D))
 | .nil=>some []
 | .cons s x r=>(match xv E cP env hp x,xvs E cP env hp r with
  | some d,some l=>some ((s,d) :: l)
  | _,_=>none)
end

def vop (op : DOp) : Bool:=hfree op || (match op with
 | .load _ _=>true
 | .lookup _ _ _ _=>true
 | .len _ _=>true
 | _=>false)

mutual
def xkeep (i : Option Nat) (h : Bool) : Xp -> Bool
 | .v j=>!(i == some j)
 | .c _=>true
 | .n op ks=>(!h || hfree op) && xskeep i h ks
 | .ite c a b=>xkeep i h c && xkeep i h a && xkeep i h b
def xskeep (i : Option Nat) (h : Bool) : Xs -> Bool
 | .nil=>true
 | .cons _ x r=>xkeep i h x && xskeep i h r
end

inductive TS where
 | asg (i : Nat) (x : Xp)
 | eff (gd : Option (Xp × Bool)) (dst : Option Nat) (op : DOp) (ks : Xs) (k : Option Nat)

inductive TC where
 | skip
 | ret
 | exit (id : Nat)
 | run (pad : Nat) (l : List TS)
 | seq (a b : TC)
 | cond (i : Nat) (a b : TC)
 | ifp (i : Nat) (a b : TC)
 | dead
 | block (id : Nat) (a : TC)
 | loop (a : TC)
 | rfunc (i : Nat) (ps : List Nat) (a b : TC)
 | chk (l : List (Nat × Nat))


def gdT (E : Env) (cP : Nat -> List D -> Option D) (env : List D) (hp : List Obj) : Option (Xp × Bool) -> Option Bool
 | none=>some true
 | some (x,b)=>(match xv E cP env hp x with
  | some (.bool c)=>some (c == b)
  | some _=>some false
  | none=>none)

def putE (env : List D) : Option Nat -> D -> List D
 | none,_=>env
 | some i,d=>env.set i d

def rTS (E : Env) (cP : Nat -> List D -> Option D) (cS cY : Nat -> List D -> List Obj -> Option (D × List Obj)) (base : Nat) : List TS -> List D -> List Obj -> Option (List D × List Obj)
 | [],env,hp=>some (env,hp)
 | .asg i x :: r,env,hp=>(match xv E cP env hp x with
  | some d=>rTS E cP cS cY base r (env.set i d) hp
  | none=>none)
 | .eff gd dst op ks k :: r,env,hp=>(match gdT E cP env hp gd with
  | some true=>(match xvs E cP env hp ks with
   | some vs=>(match stepOp E cP cS cY (match k with | some k=>base + k | none=>hp.length) (gOf vs) hp op with
    | some (d,hp')=>rTS E cP cS cY base r (putE env dst d) hp'
    | none=>none)
   | none=>none)
  | some false=>rTS E cP cS cY base r (putE env dst .undef) hp
  | none=>none)

noncomputable def rTL (E : Env) : Nat -> List TS -> List D -> List Obj -> Option (List D × List Obj):=rTS E (runP E (dL E)) (runS E (dL E)) (runY (dL E))

def chk1 (env : List D) (p : Nat × Nat) : Bool:=match env[p.1]?,env[p.2]? with
 | some a,some b=>idsNe (did a) (did b)
 | _,_=>false
def chkT (env : List D) (l : List (Nat × Nat)) : Bool:=l.all (chk1 env)

def LoopObj (L : Bool -> Option Ex -> Obj) : Prop:=∃ sl ps asg body,L = fun b p=>.loop b sl ps asg body p

def wT (E : Env) : TC -> (Ex -> List D -> List Obj -> Prop) -> List D -> List Obj -> Prop
 | .skip,Q,env,hp=>Q .normal env hp
 | .ret,Q,env,hp=>Q .ret env hp
 | .exit id,Q,env,hp=>Q (.exit id) env hp
 | .run pad l,Q,env,hp=>(match rTL E hp.length l env (hp ++ List.replicate pad .dead) with
  | some (env',hp')=>Q .normal env' hp'
  | none=>False)
 | .chk l,Q,env,hp=>chkT env l = true /\ Q .normal env hp
 | .seq a b,Q,env,hp=>wT E a (fun ex env' hp'=>match ex with
  | .normal=>wT E b Q env' hp'
  | ex=>Q ex env' hp') env hp
 | .cond i a b,Q,env,hp=>(match env[i]? with
  | some (.bool t)=>if t = true then wT E a Q env hp else wT E b Q env hp
  | _=>False)
 | .ifp i a b,Q,env,hp=>(match env[i]? with
  | some d=>if isMark d = true then wT E a Q env hp else wT E b Q env hp
  | none=>False)
 | .dead,_,_,_=>False
 | .block id a,Q,env,hp=>wT E a (fun ex env' hp'=>match ex with
  | .exit i=>Q (if i = id then .normal else .exit i) env' hp'
  | ex=>Q ex env' hp') env hp
 | .loop a,Q,env,hp=>∃ (I : Nat -> List D -> List Obj -> Prop) (k : Nat),I k env hp /\ ∀ k env hp,I k env hp -> wT E a (fun ex env' hp'=>match ex with
  | .normal=>∃ k',k' < k /\ I k' env' hp'
  | ex=>Q ex env' hp') env hp
 | .rfunc i ps a b,Q,env,hp=>∃ k caps,(env[i]?).map (guardF E) = some (.fn k caps) /\ ∀ (L : Bool -> Option Ex -> Obj),LoopObj L ->
  (∀ (args : List D) (hp1 : List Obj) (K : Bool -> List Obj -> Prop),args.length = ps.length -> hp1[hp.length]? = some (L false none) ->
   wT E a (fun ex env1 hp2=>ex = .normal /\ hp2[hp.length]? = some (L false none) /\
    wT E b (fun ex _ hp3=>hp3[hp.length]? = some (L true none) /\ (match ex with
     | .normal=>K true (hp3.set hp.length (L false none))
     | ex=>K false (hp3.set hp.length (L false (some ex))))) env1 (hp2.set hp.length (L true none))) (setAll env ps args) hp1 ->
   ∃ t hp2,runY (dL E) hp.length args hp1 = some (.bool t,hp2) /\ K t hp2) ->
  ∃ d hp',runS E (dL E) k (.yld hp.length :: caps) (hp ++ [L false none]) = some (d,hp') /\
   ((hp'[hp.length]? = some (L false none) /\ Q .normal env (hp'.set hp.length .dead)) \/ ∃ ex,hp'[hp.length]? = some (L false (some ex)) /\ Q ex env (hp'.set hp.length .dead))


structure SV where
 g : List (Nat × Bool)
 x : Xp

abbrev Ab:=Nat -> Option SV

def gsub (a b : List (Nat × Bool)) : Bool:=a.all b.contains

def opdX (A : Ab) (G : List (Nat × Bool)) : Opd -> Option Xp
 | .c d=>some (.c d)
 | .f k=>some (.c (.fn k []))
 | .t s=>(match A s with
  | some sv=>if gsub sv.g G then some sv.x else none
  | none=>none)

def kidsX (A : Ab) (G : List (Nat × Bool)) : List Opd -> Option Xs
 | []=>some .nil
 | .t s :: r=>(match opdX A G (.t s),kidsX A G r with
  | some x,some ks=>some (.cons s x ks)
  | _,_=>none)
 | _ :: r=>kidsX A G r

def symOp (A : Ab) (G : List (Nat × Bool)) (op : DOp) : Option Xp:=
 match op with
 | .move x=>opdX A G x
 | .assign x=>opdX A G x
 | .pick (.t c) a b=>(match opdX A G (.t c),opdX A ((c,true) :: G) a,opdX A ((c,false) :: G) b with
  | some x,some y,some z=>some (.ite x y z)
  | _,_,_=>none)
 | op=>if vop op then (match kidsX A G (opnds op) with
  | some ks=>some (.n op ks)
  | none=>none) else none

def opdS : Opd -> List Nat
 | .t s=>[s]
 | _=>[]

def needs (G : List (Nat × Bool)) (op : DOp) : List (Nat × List (Nat × Bool)):=
 match op with
 | .move x=>(opdS x).map fun s=>(s,G)
 | .assign x=>(opdS x).map fun s=>(s,G)
 | .pick (.t c) a b=>(c,G) :: ((opdS a).map fun s=>(s,(c,true) :: G)) ++ ((opdS b).map fun s=>(s,(c,false) :: G))
 | op=>(opnds op).flatMap fun o=>(opdS o).map fun s=>(s,G)

def needsE (G : List (Nat × Bool)) (op : DOp) : List (Nat × List (Nat × Bool)):=(opnds op).flatMap fun o=>(opdS o).map fun s=>(s,G)

def isMove : DOp -> Bool
 | .move _=>true
 | .assign _=>true
 | _=>false

def killA (A : Ab) (i : Option Nat) (h : Bool) : Ab:=fun s=>match A s with
 | some sv=>if sv.g.isEmpty && xkeep i h sv.x then some sv else none
 | none=>none

def updA (A : Ab) (s : Nat) (sv : SV) : Ab:=fun n=>if n = s then some sv else A n

def setA (nm : List Nat) (A : Ab) : Option Nat -> Ab
 | none=>A
 | some d=>updA A d ⟨[],.v (nm.idxOf d)⟩

def keepDm (A : Ab) (i : Option Nat) (h : Bool) (dst : Option Nat) (dm : List (Nat × List (Nat × Bool))) : List (Nat × List (Nat × Bool)):=
 dm.filter fun p=>p.2.isEmpty && !(dst == some p.1) && (killA A i h p.1).isSome

def gdX (A : Ab) : Option (Nat × Bool) -> Option (Option (Xp × Bool))
 | none=>some none
 | some (j,b)=>(match opdX A [] (.t j) with
  | some x=>some (some (x,b))
  | none=>none)

def guardL (A : Ab) : Option (Nat × Bool) -> Option (List (Nat × Bool))
 | none=>some []
 | some (j,b)=>(match A j with
  | some sv=>some ((j,b) :: sv.g)
  | none=>none)

def okDst (nm : List Nat) (N : Nat) : Option Nat -> Bool
 | none=>true
 | some d=>nm.contains d && decide (d < N)

def comp (nm : List Nat) (N : Nat) (dr : Bool) : Nat -> List DOpr -> Ab -> Option (List TS × List (Nat × List (Nat × Bool)))
 | _,[],_=>some ([],[])
 | pos,o :: os,A=>
  if vop o.op then
   (match o.dst,guardL A o.gd with
   | some d,some G=>(match symOp A G o.op with
    | some x=>
     if nm.contains d then
      (if G.isEmpty && decide (d < N) then
       (match comp nm N dr (pos + 1) os (setA nm (killA A (some (nm.idxOf d)) false) (some d)) with
       | some (ts,dm)=>some (.asg (nm.idxOf d) x :: ts,needs [] o.op ++ keepDm A (some (nm.idxOf d)) false (some d) dm)
       | none=>none) else none)
     else
      (if (A d).isNone && decide (d < N) then
       (match comp nm N dr (pos + 1) os (updA A d ⟨G,x⟩) with
       | some (ts,dm)=>
        if dm.any (fun p=>p.1 == d && gsub p.2 G) then some (ts,needs G o.op ++ dm.filter fun p=>!(p.1 == d))
        else if isMove o.op then some (ts,dm.filter fun p=>!(p.1 == d)) else none
       | none=>none) else none)
    | none=>none)
   | _,_=>none)
  else
   (if okDst nm N o.dst then
    (match gdX A o.gd,kidsX A o.gd.toList (opnds o.op) with
    | some gd,some ks=>(match comp nm N dr (pos + 1) os (setA nm (killA A (o.dst.map nm.idxOf) true) o.dst) with
     | some (ts,dm)=>some (.eff gd (o.dst.map nm.idxOf) o.op ks (if dr then some pos else none) :: ts,
       needsE o.gd.toList o.op ++ keepDm A (o.dst.map nm.idxOf) true o.dst dm)
     | none=>none)
    | _,_=>none) else none)

def startA (nm : List Nat) : Ab:=fun s=>if nm.contains s then some ⟨[],.v (nm.idxOf s)⟩ else none

def opdI (nm : List Nat) : Opd -> Option (Option Nat)
 | .t s=>if nm.contains s then some (some (nm.idxOf s)) else none
 | .c d=>if (did d).isNone then some none else none
 | .f _=>some none

def pairX (nm : List Nat) (x y : Opd) : Option (List (Nat × Nat)):=match opdI nm x,opdI nm y with
 | some (some i),some (some j)=>some [(i,j)]
 | some (some _),some none=>some []
 | some none,some _=>some []
 | _,_=>none

def joinX {A : Type} : List (Option (List A)) -> Option (List A)
 | []=>some []
 | x :: r=>(match x,joinX r with
  | some a,some b=>some (a ++ b)
  | _,_=>none)

def apX1 (nm : List Nat) (a b : Option DOpr) : Option (List (Nat × Nat)):=match a,b with
 | some a,some b=>joinX ((touch a.op).flatMap fun x=>(touch b.op).map fun y=>pairX nm x y)
 | _,_=>none

def apX (nm : List Nat) (ops : List DOpr) (ap : List (Nat × Nat)) : Option (List (Nat × Nat)):=joinX (ap.map fun p=>apX1 nm ops[p.1]? ops[p.2]?)

def compC (nm : List Nat) (N : Nat) : DC -> Option TC
 | .skip=>some .skip
 | .ret=>some .ret
 | .exit id=>some (.exit id)
 | .region dr ap ops=>(match comp nm N dr 0 ops (startA nm) with
  | some (ts,_)=>if dr && !ap.isEmpty then (match apX nm ops ap with
    | some l=>some (.seq (.run ops.length ts) (.chk l))
    | none=>none)
   else some (.run (if dr then ops.length else 0) ts)
  | none=>none)
 | .seq a b=>(match compC nm N a,compC nm N b with
  | some x,some y=>some (.seq x y)
  | _,_=>none)
 | .cond (.t k) a b=>if nm.contains k then (match compC nm N a,compC nm N b with
  | some x,some y=>some (.cond (nm.idxOf k) x y)
  | _,_=>none) else none
 | .cond (.c .undef) _ _=>some .dead
 | .ifp (.t k) a b=>if nm.contains k then (match compC nm N a,compC nm N b with
  | some x,some y=>some (.ifp (nm.idxOf k) x y)
  | _,_=>none) else none
 | .block id a=>(match compC nm N a with
  | some x=>some (.block id x)
  | none=>none)
 | .loop a=>(match compC nm N a with
  | some x=>some (.loop x)
  | none=>none)
 | .rfunc (.t f) ps a b=>if nm.contains f && ps.all (fun p=>nm.contains p && decide (p < N)) then (match compC nm N a,compC nm N b with
  | some x,some y=>some (.rfunc (nm.idxOf f) (ps.map nm.idxOf) x y)
  | _,_=>none) else none
 | _=>none

end Dv

namespace Dv

section
variable {E : Env} {cP : Nat -> List D -> Option D} {cS cY : Nat -> List D -> List Obj -> Option (D × List Obj)} {env env' : List D} {hp hp' : List Obj} {A : Ab} {N : Nat} {nm : List Nat} {sl : List D}

theorem zqu {op : DOp} (h : vop op = true) : op.fin = false:=by
 unfold vop at h
 rw [Bool.or_eq_true] at h
 rcases h with h | h
 ·exact z65 h
 ·cases op <;> first | rfl | simp at h

theorem ztc {op : DOp} {id id' : Nat} {g : Opd -> D} (h : vop op = true) : pureOp E cP id g hp op = pureOp E cP id' g hp op:=by
 unfold vop at h
 rw [Bool.or_eq_true] at h
 rcases h with h | h
 ·exact z6m h
 ·cases op <;> first | rfl | simp at h

theorem zmx {op : DOp} {id : Nat} {g : Opd -> D} {e : Ef} (h : vop op = true) (hp : pureOp E cP id g hp op = some e) : e.new = none /\ e.kill = none:=by
 unfold vop at h
 rw [Bool.or_eq_true] at h
 rcases h with h | h
 ·exact z6n h hp
 ·cases op <;> first
   | (simp at h; done)
   | (simp only [pureOp,Option.map_eq_some_iff] at hp; obtain ⟨_,_,rfl⟩:=hp; exact ⟨rfl,rfl⟩)

theorem zfe {op : DOp} {id : Nat} {g : Opd -> D} {e : Ef} (h : vop op = true) (he : pureOp E cP id g hp op = some e) : stepOp E cP cS cY id g hp op = some (e.d,hp):=by
 obtain ⟨h1,h2⟩:=zmx h he
 unfold stepOp
 rw [zqu h]
 simp only [he,Option.map_some,applyEf,h1,h2]

mutual
theorem z2s {i : Option Nat} {h : Bool} (hh : h = false -> hp' = hp) (he : ∀ j,some j ≠ i -> env'[j]? = env[j]?) : ∀ (x : Xp),xkeep i h x = true -> xv E cP env' hp' x = xv E cP env hp x
 | .v j,hk=>by
  simp only [xkeep,Bool.not_eq_true',beq_eq_false_iff_ne] at hk
  simp only [xv]
  exact he j (fun e=>hk e.symm)
 | .c d,_=>by simp only [xv]
 | .n op ks,hk=>by
  simp only [xkeep,Bool.and_eq_true,Bool.or_eq_true,Bool.not_eq_true'] at hk
  simp only [xv,z7z hh he ks hk.2]
  rcases hk.1 with h1 | h1
  ·rw [hh h1]
  ·simp only [z6m (hp:=hp') (hp':=hp) (id':=0) h1]
 | .ite c a b,hk=>by
  simp only [xkeep,Bool.and_eq_true] at hk
  simp only [xv,z2s hh he c hk.1.1,z2s hh he a hk.1.2,z2s hh he b hk.2]
theorem z7z {i : Option Nat} {h : Bool} (hh : h = false -> hp' = hp) (he : ∀ j,some j ≠ i -> env'[j]? = env[j]?) : ∀ (ks : Xs),xskeep i h ks = true -> xvs E cP env' hp' ks = xvs E cP env hp ks
 | .nil,_=>by simp only [xvs]
 | .cons s x r,hk=>by
  simp only [xskeep,Bool.and_eq_true] at hk
  simp only [xvs,z2s hh he x hk.1,z7z hh he r hk.2]
end

def gok (E : Env) (cP : Nat -> List D -> Option D) (env : List D) (hp : List Obj) (A : Ab) (G : List (Nat × Bool)) : Prop:=
 ∀ p,p ∈ G -> ∃ sv,A p.1 = some sv /\ xv E cP env hp sv.x = some (.bool p.2)

theorem z34 : gok E cP env hp A []:=fun p hp=>by cases hp

theorem zes {g G : List (Nat × Bool)} (h : gsub g G = true) (hG : gok E cP env hp A G) : gok E cP env hp A g:=fun p hp=>
 hG p (by simpa using List.all_eq_true.1 h p hp)

theorem z2q {p : Nat × Bool} {G : List (Nat × Bool)} : gok E cP env hp A (p :: G) ↔ (∃ sv,A p.1 = some sv /\ xv E cP env hp sv.x = some (.bool p.2)) /\ gok E cP env hp A G:=by
 constructor
 ·exact fun h=>⟨h p (by simp),fun q hq=>h q (by simp [hq])⟩
 ·rintro ⟨h1,h2⟩ q hq
  rcases List.mem_cons.1 hq with rfl | hq
  ·exact h1
  ·exact h2 q hq

structure RelA (E : Env) (cP : Nat -> List D -> Option D) (A : Ab) (N : Nat) (env : List D) (hp : List Obj) (sl : List D) : Prop where
 len : sl.length = N
 ok : ∀ s sv,A s = some sv -> s < N /\ (gok E cP env hp A sv.g -> xv E cP env hp sv.x = some (sl.getD s .undef)) /\ (¬ gok E cP env hp A sv.g -> sl.getD s .undef = .undef)
 cl : ∀ s sv,A s = some sv -> ∀ p,p ∈ sv.g -> A p.1 ≠ none

theorem z5w (R : RelA E cP A N env hp sl) {G : List (Nat × Bool)} {o : Opd} {x : Xp} (h : opdX A G o = some x) (hG : gok E cP env hp A G) : xv E cP env hp x = some (getO sl o):=by
 cases o with
 | c d=>simp only [opdX,Option.some.injEq] at h; subst h; simp only [xv,getO]
 | f k=>simp only [opdX,Option.some.injEq] at h; subst h; simp only [xv,getO]
 | t s=>
  simp only [opdX] at h
  split at h
  ·rename_i sv hs
   split at h
   ·rename_i hg
    simp only [Option.some.injEq] at h; subst h
    exact (R.ok s sv hs).2.1 (zes hg hG)
   ·cases h
  ·cases h

theorem zbe {G : List (Nat × Bool)} {s : Nat} {x : Xp} (h : opdX A G (.t s) = some x) : ∃ sv,A s = some sv /\ sv.x = x /\ gsub sv.g G = true:=by
 simp only [opdX] at h
 split at h
 ·rename_i sv hs
  split at h
  ·rename_i hg
   simp only [Option.some.injEq] at h
   exact ⟨sv,hs,h,hg⟩
  ·cases h
 ·cases h

theorem kv_of {vs : List (Nat × D)} {f : Nat -> D} (h : ∀ p,p ∈ vs -> p.2 = f p.1) {s : Nat} (hs : s ∈ vs.map (·.1)) : kv s vs = f s:=by
 induction vs with
 | nil=>cases hs
 | cons p r ih=>
  simp only [kv]
  by_cases e : s = p.1
  ·rw [if_pos e,h p (by simp),e]
  ·rw [if_neg e]
   refine ih (fun q hq=>h q (by simp [hq])) ?_
   simp only [List.map_cons,List.mem_cons] at hs
   exact hs.resolve_left e

theorem z8t (R : RelA E cP A N env hp sl) {G : List (Nat × Bool)} (hG : gok E cP env hp A G) : ∀ {os : List Opd} {ks : Xs},kidsX A G os = some ks ->
  ∃ vs,xvs E cP env hp ks = some vs /\ (∀ p,p ∈ vs -> p.2 = sl.getD p.1 .undef) /\ ∀ s,.t s ∈ os -> s ∈ vs.map (·.1)
 | [],ks,h=>by
  simp only [kidsX,Option.some.injEq] at h; subst h
  exact ⟨[],by simp only [xvs],(fun p hq=>by cases hq),(fun s hs=>by cases hs)⟩
 | .t s :: r,ks,h=>by
  simp only [kidsX] at h
  split at h
  ·rename_i x k h1 h2
   simp only [Option.some.injEq] at h; subst h
   obtain ⟨vs,e1,e2,e3⟩:=z8t R hG h2
   refine ⟨(s,sl.getD s .undef) :: vs,by simp only [xvs,z5w R h1 hG,e1,getO],?_,?_⟩
   ·intro p hq
    rcases List.mem_cons.1 hq with rfl | hq
    ·rfl
    ·exact e2 p hq
   ·intro s' hs'
    rcases List.mem_cons.1 hs' with e | hs'
    ·simp only [Opd.t.injEq] at e; subst e; simp
    ·exact List.mem_cons_of_mem _ (e3 s' hs')
  ·cases h
 | .c d :: r,ks,h=>by
  simp only [kidsX] at h
  obtain ⟨vs,e1,e2,e3⟩:=z8t R hG h
  exact ⟨vs,e1,e2,fun s hs=>by
   rcases List.mem_cons.1 hs with e | hs
   ·cases e
   ·exact e3 s hs⟩
 | .f k :: r,ks,h=>by
  simp only [kidsX] at h
  obtain ⟨vs,e1,e2,e3⟩:=z8t R hG h
  exact ⟨vs,e1,e2,fun s hs=>by
   rcases List.mem_cons.1 hs with e | hs
   ·cases e
   ·exact e3 s hs⟩

theorem zq0 {vs : List (Nat × D)} {os : List Opd} (h : ∀ p,p ∈ vs -> p.2 = sl.getD p.1 .undef) (h' : ∀ s,.t s ∈ os -> s ∈ vs.map (·.1)) : ∀ o,o ∈ os -> gOf vs o = getO sl o:=by
 intro o ho
 cases o with
 | c d=>rfl
 | f k=>rfl
 | t s=>
  unfold gOf getO
  simp only
  exact kv_of (f:=fun s=>sl.getD s .undef) h (h' s ho)

theorem z4f {G : List (Nat × Bool)} : ∀ {os : List Opd} {ks : Xs} {vs : List (Nat × D)},kidsX A G os = some ks -> xvs E cP env hp ks = some vs -> ∀ s,.t s ∈ os -> ∃ sv,A s = some sv /\ ∃ d,xv E cP env hp sv.x = some d
 | [],ks,vs,h,hv,s,hs=>by cases hs
 | .t s' :: r,ks,vs,h,hv,s,hs=>by
  simp only [kidsX] at h
  split at h
  ·rename_i x k h1 h2
   simp only [Option.some.injEq] at h; subst h
   simp only [xvs] at hv
   split at hv
   ·rename_i d l e1 e2
    rcases List.mem_cons.1 hs with e | hs
    ·simp only [Opd.t.injEq] at e; subst e
     obtain ⟨sv,g1,g2,_⟩:=zbe h1
     exact ⟨sv,g1,d,by rw [g2]; exact e1⟩
    ·exact z4f h2 e2 s hs
   ·cases hv
  ·cases h
 | .c d :: r,ks,vs,h,hv,s,hs=>by
  simp only [kidsX] at h
  rcases List.mem_cons.1 hs with e | hs
  ·cases e
  ·exact z4f h hv s hs
 | .f d :: r,ks,vs,h,hv,s,hs=>by
  simp only [kidsX] at h
  rcases List.mem_cons.1 hs with e | hs
  ·cases e
  ·exact z4f h hv s hs

theorem zpq (R : RelA E cP A N env hp sl) {G : List (Nat × Bool)} {op : DOp} {x : Xp} {d : D} {id : Nat} (h : symOp A G op = some x) (hG : gok E cP env hp A G) (hx : xv E cP env hp x = some d) :
  ∃ e,pureOp E cP id (getO sl) hp op = some e /\ e.d = d:=by
 unfold symOp at h
 split at h
 ·rw [z5w R h hG] at hx
  exact ⟨_,rfl,by simpa using hx⟩
 ·rw [z5w R h hG] at hx
  exact ⟨_,rfl,by simpa using hx⟩
 ·rename_i c a b
  split at h
  ·rename_i xc xa xb h1 h2 h3
   simp only [Option.some.injEq] at h; subst h
   have e1:=z5w R h1 hG
   obtain ⟨sv,g1,g2,_⟩:=zbe h1
   simp only [xv,e1] at hx
   split at hx
   ·rename_i hb
    simp only [Option.some.injEq] at hb
    have hG' : gok E cP env hp A ((c,true) :: G):=z2q.2 ⟨⟨sv,g1,by rw [g2,e1,hb]⟩,hG⟩
    rw [z5w R h2 hG'] at hx
    exact ⟨⟨getO sl a,none,none⟩,by simp only [pureOp,hb,if_true],by simpa using hx⟩
   ·rename_i hb
    simp only [Option.some.injEq] at hb
    have hG' : gok E cP env hp A ((c,false) :: G):=z2q.2 ⟨⟨sv,g1,by rw [g2,e1,hb]⟩,hG⟩
    rw [z5w R h3 hG'] at hx
    exact ⟨⟨getO sl b,none,none⟩,by simp only [pureOp,hb,Bool.false_eq_true,if_false],by simpa using hx⟩
   ·cases hx
  ·cases h
 ·split at h
  ·rename_i hv
   split at h
   ·rename_i ks hk
    simp only [Option.some.injEq] at h; subst h
    obtain ⟨vs,e1,e2,e3⟩:=z8t R hG hk
    simp only [xv,e1] at hx
    split at hx
    ·rename_i e he
     rw [z3b (zq0 e2 e3)] at he
     rw [ztc hv] at he
     exact ⟨e,he,by simpa using hx⟩
    ·cases hx
   ·cases h
  ·cases h

theorem z4q {o : Opd} {s : Nat} : s ∈ opdS o ↔ o = .t s:=by
 cases o <;> simp [opdS,eq_comm]

theorem zfq {G : List (Nat × Bool)} {op : DOp} {x : Xp} {d : D} (h : symOp A G op = some x) (hx : xv E cP env hp x = some d) :
  ∀ p,p ∈ needs G op -> gok E cP env hp A p.2 -> ∀ sv,A p.1 = some sv -> ∃ d,xv E cP env hp sv.x = some d:=by
 intro p hm hg sv hs
 unfold symOp at h
 split at h
 ·simp only [needs,List.mem_map] at hm
  obtain ⟨s,h1,rfl⟩:=hm
  rw [z4q] at h1; subst h1
  obtain ⟨sv',g1,g2,_⟩:=zbe h
  rw [hs] at g1; simp only [Option.some.injEq] at g1; subst g1
  exact ⟨d,by rw [g2]; exact hx⟩
 ·simp only [needs,List.mem_map] at hm
  obtain ⟨s,h1,rfl⟩:=hm
  rw [z4q] at h1; subst h1
  obtain ⟨sv',g1,g2,_⟩:=zbe h
  rw [hs] at g1; simp only [Option.some.injEq] at g1; subst g1
  exact ⟨d,by rw [g2]; exact hx⟩
 ·rename_i c a b
  split at h
  ·rename_i xc xa xb h1 h2 h3
   simp only [Option.some.injEq] at h; subst h
   simp only [needs,List.mem_append,List.mem_cons,List.mem_map] at hm
   obtain ⟨svc,g1,g2,_⟩:=zbe h1
   simp only [xv] at hx
   have hc : ∃ t,xv E cP env hp xc = some (.bool t):=by
    split at hx
    ·exact ⟨_,by assumption⟩
    ·exact ⟨_,by assumption⟩
    ·cases hx
   obtain ⟨t,ht⟩:=hc
   rcases hm with (rfl | ⟨s,hs',rfl⟩) | ⟨s,hs',rfl⟩
   ·rw [hs] at g1; simp only [Option.some.injEq] at g1; subst g1
    exact ⟨_,by rw [g2]; exact ht⟩
   ·rw [z4q] at hs'; subst hs'
    obtain ⟨sva,q1,q2,_⟩:=zbe h2
    rw [hs] at q1; simp only [Option.some.injEq] at q1; subst q1
    obtain ⟨⟨sv2,r1,r2⟩,_⟩:=z2q.1 hg
    simp only at r1 r2
    rw [g1] at r1; simp only [Option.some.injEq] at r1; subst r1
    rw [g2,ht] at r2
    simp only [Option.some.injEq,D.bool.injEq] at r2; subst r2
    rw [ht] at hx
    exact ⟨d,by rw [q2]; exact hx⟩
   ·rw [z4q] at hs'; subst hs'
    obtain ⟨sva,q1,q2,_⟩:=zbe h3
    rw [hs] at q1; simp only [Option.some.injEq] at q1; subst q1
    obtain ⟨⟨sv2,r1,r2⟩,_⟩:=z2q.1 hg
    simp only at r1 r2
    rw [g1] at r1; simp only [Option.some.injEq] at r1; subst r1
    rw [g2,ht] at r2
    simp only [Option.some.injEq,D.bool.injEq] at r2; subst r2
    rw [ht] at hx
    exact ⟨d,by rw [q2]; exact hx⟩
  ·cases h
 ·rename_i hm1 hm2 hm3
  split at h
  ·rename_i hv
   split at h
   ·rename_i ks hk
    simp only [Option.some.injEq] at h; subst h
    have hn : needs G op = (opnds op).flatMap fun o=>(opdS o).map fun s=>(s,G):=by
     unfold needs
     split
     ·exact absurd rfl (hm1 _)
     ·exact absurd rfl (hm2 _)
     ·exact absurd rfl (hm3 _ _ _)
     ·rfl
    rw [hn] at hm
    simp only [List.mem_flatMap,List.mem_map] at hm
    obtain ⟨o,h1,s,h2,rfl⟩:=hm
    rw [z4q] at h2; subst h2
    simp only [xv] at hx
    split at hx
    ·rename_i vs e1
     obtain ⟨sv',q1,q2⟩:=z4f hk e1 s h1
     rw [hs] at q1; simp only [Option.some.injEq] at q1; subst q1
     exact q2
    ·cases hx
   ·cases h
  ·cases h

theorem zro {G : List (Nat × Bool)} {op : DOp} : ∀ p,p ∈ needs G op -> gok E cP env hp A p.2 -> gok E cP env hp A G:=by
 intro p hm hg
 unfold needs at hm
 split at hm
 ·simp only [List.mem_map] at hm
  obtain ⟨s,_,rfl⟩:=hm; exact hg
 ·simp only [List.mem_map] at hm
  obtain ⟨s,_,rfl⟩:=hm; exact hg
 ·simp only [List.mem_append,List.mem_cons,List.mem_map] at hm
  rcases hm with (rfl | ⟨s,_,rfl⟩) | ⟨s,_,rfl⟩
  ·exact hg
  ·exact (z2q.1 hg).2
  ·exact (z2q.1 hg).2
 ·simp only [List.mem_flatMap,List.mem_map] at hm
  obtain ⟨o,_,s,_,rfl⟩:=hm; exact hg

def Dem (E : Env) (cP : Nat -> List D -> Option D) (env : List D) (hp : List Obj) (A : Ab) (dm : List (Nat × List (Nat × Bool))) : Prop:=
 ∀ p,p ∈ dm -> gok E cP env hp A p.2 -> ∀ sv,A p.1 = some sv -> ∃ d,xv E cP env hp sv.x = some d

theorem zag {i : Option Nat} {h : Bool} {s : Nat} {sv : SV} (hk : killA A i h s = some sv) : A s = some sv /\ sv.g = [] /\ xkeep i h sv.x = true:=by
 unfold killA at hk
 split at hk
 ·rename_i sv' hs
  split at hk
  ·rename_i hc
   simp only [Option.some.injEq] at hk; subst hk
   simp only [Bool.and_eq_true,List.isEmpty_iff] at hc
   exact ⟨hs,hc.1,hc.2⟩
  ·cases hk
 ·cases hk

theorem zrf {o : Option Nat} {s : Nat} (h : ∀ d,o = some d -> s ≠ d) : setA nm A o s = A s:=by
 cases o with
 | none=>rfl
 | some d=>simp only [setA,updA]; rw [if_neg (h d rfl)]

theorem z68 {d : Nat} {sv : SV} {G : List (Nat × Bool)} (hd : A d = none) (h : gok E cP env hp A G) : gok E cP env hp (updA A d sv) G:=by
 intro p hm
 obtain ⟨s,h1,h2⟩:=h p hm
 refine ⟨s,?_,h2⟩
 unfold updA
 rw [if_neg (fun e=>by rw [e,hd] at h1; cases h1)]
 exact h1

theorem z8u {i dst : Option Nat} {h : Bool} {dm : List (Nat × List (Nat × Bool))} (hh : h = false -> hp' = hp) (he : ∀ j,some j ≠ i -> env'[j]? = env[j]?)
  (D1 : Dem E cP env' hp' (setA nm (killA A i h) dst) dm) : Dem E cP env hp A (keepDm A i h dst dm):=by
 intro p hm hg sv hs
 simp only [keepDm,List.mem_filter,Bool.and_eq_true,List.isEmpty_iff,Bool.not_eq_true',beq_eq_false_iff_ne] at hm
 obtain ⟨h1,⟨h2,h3⟩,h4⟩:=hm
 obtain ⟨sv',h5⟩:=Option.isSome_iff_exists.1 h4
 obtain ⟨k1,k2,k3⟩:=zag h5
 rw [hs] at k1; simp only [Option.some.injEq] at k1; subst k1
 obtain ⟨d,hd⟩:=D1 p h1 (by rw [h2]; exact z34) sv (by
  rw [zrf (fun d hd e=>h3 (by rw [hd,e]))]; exact h5)
 exact ⟨d,by rw [<- z2s hh he sv.x k3]; exact hd⟩

theorem z89 {i : Nat} {d : D} : ∀ j,some j ≠ some i -> (env.set i d)[j]? = env[j]?:=fun j h=>by
 rw [List.getElem?_set_ne (fun e=>h (by rw [e]))]

theorem za4 {i : Option Nat} {d : D} : ∀ j,some j ≠ i -> (putE env i d)[j]? = env[j]?:=by
 cases i with
 | none=>intro j _; rfl
 | some i=>exact z89

theorem zhd {G : List (Nat × Bool)} {op : DOp} {p : Nat × List (Nat × Bool)} (h : p ∈ needsE G op) : p.2 = G /\ .t p.1 ∈ opnds op:=by
 simp only [needsE,List.mem_flatMap,List.mem_map] at h
 obtain ⟨o,h1,s,h2,rfl⟩:=h
 rw [z4q] at h2; subst h2
 exact ⟨rfl,h1⟩

theorem z98 {base : Nat} {dr : Bool} : ∀ {os : List DOpr} {pos : Nat} {A : Ab} {ts : List TS} {dm : List (Nat × List (Nat × Bool))},comp nm N dr pos os A = some (ts,dm) ->
  ∀ {env : List D} {hp : List Obj} {r : List D × List Obj},rTS E cP cS cY base ts env hp = some r -> Dem E cP env hp A dm
 | [],pos,A,ts,dm,hc,env,hp,r,hr=>by
  simp only [comp,Option.some.injEq,Prod.mk.injEq] at hc
  obtain ⟨_,rfl⟩:=hc
  intro p hm; cases hm
 | o :: os,pos,A,ts,dm,hc,env,hp,r,hr=>by
  simp only [comp] at hc
  split at hc
  ·rename_i hv
   split at hc
   ·rename_i d G hd hG
    split at hc
    ·rename_i x hx
     split at hc
     ·split at hc
      ·rename_i hcond
       simp only [Bool.and_eq_true,List.isEmpty_iff] at hcond
       split at hc
       ·rename_i ts' dm' hc'
        simp only [Option.some.injEq,Prod.mk.injEq] at hc
        obtain ⟨rfl,rfl⟩:=hc
        simp only [rTS] at hr
        split at hr
        ·rename_i v hxv
         have IH:=z98 hc' hr
         intro p hm hg sv hs
         rcases List.mem_append.1 hm with hm | hm
         ·exact zfq (G:=[]) (by rw [hcond.1] at hx; exact hx) hxv p hm hg sv hs
         ·exact z8u (fun _=>rfl) z89 IH p hm hg sv hs
        ·cases hr
       ·cases hc
      ·cases hc
     ·split at hc
      ·rename_i hcond
       simp only [Bool.and_eq_true,Option.isNone_iff_eq_none] at hcond
       split at hc
       ·rename_i ts' dm' hc'
        have filt : Dem E cP env hp (updA A d ⟨G,x⟩) dm' -> Dem E cP env hp A (dm'.filter fun p=>!(p.1 == d)):=by
         intro IH p hm hg sv hs
         simp only [List.mem_filter,Bool.not_eq_true',beq_eq_false_iff_ne] at hm
         exact IH p hm.1 (z68 hcond.1 hg) sv (by unfold updA; rw [if_neg hm.2]; exact hs)
        split at hc
        ·rename_i hany
         simp only [Option.some.injEq,Prod.mk.injEq] at hc
         obtain ⟨rfl,rfl⟩:=hc
         have IH:=z98 hc' hr
         intro p hm hg sv hs
         rcases List.mem_append.1 hm with hm | hm
         ·obtain ⟨q,q1,q2⟩:=List.any_eq_true.1 hany
          simp only [Bool.and_eq_true,beq_iff_eq] at q2
          have hG1 : gok E cP env hp A G:=zro p hm hg
          obtain ⟨v,hxv⟩:=IH q q1 (zes q2.2 (z68 hcond.1 hG1)) ⟨G,x⟩ (by unfold updA; rw [if_pos q2.1])
          exact zfq hx hxv p hm hg sv hs
         ·exact filt IH p hm hg sv hs
        ·split at hc
         ·simp only [Option.some.injEq,Prod.mk.injEq] at hc
          obtain ⟨rfl,rfl⟩:=hc
          exact filt (z98 hc' hr)
         ·cases hc
       ·cases hc
      ·cases hc
    ·cases hc
   ·cases hc
  ·split at hc
   ·split at hc
    ·rename_i gd ks hgd hks
     split at hc
     ·rename_i ts' dm' hc'
      simp only [Option.some.injEq,Prod.mk.injEq] at hc
      obtain ⟨rfl,rfl⟩:=hc
      simp only [rTS] at hr
      intro p hm hg sv hs
      rcases List.mem_append.1 hm with hm | hm
      ·obtain ⟨n1,n2⟩:=zhd hm
       -- the guard holds
       have hgt : gdT E cP env hp gd = some true:=by
        cases hog : o.gd with
        | none=>rw [hog] at hgd; simp only [gdX,Option.some.injEq] at hgd; subst hgd; rfl
        | some q=>
         obtain ⟨j,b⟩:=q
         rw [hog] at hgd n1
         simp only [gdX] at hgd
         split at hgd
         ·rename_i xg hxg
          simp only [Option.some.injEq] at hgd; subst hgd
          obtain ⟨svj,g1,g2,_⟩:=zbe hxg
          rw [n1] at hg
          obtain ⟨sv2,r1,r2⟩:=hg (j,b) (by simp)
          simp only at r1 r2
          rw [g1] at r1; simp only [Option.some.injEq] at r1; subst r1
          rw [g2] at r2
          simp only [gdT,r2,beq_self_eq_true]
         ·cases hgd
       rw [hgt] at hr
       simp only at hr
       split at hr
       ·rename_i vs e1
        obtain ⟨sv',q1,q2⟩:=z4f hks e1 p.1 n2
        rw [hs] at q1; simp only [Option.some.injEq] at q1; subst q1
        exact q2
       ·cases hr
      ·split at hr
       ·split at hr
        ·split at hr
         ·exact z8u (fun h=>by cases h) za4 (z98 hc' hr) p hm hg sv hs
         ·cases hr
        ·cases hr
       ·exact z8u (fun h=>by cases h) za4 (z98 hc' hr) p hm hg sv hs
       ·cases hr
     ·cases hc
    ·cases hc
   ·cases hc

end
end Dv

namespace Dv

section
variable {E : Env} {cP : Nat -> List D -> Option D} {cS cY : Nat -> List D -> List Obj -> Option (D × List Obj)} {env env' : List D} {hp hp' : List Obj} {A : Ab} {N : Nat} {nm : List Nat} {sl : List D}

def Sync (nm : List Nat) (env sl : List D) : Prop:=env.length = nm.length /\ ∀ (i s : Nat),nm[i]? = some s -> env[i]? = some (sl.getD s .undef)

theorem Sync.get (S : Sync nm env sl) {s : Nat} (h : nm.contains s = true) : nm.idxOf s < env.length /\ env[nm.idxOf s]? = some (sl.getD s .undef):=by
 have hm : s ∈ nm:=by simpa using h
 have hlt:=List.idxOf_lt_length_of_mem hm
 refine ⟨by rw [S.1]; exact hlt,S.2 _ _ ?_⟩
 rw [List.getElem?_eq_getElem hlt]
 simp

theorem z8z {n : Nat} {d e : D} (h : n < sl.length) : (sl.set n d).getD n e = d:=by
 rw [List.getD_eq_getElem?_getD,List.getElem?_set_self h]; rfl

theorem Sync.set (nd : nm.Nodup) (S : Sync nm env sl) {s : Nat} {d : D} (h : nm.contains s = true) (hs : s < sl.length) : Sync nm (env.set (nm.idxOf s) d) (sl.set s d):=by
 have hm : s ∈ nm:=by simpa using h
 have hlt:=List.idxOf_lt_length_of_mem hm
 refine ⟨by simpa using S.1,fun i s' h'=>?_⟩
 by_cases e : i = nm.idxOf s
 ·subst e
  have : s' = s:=by
   rw [List.getElem?_eq_getElem hlt] at h'
   simp at h'; exact h'.symm
  subst this
  rw [List.getElem?_set_self (by rw [S.1]; exact hlt),z8z hs]
 ·rw [List.getElem?_set_ne (Ne.symm e)]
  have hne : s ≠ s':=by
   rintro rfl
   apply e
   have hi:=(List.getElem?_eq_some_iff.1 h').1
   have h1 : nm[i] = s:=(List.getElem?_eq_some_iff.1 h').2
   have h2 : nm[nm.idxOf s] = s:=by simp
   exact (List.getElem_inj nd).1 (h1.trans h2.symm)
  rw [getD_set_ne hne]
  exact S.2 i s' h'

theorem Sync.other (S : Sync nm env sl) {s : Nat} {d : D} (h : nm.contains s = false) : Sync nm env (sl.set s d):=by
 refine ⟨S.1,fun i s' h'=>?_⟩
 have hne : s ≠ s':=by
  rintro rfl
  have:=List.mem_of_getElem? h'
  simp at h; exact h this
 rw [getD_set_ne hne]; exact S.2 i s' h'

theorem zjo (hl : sl.length = N) (hN : nm.all (fun s=>decide (s < N)) = true) (S : Sync nm env sl) : RelA E cP (startA nm) N env hp sl:=by
 refine ⟨hl,fun s sv h=>?_,fun s sv h p hp=>?_⟩
 all_goals unfold startA at h
 all_goals split at h
 rotate_left 2
 ·simp only [Option.some.injEq] at h; subst h; cases hp
 ·cases h
 ·rename_i hc
  simp only [Option.some.injEq] at h; subst h
  have hm : s ∈ nm:=by simpa using hc
  refine ⟨by simpa using List.all_eq_true.1 hN s hm,fun _=>?_,fun h=>absurd z34 h⟩
  simp only [xv]
  exact (S.get hc).2
 ·cases h

def stepI (dr : Bool) (E : Env) (cP : Nat -> List D -> Option D) (cS cY : Nat -> List D -> List Obj -> Option (D × List Obj)) (id : Nat) (os : List DOpr) (st : St) : Option St:=
 if dr then stepOpsD E cP cS cY id os st else stepOps E cP cS cY os st

theorem zgt {dr : Bool} {id : Nat} {o : DOpr} {os : List DOpr} {st : St} : stepI dr E cP cS cY id (o :: os) st =
  (if wantedD st.sl o.gd then
   (match stepOp E cP cS cY (if dr then id else st.hp.length) (getO st.sl) st.hp o.op with
   | some (d,hp)=>stepI dr E cP cS cY (id + 1) os ⟨putO st.sl o.dst d,hp⟩
   | none=>none)
  else stepI dr E cP cS cY (id + 1) os ⟨putO st.sl o.dst .undef,st.hp⟩):=by
 cases dr with
 | true=>simp only [stepI,if_true,stepOpsD]; rfl
 | false=>simp only [stepI,Bool.false_eq_true,if_false,stepOps]; rfl

theorem zi3 (R : RelA E cP A N env hp sl) {gd : Option (Nat × Bool)} {G : List (Nat × Bool)} (h : guardL A gd = some G) : wantedD sl gd = true ↔ gok E cP env hp A G:=by
 cases gd with
 | none=>
  simp only [guardL,Option.some.injEq] at h; subst h
  exact ⟨fun _=>z34,fun _=>rfl⟩
 | some p=>
  obtain ⟨j,b⟩:=p
  simp only [guardL] at h
  split at h
  ·rename_i sv hj
   simp only [Option.some.injEq] at h; subst h
   obtain ⟨_,k1,k2⟩:=R.ok j sv hj
   constructor
   ·intro hw
    unfold wantedD at hw
    simp only at hw
    by_cases hg : gok E cP env hp A sv.g
    ·refine z2q.2 ⟨⟨sv,hj,?_⟩,hg⟩
     rw [k1 hg]
     split at hw
     ·rename_i c hc
      rw [hc]
      simp only [beq_iff_eq] at hw; rw [hw]
     ·cases hw
    ·rw [k2 hg] at hw; simp at hw
   ·intro hG
    obtain ⟨⟨sv',h1,h2⟩,h3⟩:=z2q.1 hG
    simp only at h1 h2
    rw [hj] at h1; simp only [Option.some.injEq] at h1; subst h1
    rw [k1 h3] at h2
    simp only [Option.some.injEq] at h2
    unfold wantedD
    simp only [h2,beq_self_eq_true]
  ·cases h

theorem z7p (R : RelA E cP A N env hp sl) {i : Option Nat} {h : Bool} (hh : h = false -> hp' = hp) (he : ∀ j,some j ≠ i -> env'[j]? = env[j]?) {s : Nat} {sv : SV} (hk : killA A i h s = some sv) :
  s < N /\ sv.g = [] /\ xv E cP env' hp' sv.x = some (sl.getD s .undef):=by
 obtain ⟨k1,k2,k3⟩:=zag hk
 obtain ⟨h1,h2,_⟩:=R.ok s sv k1
 exact ⟨h1,k2,by rw [z2s hh he sv.x k3]; exact h2 (by rw [k2]; exact z34)⟩

theorem zbc (nd : nm.Nodup) (R : RelA E cP A N env hp sl) (S : Sync nm env sl) {dst : Option Nat} {h : Bool} {d : D} (hh : h = false -> hp' = hp) (hd : okDst nm N dst = true) :
  RelA E cP (setA nm (killA A (dst.map nm.idxOf) h) dst) N (putE env (dst.map nm.idxOf) d) hp' (putO sl dst d) /\ Sync nm (putE env (dst.map nm.idxOf) d) (putO sl dst d):=by
 cases dst with
 | none=>
  refine ⟨⟨R.len,fun s sv hs=>?_,fun s sv hs p hp=>?_⟩,S⟩
  rotate_left
  ·obtain ⟨_,h2,_⟩:=z7p (env':=env) R hh (fun _ _=>rfl) hs
   rw [h2] at hp; cases hp
  obtain ⟨h1,h2,h3⟩:=z7p (env':=env) R hh (fun _ _=>rfl) hs
  exact ⟨h1,fun _=>h3,fun hn=>absurd (by rw [h2]; exact z34) hn⟩
 | some n=>
  simp only [okDst,Bool.and_eq_true,decide_eq_true_eq] at hd
  have hlen : n < sl.length:=by rw [R.len]; exact hd.2
  have S':=S.set nd (d:=d) hd.1 hlen
  refine ⟨⟨by simp [putO,R.len],fun s sv hs=>?_,fun s sv hs p hp=>?_⟩,S'⟩
  rotate_left
  ·simp only [setA,updA] at hs
   split at hs
   ·simp only [Option.some.injEq] at hs; subst hs; cases hp
   ·obtain ⟨_,h2,_⟩:=z7p (env':=env) R hh (fun _ _=>rfl) hs
    rw [h2] at hp; cases hp
  simp only [setA,updA] at hs
  split at hs
  ·rename_i e; subst e
   simp only [Option.some.injEq] at hs; subst hs
   refine ⟨hd.2,fun _=>?_,fun hn=>absurd z34 hn⟩
   simp only [xv]
   exact (S'.get hd.1).2
  ·rename_i e
   obtain ⟨h1,h2,h3⟩:=z7p R hh (z89 (i:=nm.idxOf n) (d:=d)) hs
   refine ⟨h1,fun _=>?_,fun hn=>absurd (by rw [h2]; exact z34) hn⟩
   simp only [Option.map_some,putE,putO]
   rw [getD_set_ne (Ne.symm e)]; exact h3

theorem zjw (R : RelA E cP A N env hp sl) {n : Nat} {G : List (Nat × Bool)} {x : Xp} {d : D} (hn : A n = none) (hN : n < N) (hG : ∀ p,p ∈ G -> A p.1 ≠ none) (h1 : gok E cP env hp A G -> xv E cP env hp x = some d) (h2 : ¬ gok E cP env hp A G -> d = .undef) :
  RelA E cP (updA A n ⟨G,x⟩) N env hp (sl.set n d):=by
 have hlen : n < sl.length:=by rw [R.len]; exact hN
 have back : ∀ {g : List (Nat × Bool)},(∀ p,p ∈ g -> A p.1 ≠ none) -> gok E cP env hp (updA A n ⟨G,x⟩) g -> gok E cP env hp A g:=by
  intro g hg h p hp
  obtain ⟨sv,q1,q2⟩:=h p hp
  unfold updA at q1
  rw [if_neg (fun e=>hg p hp (by rw [e,hn]))] at q1
  exact ⟨sv,q1,q2⟩
 refine ⟨by simp [R.len],fun s sv hs=>?_,fun s sv hs p hp=>?_⟩
 ·unfold updA at hs
  split at hs
  ·rename_i e; subst e
   simp only [Option.some.injEq] at hs; subst hs
   rw [z8z hlen]
   exact ⟨hN,fun hg=>h1 (back hG hg),fun hg=>h2 (fun hG=>hg (z68 hn hG))⟩
  ·rename_i e
   obtain ⟨q0,q1,q2⟩:=R.ok s sv hs
   rw [getD_set_ne (Ne.symm e)]
   exact ⟨q0,fun hg=>q1 (back (R.cl s sv hs) hg),fun hg=>q2 (fun h=>hg (z68 hn h))⟩
 ·have : A p.1 ≠ none:=by
   unfold updA at hs
   split at hs
   ·simp only [Option.some.injEq] at hs; subst hs; exact hG p hp
   ·exact R.cl s sv hs p hp
  unfold updA
  split
  ·simp
  ·exact this

theorem zd6 (R : RelA E cP A N env hp sl) {gd : Option (Nat × Bool)} {G : List (Nat × Bool)} (h : guardL A gd = some G) : ∀ p,p ∈ G -> A p.1 ≠ none:=by
 cases gd with
 | none=>simp only [guardL,Option.some.injEq] at h; subst h; intro p hp; cases hp
 | some q=>
  obtain ⟨j,b⟩:=q
  simp only [guardL] at h
  split at h
  ·rename_i sv hj
   simp only [Option.some.injEq] at h; subst h
   intro p hp
   rcases List.mem_cons.1 hp with rfl | hp
   ·simp only [hj]; simp
   ·exact R.cl j sv hj p hp
  ·cases h

theorem zrp (R : RelA E cP A N env hp sl) {G : List (Nat × Bool)} {op : DOp} {x : Xp} (h : symOp A G op = some x) (hG : gok E cP env hp A G) (hm : isMove op = true) : ∃ d,xv E cP env hp x = some d:=by
 cases op <;> simp [isMove] at hm
 ·exact ⟨_,z5w R h hG⟩
 ·exact ⟨_,z5w R h hG⟩

theorem z6u (nd : nm.Nodup) {base : Nat} {dr : Bool} : ∀ {os : List DOpr} {pos : Nat} {A : Ab} {ts : List TS} {dm : List (Nat × List (Nat × Bool))},comp nm N dr pos os A = some (ts,dm) ->
  ∀ {env : List D} {hp : List Obj} {sl : List D} {env' : List D} {hp' : List Obj},RelA E cP A N env hp sl -> Sync nm env sl -> rTS E cP cS cY base ts env hp = some (env',hp') ->
  ∃ sl',stepI dr E cP cS cY (base + pos) os ⟨sl,hp⟩ = some ⟨sl',hp'⟩ /\ sl'.length = N /\ Sync nm env' sl'
 | [],pos,A,ts,dm,hc,env,hp,sl,env',hp',R,S,hr=>by
  simp only [comp,Option.some.injEq,Prod.mk.injEq] at hc
  obtain ⟨rfl,_⟩:=hc
  simp only [rTS,Option.some.injEq,Prod.mk.injEq] at hr
  obtain ⟨rfl,rfl⟩:=hr
  exact ⟨sl,by cases dr <;> rfl,R.len,S⟩
 | o :: os,pos,A,ts,dm,hc,env,hp,sl,env',hp',R,S,hr=>by
  have hdem:=z98 hc hr
  rw [zgt]
  simp only [comp] at hc
  split at hc
  ·rename_i hv
   split at hc
   ·rename_i d G hd hG
    have hgt:=zi3 R hG
    split at hc
    ·rename_i x hx
     split at hc
     ·rename_i hnm
      split at hc
      ·rename_i hcond
       simp only [Bool.and_eq_true,List.isEmpty_iff,decide_eq_true_eq] at hcond
       split at hc
       ·rename_i ts' dm' hc'
        simp only [Option.some.injEq,Prod.mk.injEq] at hc
        obtain ⟨rfl,rfl⟩:=hc
        simp only [rTS] at hr
        split at hr
        ·rename_i v hxv
         have hGn : gok E cP env hp A G:=by rw [hcond.1]; exact z34
         rw [if_pos (hgt.2 hGn)]
         obtain ⟨e,he,hed⟩:=zpq R (id:=if dr then base + pos else hp.length) hx hGn hxv
         rw [zfe hv he,hd]
         simp only
         have hem:=zbc (h:=false) (hp':=hp) (d:=v) (dst:=some d) nd R S (fun _=>rfl) (by simp only [okDst,Bool.and_eq_true,decide_eq_true_eq]; exact ⟨hnm,hcond.2⟩)
         rw [hed]
         exact z6u nd hc' hem.1 hem.2 hr
        ·cases hr
       ·cases hc
      ·cases hc
     ·rename_i hnm
      split at hc
      ·rename_i hcond
       simp only [Bool.and_eq_true,Option.isNone_iff_eq_none,decide_eq_true_eq] at hcond
       split at hc
       ·rename_i ts' dm' hc'
        have hnm' : nm.contains d = false:=by simpa using hnm
        have hts : ts = ts':=by
         split at hc
         ·simp only [Option.some.injEq,Prod.mk.injEq] at hc; exact hc.1.symm
         ·split at hc
          ·simp only [Option.some.injEq,Prod.mk.injEq] at hc; exact hc.1.symm
          ·cases hc
        subst hts
        by_cases hg : gok E cP env hp A G
        ·rw [if_pos (hgt.2 hg)]
         have hsome : ∃ v,xv E cP env hp x = some v:=by
          split at hc
          ·rename_i hany
           have D1:=z98 (base:=base) hc' hr
           obtain ⟨q,q1,q2⟩:=List.any_eq_true.1 hany
           simp only [Bool.and_eq_true,beq_iff_eq] at q2
           exact D1 q q1 (zes q2.2 (z68 hcond.1 hg)) ⟨G,x⟩ (by unfold updA; rw [if_pos q2.1])
          ·split at hc
           ·exact zrp R hx hg (by assumption)
           ·cases hc
         obtain ⟨v,hxv⟩:=hsome
         obtain ⟨e,he,hed⟩:=zpq R (id:=if dr then base + pos else hp.length) hx hg hxv
         rw [zfe hv he,hd]
         simp only
         rw [hed]
         exact z6u nd hc' (zjw R hcond.1 hcond.2 (zd6 R hG) (fun _=>hxv) (fun h=>absurd hg h)) (S.other hnm') hr
        ·rw [if_neg (fun h=>hg (hgt.1 h)),hd]
         exact z6u nd hc' (zjw R hcond.1 hcond.2 (zd6 R hG) (fun h=>absurd h hg) (fun _=>rfl)) (S.other hnm') hr
       ·cases hc
      ·cases hc
    ·cases hc
   ·cases hc
  ·split at hc
   ·rename_i hdst
    split at hc
    ·rename_i gd ks hgd hks
     split at hc
     ·rename_i ts' dm' hc'
      simp only [Option.some.injEq,Prod.mk.injEq] at hc
      obtain ⟨rfl,rfl⟩:=hc
      simp only [rTS] at hr
      have hgv : gdT E cP env hp gd = some (wantedD sl o.gd) /\ (wantedD sl o.gd = true -> gok E cP env hp A o.gd.toList):=by
       cases hog : o.gd with
       | none=>
        rw [hog] at hgd; simp only [gdX,Option.some.injEq] at hgd; subst hgd
        exact ⟨rfl,fun _=>z34⟩
       | some q=>
        obtain ⟨j,b⟩:=q
        rw [hog] at hgd
        simp only [gdX] at hgd
        split at hgd
        ·rename_i xg hxg
         simp only [Option.some.injEq] at hgd; subst hgd
         have e1:=z5w R hxg z34
         obtain ⟨svj,g1,g2,_⟩:=zbe hxg
         simp only [getO] at e1
         unfold wantedD gdT
         simp only [e1]
         refine ⟨?_,fun hw=>?_⟩
         ·split <;> simp_all
         ·refine z2q.2 ⟨⟨svj,g1,?_⟩,z34⟩
          rw [g2,e1]
          split at hw
          ·rename_i c hc; rw [hc]; simp only [beq_iff_eq] at hw; rw [hw]
          ·cases hw
        ·cases hgd
      rw [hgv.1] at hr
      cases hw : wantedD sl o.gd with
      | true=>
       rw [hw] at hr
       simp only at hr
       simp only [if_true]
       split at hr
       ·rename_i vs e1
        obtain ⟨vs',f1,f2,f3⟩:=z8t R (hgv.2 hw) hks
        rw [e1] at f1; simp only [Option.some.injEq] at f1; subst f1
        split at hr
        ·rename_i d hp1 hst
         have hst' : stepOp E cP cS cY (if dr = true then base + pos else hp.length) (gOf vs) hp o.op = some (d,hp1):=by
          cases dr <;> exact hst
         rw [z73 (zq0 f2 f3)] at hst'
         rw [hst']
         have hem:=zbc (h:=true) (hp':=hp1) (d:=d) nd R S (fun h=>by cases h) hdst
         exact z6u nd hc' hem.1 hem.2 hr
        ·cases hr
       ·cases hr
      | false=>
       rw [hw] at hr
       simp only at hr
       simp only [Bool.false_eq_true,if_false]
       have hem:=zbc (h:=true) (hp':=hp) (d:=.undef) nd R S (fun h=>by cases h) hdst
       exact z6u nd hc' hem.1 hem.2 hr
     ·cases hc
    ·cases hc
   ·cases hc

theorem z8a (nd : nm.Nodup) : ∀ (ps : List Nat) (args sl env : List D),ps.all (fun p=>nm.contains p && decide (p < N)) = true -> sl.length = N -> Sync nm env sl ->
  (setAll sl ps args).length = N /\ Sync nm (setAll env (ps.map nm.idxOf) args) (setAll sl ps args)
 | [],args,sl,env,_,hl,S=>⟨by simpa [setAll] using hl,by simpa [setAll] using S⟩
 | p :: ps,[],sl,env,_,hl,S=>⟨by simpa [setAll] using hl,by simpa [setAll] using S⟩
 | p :: ps,v :: vs,sl,env,h,hl,S=>by
  simp only [List.all_cons,Bool.and_eq_true,decide_eq_true_eq] at h
  simp only [setAll,List.map_cons]
  exact z8a nd ps vs _ _ (by simpa using h.2) (by simpa using hl) (S.set nd h.1.1 (by rw [hl]; exact h.1.2))

theorem zeo {A : Type} : ∀ {ls : List (Option (List A))} {r : List A},joinX ls = some r -> ∀ x,x ∈ ls -> ∃ r',x = some r' /\ ∀ y,y ∈ r' -> y ∈ r
 | [],_,_,x,hx=>by cases hx
 | x :: ls,r,h,z,hz=>by
  simp only [joinX] at h
  split at h
  ·rename_i a b h1
   simp only [Option.some.injEq] at h; subst h
   rcases List.mem_cons.1 hz with rfl | hz
   ·exact ⟨a,rfl,fun y hy=>List.mem_append_left _ hy⟩
   ·obtain ⟨r',e1,e2⟩:=zeo h1 z hz
    exact ⟨r',e1,fun y hy=>List.mem_append_right _ (e2 y hy)⟩
  ·cases h

theorem zrl {env sl : List D} (S : Sync nm env sl) {x y : Opd} {r : List (Nat × Nat)} (h : pairX nm x y = some r) (hc : ∀ p,p ∈ r -> chk1 env p = true) : idsNe (did (getO sl x)) (did (getO sl y)) = true:=by
 have none1 : ∀ {o : Option Nat},idsNe none o = true:=fun {o}=>by cases o <;> rfl
 have none2 : ∀ {o : Option Nat},idsNe o none = true:=fun {o}=>by cases o <;> rfl
 have key : ∀ {z : Opd},opdI nm z = some none -> did (getO sl z) = none:=by
  intro z hz
  cases z with
  | t s=>simp only [opdI] at hz; split at hz <;> simp at hz
  | c d=>
   simp only [opdI] at hz
   split at hz
   ·rename_i h1; simpa [getO] using h1
   ·cases hz
  | f k=>rfl
 have key2 : ∀ {z : Opd} {i : Nat},opdI nm z = some (some i) -> env[i]? = some (getO sl z):=by
  intro z i hz
  cases z with
  | t s=>
   simp only [opdI] at hz
   split at hz
   ·rename_i h1
    simp only [Option.some.injEq] at hz; subst hz
    exact (S.get h1).2
   ·cases hz
  | c d=>simp only [opdI] at hz; split at hz <;> simp at hz
  | f k=>simp [opdI] at hz
 unfold pairX at h
 split at h
 ·rename_i i j h1 h2
  simp only [Option.some.injEq] at h; subst h
  have:=hc (i,j) (by simp)
  simp only [chk1,key2 h1,key2 h2] at this
  exact this
 ·rename_i h2
  rw [key h2]; exact none2
 ·rename_i h1 h2
  rw [key h1]; exact none1
 ·cases h

theorem zpj {env sl : List D} (S : Sync nm env sl) {ops : List DOpr} {ap l : List (Nat × Nat)} (h : apX nm ops ap = some l) (hc : chkT env l = true) : apartD sl ops ap = true:=by
 unfold chkT at hc
 rw [List.all_eq_true] at hc
 unfold apartD
 rw [List.all_eq_true]
 intro p hp
 obtain ⟨r,e1,e2⟩:=zeo h _ (List.mem_map_of_mem hp)
 unfold apX1 at e1
 unfold apart1
 split at e1
 ·rename_i a b h1 h2
  rw [h1,h2]
  simp only []
  rw [List.all_eq_true]
  intro x hx
  rw [List.all_eq_true]
  intro y hy
  obtain ⟨r2,f1,f2⟩:=zeo e1 (pairX nm x y) (List.mem_flatMap.2 ⟨x,hx,List.mem_map_of_mem hy⟩)
  exact zrl S f1 fun q hq=>hc q (e2 q (f2 q hq))
 ·cases e1

theorem zou (nd : nm.Nodup) (hN : nm.all (fun s=>decide (s < N)) = true) : ∀ {dc : DC} {tc : TC},compC nm N dc = some tc -> ∀ {Q : Ex -> List D -> List Obj -> Prop} {env : List D} {hp : List Obj} {sl : List D},
  sl.length = N -> Sync nm env sl -> wT E tc Q env hp -> wp E dc ⟨sl,hp⟩ (fun ex st'=>st'.sl.length = N /\ ∃ env',Sync nm env' st'.sl /\ Q ex env' st'.hp):=by
 intro dc
 induction dc with
 | skip=>
  intro tc hc Q env hp sl hl S h
  simp only [compC,Option.some.injEq] at hc; subst hc
  exact zqi.2 ⟨hl,env,S,h⟩
 | ret=>
  intro tc hc Q env hp sl hl S h
  simp only [compC,Option.some.injEq] at hc; subst hc
  exact zt7.2 ⟨hl,env,S,h⟩
 | exit id=>
  intro tc hc Q env hp sl hl S h
  simp only [compC,Option.some.injEq] at hc; subst hc
  exact zqk.2 ⟨hl,env,S,h⟩
 | region dr ap ops=>
  intro tc hc Q env hp sl hl S h
  simp only [compC] at hc
  split at hc
  ·rename_i ts dm hcc
   have base : ∀ {Q : Ex -> List D -> List Obj -> Prop},wT E (.run (if dr then ops.length else 0) ts) Q env hp -> ∃ sl' hp' env',stepI dr E (runP E (dL E)) (runS E (dL E)) (runY (dL E)) (hp.length + 0) ops ⟨sl,hp ++ List.replicate (if dr then ops.length else 0) .dead⟩ = some ⟨sl',hp'⟩ /\ sl'.length = N /\ Sync nm env' sl' /\ Q .normal env' hp':=by
    intro Q h
    simp only [wT] at h
    split at h
    ·rename_i env' hp' hr
     obtain ⟨sl',h1,h2,h3⟩:=z6u nd (base:=hp.length) hcc (zjo hl hN S) S hr
     exact ⟨sl',hp',env',h1,h2,h3,h⟩
    ·exact h.elim
   split at hc
   ·rename_i hda
    simp only [Bool.and_eq_true,Bool.not_eq_true'] at hda
    obtain ⟨rfl,hap⟩:=hda
    split at hc
    ·rename_i l hX
     simp only [Option.some.injEq] at hc; subst hc
     obtain ⟨sl',hp',env',h1,h2,h3,h4⟩:=base (Q:=fun ex env' hp'=>match ex with
      | .normal=>wT E (.chk l) Q env' hp'
      | ex=>Q ex env' hp') h
     simp only [wT] at h4
     refine ⟨.normal,⟨sl',hp'⟩,?_,h2,env',h3,h4.2⟩
     rw [zly]
     simp only [stepI,if_true,Nat.add_zero] at h1
     simp only [h1,checkAp,zpj h3 hX h4.1,if_true,Option.map_some]
    ·cases hc
   ·rename_i hda
    simp only [Option.some.injEq] at hc; subst hc
    obtain ⟨sl',hp',env',h1,h2,h3,h4⟩:=base h
    cases dr with
    | false=>
     refine zjd.2 ⟨⟨sl',hp'⟩,?_,h2,env',h3,h4⟩
     simpa [stepI] using h1
    | true=>
     have hap' : ap = []:=by simpa using hda
     subst hap'
     refine ⟨.normal,⟨sl',hp'⟩,?_,h2,env',h3,h4⟩
     rw [zly]
     simp only [stepI,if_true,Nat.add_zero] at h1
     simp only [h1,checkAp,apartD,List.all_nil,if_true,Option.map_some]
  ·cases hc
 | seq a b iha ihb=>
  intro tc hc Q env hp sl hl S h
  simp only [compC] at hc
  split at hc
  ·rename_i x y hx hy
   simp only [Option.some.injEq] at hc; subst hc
   simp only [wT] at h
   refine zt6.2 (zds (iha hx hl S h) ?_)
   rintro ex st' ⟨hl',env',S',hq⟩
   cases ex with
   | normal=>exact ihb hy hl' S' hq
   | exit i=>exact ⟨hl',env',S',hq⟩
   | ret=>exact ⟨hl',env',S',hq⟩
  ·cases hc
 | cond c a b iha ihb=>
  intro tc hc Q env hp sl hl S h
  cases c with
  | c d=>
   cases d with
   | undef=>
    simp only [compC,Option.some.injEq] at hc
    subst hc
    exact h.elim
   | _=>simp [compC] at hc
  | f k=>simp [compC] at hc
  | t k=>
   simp only [compC] at hc
   split at hc
   ·rename_i hk
    split at hc
    ·rename_i x y hx hy
     simp only [Option.some.injEq] at hc; subst hc
     simp only [wT,(S.get hk).2] at h
     split at h
     ·rename_i t ht
      simp only [Option.some.injEq] at ht
      refine (zql (b:=t) (by simp only [getO]; exact ht)).2 ⟨fun e=>?_,fun e=>?_⟩
      ·subst e; simp only [if_true] at h; exact iha hx hl S h
      ·subst e; simp only [Bool.false_eq_true,if_false] at h; exact ihb hy hl S h
     ·exact h.elim
    ·cases hc
   ·cases hc
 | ifp c a b iha ihb=>
  intro tc hc Q env hp sl hl S h
  cases c with
  | c d=>simp [compC] at hc
  | f k=>simp [compC] at hc
  | t k=>
   simp only [compC] at hc
   split at hc
   ·rename_i hk
    split at hc
    ·rename_i x y hx hy
     simp only [Option.some.injEq] at hc; subst hc
     simp only [wT,(S.get hk).2] at h
     split at h
     ·rename_i hm; exact zpn.2 ((if_pos (show isMark (getO sl (.t k)) = true from hm)).mpr (iha hx hl S h))
     ·rename_i hm; exact zpn.2 ((if_neg (show ¬ isMark (getO sl (.t k)) = true from hm)).mpr (ihb hy hl S h))
    ·cases hc
   ·cases hc
 | block id a iha=>
  intro tc hc Q env hp sl hl S h
  simp only [compC] at hc
  split at hc
  ·rename_i x hx
   simp only [Option.some.injEq] at hc; subst hc
   simp only [wT] at h
   refine zmv.2 (zds (iha hx hl S h) ?_)
   rintro ex st' ⟨hl',env',S',hq⟩
   cases ex with
   | normal=>exact ⟨hl',env',S',hq⟩
   | exit i=>exact ⟨hl',env',S',hq⟩
   | ret=>exact ⟨hl',env',S',hq⟩
  ·cases hc
 | loop a iha=>
  intro tc hc Q env hp sl hl S h
  simp only [compC] at hc
  split at hc
  ·rename_i x hx
   simp only [Option.some.injEq] at hc; subst hc
   simp only [wT] at h
   obtain ⟨I,k,hI,step⟩:=h
   refine zqj (fun k st=>st.sl.length = N /\ ∃ env,Sync nm env st.sl /\ I k env st.hp) ?_ k ⟨sl,hp⟩ ⟨hl,env,S,hI⟩
   rintro k ⟨sl,hp⟩ ⟨hl,env,S,hI⟩
   refine zds (iha hx hl S (step k env hp hI)) ?_
   rintro ex st' ⟨hl',env',S',hq⟩
   cases ex with
   | normal=>
    obtain ⟨k',hk,hI'⟩:=hq
    exact ⟨k',hk,hl',env',S',hI'⟩
   | exit i=>exact ⟨hl',env',S',hq⟩
   | ret=>exact ⟨hl',env',S',hq⟩
  ·cases hc
 | rfunc f ps asg body iha ihb=>
  intro tc hc Q env hp sl hl S h
  cases f with
  | c d=>simp [compC] at hc
  | f k=>simp [compC] at hc
  | t f=>
   simp only [compC] at hc
   split at hc
   ·rename_i hk
    simp only [Bool.and_eq_true] at hk
    split at hc
    ·rename_i x y hx hy
     simp only [Option.some.injEq] at hc; subst hc
     simp only [wT] at h
     obtain ⟨k,caps,h1,h2⟩:=h
     have hf : guardF E (sl.getD f .undef) = .fn k caps:=by
      have:=(S.get hk.1).2
      rw [this] at h1; simpa using h1
     obtain ⟨d,hp',h3,h4⟩:=h2 (fun b p=>.loop b sl ps asg body p) ⟨_,_,_,_,rfl⟩ (by
      intro args hp1 K hlen hat hw
      have hlen' : args.length = ps.length:=by simpa using hlen
      obtain ⟨hsl,S1⟩:=z8a nd ps args sl env hk.2 hl S
      obtain ⟨ex,st1,r1,hl1,env1,S1',rfl,hat1,hw1⟩:=iha hx hsl S1 hw
      obtain ⟨ex2,st2,r2,hl2,env2,S2',hat2,hK⟩:=ihb hy (sl:=st1.sl) (hp:=st1.hp.set hp.length (.loop true sl ps asg body none)) hl1 S1' hw1
      unfold runY
      simp only [hat,hlen',if_true,r1,hat1,r2,hat2]
      cases ex2 with
      | normal=>exact ⟨_,_,rfl,hK⟩
      | exit i=>exact ⟨_,_,rfl,hK⟩
      | ret=>exact ⟨_,_,rfl,hK⟩)
     rcases h4 with ⟨h5,h6⟩ | ⟨ex,h5,h6⟩
     ·refine ⟨.normal,⟨sl,hp'.set hp.length .dead⟩,?_,hl,env,S,h6⟩
      rw [zge]
      simp only [getO,hf,h3,h5]
     ·refine ⟨ex,⟨sl,hp'.set hp.length .dead⟩,?_,hl,env,S,h6⟩
      rw [zge]
      simp only [getO,hf,h3,h5]
    ·cases hc
   ·cases hc

end
end Dv

namespace Dv

def getAll (E : Env) (env : List D) (hp : List Obj) : List (Nat × Option Nat) -> Option (List D)
 | []=>some []
 | (i,none) :: r=>(match env[i]?,getAll E env hp r with
  | some d,some l=>some (d :: l)
  | _,_=>none)
 | (i,some t) :: r=>(match env[i]? with
  | some a=>(match loadD E hp t a,getAll E env hp r with
   | some d,some l=>some (d :: l)
   | _,_=>none)
  | none=>none)

def rsOk (nm : List Nat) : List RV -> List (Nat × Option Nat) -> Bool
 | [],[]=>true
 | .tmp t :: r,(i,none) :: is=>nm.contains t && nm.idxOf t == i && rsOk nm r is
 | .cell a t :: r,(i,some t') :: is=>nm.contains a && nm.idxOf a == i && t == t' && rsOk nm r is
 | _,_=>false

def Ret (E : Env) (is : List (Nat × Option Nat)) (R : D -> List Obj -> Prop) : Ex -> List D -> List Obj -> Prop:=fun ex env hp=>(ex = .ret \/ ex = .normal) /\ ∃ l,getAll E env hp is = some l /\ R (oneRes l) hp

section
variable {E : Env}

structure TF (E : Env) (f : Nat) (nm : List Nat) (is : List (Nat × Option Nat)) (tc : TC) (N : Nat) : Prop where
 ex : ∃ F,E.fn f = some F /\ F.ntmps = N /\ compC nm F.ntmps F.body = some tc /\ nm.Nodup /\ nm.all (fun s=>decide (s < F.ntmps)) = true /\ rsOk nm F.results is = true

def nodupB : List Nat -> Bool
 | []=>true
 | x :: r=>!r.contains x && nodupB r

theorem zcy : ∀ {l : List Nat},nodupB l = true -> l.Nodup
 | [],_=>List.nodup_nil
 | x :: r,h=>by
  simp only [nodupB,Bool.and_eq_true,Bool.not_eq_true'] at h
  exact List.nodup_cons.2 ⟨by simpa using h.1,zcy h.2⟩

theorem zz {f : Nat} {nm : List Nat} {is : List (Nat × Option Nat)} {tc : TC} {F : DFn} (h : E.fn f = some F) (hc : compC nm F.ntmps F.body = some tc) (hb : (nodupB nm && nm.all (fun s=>decide (s < F.ntmps)) && rsOk nm F.results is) = true) : TF E f nm is tc F.ntmps:=by
 simp only [Bool.and_eq_true] at hb
 exact ⟨F,h,rfl,hc,zcy hb.1.1,hb.1.2,hb.2⟩

theorem zjv {nm : List Nat} {env : List D} {st : St} (S : Sync nm env st.sl) : ∀ {rs : List RV} {is : List (Nat × Option Nat)} {l : List D},rsOk nm rs is = true -> getAll E env st.hp is = some l -> resD E st rs = some l
 | [],[],l,_,h=>by simp only [getAll,Option.some.injEq] at h; subst h; rfl
 | .tmp t :: r,(i,none) :: is,l,h,h'=>by
  simp only [rsOk,Bool.and_eq_true,beq_iff_eq] at h
  simp only [getAll] at h'
  split at h'
  ·rename_i d l' h1 h2
   simp only [Option.some.injEq] at h'; subst h'
   have:=(S.get h.1.1).2
   rw [h.1.2,h1] at this
   simp only [Option.some.injEq] at this
   simp only [resD,zjv S h.2 h2,this]
  ·cases h'
 | .cell a t :: r,(i,some t') :: is,l,h,h'=>by
  simp only [rsOk,Bool.and_eq_true,beq_iff_eq] at h
  simp only [getAll] at h'
  split at h'
  ·rename_i p hp
   split at h'
   ·rename_i d l' h1 h2
    simp only [Option.some.injEq] at h'; subst h'
    have:=(S.get h.1.1.1).2
    rw [h.1.1.2,hp] at this
    simp only [Option.some.injEq] at this
    rw [<- h.1.2,this] at h1
    simp only [resD,zjv S h.2 h2,h1]
   ·cases h'
  ·cases h'
 | .cell _ _ :: _,[],_,h,_=>by simp [rsOk] at h
 | .cell _ _ :: _,(_,none) :: _,_,h,_=>by simp [rsOk] at h
 | [],_ :: _,_,h,_=>by simp [rsOk] at h
 | .tmp _ :: _,[],_,h,_=>by simp [rsOk] at h
 | .tmp _ :: _,(_,some _) :: _,_,h,_=>by simp [rsOk] at h

def tStart (nm : List Nat) (args : List D) : List D:=nm.map fun s=>args.getD s .undef

theorem zgw {nm : List Nat} {args : List D} {N : Nat} : Sync nm (tStart nm args) (args ++ List.replicate (N - args.length) .undef):=by
 refine ⟨by simp [tStart],fun i s h=>?_⟩
 simp only [tStart,List.getElem?_map,h,Option.map_some,Option.some.injEq]
 simp only [List.getD_eq_getElem?_getD]
 by_cases hs : s < args.length
 ·rw [List.getElem?_append_left hs]
 ·rw [List.getElem?_append_right (by omega),List.getElem?_eq_none (by omega)]
  cases h2 : (List.replicate (N - args.length) D.undef)[s - args.length]? with
  | none=>rfl
  | some d=>
   have:=List.mem_of_getElem? h2
   rw [List.mem_replicate] at this
   rw [this.2]; rfl

theorem z2z {f : Nat} {nm : List Nat} {is : List (Nat × Option Nat)} {tc : TC} {N : Nat} (t : TF E f nm is tc N) {args : List D} {hp : List Obj} {R : D -> List Obj -> Prop} (hl : args.length <= N)
  (h : wT E tc (Ret E is R) (tStart nm args) hp) (hb : E.mp f = false:=by rfl) : ∃ d hp',runS E (dL E) f args hp = some (d,hp') /\ R d hp':=by
 obtain ⟨F,hF,rfl,hc,nd,hN,hr⟩:=t.ex
 obtain ⟨ex,st',h1,h2,env',S,⟨hx,l,hg,hR⟩⟩:=zou nd hN hc (sl:=args ++ List.replicate (F.ntmps - args.length) .undef) (by simp; omega) zgw h
 have hres:=zjv (E:=E) S hr hg
 refine ⟨oneRes l,st'.hp,?_,hR⟩
 unfold runS
 simp only [hF,startF,h1,hb,finishQ]
 rcases hx with rfl | rfl <;> simp only [finishF,hres,Option.map_some]

theorem zx {f : Nat} {nm : List Nat} {is : List (Nat × Option Nat)} {tc : TC} {N : Nat} (t : TF E f nm is tc N) {args : List D} {r : D} (hl : args.length <= N)
  (h : wT E tc (Ret E is fun d hp=>frz hp depth d = some r) (tStart nm args) []) (hk : E.keep f = false:=by rfl) (hb : E.mp f = false:=by rfl) : runP E (dL E) f args = some r:=by
 obtain ⟨d,hp',h1,h2⟩:=z2z t hl h hb
 unfold runP
 simp only [h1,hk,frzK,h2]

end
end Dv

namespace Dv

section
variable {E : Env} {Q : Ex -> List D -> List Obj -> Prop} {env : List D} {hp : List Obj}

theorem zqq : wT E .skip Q env hp = Q .normal env hp:=rfl
theorem ztb : wT E .ret Q env hp = Q .ret env hp:=rfl
theorem zqs {id : Nat} : wT E (.exit id) Q env hp = Q (.exit id) env hp:=rfl
theorem zta {a b : TC} : wT E (.seq a b) Q env hp = wT E a (fun ex env' hp'=>match ex with
  | .normal=>wT E b Q env' hp'
  | ex=>Q ex env' hp') env hp:=rfl
theorem zmw {id : Nat} {a : TC} : wT E (.block id a) Q env hp = wT E a (fun ex env' hp'=>match ex with
  | .exit i=>Q (if i = id then .normal else .exit i) env' hp'
  | ex=>Q ex env' hp') env hp:=rfl

theorem wK {l : List (Nat × Nat)} : wT E (.chk l) Q env hp = (chkT env l = true /\ Q .normal env hp):=rfl
theorem zqr : ∀ {c : TC} {Q Q' : Ex -> List D -> List Obj -> Prop} {env : List D} {hp : List Obj},(∀ ex env hp,Q ex env hp -> Q' ex env hp) -> wT E c Q env hp -> wT E c Q' env hp:=by
 intro c
 induction c with
 | skip=>intro Q Q' env hp hq h; exact hq _ _ _ h
 | ret=>intro Q Q' env hp hq h; exact hq _ _ _ h
 | exit id=>intro Q Q' env hp hq h; exact hq _ _ _ h
 | run pad l=>
  intro Q Q' env hp hq h
  simp only [wT] at h ⊢
  split at h
  ·exact hq _ _ _ h
  ·exact h.elim
 | seq a b iha ihb=>
  intro Q Q' env hp hq h
  refine iha (fun ex env hp h=>?_) h
  cases ex with
  | normal=>exact ihb hq h
  | exit i=>exact hq _ _ _ h
  | ret=>exact hq _ _ _ h
 | cond i a b iha ihb=>
  intro Q Q' env hp hq h
  simp only [wT] at h ⊢
  split at h
  ·split at h
   ·rename_i ht; rw [if_pos ht]; exact iha hq h
   ·rename_i ht; rw [if_neg ht]; exact ihb hq h
  ·exact h.elim
 | ifp i a b iha ihb=>
  intro Q Q' env hp hq h
  simp only [wT] at h ⊢
  split at h
  ·split at h
   ·rename_i ht; rw [if_pos ht]; exact iha hq h
   ·rename_i ht; rw [if_neg ht]; exact ihb hq h
  ·exact h.elim
 | dead=>intro Q Q' env hp hq h; exact h.elim
 | block id a iha=>
  intro Q Q' env hp hq h
  refine iha (fun ex env hp h=>?_) h
  cases ex <;> exact hq _ _ _ h
 | loop a iha=>
  intro Q Q' env hp hq h
  obtain ⟨I,k,hI,step⟩:=h
  refine ⟨I,k,hI,fun k env hp hI=>iha (fun ex env hp h=>?_) (step k env hp hI)⟩
  cases ex with
  | normal=>exact h
  | exit i=>exact hq _ _ _ h
  | ret=>exact hq _ _ _ h
 | chk l=>intro Q Q' env hp hq h; exact ⟨h.1,hq _ _ _ h.2⟩
 | rfunc i ps a b iha ihb=>
  intro Q Q' env hp hq h
  obtain ⟨k,caps,h1,h2⟩:=h
  refine ⟨k,caps,h1,fun L hL hcb=>?_⟩
  obtain ⟨d,hp',h3,h4⟩:=h2 L hL hcb
  refine ⟨d,hp',h3,?_⟩
  rcases h4 with ⟨h5,h6⟩ | ⟨ex,h5,h6⟩
  ·exact .inl ⟨h5,hq _ _ _ h6⟩
  ·exact .inr ⟨ex,h5,hq _ _ _ h6⟩

theorem z38 {E : Env} {c : TC} {Q : Ex -> List D -> List Obj -> Prop} {env env' : List D} {hp hp' : List Obj} (h : env = env') (h' : hp = hp') : wT E c Q env hp = wT E c Q env' hp':=by rw [h,h']

theorem z1l {a : TC} (n : Nat) (I : Nat -> List D -> List Obj -> Prop) (i : Nat) (hi : i <= n) (h0 : I i env hp)
  (step : ∀ i env hp,i <= n -> I i env hp -> wT E a (fun ex env' hp'=>match ex with
   | .normal=>i < n /\ I (i + 1) env' hp'
   | ex=>Q ex env' hp') env hp) : wT E (.loop a) Q env hp:=by
 refine ⟨fun k env hp=>∃ i,i <= n /\ k = n - i /\ I i env hp,n - i,⟨i,hi,rfl,h0⟩,?_⟩
 rintro k env hp ⟨i,hi,rfl,hI⟩
 refine zqr (fun ex env' hp' h=>?_) (step i env hp hi hI)
 cases ex with
 | normal=>exact ⟨n - (i + 1),by omega,i + 1,by omega,rfl,h.2⟩
 | exit _=>exact h
 | ret=>exact h

end
end Dv

namespace Dv

def ob {A B : Type} (x : Option A) (f : A -> Option B) : Option B:=x.bind f
def obP {A : Type} (x : Option A) (f : A -> Prop) : Prop:=match x with | some a=>f a | none=>False
theorem z7 {A B : Type} {a : A} {f : A -> Option B} : ob (some a) f = f a:=rfl
theorem znj {A : Type} {a : A} {f : A -> Prop} : obP (some a) f = f a:=rfl
theorem z3d {A B : Type} {x y : Option A} {f : A -> Option B} (h : x = y) : ob x f = ob y f:=by rw [h]
theorem z2j {A : Type} {x y : Option A} {f : A -> Prop} (h : x = y) : obP x f = obP y f:=by rw [h]

section
variable {E : Env} {cP : Nat -> List D -> Option D} {env : List D} {hp : List Obj}

theorem zu {X : Option D} : (match Option.map (fun x=>(⟨x,none,none⟩ : Ef)) X with | some e=>some e.d | none=>none) = X:=by cases X <;> rfl
theorem xv_v {i : Nat} : xv E cP env hp (.v i) = env[i]?:=by simp only [xv]
theorem xv_c {d : D} : xv E cP env hp (.c d) = some d:=by simp only [xv]
def iteD (t : D) (a b : Option D) : Option D:=match t with
 | .bool t=>if t = true then a else b
 | _=>none
theorem ztt {t : Bool} {a b : Option D} : iteD (.bool t) a b = if t = true then a else b:=rfl
theorem zt2 {c a b : Xp} : xv E cP env hp (.ite c a b) = ob (xv E cP env hp c) fun t=>iteD t (xv E cP env hp a) (xv E cP env hp b):=by
 simp only [xv]
 cases h : xv E cP env hp c with
 | none=>rfl
 | some d=>
  cases d with
  | bool t=>cases t <;> rfl
  | _=>rfl

theorem zj8 {op : Go.BinOp} {t : Nat} {a : Nat} {b : Nat} {x0 : Xp} {x1 : Xp} (h10 : b ≠ a) : xv E cP env hp (.n (.bin op t (.t a) (.t b)) (.cons a x0 (.cons b x1 .nil))) = ob (xv E cP env hp x0) fun u0=>ob (xv E cP env hp x1) fun u1=>binD E op t u0 u1:=by
 simp only [xv,xvs]
 cases xv E cP env hp x0 <;> try rfl
 cases xv E cP env hp x1 <;> try rfl
 simp only [pureOp,List.map_cons,List.map_nil,Option.map_some,Option.map_none,gOf,kv,z7,if_true,if_false,h10,↓reduceIte]
 exact zu

theorem zj9 {op : Go.BinOp} {t : Nat} {a : Nat} {x0 : Xp} {d1 : D}  : xv E cP env hp (.n (.bin op t (.t a) (.c d1)) (.cons a x0 .nil)) = ob (xv E cP env hp x0) fun u0=>binD E op t u0 d1:=by
 simp only [xv,xvs]
 cases xv E cP env hp x0 <;> try rfl
 simp only [pureOp,List.map_cons,List.map_nil,Option.map_some,Option.map_none,gOf,kv,z7,if_true,if_false,↓reduceIte]
 exact zu

theorem zja {op : Go.BinOp} {t : Nat} {b : Nat} {x1 : Xp} {d0 : D}  : xv E cP env hp (.n (.bin op t (.c d0) (.t b)) (.cons b x1 .nil)) = ob (xv E cP env hp x1) fun u1=>binD E op t d0 u1:=by
 simp only [xv,xvs]
 cases xv E cP env hp x1 <;> try rfl
 simp only [pureOp,List.map_cons,List.map_nil,Option.map_some,Option.map_none,gOf,kv,z7,if_true,if_false,↓reduceIte]
 exact zu

theorem zjb {op : Go.BinOp} {t : Nat} {d0 : D} {d1 : D}  : xv E cP env hp (.n (.bin op t (.c d0) (.c d1)) .nil) = binD E op t d0 d1:=by
 simp only [xv,xvs]
 simp only [pureOp,List.map_cons,List.map_nil,Option.map_some,Option.map_none,gOf,kv,z7,if_true,if_false,↓reduceIte]
 exact zu

theorem zqc {op : Go.UnOp} {a : Nat} {x0 : Xp}  : xv E cP env hp (.n (.un op (.t a)) (.cons a x0 .nil)) = ob (xv E cP env hp x0) fun u0=>unD op u0:=by
 simp only [xv,xvs]
 cases xv E cP env hp x0 <;> try rfl
 simp only [pureOp,List.map_cons,List.map_nil,Option.map_some,Option.map_none,gOf,kv,z7,if_true,if_false,↓reduceIte]
 exact zu

theorem zj6 {s1 s2 : Nat} {a : Nat} {x0 : Xp}  : xv E cP env hp (.n (.conv s1 s2 (.t a)) (.cons a x0 .nil)) = ob (xv E cP env hp x0) fun u0=>convD E s1 s2 u0:=by
 simp only [xv,xvs]
 cases xv E cP env hp x0 <;> try rfl
 simp only [pureOp,List.map_cons,List.map_nil,Option.map_some,Option.map_none,gOf,kv,z7,if_true,if_false,↓reduceIte]
 exact zu

theorem zqf {t : Nat} {a : Nat} {x0 : Xp}  : xv E cP env hp (.n (.load t (.t a)) (.cons a x0 .nil)) = ob (xv E cP env hp x0) fun u0=>loadD E hp t u0:=by
 simp only [xv,xvs]
 cases xv E cP env hp x0 <;> try rfl
 simp only [pureOp,List.map_cons,List.map_nil,Option.map_some,Option.map_none,gOf,kv,z7,if_true,if_false,↓reduceIte]
 exact zu

theorem zt1 {t : Nat} {a : Nat} {x0 : Xp}  : xv E cP env hp (.n (.len t (.t a)) (.cons a x0 .nil)) = ob (xv E cP env hp x0) fun u0=>lenD E hp t u0:=by
 simp only [xv,xvs]
 cases xv E cP env hp x0 <;> try rfl
 simp only [pureOp,List.map_cons,List.map_nil,Option.map_some,Option.map_none,gOf,kv,z7,if_true,if_false,↓reduceIte]
 exact zu

theorem zmr {t f : Nat} {a : Nat} {x0 : Xp}  : xv E cP env hp (.n (.faddr t (.t a) f) (.cons a x0 .nil)) = ob (xv E cP env hp x0) fun u0=>faddrD E t u0 f:=by
 simp only [xv,xvs]
 cases xv E cP env hp x0 <;> try rfl
 simp only [pureOp,List.map_cons,List.map_nil,Option.map_some,Option.map_none,gOf,kv,z7,if_true,if_false,↓reduceIte]
 exact zu

theorem zmq {t f : Nat} {a : Nat} {x0 : Xp}  : xv E cP env hp (.n (.field t (.t a) f) (.cons a x0 .nil)) = ob (xv E cP env hp x0) fun u0=>fieldD E t u0 f:=by
 simp only [xv,xvs]
 cases xv E cP env hp x0 <;> try rfl
 simp only [pureOp,List.map_cons,List.map_nil,Option.map_some,Option.map_none,gOf,kv,z7,if_true,if_false,↓reduceIte]
 exact zu

theorem zdo {t : Nat} {a : Nat} {b : Nat} {x0 : Xp} {x1 : Xp} (h10 : b ≠ a) : xv E cP env hp (.n (.iaddr t (.t a) (.t b)) (.cons a x0 (.cons b x1 .nil))) = ob (xv E cP env hp x0) fun u0=>ob (xv E cP env hp x1) fun u1=>iaddrD E t u0 u1:=by
 simp only [xv,xvs]
 cases xv E cP env hp x0 <;> try rfl
 cases xv E cP env hp x1 <;> try rfl
 simp only [pureOp,List.map_cons,List.map_nil,Option.map_some,Option.map_none,gOf,kv,z7,if_true,if_false,h10,↓reduceIte]
 exact zu

theorem zdp {t : Nat} {a : Nat} {x0 : Xp} {d1 : D}  : xv E cP env hp (.n (.iaddr t (.t a) (.c d1)) (.cons a x0 .nil)) = ob (xv E cP env hp x0) fun u0=>iaddrD E t u0 d1:=by
 simp only [xv,xvs]
 cases xv E cP env hp x0 <;> try rfl
 simp only [pureOp,List.map_cons,List.map_nil,Option.map_some,Option.map_none,gOf,kv,z7,if_true,if_false,↓reduceIte]
 exact zu

theorem zdm {t : Nat} {a : Nat} {b : Nat} {x0 : Xp} {x1 : Xp} (h10 : b ≠ a) : xv E cP env hp (.n (.index t (.t a) (.t b)) (.cons a x0 (.cons b x1 .nil))) = ob (xv E cP env hp x0) fun u0=>ob (xv E cP env hp x1) fun u1=>indexD E t u0 u1:=by
 simp only [xv,xvs]
 cases xv E cP env hp x0 <;> try rfl
 cases xv E cP env hp x1 <;> try rfl
 simp only [pureOp,List.map_cons,List.map_nil,Option.map_some,Option.map_none,gOf,kv,z7,if_true,if_false,h10,↓reduceIte]
 exact zu

theorem zdn {t : Nat} {a : Nat} {x0 : Xp} {d1 : D}  : xv E cP env hp (.n (.index t (.t a) (.c d1)) (.cons a x0 .nil)) = ob (xv E cP env hp x0) fun u0=>indexD E t u0 d1:=by
 simp only [xv,xvs]
 cases xv E cP env hp x0 <;> try rfl
 simp only [pureOp,List.map_cons,List.map_nil,Option.map_some,Option.map_none,gOf,kv,z7,if_true,if_false,↓reduceIte]
 exact zu

theorem zc2 {t : Nat} {ok : Bool} {a : Nat} {b : Nat} {x0 : Xp} {x1 : Xp} (h10 : b ≠ a) : xv E cP env hp (.n (.lookup t (.t a) (.t b) ok) (.cons a x0 (.cons b x1 .nil))) = ob (xv E cP env hp x0) fun u0=>ob (xv E cP env hp x1) fun u1=>lookupD E hp t u0 u1 ok:=by
 simp only [xv,xvs]
 cases xv E cP env hp x0 <;> try rfl
 cases xv E cP env hp x1 <;> try rfl
 simp only [pureOp,List.map_cons,List.map_nil,Option.map_some,Option.map_none,gOf,kv,z7,if_true,if_false,h10,↓reduceIte]
 exact zu

theorem zj2  {a : Nat} {b : Nat} {x0 : Xp} {x1 : Xp} (h10 : b ≠ a) : xv E cP env hp (.n (.maxi [(.t a),(.t b)]) (.cons a x0 (.cons b x1 .nil))) = ob (xv E cP env hp x0) fun u0=>ob (xv E cP env hp x1) fun u1=>maxiD [u0,u1]:=by
 simp only [xv,xvs]
 cases xv E cP env hp x0 <;> try rfl
 cases xv E cP env hp x1 <;> try rfl
 simp only [pureOp,List.map_cons,List.map_nil,Option.map_some,Option.map_none,gOf,kv,z7,if_true,if_false,h10,↓reduceIte]
 exact zu

theorem ziz  {a : Nat} {b : Nat} {x0 : Xp} {x1 : Xp} (h10 : b ≠ a) : xv E cP env hp (.n (.mini [(.t a),(.t b)]) (.cons a x0 (.cons b x1 .nil))) = ob (xv E cP env hp x0) fun u0=>ob (xv E cP env hp x1) fun u1=>miniD [u0,u1]:=by
 simp only [xv,xvs]
 cases xv E cP env hp x0 <;> try rfl
 cases xv E cP env hp x1 <;> try rfl
 simp only [pureOp,List.map_cons,List.map_nil,Option.map_some,Option.map_none,gOf,kv,z7,if_true,if_false,h10,↓reduceIte]
 exact zu

theorem zj3  {a : Nat} {x0 : Xp} {d1 : D}  : xv E cP env hp (.n (.maxi [(.t a),(.c d1)]) (.cons a x0 .nil)) = ob (xv E cP env hp x0) fun u0=>maxiD [u0,d1]:=by
 simp only [xv,xvs]
 cases xv E cP env hp x0 <;> try rfl
 simp only [pureOp,List.map_cons,List.map_nil,Option.map_some,Option.map_none,gOf,kv,z7,if_true,if_false,↓reduceIte]
 exact zu

theorem zj0  {a : Nat} {x0 : Xp} {d1 : D}  : xv E cP env hp (.n (.mini [(.t a),(.c d1)]) (.cons a x0 .nil)) = ob (xv E cP env hp x0) fun u0=>miniD [u0,d1]:=by
 simp only [xv,xvs]
 cases xv E cP env hp x0 <;> try rfl
 simp only [pureOp,List.map_cons,List.map_nil,Option.map_some,Option.map_none,gOf,kv,z7,if_true,if_false,↓reduceIte]
 exact zu

theorem zj4  {b : Nat} {x1 : Xp} {d0 : D}  : xv E cP env hp (.n (.maxi [(.c d0),(.t b)]) (.cons b x1 .nil)) = ob (xv E cP env hp x1) fun u1=>maxiD [d0,u1]:=by
 simp only [xv,xvs]
 cases xv E cP env hp x1 <;> try rfl
 simp only [pureOp,List.map_cons,List.map_nil,Option.map_some,Option.map_none,gOf,kv,z7,if_true,if_false,↓reduceIte]
 exact zu

theorem zj1  {b : Nat} {x1 : Xp} {d0 : D}  : xv E cP env hp (.n (.mini [(.c d0),(.t b)]) (.cons b x1 .nil)) = ob (xv E cP env hp x1) fun u1=>miniD [d0,u1]:=by
 simp only [xv,xvs]
 cases xv E cP env hp x1 <;> try rfl
 simp only [pureOp,List.map_cons,List.map_nil,Option.map_some,Option.map_none,gOf,kv,z7,if_true,if_false,↓reduceIte]
 exact zu

theorem zay {t : Nat} {a : Nat} {b : Nat} {x0 : Xp} {x1 : Xp} (h10 : b ≠ a) : xv E cP env hp (.n (.slice t (.t a) (some (.t b)) none none) (.cons a x0 (.cons b x1 .nil))) = ob (xv E cP env hp x0) fun u0=>ob (xv E cP env hp x1) fun u1=>sliceD E t u0 (some u1) none none:=by
 simp only [xv,xvs]
 cases xv E cP env hp x0 <;> try rfl
 cases xv E cP env hp x1 <;> try rfl
 simp only [pureOp,List.map_cons,List.map_nil,Option.map_some,Option.map_none,gOf,kv,z7,if_true,if_false,h10,↓reduceIte]
 exact zu

theorem zaz {t : Nat} {a : Nat} {x0 : Xp} {d1 : D}  : xv E cP env hp (.n (.slice t (.t a) (some (.c d1)) none none) (.cons a x0 .nil)) = ob (xv E cP env hp x0) fun u0=>sliceD E t u0 (some d1) none none:=by
 simp only [xv,xvs]
 cases xv E cP env hp x0 <;> try rfl
 simp only [pureOp,List.map_cons,List.map_nil,Option.map_some,Option.map_none,gOf,kv,z7,if_true,if_false,↓reduceIte]
 exact zu

theorem zb0 {t : Nat} {a : Nat} {b : Nat} {x0 : Xp} {x1 : Xp} (h10 : b ≠ a) : xv E cP env hp (.n (.slice t (.t a) none (some (.t b)) none) (.cons a x0 (.cons b x1 .nil))) = ob (xv E cP env hp x0) fun u0=>ob (xv E cP env hp x1) fun u1=>sliceD E t u0 none (some u1) none:=by
 simp only [xv,xvs]
 cases xv E cP env hp x0 <;> try rfl
 cases xv E cP env hp x1 <;> try rfl
 simp only [pureOp,List.map_cons,List.map_nil,Option.map_some,Option.map_none,gOf,kv,z7,if_true,if_false,h10,↓reduceIte]
 exact zu

theorem zc1 {t : Nat} {a : Nat} {x0 : Xp}  : xv E cP env hp (.n (.slice t (.t a) none none none) (.cons a x0 .nil)) = ob (xv E cP env hp x0) fun u0=>sliceD E t u0 none none none:=by
 simp only [xv,xvs]
 cases xv E cP env hp x0 <;> try rfl
 simp only [pureOp,List.map_cons,List.map_nil,Option.map_some,Option.map_none,gOf,kv,z7,if_true,if_false,↓reduceIte]
 exact zu


theorem zgn {a : Nat} {x : Xp} {i : Nat} : xv E cP env hp (.n (.extract (.t a) i) (.cons a x .nil)) = ob (xv E cP env hp x) fun u=>match u with | .tup vs=>vs[i]? | _=>none:=by
 simp only [xv,xvs]
 cases xv E cP env hp x with
 | none=>rfl
 | some d=>
  simp only [pureOp,gOf,kv,z7,if_true]
  cases d <;> try rfl
  rename_i vs
  simp only []
  cases vs[i]? <;> rfl

def callV (cP : Nat -> List D -> Option D) (f : D) (args : List D) : Option D:=match f with
 | .fn k caps=>(match frzL (frz [] depth) (args ++ caps) with
  | some vs=>cP k vs
  | none=>none)
 | _=>none

theorem zqh {f : Opd} {as : List Opd} {ks : Xs} : xv E cP env hp (.n (.call 0 f as) ks) = ob (xvs E cP env hp ks) fun vs=>callV cP (gOf vs f) (as.map (gOf vs)):=by
 simp only [xv]
 cases xvs E cP env hp ks with
 | none=>rfl
 | some vs=>
  simp only [pureOp,z7,callV]
  cases gOf vs f <;> try rfl
  rename_i k caps
  simp only []
  cases frzL (frz [] depth) (as.map (gOf vs) ++ caps) with
  | none=>rfl
  | some l=>simp only []; cases cP k l <;> rfl

theorem zqb : xvs E cP env hp .nil = some []:=by simp only [xvs]
theorem zmn {s : Nat} {x : Xp} {r : Xs} : xvs E cP env hp (.cons s x r) = ob (xv E cP env hp x) fun d=>ob (xvs E cP env hp r) fun l=>some ((s,d) :: l):=by
 simp only [xvs]
 cases xv E cP env hp x with
 | none=>rfl
 | some d=>simp only [z7]; cases xvs E cP env hp r <;> rfl

def bsliceV (E : Env) (t len : Nat) (ps : List (Nat × D)) : Option D:=match (E.ty t).k with
 | .slice e=>(match zeroE E e with
  | some z=>if len * (E.ty e).size <= 16777216 then (match fillE (E.ty e).size (List.replicate len z) ps with
   | some els=>some (.imm .exact els)
   | none=>none) else none
  | none=>none)
 | _=>none
theorem zj7 {t len : Nat} {ps : List (Nat × Opd)} {ks : Xs} : xv E cP env hp (.n (.bslice false t len ps) ks) = ob (xvs E cP env hp ks) fun vs=>bsliceV E t len (ps.map fun p=>(p.1,gOf vs p.2)):=by
 simp only [xv]
 cases xvs E cP env hp ks with
 | none=>rfl
 | some vs=>
  simp only [pureOp,z7,bsliceV,Bool.false_eq_true,false_and,if_false]
  cases (E.ty t).k <;> try rfl
  rename_i e
  simp only []
  cases hz : zeroE E e with
  | none=>rfl
  | some z=>
   by_cases hh : len * (E.ty e).size <= 16777216
   ·simp only [hh,if_true]
    cases fillE (E.ty e).size (List.replicate len z) (ps.map fun p=>(p.1,gOf vs p.2)) <;> rfl
   ·simp only [hh,if_false]

def buildV (E : Env) (t : Nat) (ps : List (Nat × D)) : Option D:=if (E.ty t).zero.length = (E.ty t).size /\ (E.ty t).size ≠ 0 then buildD E t ps else none
theorem zms {t : Nat} {ps : List (Nat × Opd)} {ks : Xs} : xv E cP env hp (.n (.build t ps) ks) = ob (xvs E cP env hp ks) fun vs=>buildV E t (ps.map fun p=>(p.1,gOf vs p.2)):=by
 simp only [xv]
 cases xvs E cP env hp ks with
 | none=>rfl
 | some vs=>
  simp only [pureOp,z7,buildV]
  by_cases hh : (E.ty t).zero.length = (E.ty t).size /\ (E.ty t).size ≠ 0
  ·simp only [if_pos hh]; exact zu
  ·simp only [if_neg hh]

theorem zqe {f : Nat} {cs : List Opd} {ks : Xs} : xv E cP env hp (.n (.mkfn f cs) ks) = ob (xvs E cP env hp ks) fun vs=>some (.fn f (cs.map (gOf vs))):=by
 simp only [xv]
 cases xvs E cP env hp ks <;> rfl

variable {cS cY : Nat -> List D -> List Obj -> Option (D × List Obj)} {base : Nat}

theorem zri : rTS E cP cS cY base [] env hp = some (env,hp):=rfl
theorem zrk {i : Nat} {x : Xp} {r : List TS} : rTS E cP cS cY base (.asg i x :: r) env hp = ob (xv E cP env hp x) fun d=>rTS E cP cS cY base r (env.set i d) hp:=by
 simp only [rTS]
 cases xv E cP env hp x <;> rfl
theorem zrj {dst : Option Nat} {op : DOp} {ks : Xs} {r : List TS} : rTS E cP cS cY base (.eff none dst op ks none :: r) env hp = ob (xvs E cP env hp ks) fun vs=>ob (stepOp E cP cS cY hp.length (gOf vs) hp op) fun p=>rTS E cP cS cY base r (putE env dst p.1) p.2:=by
 simp only [rTS,gdT]
 cases xvs E cP env hp ks with
 | none=>rfl
 | some vs=>simp only [z7]; cases stepOp E cP cS cY hp.length (gOf vs) hp op <;> rfl
theorem znb {k : Nat} {dst : Option Nat} {op : DOp} {ks : Xs} {r : List TS} : rTS E cP cS cY base (.eff none dst op ks (some k) :: r) env hp = ob (xvs E cP env hp ks) fun vs=>ob (stepOp E cP cS cY (base + k) (gOf vs) hp op) fun p=>rTS E cP cS cY base r (putE env dst p.1) p.2:=by
 simp only [rTS,gdT]
 cases xvs E cP env hp ks with
 | none=>rfl
 | some vs=>simp only [z7]; cases stepOp E cP cS cY (base + k) (gOf vs) hp op <;> rfl

variable {Q : Ex -> List D -> List Obj -> Prop}

theorem wR {l : List TS} : wT E (.run 0 l) Q env hp = obP (rTS E (runP E (dL E)) (runS E (dL E)) (runY (dL E)) hp.length l env hp) fun p=>Q .normal p.1 p.2:=by
 simp only [wT,List.replicate_zero,List.append_nil,rTL]
 cases rTS E (runP E (dL E)) (runS E (dL E)) (runY (dL E)) hp.length l env hp <;> rfl
theorem wRp {n : Nat} {l : List TS} : wT E (.run n l) Q env hp = obP (rTS E (runP E (dL E)) (runS E (dL E)) (runY (dL E)) hp.length l env (hp ++ List.replicate n .dead)) fun p=>Q .normal p.1 p.2:=by
 simp only [wT,rTL]
 cases rTS E (runP E (dL E)) (runS E (dL E)) (runY (dL E)) hp.length l env (hp ++ List.replicate n .dead) <;> rfl

def condP (t : D) (a b : Prop) : Prop:=match t with
 | .bool t=>if t = true then a else b
 | _=>False
theorem zsh {t : Bool} {a b : Prop} : condP (.bool t) a b = if t = true then a else b:=rfl
theorem z1h {t t' : D} {a b : Prop} (h : t = t') : condP t a b = condP t' a b:=by rw [h]
theorem z1u {t t' : D} {a b : Option D} (h : t = t') : iteD t a b = iteD t' a b:=by rw [h]
theorem wC {i : Nat} {a b : TC} : wT E (.cond i a b) Q env hp = obP env[i]? fun t=>condP t (wT E a Q env hp) (wT E b Q env hp):=by
 simp only [wT]
 cases env[i]? with
 | none=>rfl
 | some d=>cases d <;> rfl

end
end Dv

namespace Dv

section
variable {E : Env} {cP : Nat -> List D -> Option D} {cS cY : Nat -> List D -> List Obj -> Option (D × List Obj)} {env : List D} {hp : List Obj} {t id : Nat} {g : Opd -> D}

theorem zp9 {k : Go.IntKind} {a b : Int} : binD E .add t (.int k a) (.int k b) = some (.int k (k.wrap (a + b))):=by simp [binD,intBin]
theorem zoy {k : Go.IntKind} {a b : Int} : binD E .sub t (.int k a) (.int k b) = some (.int k (k.wrap (a - b))):=by simp [binD,intBin]
theorem zp2 {k : Go.IntKind} {a b : Int} : binD E .mul t (.int k a) (.int k b) = some (.int k (k.wrap (a * b))):=by simp [binD,intBin]
theorem zp7 {k : Go.IntKind} {a b : Int} : binD E .eql t (.int k a) (.int k b) = some (.bool (a == b)):=by simp [binD,intBin]
theorem zp1 {k : Go.IntKind} {a b : Int} : binD E .neq t (.int k a) (.int k b) = some (.bool (a != b)):=by simp [binD,intBin]
theorem zp3 {k : Go.IntKind} {a b : Int} : binD E .lss t (.int k a) (.int k b) = some (.bool (decide (a < b))):=by simp [binD,intBin]
theorem zp4 {k : Go.IntKind} {a b : Int} : binD E .leq t (.int k a) (.int k b) = some (.bool (decide (a <= b))):=by simp [binD,intBin]
theorem zp5 {k : Go.IntKind} {a b : Int} : binD E .gtr t (.int k a) (.int k b) = some (.bool (decide (b < a))):=by simp [binD,intBin]
theorem zp6 {k : Go.IntKind} {a b : Int} : binD E .geq t (.int k a) (.int k b) = some (.bool (decide (b <= a))):=by simp [binD,intBin]
theorem z9j {a b : List D} : binD E .eql t (.agg a) (.agg b) = if (E.ty t).eqc = true /\ kindsL a (E.ty t).zero = true then ob (eqL a b) (fun r=>some (.bool r)) else none:=by
 simp only [binD]
 split
 ·cases eqL a b <;> rfl
 ·rfl
theorem z9i {a b : List D} : binD E .neq t (.agg a) (.agg b) = if (E.ty t).eqc = true /\ kindsL a (E.ty t).zero = true then ob (eqL a b) (fun r=>some (.bool (!r))) else none:=by
 simp only [binD]
 split
 ·cases eqL a b <;> rfl
 ·rfl
theorem zqz {b : Bool} : unD .not (.bool b) = some (.bool (!b)):=rfl
theorem zr0 {k : Go.IntKind} {n : Int} : unD .neg (.int k n) = some (.int k (k.wrap (0 - n))):=rfl
theorem znq {sp : Spare} {els : List D} : lenD E hp t (.imm sp els) = (match (E.ty t).k with | .slice _=>some (.int .i64 els.length) | .arr n _=>some (.int .i64 n) | _=>none):=by
 unfold lenD
 cases (E.ty t).k <;> rfl
theorem zrr {i off len sz : Nat} {ag gr : Bool} : lenD E hp t (.sl i off len sz ag gr) = (match (E.ty t).k with | .slice _=>some (.int .i64 len) | .arr n _=>some (.int .i64 n) | _=>none):=by
 unfold lenD
 cases (E.ty t).k <;> rfl
theorem zno {s : List UInt8} : lenD E hp t (.str s) = (match (E.ty t).k with | .str=>some (.int .i64 s.length) | .arr n _=>some (.int .i64 n) | _=>none):=by
 unfold lenD
 cases (E.ty t).k <;> rfl
def readO (o : Option Obj) : Option (List D):=match o with
 | some (.cells cs)=>some cs
 | some (.frozen cs)=>some cs
 | _=>none
theorem z8e {cs : List D} : readO (some (.cells cs)) = some cs:=rfl
theorem z79 {cs : List D} : readO (some (.frozen cs)) = some cs:=rfl
theorem zy {i off : Nat} : loadD E hp t (.loc i off) = ob (readO hp[i]?) fun cs=>ob (takeC cs off (E.ty t).size) (ofCells (E.ty t).ag):=by
 simp only [loadD]
 cases hp[i]? with
 | none=>rfl
 | some o=>cases o <;> rfl
theorem z4t {cs : List D} : loadD E hp t (.iptr cs) = ob (takeC cs 0 (E.ty t).size) (ofCells (E.ty t).ag):=rfl
theorem zhz {sp : Spare} {els : List D} {k : Go.IntKind} {n : Int} : iaddrD E t (.imm sp els) (.int k n) = (match (E.ty t).k with | .slice e=>if 0 <= n then ob els[n.toNat]? (fun d=>if d.cellsL.length = (E.ty e).size then some (.iptr d.cellsL) else none) else none | _=>none):=by
 unfold iaddrD
 cases (E.ty t).k <;> try rfl
 by_cases h : 0 <= n
 ·simp only [h,if_true]; cases els[n.toNat]? <;> rfl
 ·simp only [h,if_false]
theorem zl0 {i off len sz : Nat} {ag gr : Bool} {k : Go.IntKind} {n : Int} : iaddrD E t (.sl i off len sz ag gr) (.int k n) = (match (E.ty t).k with | .slice e=>if 0 <= n /\ n < len /\ sz = (E.ty e).size then some (.loc i (off + n.toNat * sz)) else none | _=>none):=by
 unfold iaddrD
 cases (E.ty t).k <;> rfl
theorem zhy {i off : Nat} {k : Go.IntKind} {n : Int} : iaddrD E t (.loc i off) (.int k n) = (match (E.ty t).k with | .arr len e=>if 0 <= n /\ n < len then some (.loc i (off + n.toNat * (E.ty e).size)) else none | _=>none):=by
 unfold iaddrD
 cases (E.ty t).k <;> rfl
theorem zid {i off f : Nat} : faddrD E t (.loc i off) f = (match (E.ty t).k with | .struct fs=>ob fs[f]? (fun p=>if (E.ty p.2).size = 0 then none else some (.loc i (off + p.1))) | _=>none):=by
 unfold faddrD
 cases (E.ty t).k <;> try rfl
 rename_i fs
 simp only []
 cases fs[f]? <;> rfl
theorem zey {cs : List D} {f : Nat} : faddrD E t (.iptr cs) f = (match (E.ty t).k with | .struct fs=>ob fs[f]? (fun p=>if (E.ty p.2).size = 0 then none else some (.iptr (cs.drop p.1))) | _=>none):=by
 unfold faddrD
 cases (E.ty t).k <;> try rfl
 rename_i fs
 simp only []
 cases fs[f]? <;> rfl
theorem zhw {cs : List D} {k : Go.IntKind} {n : Int} : indexD E t (.agg cs) (.int k n) = (match (E.ty t).k with | .arr len e=>if 0 <= n /\ n < len then ob (takeC cs (n.toNat * (E.ty e).size) (E.ty e).size) (ofCells (E.ty e).ag) else none | _=>none):=by
 unfold indexD
 cases (E.ty t).k <;> rfl
theorem zf5 {b : Bool} : D.cellsL (.bool b) = [.bool b]:=rfl
theorem zjm {b : Bool} : D.storable (.bool b) = true:=rfl
theorem zmh {b : Bool} : D.atom (.bool b) = true:=rfl
theorem zis {k : Go.IntKind} {n : Int} : D.cellsL (.int k n) = [.int k n]:=rfl
theorem zn4 {k : Go.IntKind} {n : Int} : D.storable (.int k n) = true:=rfl
theorem zpd {k : Go.IntKind} {n : Int} : D.atom (.int k n) = true:=rfl
theorem zio {s : List UInt8} : D.cellsL (.str s) = [.str s]:=rfl
theorem zn1 {s : List UInt8} : D.storable (.str s) = true:=rfl
theorem zpa {s : List UInt8} : D.atom (.str s) = true:=rfl
theorem zit {sp : Spare} {els : List D} : D.cellsL (.imm sp els) = [.imm sp els]:=rfl
theorem zn5 {sp : Spare} {els : List D} : D.storable (.imm sp els) = true:=rfl
theorem zpe {sp : Spare} {els : List D} : D.atom (.imm sp els) = true:=rfl
theorem zm4 {i off len sz : Nat} {ag gr : Bool} : D.cellsL (.sl i off len sz ag gr) = [.sl i off len sz ag gr]:=rfl
theorem zrb {i off len sz : Nat} {ag gr : Bool} : D.storable (.sl i off len sz ag gr) = true:=rfl
theorem zso {i off len sz : Nat} {ag gr : Bool} : D.atom (.sl i off len sz ag gr) = true:=rfl
theorem zir {i off : Nat} : D.cellsL (.loc i off) = [.loc i off]:=rfl
theorem zn3 {i off : Nat} : D.storable (.loc i off) = true:=rfl
theorem zpc {i off : Nat} : D.atom (.loc i off) = true:=rfl
theorem zf4 {cs : List D} : D.cellsL (.iptr cs) = [.iptr cs]:=rfl
theorem zjl {cs : List D} : D.storable (.iptr cs) = true:=rfl
theorem zmg {cs : List D} : D.atom (.iptr cs) = true:=rfl
theorem ziq {m : Option Nat} : D.cellsL (.map m) = [.map m]:=rfl
theorem zn2 {m : Option Nat} : D.storable (.map m) = true:=rfl
theorem zpb {m : Option Nat} : D.atom (.map m) = true:=rfl
theorem zm5 {f : Nat} {cs : List D} : D.cellsL (.fn f cs) = [.fn f cs]:=rfl
theorem zrc {f : Nat} {cs : List D} : D.storable (.fn f cs) = true:=rfl
theorem zsp {f : Nat} {cs : List D} : D.atom (.fn f cs) = true:=rfl
theorem ziu {cs : List D} : D.cellsL (.agg cs) = cs:=rfl
theorem zn6 {cs : List D} : D.storable (.agg cs) = cs.all D.atom:=rfl
theorem zdi : D.cellsL .nilfn = [.nilfn]:=rfl
theorem zgq : D.storable .nilfn = true:=rfl
theorem zix : D.atom .nilfn = true:=rfl
theorem zf3 : D.cellsL .nilp = [.nilp]:=rfl
theorem zjk : D.storable .nilp = true:=rfl
theorem zmf : D.atom .nilp = true:=rfl
theorem zr3 {cs : List D} {o : Nat} : takeC cs o 0 = some []:=rfl
theorem zr4 {cs : List D} {o n : Nat} : takeC cs o (n + 1) = ob cs[o]? fun c=>ob (takeC cs (o + 1) n) fun r=>some (c :: r):=by
 simp only [takeC]
 cases cs[o]? with
 | none=>rfl
 | some c=>simp only [z7]; cases takeC cs (o + 1) n <;> rfl
theorem zhb {cs : List D} : ofCells true cs = some (.agg cs):=rfl
theorem zea {c : D} : ofCells false [c] = some c:=rfl
theorem zsx  {s b : Nat} {z : List D} {q : Bool} : TI.ag ⟨.bool ,s,b,z,q⟩ = false:=rfl
theorem zub {k : Go.IntKind} {s b : Nat} {z : List D} {q : Bool} : TI.ag ⟨.int k,s,b,z,q⟩ = false:=rfl
theorem zu8  {s b : Nat} {z : List D} {q : Bool} : TI.ag ⟨.str ,s,b,z,q⟩ = false:=rfl
theorem zpm {e : Nat} {s b : Nat} {z : List D} {q : Bool} : TI.ag ⟨.slice e,s,b,z,q⟩ = false:=rfl
theorem zml {fs : List (Nat × Nat)} {s b : Nat} {z : List D} {q : Bool} : TI.ag ⟨.struct fs,s,b,z,q⟩ = true:=rfl
theorem zuc {n e : Nat} {s b : Nat} {z : List D} {q : Bool} : TI.ag ⟨.arr n e,s,b,z,q⟩ = true:=rfl
theorem zua {k e : Nat} {s b : Nat} {z : List D} {q : Bool} : TI.ag ⟨.map k e,s,b,z,q⟩ = false:=rfl
theorem zu9 {e : Nat} {s b : Nat} {z : List D} {q : Bool} : TI.ag ⟨.ptr e,s,b,z,q⟩ = false:=rfl
theorem zsw  {s b : Nat} {z : List D} {q : Bool} : TI.ag ⟨.func ,s,b,z,q⟩ = false:=rfl
theorem gOf_t {vs : List (Nat × D)} {n : Nat} : gOf vs (.t n) = kv n vs:=rfl
theorem gOf_c {vs : List (Nat × D)} {d : D} : gOf vs (.c d) = d:=rfl
theorem gOf_f {vs : List (Nat × D)} {k : Nat} : gOf vs (.f k) = .fn k []:=rfl
theorem zru {n m : Nat} {d : D} {r : List (Nat × D)} : kv n ((m,d) :: r) = if n = m then d else kv n r:=rfl
theorem zjz {i : Nat} {d : D} : putE env (some i) d = env.set i d:=rfl
theorem zk0 {d : D} : putE env none d = env:=rfl
theorem zh8 {d : D} : oneRes [d] = d:=rfl
theorem zh7 {a b : D} : oneRes [a,b] = .tup [a,b]:=rfl
theorem zcx {a b c : D} : oneRes [a,b,c] = .tup [a,b,c]:=rfl
theorem zi6 : getAll E env hp [] = some []:=rfl
theorem znz {i : Nat} {r : List (Nat × Option Nat)} : getAll E env hp ((i,none) :: r) = ob env[i]? fun d=>ob (getAll E env hp r) fun l=>some (d :: l):=by
 simp only [getAll]
 cases env[i]? with
 | none=>rfl
 | some d=>simp only [z7]; cases getAll E env hp r <;> rfl
theorem zo0 {i t : Nat} {r : List (Nat × Option Nat)} : getAll E env hp ((i,some t) :: r) = ob env[i]? fun a=>ob (loadD E hp t a) fun d=>ob (getAll E env hp r) fun l=>some (d :: l):=by
 simp only [getAll]
 cases env[i]? with
 | none=>rfl
 | some a=>
  simp only [z7]
  cases loadD E hp t a with
  | none=>rfl
  | some d=>simp only [z7]; cases getAll E env hp r <;> rfl
theorem zke {k : Go.IntKind} {a b : Int} : maxiD [.int k a,.int k b] = some (.int k (if a < b then b else a)):=by simp [maxiD,foldI]
def extV (d : D) (i : Nat) : Option D:=match d with
 | .tup vs=>vs[i]?
 | _=>none
theorem zoh {vs : List D} {i : Nat} : extV (.tup vs) i = vs[i]?:=rfl
theorem zt3 {a : Nat} {x : Xp} {i : Nat} : xv E cP env hp (.n (.extract (.t a) i) (.cons a x .nil)) = ob (xv E cP env hp x) fun u=>extV u i:=zgn
theorem zgs {x : Opd} : stepOp E cP cS cY id g hp (.box t x) = if (g x).storable = true then some (.loc id 0,addO hp id (.cells (g x).cellsL)) else none:=by
 simp only [stepOp,DOp.fin,pureOp]
 split <;> rfl
theorem zci : stepOp E cP cS cY id g hp (.alloc t) = if (E.ty t).zero.all D.atom = true /\ (E.ty t).zero.length = (E.ty t).size /\ (E.ty t).size ≠ 0 then some (.loc id 0,addO hp id (.cells (E.ty t).zero)) else none:=by
 simp only [stepOp,DOp.fin,pureOp]
 split <;> rfl
theorem zc9 {a x : Opd} : stepOp E cP cS cY id g hp (.store t a x) = (storeD E hp t (g a) (g x)).map (.undef,·):=rfl
def writeO (o : Option Obj) : Option (List D):=match o with
 | some (.cells cs)=>some cs
 | _=>none
theorem zc3 {cs : List D} : writeO (some (.cells cs)) = some cs:=rfl
theorem zgp {i off : Nat} {x : D} : storeD E hp t (.loc i off) x = ob (writeO hp[i]?) fun cs=>if x.storable = true /\ x.cellsL.length = (E.ty t).size /\ off + (E.ty t).size <= cs.length then some (hp.set i (.cells (setCells cs off x.cellsL))) else none:=by
 simp only [storeD]
 cases hp[i]? with
 | none=>rfl
 | some o=>cases o <;> rfl
theorem zcn {cs : List D} {o : Nat} : setCells cs o [] = cs:=rfl
theorem zb8 {cs : List D} {o : Nat} {v : D} {r : List D} : setCells cs o (v :: r) = setCells (cs.set o v) (o + 1) r:=rfl
theorem zca : stepOp E cP cS cY id g hp (.mkmap t) = some (.map (some id),addO hp id (.map [])):=rfl
theorem zb5 {m k v : Opd} : stepOp E cP cS cY id g hp (.mapset t m k v) = (mapsetD E hp t (g m) (g k) (g v)).map (.undef,·):=rfl
theorem zch {f : Opd} {as : List Opd} : stepOp E cP cS cY id g hp (.call 1 f as) = (match g f with | .fn k caps=>ob (frzL (frz hp depth) (as.map g ++ caps)) (fun vs=>(cP k vs).map (·,freezeAll hp ((as.map g ++ caps).flatMap (ids hp depth)))) | _=>none):=by
 simp only [stepOp,DOp.fin,finOp]
 cases g f <;> try rfl
 rename_i k caps
 simp only []
 cases frzL (frz hp depth) (as.map g ++ caps) <;> rfl
theorem zcg {f : Opd} {as : List Opd} : stepOp E cP cS cY id g hp (.call 2 f as) = (match g f with | .fn k caps=>noMark (cS k (as.map g ++ caps) hp) | .bfn k r=>noMark (cS k (r :: as.map g) hp) | .yld l=>cY l (as.map g) hp | _=>none):=rfl
theorem zdx {t2 : Nat} {x y : Opd} : stepOp E cP cS cY id g hp (.append 2 t t2 x y) = appendG E hp t t2 (g x) (g y):=rfl
theorem zdy {t2 : Nat} {x y : Opd} : stepOp E cP cS cY id g hp (.append 1 t t2 x y) = (appendM E hp id t t2 (g x) (g y)).map fun e=>(e.d,applyEf hp id e):=rfl
theorem zb6 {len : Nat} {ps : List (Nat × Opd)} : stepOp E cP cS cY id g hp (.bslice true t (len + 1) ps) = (match (E.ty t).k with | .slice e=>ob (zeroE E e) (fun z=>if (len + 1) * (E.ty e).size <= 16777216 then ob (fillE (E.ty e).size (List.replicate (len + 1) z) (ps.map fun p=>(p.1,g p.2))) (fun els=>some (.sl id 0 (len + 1) (E.ty e).size (E.ty e).ag true,addO hp id (.cells (flat els)))) else none) | _=>none):=by
 simp only [stepOp,DOp.fin,pureOp]
 cases (E.ty t).k <;> try rfl
 rename_i e
 simp only []
 cases zeroE E e with
 | none=>rfl
 | some z=>
  simp only [z7]
  by_cases hh : (len + 1) * (E.ty e).size <= 16777216
  ·simp only [hh,if_true]
   cases fillE (E.ty e).size (List.replicate (len + 1) z) (ps.map fun p=>(p.1,g p.2)) <;> rfl
  ·simp only [hh,if_false]; rfl
def mapO (o : Option Obj) : Option (List (D × D)):=match o with
 | some (.map es)=>some es
 | _=>none
theorem znn {es : List (D × D)} : mapO (some (.map es)) = some es:=rfl
theorem zkr {xs : List D} : keyOk E t (.agg xs) = ((E.ty t).eqc && kindsL xs (E.ty t).zero):=rfl
theorem zhl : kindsL [] [] = true:=rfl
theorem zen {a b : Bool} {r s : List D} : kindsL (.bool a :: r) (.bool b :: s) = kindsL r s:=rfl
theorem zhm {k : Go.IntKind} {a b : Int} {r s : List D} : kindsL (.int k a :: r) (.int k b :: s) = kindsL r s:=by simp [kindsL]
theorem zsa : eqL [] [] = some true:=rfl
theorem zoj {x y : D} {r s : List D} : eqL (x :: r) (y :: s) = ob (atomEq x y) fun a=>ob (eqL r s) fun b=>some (a && b):=by
 simp only [eqL]
 cases atomEq x y with
 | none=>rfl
 | some a=>simp only [z7]; cases eqL r s <;> rfl
theorem zf7 {a b : Bool} : atomEq (.bool a) (.bool b) = some (a == b):=rfl
theorem ziy {k : Go.IntKind} {a b : Int} : atomEq (.int k a) (.int k b) = some (a == b):=by simp [atomEq]
theorem zq1 {n off i len sz : Nat} {ag gr : Bool} : frz hp (n + 1) (.sl i off len sz ag gr) = ob (readO hp[i]?) fun cs=>ob (chunk sz ag len (cs.drop off)) fun els=>(frzL (frz hp n) els).map (.imm .none):=by
 simp only [frz,rowOf]
 cases hp[i]? with
 | none=>rfl
 | some o=>
  cases o <;> try rfl
  ·simp only [z8e,z7]; cases chunk sz ag len _ <;> rfl
  ·simp only [z79,z7]; cases chunk sz ag len _ <;> rfl
def tokO (o : Option Obj) : Option (Nat × Nat):=match o with
 | some (.tok u s)=>some (u,s)
 | _=>none
def appOk (E : Env) (e : Nat) (els new : List D) : Prop:=(els.length + new.length) * ((E.ty e).bytes + 1) <= 211106232532992 /\ (E.ty e).bytes <= 65536 /\ (zeroE E e).isSome = true /\ fitsE (E.ty e).size els = true
instance {e : Nat} {els new : List D} : Decidable (appOk E e els new):=inferInstanceAs (Decidable (_ /\ _))
def app0 (E : Env) (hp : List Obj) (id t t2 : Nat) (x y : D) : Option (D × List Obj):=(appendI E hp id t t2 x y).map fun e=>(e.d,applyEf hp id e)
def strL (E : Env) (e : Nat) (y : D) : Option (List D):=match y with
 | .str s=>if 1 = (E.ty e).size /\ (E.ty e).ag = false then some (s.map byteD) else none
 | _=>none
theorem zb4 {e : Nat} {s : List UInt8} : strL E e (.str s) = if 1 = (E.ty e).size /\ (E.ty e).ag = false then some (s.map byteD) else none:=rfl
theorem zb3 {u s : Nat} : tokO (some (.tok u s)) = some (u,s):=rfl
theorem zi {t2 : Nat} {x y : Opd} : stepOp E cP cS cY id g hp (.append 0 t t2 x y) = app0 E hp id t t2 (g x) (g y):=rfl
theorem z1a {t2 : Nat} {els : List D} {y : D} : app0 E hp id t t2 (.imm .exact els) y = (match (E.ty t).k,(E.ty t2).k with | .slice e,.slice _=>ob (listOf hp (E.ty e).size (E.ty e).ag y) (fun new=>if appOk E e els new then some (.imm (.tok id) (els ++ new),addO hp id (.tok ((els.length + new.length) * (E.ty e).size) (E.ty e).size)) else none) | .slice e,.str=>ob (strL E e y) (fun new=>if appOk E e els new then some (.imm (.tok id) (els ++ new),addO hp id (.tok ((els.length + new.length) * (E.ty e).size) (E.ty e).size)) else none) | _,_=>none):=by
 have key : ∀ (e : Nat) (new : List D),((appendB E hp id e .exact els new).map fun e=>(e.d,applyEf hp id e)) = if appOk E e els new then some (.imm (.tok id) (els ++ new),addO hp id (.tok ((els.length + new.length) * (E.ty e).size) (E.ty e).size)) else none:=fun e new=>by
  unfold appendB
  by_cases hh : appOk E e els new
  ·have h1 : (els.length + new.length) * ((E.ty e).bytes + 1) <= 211106232532992 /\ (E.ty e).bytes <= 65536 /\ (zeroE E e).isSome = true /\ fitsE (E.ty e).size els = true:=hh
   rw [if_pos h1,if_pos hh]; rfl
  ·have h1 : ¬ ((els.length + new.length) * ((E.ty e).bytes + 1) <= 211106232532992 /\ (E.ty e).bytes <= 65536 /\ (zeroE E e).isSome = true /\ fitsE (E.ty e).size els = true):=hh
   rw [if_neg h1,if_neg hh]; rfl
 unfold app0 appendI
 cases (E.ty t).k <;> try rfl
 cases (E.ty t2).k <;> try rfl
 ·simp only []
  cases y <;> try rfl
  rename_i e s
  simp only [zb4]
  by_cases hs : 1 = (E.ty e).size /\ (E.ty e).ag = false
  ·simp only [if_pos hs,z7]; exact key _ _
  ·simp only [if_neg hs]; rfl
 ·rename_i e e2
  simp only []
  cases listOf hp (E.ty e).size (E.ty e).ag y with
  | none=>rfl
  | some new=>simp only [z7]; exact key _ _
theorem z1o {t2 k : Nat} {els : List D} {y : D} : app0 E hp id t t2 (.imm (.tok k) els) y = (match (E.ty t).k,(E.ty t2).k with | .slice e,.slice _=>ob (listOf hp (E.ty e).size (E.ty e).ag y) (fun new=>if appOk E e els new then ob (tokO hp[k]?) (fun u=>if u.1 = els.length * (E.ty e).size /\ u.2 = (E.ty e).size then some (.imm (.tok id) (els ++ new),addO (hp.set k .dead) id (.tok ((els.length + new.length) * (E.ty e).size) (E.ty e).size)) else none) else none) | .slice e,.str=>ob (strL E e y) (fun new=>if appOk E e els new then ob (tokO hp[k]?) (fun u=>if u.1 = els.length * (E.ty e).size /\ u.2 = (E.ty e).size then some (.imm (.tok id) (els ++ new),addO (hp.set k .dead) id (.tok ((els.length + new.length) * (E.ty e).size) (E.ty e).size)) else none) else none) | _,_=>none):=by
 have key : ∀ (e : Nat) (new : List D),((appendB E hp id e (.tok k) els new).map fun e=>(e.d,applyEf hp id e)) = if appOk E e els new then ob (tokO hp[k]?) (fun u=>if u.1 = els.length * (E.ty e).size /\ u.2 = (E.ty e).size then some (.imm (.tok id) (els ++ new),addO (hp.set k .dead) id (.tok ((els.length + new.length) * (E.ty e).size) (E.ty e).size)) else none) else none:=fun e new=>by
  unfold appendB
  by_cases hh : appOk E e els new
  ·have h1 : (els.length + new.length) * ((E.ty e).bytes + 1) <= 211106232532992 /\ (E.ty e).bytes <= 65536 /\ (zeroE E e).isSome = true /\ fitsE (E.ty e).size els = true:=hh
   rw [if_pos h1,if_pos hh]
   simp only []
   cases hp[k]? with
   | none=>rfl
   | some o=>
    cases o <;> try rfl
    rename_i u s
    simp only [zb3,z7]
    by_cases h2 : u = els.length * (E.ty e).size /\ s = (E.ty e).size
    ·simp only [if_pos h2]; rfl
    ·simp only [if_neg h2]; rfl
  ·have h1 : ¬ ((els.length + new.length) * ((E.ty e).bytes + 1) <= 211106232532992 /\ (E.ty e).bytes <= 65536 /\ (zeroE E e).isSome = true /\ fitsE (E.ty e).size els = true):=hh
   rw [if_neg h1,if_neg hh]; rfl
 unfold app0 appendI
 cases (E.ty t).k <;> try rfl
 cases (E.ty t2).k <;> try rfl
 ·simp only []
  cases y <;> try rfl
  rename_i e s
  simp only [zb4]
  by_cases hs : 1 = (E.ty e).size /\ (E.ty e).ag = false
  ·simp only [if_pos hs,z7]; exact key _ _
  ·simp only [if_neg hs]; rfl
 ·rename_i e e2
  simp only []
  cases listOf hp (E.ty e).size (E.ty e).ag y with
  | none=>rfl
  | some new=>simp only [z7]; exact key _ _
theorem zh9 : oneRes [] = .tup []:=rfl
theorem zhj {sz : Nat} {ag : Bool} {sp : Spare} {els : List D} : listOf hp sz ag (.imm sp els) = if (els.all fun d=>d.storable && d.cellsL.length == sz) = true then some els else none:=rfl

end
end Dv

namespace Dv

section
variable {E : Env} {cP : Nat -> List D -> Option D} {cS cY : Nat -> List D -> List Obj -> Option (D × List Obj)} {env : List D} {hp : List Obj} {t id base : Nat} {g : Opd -> D}

theorem zp8 {k : Go.IntKind} {a b : Int} : binD E .and t (.int k a) (.int k b) = some (.int k (andI k a b)):=by simp [binD,intBin]
theorem zsm {k : Go.IntKind} {a b : Int} : binD E .or t (.int k a) (.int k b) = some (.int k (iorI k a b)):=by simp [binD,intBin]
theorem zox {k : Go.IntKind} {a b : Int} : binD E .xor t (.int k a) (.int k b) = some (.int k (xorI k a b)):=by simp [binD,intBin]
theorem zcf {f : Opd} {as : List Opd} : stepOp E cP cS cY id g hp (.call 3 f as) = (match g f with | .fn k caps=>ob (frzL (frz hp depth) (as.map g ++ caps)) (fun vs=>ob (cP k vs) fun d=>if d.closed = true then some (d,hp) else none) | _=>none):=by
 simp only [stepOp,DOp.fin,finOp]
 cases g f <;> try rfl
 rename_i k caps
 simp only []
 cases frzL (frz hp depth) (as.map g ++ caps) with
 | none=>rfl
 | some vs=>simp only [z7]; cases cP k vs <;> rfl
theorem zf2 {b : Bool} : D.closed (.bool b) = true:=rfl
theorem zil {k : Go.IntKind} {n : Int} : D.closed (.int k n) = true:=rfl
theorem zij {l : List D} : D.closed (.tup l) = l.all D.flatB:=rfl
theorem zi9 {b : Bool} : D.flatB (.bool b) = true:=rfl
theorem zlm {k : Go.IntKind} {n : Int} : D.flatB (.int k n) = true:=rfl
def gdV {A : Type} (u : D) (b : Bool) (x y : Option A) : Option A:=match u with
 | .bool c=>if c = b then x else y
 | _=>y
theorem zty {A : Type} {c b : Bool} {x y : Option A} : gdV (.bool c) b x y = if c = b then x else y:=rfl
theorem z2k {A : Type} {u u' : D} {b : Bool} {x y : Option A} (h : u = u') : gdV u b x y = gdV u' b x y:=by rw [h]
theorem znc {x : Xp} {b : Bool} {dst : Option Nat} {op : DOp} {ks : Xs} {r : List TS} : rTS E cP cS cY base (.eff (some (x,b)) dst op ks none :: r) env hp = ob (xv E cP env hp x) fun u=>gdV u b (ob (xvs E cP env hp ks) fun vs=>ob (stepOp E cP cS cY hp.length (gOf vs) hp op) fun p=>rTS E cP cS cY base r (putE env dst p.1) p.2) (rTS E cP cS cY base r (putE env dst .undef) hp):=by
 simp only [rTS,gdT]
 cases xv E cP env hp x with
 | none=>rfl
 | some u=>
  simp only [z7]
  cases u with
  | bool c=>
   simp only [zty]
   by_cases h : c = b
   ·subst h
    simp only [beq_self_eq_true,if_true]
    cases xvs E cP env hp ks with
    | none=>rfl
    | some vs=>simp only [z7]; cases stepOp E cP cS cY hp.length (gOf vs) hp op <;> rfl
   ·have : (c == b) = false:=by simpa using h
    simp only [this,if_neg h]
  | _=>rfl
theorem zo6 {n : Nat} {cs : List D} : frzX hp (n + 1) (.tup cs) = (frzL (frz1 hp n) cs).map .tup:=rfl
theorem zi7 {n : Nat} {cs : List D} : frzX hp (n + 1) (.imm .exact cs) = (frzL (frz hp n) cs).map (.imm .exact):=rfl
theorem zi8 {n : Nat} {cs : List D} : frz1 hp (n + 1) (.imm .exact cs) = (frzL (frz hp n) cs).map (.imm .exact):=rfl
theorem zlf {n : Nat} {cs : List D} : frz1 hp (n + 1) (.imm .none cs) = (frzL (frz hp n) cs).map (.imm .none):=rfl
theorem zob {n : Nat} {k : Go.IntKind} {i : Int} : frz1 hp (n + 1) (.int k i) = some (.int k i):=rfl

theorem zeq {b : Bool} : isMark (.bool b) = false:=rfl
theorem zhs {k : Go.IntKind} {n : Int} : isMark (.int k n) = false:=rfl
theorem zhq {b : List UInt8} : isMark (.str b) = false:=rfl
theorem zht {sp : Spare} {l : List D} : isMark (.imm sp l) = false:=rfl
theorem zkw {a b c d : Nat} {e f : Bool} : isMark (.sl a b c d e f) = false:=rfl
theorem zkx {a : Nat} {l : List D} : isMark (.fn a l) = false:=rfl
theorem zhr {a b : Nat} : isMark (.loc a b) = false:=rfl
theorem zd5 : isMark .undef = false:=rfl
def isU : D -> Bool
 | .undef=>true
 | _=>false
theorem zep : isMark (.tup []) = false:=rfl
theorem zer : isMark (.agg []) = false:=rfl
theorem zkv : isU .undef = true:=rfl
theorem znt {b : Bool} : isU (.bool b) = false:=rfl
theorem zrx {k : Go.IntKind} {n : Int} : isU (.int k n) = false:=rfl
theorem zrv {b : List UInt8} : isU (.str b) = false:=rfl
theorem zry {sp : Spare} {l : List D} : isU (.imm sp l) = false:=rfl
theorem zrz {l : List D} : isU (.agg l) = false:=rfl
theorem ztv {a : Nat} {l : List D} : isU (.fn a l) = false:=rfl
theorem zrw {a b : Nat} : isU (.loc a b) = false:=rfl
theorem ztu {a b c d : Nat} {e f : Bool} : isU (.sl a b c d e f) = false:=rfl
theorem znk {d : D} {h : List Obj} : noMark (some (d,h)) = if isMark d = true then none else some (d,h):=rfl
def markP (d : D) (a b : Prop) : Prop:=if isMark d = true then a else b
theorem z1e {t t' : D} {a b : Prop} (h : t = t') : markP t a b = markP t' a b:=by rw [h]
theorem zqt {Q : Ex -> List D -> List Obj -> Prop} : wT E .dead Q env hp = False:=rfl
theorem zce {f : Opd} {as : List Opd} : stepOp E cP cS cY id g hp (.call 6 f as) = (match g f with | .fn k caps=>if E.mp k = true then cS k (as.map g ++ caps) hp else none | _=>none):=rfl
def nilcD (d : D) : Option D:=match d with
 | .loc i o=>some (.loc i o)
 | .iptr cs=>some (.iptr cs)
 | _=>none
theorem zka {i o : Nat} : nilcD (.loc i o) = some (.loc i o):=rfl
theorem zhc {l : List D} : nilcD (.iptr l) = some (.iptr l):=rfl
def markV (b : Bool) (d : D) : Option D:=match b,d with
 | false,.int .i64 n=>some (.tup [.undef,.int .i64 n])
 | true,.agg [.int .i64 n]=>some (.tup [.undef,.agg [.int .i64 n]])
 | _,_=>none
theorem zkf {n : Int} : markV false (.int .i64 n) = some (.tup [.undef,.int .i64 n]):=rfl
theorem zkg {n : Int} : markV true (.agg [.int .i64 n]) = some (.tup [.undef,.agg [.int .i64 n]]):=rfl
theorem zqd {a : Nat} {x : Xp} : xv E cP env hp (.n (.nilc (.t a)) (.cons a x .nil)) = ob (xv E cP env hp x) fun u=>nilcD u:=by
 simp only [xv,xvs]
 cases xv E cP env hp x with
 | none=>rfl
 | some d=>
  simp only [pureOp,gOf,kv,z7,if_true]
  cases d <;> rfl

end
end Dv

namespace Dv

section
variable {E : Env} {cP : Nat -> List D -> Option D} {cS cY : Nat -> List D -> List Obj -> Option (D × List Obj)} {env : List D} {hp : List Obj} {t t2 id base : Nat} {g : Opd -> D}

theorem z5o {f : Opd} {as : List Opd} : stepOp E cP cS cY id g hp (.mkcall f as) = (match g f with | .fn k caps=>ob (frzL (frz [] depth) (as.map g ++ caps)) (fun vs=>makD cS k vs hp) | _=>none):=by
 simp only [stepOp,DOp.fin,finOp]
 cases g f <;> try rfl
 rename_i k caps
 simp only []
 cases frzL (frz [] depth) (as.map g ++ caps) <;> rfl
theorem zcb {x y : Opd} : stepOp E cP cS cY id g hp (.mkcap t x y) = mkcapD E hp t (g x) (g y):=rfl
theorem z9r {x y : Opd} : stepOp E cP cS cY id g hp (.reslice t x y) = resliceD E hp t (g x) (g y):=rfl
theorem zgr {x : Opd} : stepOp E cP cS cY id g hp (.clr t x) = clrD E hp t (g x):=rfl
theorem zdw {x y : Opd} : stepOp E cP cS cY id g hp (.copy t t2 x y) = copyD E hp t t2 (g x) (g y):=rfl

theorem z9g : ∀ (l : List UInt8),bytesOf (l.map byteD) = some l
 | []=>rfl
 | b :: l=>by
  simp only [List.map_cons,byteD,bytesOf,z9g l]
  have : UInt8.ofNat ((b.toNat : Int)).toNat = b:=by simp
  rw [this]
theorem zbz {sp : Spare} {l : List UInt8} : b2sD E t t2 (.imm sp (l.map byteD)) = (match (E.ty t).k,(E.ty t2).k with | .slice e,.str=>if isByte E e = true then some (.str l) else none | _,_=>none):=by
 unfold b2sD
 cases (E.ty t).k <;> try rfl
 cases (E.ty t2).k <;> try rfl
 simp only [z9g,Option.map_some]
theorem zn9 {s : List UInt8} : s2bD E t t2 (.str s) = (match (E.ty t).k,(E.ty t2).k with | .str,.slice e=>if isByte E e = true then some (.imm .none (s.map byteD)) else none | _,_=>none):=by
 unfold s2bD
 cases (E.ty t).k <;> try rfl
 cases (E.ty t2).k <;> rfl
theorem zt4 {a : Nat} {x : Xp} : xv E cP env hp (.n (.b2s t t2 (.t a)) (.cons a x .nil)) = ob (xv E cP env hp x) fun u=>b2sD E t t2 u:=by
 simp only [xv,xvs]
 cases xv E cP env hp x <;> try rfl
 simp only [pureOp,gOf,kv,if_true,z7]
 exact zu
theorem zt0 {a : Nat} {x : Xp} : xv E cP env hp (.n (.s2b t t2 (.t a)) (.cons a x .nil)) = ob (xv E cP env hp x) fun u=>s2bD E t t2 u:=by
 simp only [xv,xvs]
 cases xv E cP env hp x <;> try rfl
 simp only [pureOp,gOf,kv,if_true,z7]
 exact zu
theorem zmo {a f : Nat} {x : Xp} : xv E cP env hp (.n (.mkbfn f (.t a)) (.cons a x .nil)) = ob (xv E cP env hp x) fun u=>some (.bfn f u):=by
 simp only [xv,xvs]
 cases xv E cP env hp x <;> try rfl
 simp only [pureOp,gOf,kv,if_true,z7]
theorem zi0 {cs : List D} {k : Go.IntKind} {n : Int} {m e : Nat} (h : (E.ty t).k = .arr m e) : iaddrD E t (.iptr cs) (.int k n) = if 0 <= n /\ n < m then some (.iptr (cs.drop (n.toNat * (E.ty e).size))) else none:=by
 simp only [iaddrD,h]
theorem zmd {a b : List UInt8} : binD E .eql t (.str a) (.str b) = some (.bool (a == b)):=rfl
theorem zmc {a b : List UInt8} : binD E .neq t (.str a) (.str b) = some (.bool (!(a == b))):=rfl
theorem zqy {k : Go.IntKind} {n : Int} : unD .xor (.int k n) = some (.int k (xorI k (if k.signed then -1 else k.max) n)):=rfl
theorem zp0 {k k' : Go.IntKind} {a b : Int} : binD E .shl t (.int k a) (.int k' b) = if 0 <= b then some (.int k (k.wrap (a * 2 ^ (min b.toNat k.bits)))) else none:=rfl
theorem zoz {k k' : Go.IntKind} {a b : Int} : binD E .shr t (.int k a) (.int k' b) = if 0 <= b then some (.int k (a.fdiv (2 ^ (min b.toNat k.bits)))) else none:=rfl

def iboxV (d : D) : Option D:=if d.storable = true then some (.iptr d.cellsL) else none
theorem zqg {a : Nat} {x : Xp} : xv E cP env hp (.n (.ibox t (.t a)) (.cons a x .nil)) = ob (xv E cP env hp x) fun u=>iboxV u:=by
 simp only [xv,xvs]
 cases xv E cP env hp x <;> try rfl
 rename_i d
 simp only [pureOp,gOf,kv,if_true,z7,iboxV]
 by_cases hh : d.storable = true
 ·simp only [hh,if_true]
 ·simp only [hh]; rfl
theorem zmp {a : Nat} {x : Xp} : xv E cP env hp (.n (.iload t (.t a)) (.cons a x .nil)) = ob (xv E cP env hp x) fun u=>iloadD E t u:=by
 simp only [xv,xvs]
 cases xv E cP env hp x <;> try rfl
 simp only [pureOp,gOf,kv,if_true,z7]
 exact zu
theorem z1r {cs : List D} : iloadD E t (.iptr cs) = ob (takeC cs 0 (E.ty t).size) fun r=>ofCells (E.ty t).ag r:=rfl

end
end Dv

namespace Dv

structure Cell where
 airport : Bool
 index : Int
 minute : Int
deriving DecidableEq

structure Use where
 cell : Cell
 places : Int

structure Choice where
 delay : Int
 cost : Int
 changes : Int
 uses : List Use

structure Var where
 a : Int
 b : Int
 leaves : List Int
 choices : List Choice

structure Prob where
 cells : List Cell
 capacity : List (List Int)
 vars : List Var

abbrev dI (n : Int) : D:=.int .i64 n
abbrev dCell (c : Cell) : D:=.agg [.bool c.airport,dI c.index,dI c.minute]
abbrev dUse (u : Use) : D:=.agg [.bool u.cell.airport,dI u.cell.index,dI u.cell.minute,dI u.places]
abbrev dInts (l : List Int) : D:=.imm .none (l.map dI)
abbrev dChoice (c : Choice) : D:=.agg [dI c.delay,dI c.cost,dI c.changes,.imm .none (c.uses.map dUse)]
abbrev dVar (v : Var) : D:=.agg [dI v.a,dI v.b,dInts v.leaves,.imm .none (v.choices.map dChoice)]
abbrev dProb (p : Prob) : D:=.agg [.imm .none (p.cells.map dCell),.imm .none (p.capacity.map dInts),.imm .none (p.vars.map dVar)]

def i64 (n : Int) : Prop:=-9223372036854775808 <= n /\ n <= 9223372036854775807

theorem zt8 {n : Int} (h : (Go.Lit.int .i64 n).wf = true) : i64 n:=by
 simp [Go.Lit.wf] at h
 obtain ⟨h1,h2⟩:=h
 have e1 : Go.IntKind.i64.min = -9223372036854775808:=by decide
 have e2 : Go.IntKind.i64.max = 9223372036854775807:=by decide
 first
  | exact ⟨by omega,by omega⟩
  | (rw [e1] at h1; exact ⟨h1,by first | exact h2 | (rw [e2] at h2; exact h2)⟩)

theorem zei {A : Type} {f : A -> D} {R : A -> Prop} : ∀ {els : List D},(∀ x,x ∈ els -> ∃ a,x = f a /\ R a) -> ∃ l : List A,els = l.map f /\ ∀ a,a ∈ l -> R a
 | [],_=>⟨[],rfl,fun a h=>by cases h⟩
 | x :: els,h=>by
  obtain ⟨a,h1,h2⟩:=h x (by simp)
  obtain ⟨l,h3,h4⟩:=zei (els:=els) fun y hy=>h y (by simp [hy])
  exact ⟨a :: l,by simp [h1,h3],fun b hb=>by
   rcases List.mem_cons.1 hb with rfl | hb
   ·exact h2
   ·exact h4 b hb⟩

end Dv

namespace Dv

theorem z6x {c : Nat} {ds : List D} (h : DTc E c ds) (hk : (E.ty c).k = .int .i64) : ∃ n,ds = [dI n] /\ i64 n:=by
 cases h with
 | int h hw=>rw [hk] at h; cases h; exact ⟨_,rfl,zt8 hw⟩
 | bool h=>rw [hk] at h; cases h
 | str h=>rw [hk] at h; cases h
 | slice h _ _ _=>rw [hk] at h; cases h
 | struct h _ _=>rw [hk] at h; cases h
 | arr h _ _=>rw [hk] at h; cases h

theorem zff {c e : Nat} {ds : List D} (h : DTc E c ds) (hk : (E.ty c).k = .slice e) : ∃ els,ds = [.imm .none els] /\ els.length <= Go.maxLen /\ ∀ x,x ∈ els -> Typed E e x:=by
 cases h with
 | slice h hl he ho=>rw [hk] at h; cases h; exact ⟨_,rfl,hl,fun x hx=>⟨he x hx,ho x hx⟩⟩
 | bool h=>rw [hk] at h; cases h
 | int h hw=>rw [hk] at h; cases h
 | str h=>rw [hk] at h; cases h
 | struct h _ _=>rw [hk] at h; cases h
 | arr h _ _=>rw [hk] at h; cases h

theorem z5l {c : Nat} {fs : List (Nat × Nat)} {ds : List D} (h : DTc E c ds) (hk : (E.ty c).k = .struct fs) : ds.length = (E.ty c).size /\ ∀ (i : Nat) p,fs[i]? = some p -> DTc E p.2 ((ds.drop p.1).take (E.ty p.2).size):=by
 cases h with
 | struct h hl hf=>rw [hk] at h; cases h; exact ⟨hl,hf⟩
 | bool h=>rw [hk] at h; cases h
 | int h hw=>rw [hk] at h; cases h
 | str h=>rw [hk] at h; cases h
 | slice h _ _ _=>rw [hk] at h; cases h
 | arr h _ _=>rw [hk] at h; cases h

end Dv

namespace Dv

theorem three {ds : List D} (h : ds.length = 3) : ∃ a b c,ds = [a,b,c]:=by
 match ds,h with
 | [a,b,c],_=>exact ⟨a,b,c,rfl⟩

theorem z83 {c : Nat} {x : D} (h : Typed E c x) (ha : (E.ty c).ag = true) : ∃ ds,x = .agg ds /\ DTc E c ds:=by
 obtain ⟨h1,h2⟩:=h
 rw [ha] at h2
 simp [ofCells] at h2
 exact ⟨x.cellsL,h2.symm,h1⟩

theorem zc5 {c : Nat} {x : D} (h : Typed E c x) (ha : (E.ty c).ag = false) : DTc E c [x]:=by
 obtain ⟨h1,h2⟩:=h
 rw [ha] at h2
 cases hx : x.cellsL with
 | nil=>rw [hx] at h2; simp [ofCells] at h2
 | cons y r=>
  rw [hx] at h1 h2
  cases r with
  | nil=>simp [ofCells] at h2; subst h2; exact h1
  | cons _ _=>simp [ofCells] at h2

end Dv

namespace Dv

theorem za {n : Int} (h : i64 n) : Go.IntKind.i64.wrap n = n:=Go.IntWalk.i64_in n h

theorem zl {i n : Nat} (h : i < n) (hn : n <= 1000000000000) : Go.IntKind.i64.wrap ((i : Int) + 1) = (i : Int) + 1:=za ⟨by omega,by omega⟩

theorem z6c {A : Type} {l : List A} {i : Nat} (h : i < l.length) : l.drop i = l[i] :: l.drop (i + 1):=List.drop_eq_getElem_cons h

section
variable {hp : List Obj}

theorem zo4 {n : Nat} {b : Bool} : frz hp (n + 1) (.bool b) = some (.bool b):=rfl
theorem z5c {n : Nat} {k : Go.IntKind} {x : Int} : frz hp (n + 1) (.int k x) = some (.int k x):=rfl
theorem z4i {n : Nat} {sp : Spare} {els : List D} : frz hp (n + 1) (.imm sp els) = (frzL (frz hp n) els).map (.imm .none):=rfl
theorem z6p {n : Nat} {els : List D} : frz hp (n + 1) (.agg els) = (frzL (frz hp n) els).map .agg:=rfl
theorem zs3 {n : Nat} {els : List D} : frz hp (n + 1) (.tup els) = (frzL (frz hp n) els).map .tup:=rfl
theorem zu0 {n : Nat} {f : Nat} {els : List D} : frz hp (n + 1) (.fn f els) = (frzL (frz hp n) els).map (.fn f):=rfl
theorem zo3 {n : Nat} {els : List D} : frz hp (n + 1) (.iptr els) = (frzL (frz hp n) els).map .iptr:=rfl
theorem z6a {f : D -> Option D} : frzL f [] = some []:=rfl
theorem z3f {f : D -> Option D} {d : D} {r : List D} : frzL f (d :: r) = ob (f d) fun d=>ob (frzL f r) fun r=>some (d :: r):=by
 simp only [frzL]
 cases f d with
 | none=>rfl
 | some d=>simp only [z7]; cases frzL f r <;> rfl
theorem z13 {A : Type} {f : D -> Option D} {g : A -> D} : ∀ {l : List A},(∀ x,x ∈ l -> f (g x) = some (g x)) -> frzL f (l.map g) = some (l.map g)
 | [],_=>rfl
 | x :: l,h=>by
  simp only [List.map_cons,z3f,h x (by simp),z7,z13 (l:=l) fun y hy=>h y (by simp [hy])]

theorem zeu {n : Nat} {l : List Int} : frzL (frz hp (n + 1)) (l.map dI) = some (l.map dI):=z13 fun x _=>z5c
theorem zld {n : Nat} {l : List Cell} : frzL (frz hp (n + 2)) (l.map dCell) = some (l.map dCell):=z13 fun x _=>rfl
theorem zg2 {n : Nat} {l : List Use} : frzL (frz hp (n + 2)) (l.map dUse) = some (l.map dUse):=z13 fun x _=>rfl
theorem zlc {n : Nat} {l : List (List Int)} : frzL (frz hp (n + 2)) (l.map dInts) = some (l.map dInts):=z13 fun x _=>by
 rw [z4i,zeu]; rfl
theorem z91 {n : Nat} {l : List Choice} : frzL (frz hp (n + 4)) (l.map dChoice) = some (l.map dChoice):=z13 fun x _=>by
 rw [z6p]
 simp only [z3f,z5c,z7,z4i,zg2,Option.map_some,z6a]
theorem zo8 {n : Nat} {l : List Var} : frzL (frz hp (n + 6)) (l.map dVar) = some (l.map dVar):=z13 fun x _=>by
 rw [z6p]
 simp only [z3f,z5c,z7,z4i,zeu,z91,Option.map_some,z6a]

end

theorem zlk {l : List Int} : flat (l.map dI) = l.map dI:=by
 induction l with
 | nil=>rfl
 | cons x r ih=>simp only [List.map_cons,flat,List.flatMap_cons] at ih ⊢; rw [ih]; rfl
theorem zod {n : Nat} {x : Int} : flat (List.replicate n (.int .i64 x)) = (List.replicate n x).map dI:=by
 have:=zlk (l:=List.replicate n x)
 rw [List.map_replicate] at this
 rw [List.map_replicate]; exact this
theorem zgh : ∀ {l : List Int},chunk 1 false l.length (l.map dI) = some (l.map dI)
 | []=>rfl
 | x :: r=>by
  simp only [List.length_cons,List.map_cons,chunk,takeC,List.getElem?_cons_zero,ofCells,List.drop_succ_cons,List.drop_zero,zgh]

theorem zov {cP : Nat -> List D -> Option D} {k : Nat} {caps args : List D} : callV cP (.fn k caps) args = ob (frzL (frz [] depth) (args ++ caps)) fun vs=>cP k vs:=by
 simp only [callV]
 cases frzL (frz [] depth) (args ++ caps) <;> rfl

end Dv
