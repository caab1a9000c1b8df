/- Texts that a proof of this claim uses, joined: Dv.OpLink, Dv.Exec, Dv.Exec2, Dv.Calls, Dv.Step, Dv.Draw1, Dv.Draw2, Dv.Draw3, Dv.Draw4, Dv.Asg, Dv.Asg2, Dv.Asg3, Dv.Asg4, Dv.Sim, Dv.Sim2, Dv.Sim3. -/
import Derived.Test.YtejanbpdkinjfaaDoorDva
set_option linter.all false
set_option maxHeartbeats 16000000
namespace Dv
open Go (Value Program World Act Oper Operand Code)

inductive OpLink (T F : Phi) : Go.Op -> DOp -> Prop
 | move {x y} (h : stripOpd F x = some y) : OpLink T F (.move x) (.move y)
 | assign {x y} (h : stripOpd F x = some y) : OpLink T F (.assign x) (.assign y)
 | pick {c a b c' a' b'} (h1 : stripOpd F c = some c') (h2 : stripOpd F a = some a') (h3 : stripOpd F b = some b') : OpLink T F (.pick c a b) (.pick c' a' b')
 | alloc {t t'} (h : T t = some t') : OpLink T F (.alloc t) (.alloc t')
 | box {t t' x x'} (h : T t = some t') (h1 : stripOpd F x = some x') : OpLink T F (.box t x) (.box t' x')
 | build {t t' ps ps'} (h : T t = some t') (h1 : stripP F (Array.toList ps) = some ps') : OpLink T F (.build t ps) (.build t' ps')
 | bslice {t t' ps ps' len mu} (h : T t = some t') (h1 : stripP F (Array.toList ps) = some ps') : OpLink T F (.buildSlice t len ps) (.bslice mu t' len ps')
 | load {t t' x x'} (h : T t = some t') (h1 : stripOpd F x = some x') : OpLink T F (.load t x) (.load t' x')
 | store {t t' a a' x x'} (h : T t = some t') (h1 : stripOpd F a = some a') (h2 : stripOpd F x = some x') : OpLink T F (.store t a x) (.store t' a' x')
 | bin {op t t' u x x' y y'} (h : T t = some t') (h1 : stripOpd F x = some x') (h2 : stripOpd F y = some y') : OpLink T F (.binOp op t x y u) (.bin op t' x' y')
 | un {op t x x'} (h1 : stripOpd F x = some x') : OpLink T F (.unOp op t x) (.un op x')
 | conv {s s' d d' x x'} (h : T s = some s') (h' : T d = some d') (h1 : stripOpd F x = some x') : OpLink T F (.convert s d x) (.conv s' d' x')
 | mkfn {f f' caps caps'} (h : F f = some f') (h1 : stripL F (Array.toList caps) = some caps') : OpLink T F (.makeFunc (.func f) #[] caps) (.mkfn f' caps')
 | mkmap {t t'} (h : T t = some t') : OpLink T F (.makeMap t none) (.mkmap t')
 | mkslice {t t' l l' c c' mu} (h : T t = some t') (h1 : stripOpd F l = some l') (h2 : stripOpd F c = some c') : OpLink T F (.makeSlice t l c) (.mkslice mu t' l' c')
 | slice {t t' x x' lo lo' hi hi' mx mx'} (h : T t = some t') (h0 : Option.isSome mx = true -> Option.isSome hi = true) (h1 : stripOpd F x = some x') (h2 : stripO F lo = some lo') (h3 : stripO F hi = some hi') (h4 : stripO F mx = some mx') : OpLink T F (.slice t x lo hi mx) (.slice t' x' lo' hi' mx')
 | faddr {t t' x x' f} (h : T t = some t') (h1 : stripOpd F x = some x') : OpLink T F (.fieldAddr t x f) (.faddr t' x' f)
 | field {t t' x x' f} (h : T t = some t') (h1 : stripOpd F x = some x') : OpLink T F (.field t x f) (.field t' x' f)
 | iaddr {t t' x x' i i'} (h : T t = some t') (h1 : stripOpd F x = some x') (h2 : stripOpd F i = some i') : OpLink T F (.indexAddr t x i) (.iaddr t' x' i')
 | index {t t' x x' i i'} (h : T t = some t') (h1 : stripOpd F x = some x') (h2 : stripOpd F i = some i') : OpLink T F (.index t x i) (.index t' x' i')
 | lookup {t t' m m' k k' ok} (h : T t = some t') (h1 : stripOpd F m = some m') (h2 : stripOpd F k = some k') : OpLink T F (.lookup t m k ok) (.lookup t' m' k' ok)
 | mapset {t t' m m' k k' v v'} (h : T t = some t') (h1 : stripOpd F m = some m') (h2 : stripOpd F k = some k') (h3 : stripOpd F v = some v') : OpLink T F (.mapUpdate t m k v) (.mapset t' m' k' v')
 | extract {x x' i} (h1 : stripOpd F x = some x') : OpLink T F (.extract x i) (.extract x' i)
 | call {f f' args args' at_ md} (hmd : md < 5) (h1 : stripOpd F f = some f') (h2 : stripL F (Array.toList args) = some args') : OpLink T F (.call { callee:=.value f,args,argTypes:=at_ }) (.call md f' args')
 | append {t t' t2 t2' x x' y y' md} (h : T t = some t') (h' : T t2 = some t2') (h1 : stripOpd F x = some x') (h2 : stripOpd F y = some y') : OpLink T F (.call { callee:=.builtin .append,args:=#[x,y],argTypes:=#[t,t2] }) (.append md t' t2' x' y')
 | nilc {x x'} (h1 : stripOpd F x = some x') : OpLink T F (.nilCheck x) (.nilc x')
 | len {t t' x x'} (h : T t = some t') (h1 : stripOpd F x = some x') : OpLink T F (.call { callee:=.builtin .len,args:=#[x],argTypes:=#[t] }) (.len t' x')
 | maxi {args args' at_} (h2 : stripL F (Array.toList args) = some args') : OpLink T F (.call { callee:=.builtin .max,args,argTypes:=at_ }) (.maxi args')
 | mini {args args' at_} (h2 : stripL F (Array.toList args) = some args') : OpLink T F (.call { callee:=.builtin .min,args,argTypes:=at_ }) (.mini args')
 | mkcall {f f' args args' at_} (h1 : stripOpd F f = some f') (h2 : stripL F (Array.toList args) = some args') : OpLink T F (.call { callee:=.value f,args,argTypes:=at_ }) (.mkcall f' args')
 | ibox {t t' x x'} (h : T t = some t') (h1 : stripOpd F x = some x') : OpLink T F (.box t x) (.ibox t' x')
 | iload {t t' x x'} (h : T t = some t') (h1 : stripOpd F x = some x') : OpLink T F (.load t x) (.iload t' x')
 | mkbfn {f f' x x'} (h : F f = some f') (h1 : stripOpd F x = some x') : OpLink T F (.makeFunc (.func f) #[x] #[]) (.mkbfn f' x')
 | b2s {s s' d d' x x'} (h : T s = some s') (h' : T d = some d') (h1 : stripOpd F x = some x') : OpLink T F (.convert s d x) (.b2s s' d' x')
 | s2b {s s' d d' x x'} (h : T s = some s') (h' : T d = some d') (h1 : stripOpd F x = some x') : OpLink T F (.convert s d x) (.s2b s' d' x')
 | mkcap {t t' l l' c c'} (h : T t = some t') (h1 : stripOpd F l = some l') (h2 : stripOpd F c = some c') : OpLink T F (.makeSlice t l c) (.mkcap t' l' c')
 | reslice {t t' x x' hi hi'} (h : T t = some t') (h1 : stripOpd F x = some x') (h2 : stripOpd F hi = some hi') : OpLink T F (.slice t x none (some hi) none) (.reslice t' x' hi')
 | clr {t t' x x'} (h : T t = some t') (h1 : stripOpd F x = some x') : OpLink T F (.call { callee:=.builtin .clear,args:=#[x],argTypes:=#[t] }) (.clr t' x')
 | copy {t t' t2 t2' x x' y y'} (h : T t = some t') (h' : T t2 = some t2') (h1 : stripOpd F x = some x') (h2 : stripOpd F y = some y') : OpLink T F (.call { callee:=.builtin .copy,args:=#[x,y],argTypes:=#[t,t2] }) (.copy t' t2' x' y')

theorem z30 {α β : Type} {a : Option α} {f : α -> β} {r : β} (h : o1 a f = some r) : ∃ x,a = some x /\ f x = r:=by simpa [o1] using h
theorem z2l {α β γ : Type} {a : Option α} {b : Option β} {f : α -> β -> γ} {r : γ} (h : o2 a b f = some r) : ∃ x y,a = some x /\ b = some y /\ f x y = r:=by
 unfold o2 at h; split at h
 ·simp at h; exact ⟨_,_,rfl,rfl,h⟩
 ·simp at h
theorem z3i {α β γ δ : Type} {a : Option α} {b : Option β} {c : Option γ} {f : α -> β -> γ -> δ} {r : δ} (h : o3 a b c f = some r) : ∃ x y z,a = some x /\ b = some y /\ c = some z /\ f x y z = r:=by
 unfold o3 at h; split at h
 ·simp at h; exact ⟨_,_,_,rfl,rfl,rfl,h⟩
 ·simp at h
theorem zec {α β γ δ ε : Type} {a : Option α} {b : Option β} {c : Option γ} {d : Option δ} {f : α -> β -> γ -> δ -> ε} {r : ε} (h : o4 a b c d f = some r) : ∃ x y z u,a = some x /\ b = some y /\ c = some z /\ d = some u /\ f x y z u = r:=by
 unfold o4 at h; split at h
 ·simp at h; exact ⟨_,_,_,_,rfl,rfl,rfl,rfl,h⟩
 ·simp at h

theorem z2n {α : Type} {a : Array α} {x y : α} (h : a.toList = [x,y]) : a = #[x,y]:=by
 cases a with | mk l=>simp at h; subst h; rfl
theorem z20 {α : Type} {a : Array α} {x : α} (h : a.toList = [x]) : a = #[x]:=by
 cases a with | mk l=>simp at h; subst h; rfl
theorem zbg {α : Type} {a : Array α} (h : a.toList = []) : a = #[]:=by
 cases a with | mk l=>simp at h; subst h; rfl
theorem zee {α : Type} {a : Array α} (h : a.size = 0) : a = #[]:=Array.eq_empty_of_size_eq_zero h

theorem zc8 {F : Phi} {x : Option Operand} (h : stripO F x = some none) : x = none:=by
 cases x with
 | none=>rfl
 | some x=>simp [stripO] at h
theorem zji {F : Phi} {x : Option Operand} {y : Opd} (h : stripO F x = some (some y)) : ∃ z,x = some z /\ stripOpd F z = some y:=by
 cases x with
 | none=>simp [stripO] at h
 | some x=>
  simp only [stripO,Option.map_eq_some_iff] at h
  obtain ⟨z,h1,h2⟩:=h
  simp at h2; subst h2
  exact ⟨x,rfl,h1⟩

theorem opLink {T F : Phi} {o : Go.Op} {d : DOp} (h : stripOp T F o = some (eraseOp d)) : OpLink T F o d:=by
 unfold stripOp at h
 split at h
 ·obtain ⟨y,h1,e⟩:=z30 h; cases d <;> simp [eraseOp] at e; subst e; exact .move h1
 ·obtain ⟨y,h1,e⟩:=z30 h; cases d <;> simp [eraseOp] at e; subst e; exact .assign h1
 ·obtain ⟨x,y,z,h1,h2,h3,e⟩:=z3i h; cases d <;> simp [eraseOp] at e; obtain ⟨rfl,rfl,rfl⟩:=e; exact .pick h1 h2 h3
 ·obtain ⟨y,h1,e⟩:=z30 h; cases d <;> simp [eraseOp] at e; subst e; exact .alloc h1
 ·obtain ⟨x,y,h1,h2,e⟩:=z2l h; cases d <;> simp [eraseOp] at e <;> obtain ⟨rfl,rfl⟩:=e
  ·exact .box h1 h2
  ·exact .ibox h1 h2
 ·obtain ⟨x,y,h1,h2,e⟩:=z2l h; cases d <;> simp [eraseOp] at e; obtain ⟨rfl,rfl⟩:=e; exact .build h1 h2
 ·obtain ⟨x,y,h1,h2,e⟩:=z2l h; cases d <;> simp [eraseOp] at e; obtain ⟨rfl,rfl,rfl⟩:=e; exact .bslice h1 h2
 ·obtain ⟨x,y,h1,h2,e⟩:=z2l h; cases d <;> simp [eraseOp] at e <;> obtain ⟨rfl,rfl⟩:=e
  ·exact .load h1 h2
  ·exact .iload h1 h2
 ·obtain ⟨x,y,z,h1,h2,h3,e⟩:=z3i h; cases d <;> simp [eraseOp] at e; obtain ⟨rfl,rfl,rfl⟩:=e; exact .store h1 h2 h3
 ·obtain ⟨x,y,z,h1,h2,h3,e⟩:=z3i h; cases d <;> simp [eraseOp] at e; obtain ⟨rfl,rfl,rfl,rfl⟩:=e; exact .bin h1 h2 h3
 ·obtain ⟨y,h1,e⟩:=z30 h; cases d <;> simp [eraseOp] at e; obtain ⟨rfl,rfl⟩:=e; exact .un h1
 ·obtain ⟨x,y,z,h1,h2,h3,e⟩:=z3i h; cases d <;> simp [eraseOp] at e <;> obtain ⟨rfl,rfl,rfl⟩:=e
  ·exact .conv h1 h2 h3
  ·exact .b2s h1 h2 h3
  ·exact .s2b h1 h2 h3
 ·split at h
  ·rename_i hsz
   rw [zee hsz]
   obtain ⟨x,y,h1,h2,e⟩:=z2l h; cases d <;> simp [eraseOp] at e; obtain ⟨rfl,rfl⟩:=e; exact .mkfn h1 h2
  ·split at h
   ·rename_i e1 e2
    rw [z20 e1,zbg e2]
    obtain ⟨x,y,h1,h2,e⟩:=z2l h; cases d <;> simp [eraseOp] at e; obtain ⟨rfl,rfl⟩:=e; exact .mkbfn h1 h2
   ·simp at h
 ·obtain ⟨y,h1,e⟩:=z30 h; cases d <;> simp [eraseOp] at e; subst e; exact .mkmap h1
 ·obtain ⟨x,y,z,h1,h2,h3,e⟩:=z3i h; cases d <;> simp [eraseOp] at e <;> obtain ⟨rfl,rfl,rfl⟩:=e
  ·exact .mkslice h1 h2 h3
  ·exact .mkcap h1 h2 h3
 ·split at h
  ·simp at h
  ·rename_i hno
   split at h
   ·rename_i h1 h2 h3 h4 h5
    simp only [Option.some.injEq] at h
    cases d <;> simp [eraseOp] at h
    ·obtain ⟨rfl,rfl,rfl,rfl,rfl⟩:=h
     exact .slice h1 (fun hm=>by cases hh : Option.isSome _ <;> simp_all) h2 h3 h4 h5
    ·obtain ⟨rfl,rfl,rfl,rfl,rfl⟩:=h
     have e3:=zc8 h3
     obtain ⟨hi,rfl,e4⟩:=zji h4
     have e5:=zc8 h5
     subst e3 e5
     exact .reslice h1 h2 e4
   ·simp at h
 ·obtain ⟨x,y,h1,h2,e⟩:=z2l h; cases d <;> simp [eraseOp] at e; obtain ⟨rfl,rfl,rfl⟩:=e; exact .faddr h1 h2
 ·obtain ⟨x,y,h1,h2,e⟩:=z2l h; cases d <;> simp [eraseOp] at e; obtain ⟨rfl,rfl,rfl⟩:=e; exact .field h1 h2
 ·obtain ⟨x,y,z,h1,h2,h3,e⟩:=z3i h; cases d <;> simp [eraseOp] at e; obtain ⟨rfl,rfl,rfl⟩:=e; exact .iaddr h1 h2 h3
 ·obtain ⟨x,y,z,h1,h2,h3,e⟩:=z3i h; cases d <;> simp [eraseOp] at e; obtain ⟨rfl,rfl,rfl⟩:=e; exact .index h1 h2 h3
 ·obtain ⟨x,y,z,h1,h2,h3,e⟩:=z3i h; cases d <;> simp [eraseOp] at e; obtain ⟨rfl,rfl,rfl,rfl⟩:=e; exact .lookup h1 h2 h3
 ·obtain ⟨x,y,z,u,h1,h2,h3,h4,e⟩:=zec h; cases d <;> simp [eraseOp] at e; obtain ⟨rfl,rfl,rfl,rfl⟩:=e; exact .mapset h1 h2 h3 h4
 ·obtain ⟨y,h1,e⟩:=z30 h; cases d <;> simp [eraseOp] at e; obtain ⟨rfl,rfl⟩:=e; exact .extract h1
 ·obtain ⟨y,h1,e⟩:=z30 h; cases d <;> simp [eraseOp] at e; subst e; exact .nilc h1
 ·obtain ⟨x,y,h1,h2,e⟩:=z2l h; cases d <;> simp [eraseOp] at e
  ·obtain ⟨e0,rfl,rfl⟩:=e; exact .call (Nat.lt_of_not_le fun hh=>by have:=e0 hh; omega) h1 h2
  ·obtain ⟨rfl,rfl⟩:=e; exact .mkcall h1 h2
 ·split at h
  ·rename_i e1 e2
   rw [z2n e1,z2n e2]
   obtain ⟨x,y,z,u,h1,h2,h3,h4,e⟩:=zec h; cases d <;> simp [eraseOp] at e; obtain ⟨rfl,rfl,rfl,rfl⟩:=e; exact .append h1 h2 h3 h4
  ·simp at h
 ·split at h
  ·rename_i e1 e2
   rw [z20 e1,z20 e2]
   obtain ⟨x,y,h1,h2,e⟩:=z2l h; cases d <;> simp [eraseOp] at e; obtain ⟨rfl,rfl⟩:=e; exact .len h1 h2
  ·simp at h
 ·obtain ⟨y,h1,e⟩:=z30 h; cases d <;> simp [eraseOp] at e; subst e; exact .maxi h1
 ·obtain ⟨y,h1,e⟩:=z30 h; cases d <;> simp [eraseOp] at e; subst e; exact .mini h1
 ·split at h
  ·rename_i e1 e2
   rw [z2n e1,z2n e2]
   obtain ⟨x,y,z,u,h1,h2,h3,h4,e⟩:=zec h; cases d <;> simp [eraseOp] at e; obtain ⟨rfl,rfl,rfl,rfl⟩:=e; exact .copy h1 h2 h3 h4
  ·simp at h
 ·split at h
  ·rename_i e1 e2
   rw [z20 e1,z20 e2]
   obtain ⟨x,y,h1,h2,e⟩:=z2l h; cases d <;> simp [eraseOp] at e; obtain ⟨rfl,rfl⟩:=e; exact .clr h1 h2
  ·simp at h
 ·simp at h

end Dv

namespace Dv
open Go (Value Program World Act Oper Operand Code)

section
variable {P : Program} {E : Env} {CL : CLink} {F : Phi} {T : Phi} {B : Nat} {K : Nat -> Prop} {ρ : Rho} {H : HS} {os : List Obj} {w : World} {a : Act} {sl : List D}

theorem zr {id : Nat} (f : Free ρ os id) (hne : ∀ i,K i -> i ≠ id) (ef : Ef) : LiveIn os (applyEf os id ef) K:=by
 unfold applyEf
 split
 ·exact .refl
 ·exact .add f hne
 ·exact .kill _
 ·exact .trans (.kill _) (.add f.kill hne)

def WentN (CL : CLink) (φ : Phi) (B : Nat) (K : Nat -> Prop) (ρ : Rho) (H : HS) (os : List Obj) (w : World) (r : Go.Result Go.Next) (d : D) (os' : List Obj) : Prop:=
 ∃ v w' ρ' H',r = .ok (.value v) w' /\ PostT CL φ B K ρ H w ρ' H' w' os' /\ Rep φ ρ' H' w'.heap v d

theorem Went.next {s : Go.Sem Value} {d : D} {os' : List Obj} (S : SR CL F B ρ H w.heap os) (hK : LiveIn os os' K) (h : Went CL F B ρ H os w (s.run P w) d os') : WentN CL F B K ρ H os w ((do pure (.value (<- s)) : Go.Sem Go.Next).run P w) d os':=by
 obtain ⟨v,w',ρ',H',e,h1,h2⟩:=h
 exact ⟨v,w',ρ',H',by simp [e],h1.1.toT S hK h1.2,h2⟩

theorem zj {s : Go.Sem Value} {d : D} (S : SR CL F B ρ H w.heap os) (h : ∃ v,s.run P w = .ok v w /\ Rep F ρ H w.heap v d) : WentN CL F B K ρ H os w ((do pure (.value (<- s)) : Go.Sem Go.Next).run P w) d os:=
 Went.next S .refl (Went.of_value S h)

theorem Went.next2 {r : Go.Result Value} {d : D} {os' : List Obj} (S : SR CL F B ρ H w.heap os) (hK : LiveIn os os' K) (h : Went CL F B ρ H os w r d os') : WentN CL F B K ρ H os w (r.andThen fun a w'=>.ok (.value a) w') d os':=by
 obtain ⟨v,w',ρ',H',e,h1,h2⟩:=h
 exact ⟨v,w',ρ',H',by simp [e],h1.1.toT S hK h1.2,h2⟩

theorem z56 {r : Go.Result Value} {d : D} (S : SR CL F B ρ H w.heap os) (h : ∃ v,r = .ok v w /\ Rep F ρ H w.heap v d) : WentN CL F B K ρ H os w (r.andThen fun a w'=>.ok (.value a) w') d os:=
 Went.next2 S .refl (Went.of_value S h)

theorem here {v : Value} {d : D} (S : SR CL F B ρ H w.heap os) (h : Rep F ρ H w.heap v d) : WentN CL F B K ρ H os w ((pure (.value v) : Go.Sem Go.Next).run P w) d os:=
 ⟨v,w,ρ,H,rfl,PostT.refl S,h⟩

theorem zma {c : Value} {t : Bool} (h : Rep F ρ H w.heap c (.bool t)) : (Go.asBool c).run P w = .ok t w:=by
 obtain rfl:=h.boolv; simp [Go.asBool]

theorem z8n (ps : Array (Nat × Operand)) (f : Operand -> Value) : (ps.map fun (i,x)=>(i,f x)) = (ps.toList.map fun p=>(p.1,f p.2)).toArray:=by
 cases ps with | mk l=>simp

theorem zk2 (TA : TAll P E T) {callP : Nat -> List D -> Option D} {id : Nat} {o : Oper} {op : DOp} {ef : Ef} (S : SR CL F B ρ H w.heap os) (f : Free ρ os id) (hne : ∀ i,K i -> i ≠ id) (hs : RepL F ρ H w.heap a.tmps.toList sl)
  (hl : OpLink T F o.op op) (h : pureOp E callP id (getO sl) os op = some ef) (hnc : ∀ md g as,op ≠ .call md g as) : WentN CL F B K ρ H os w ((Go.execOp a.eval o).run P w) ef.d (applyEf os id ef):=by
 unfold Go.execOp
 generalize ho : o.op = oo at hl
 cases hl with
 | move h1=>
  simp only [pureOp,Option.some.injEq] at h; subst h
  exact here S (z6 S.hb hs h1)
 | assign h1=>
  simp only [pureOp,Option.some.injEq] at h; subst h
  exact here S (z6 S.hb hs h1)
 | pick h1 h2 h3=>
  simp only [pureOp] at h
  split at h
  ·rename_i t hc
   simp only [Option.some.injEq] at h; subst h
   have hb:=z6 S.hb hs h1
   rw [hc] at hb
   refine ⟨if t then a.eval _ else a.eval _,w,ρ,H,by simp [zma hb]; rfl,PostT.refl S,?_⟩
   cases t
   ·exact z6 S.hb hs h3
   ·exact z6 S.hb hs h2
  ·simp at h
 | alloc ht=>
  simp only [pureOp] at h
  split at h
  ·rename_i hc
   simp only [Option.some.injEq] at h; subst h
   exact Went.next S (zr f hne _) (zmk (TA _ _ ht) S f hc.1 hc.2.1 hc.2.2)
  ·simp at h
 | box ht h1=>
  simp only [pureOp] at h
  split at h
  ·rename_i hc
   simp only [Option.some.injEq] at h; subst h
   exact Went.next S (zr f hne _) (zsk S f (z6 S.hb hs h1) hc)
  ·simp at h
 | build ht h1=>
  simp only [pureOp] at h
  split at h
  ·rename_i hc
   simp only [Option.map_eq_some_iff] at h
   obtain ⟨d,h2,rfl⟩:=h
   refine zj S ?_
   rw [z8n]
   exact zm9 TA (TA _ _ ht) (zdd S.hb hs h1) hc h2
  ·simp at h
 | bslice ht h1=>
  rename_i t t' ps ps' len mu
  simp only [pureOp] at h
  split at h
  ·rename_i e hk
   split at h
   ·rename_i z hz
    split at h
    ·rename_i hlen
     split at h
     ·rename_i els hf
      have key:=ziw (mu:=mu) TA (TA _ _ ht) hk S f (zdd S.hb hs h1) hz hlen hf
      rw [<- z8n] at key
      split at h
      ·rename_i hm
       simp only [Option.some.injEq] at h; subst h
       exact Went.next S (zr f hne _) (key.1 hm)
      ·simp only [Option.some.injEq] at h; subst h
       exact Went.next S (zr f hne _) key.2
     ·simp at h
    ·simp at h
   ·simp at h
  ·simp at h
 | load ht h1=>
  simp only [pureOp,Option.map_eq_some_iff] at h
  obtain ⟨d,h2,rfl⟩:=h
  exact zj S (z8q S.rr (TA _ _ ht) (z6 S.hb hs h1) h2)
 | store ht h1 h2=>simp [pureOp] at h
 | ibox ht h1=>
  simp only [pureOp] at h
  split at h
  ·rename_i hc
   simp only [Option.some.injEq] at h; subst h
   exact Went.next S (zr f hne _) (znu S (z6 S.hb hs h1) hc)
  ·simp at h
 | iload ht h1=>
  simp only [pureOp,Option.map_eq_some_iff] at h
  obtain ⟨d,h2,rfl⟩:=h
  refine zj S (z8q S.rr (TA _ _ ht) (z6 S.hb hs h1) (d:=d) ?_)
  unfold iloadD at h2
  unfold loadD
  split at h2
  ·rename_i cs hg; rw [hg]; exact h2
  ·simp at h2
 | mkbfn hf h1=>
  rename_i g g' x x'
  simp only [pureOp,Option.some.injEq] at h; subst h
  exact zj S ⟨.func (.func g) #[a.eval x] #[],by simp [Go.Instr.makeFunc],.bfn g g' _ _ hf (z6 S.hb hs h1)⟩
 | b2s ht ht' h1=>
  simp only [pureOp,Option.map_eq_some_iff] at h
  obtain ⟨d,h3,rfl⟩:=h
  exact zj S (zsn (TA _ _ ht) (TA _ _ ht') TA S (z6 S.hb hs h1) h3)
 | s2b ht ht' h1=>
  simp only [pureOp,Option.map_eq_some_iff] at h
  obtain ⟨d,h3,rfl⟩:=h
  exact Went.next S .refl (zrg TA (TA _ _ ht) (TA _ _ ht') S (z6 S.hb hs h1) h3)
 | mkcap ht h1 h2=>simp [pureOp] at h
 | mkcall h1 h2=>simp [pureOp] at h
 | reslice ht h1 h2=>simp [pureOp] at h
 | clr ht h1=>simp [pureOp] at h
 | bin ht h1 h2=>
  simp only [pureOp,Option.map_eq_some_iff] at h
  obtain ⟨d,h3,rfl⟩:=h
  exact zj S (zmb (TA _ _ ht) (z6 S.hb hs h1) (z6 S.hb hs h2) h3)
 | un h1=>
  simp only [pureOp,Option.map_eq_some_iff] at h
  obtain ⟨d,h3,rfl⟩:=h
  exact zj S (zte (z6 S.hb hs h1) h3)
 | conv ht ht' h1=>
  simp only [pureOp,Option.map_eq_some_iff] at h
  obtain ⟨d,h3,rfl⟩:=h
  exact zj S (zot TA (TA _ _ ht) (TA _ _ ht') (z6 S.hb hs h1) h3)
 | mkfn hf h1=>
  rename_i g g' caps caps'
  simp only [pureOp,Option.some.injEq] at h; subst h
  have hr:=z3n S.hb hs h1
  refine zj S ⟨.func (.func g) #[] (caps.map a.eval),by simp [Go.Instr.makeFunc],.fn g g' _ _ hf (by have:=hr.1; simpa using this) (fun j v d hv hd=>hr.2 j v d (by simpa using hv) hd)⟩
 | mkmap ht=>
  simp only [pureOp,Option.some.injEq] at h; subst h
  exact Went.next S (zr f hne _) (zkc S f)
 | mkslice ht h1 h2=>
  rename_i t t' l l' c c' mu
  simp only [pureOp] at h
  split at h
  ·rename_i e kl n kc m hk hgl hgc
   split at h
   ·rename_i z hz
    split at h
    ·rename_i hc
     obtain ⟨hc0,rfl,hc2⟩:=hc
     have e1:=z6 S.hb hs h1
     have e2:=z6 S.hb hs h2
     rw [hgl] at e1; rw [hgc] at e2
     have key:=zef (mu:=mu) (kl:=kl) (kc:=kc) TA (TA _ _ ht) hk S f hz hc0 hc2
     simp only [e1.intv,e2.intv]
     split at h
     ·rename_i hm
      simp only [Option.some.injEq] at h; subst h
      exact Went.next S (zr f hne _) (key.1 hm)
     ·simp only [Option.some.injEq] at h; subst h
      exact Went.next S (zr f hne _) key.2
    ·simp at h
   ·simp at h
  ·simp at h
 | slice ht h0 h1 h2 h3 h4=>
  simp only [pureOp,Option.map_eq_some_iff] at h
  obtain ⟨d,h5,rfl⟩:=h
  refine zj S (zgy TA (TA _ _ ht) (z6 S.hb hs h1) (z96 S.hb hs h2) (z96 S.hb hs h3) (z96 S.hb hs h4) (fun hm=>?_) h5)
  rename_i hi hi' mx mx'
  cases mx with
  | none=>simp [stripO] at h4; subst h4; simp at hm
  | some q=>
   cases hi with
   | none=>simp at h0
   | some r=>
    simp only [stripO,Option.map_eq_some_iff] at h3
    obtain ⟨y,_,rfl⟩:=h3; rfl
 | nilc h1=>
  rename_i ox dx
  have hx:=z6 S.hb hs h1
  simp only [pureOp] at h
  split at h
  ·rename_i i o hg
   rw [hg] at hx
   simp only [Option.some.injEq] at h; subst h
   have hp : ∃ p,a.eval ox = .pointer (some p):=by
    generalize a.eval ox = v at hx
    cases hx; exact ⟨_,rfl⟩
   obtain ⟨p,hp⟩:=hp
   dsimp only
   rw [hp] at hx ⊢
   exact here S hx
  ·rename_i cs hg
   rw [hg] at hx
   simp only [Option.some.injEq] at h; subst h
   have hp : ∃ p,a.eval ox = .pointer (some p):=by
    generalize a.eval ox = v at hx
    cases hx; exact ⟨_,rfl⟩
   obtain ⟨p,hp⟩:=hp
   dsimp only
   rw [hp] at hx ⊢
   exact here S hx
  ·simp at h
 | faddr ht h1=>
  simp only [pureOp,Option.map_eq_some_iff] at h
  obtain ⟨d,h3,rfl⟩:=h
  exact zj S (zic TA (TA _ _ ht) (z6 S.hb hs h1) h3)
 | field ht h1=>
  simp only [pureOp,Option.map_eq_some_iff] at h
  obtain ⟨d,h3,rfl⟩:=h
  exact zj S (zib TA (TA _ _ ht) (z6 S.hb hs h1) h3)
 | iaddr ht h1 h2=>
  simp only [pureOp,Option.map_eq_some_iff] at h
  obtain ⟨d,h3,rfl⟩:=h
  exact zj S (zhx TA (TA _ _ ht) (z6 S.hb hs h1) (z6 S.hb hs h2) h3)
 | index ht h1 h2=>
  simp only [pureOp,Option.map_eq_some_iff] at h
  obtain ⟨d,h3,rfl⟩:=h
  exact zj S (zhv TA (TA _ _ ht) (z6 S.hb hs h1) (z6 S.hb hs h2) h3)
 | lookup ht h1 h2=>
  simp only [pureOp,Option.map_eq_some_iff] at h
  obtain ⟨d,h3,rfl⟩:=h
  exact zj S (zae TA S.rr (TA _ _ ht) (z6 S.hb hs h1) (z6 S.hb hs h2) h3)
 | mapset ht h1 h2 h3=>simp [pureOp] at h
 | extract h1=>
  simp only [pureOp] at h
  split at h
  ·rename_i vs hg
   simp only [Option.map_eq_some_iff] at h
   obtain ⟨d,h3,rfl⟩:=h
   have e1:=z6 S.hb hs h1
   rw [hg] at e1
   obtain ⟨us,hu,hr⟩:=e1.tupL
   obtain ⟨v,hv,hrv⟩:=hr.get h3
   refine zj S ⟨v,?_,hrv⟩
   rw [hu]
   simp [Go.Instr.extract,hv]
  ·simp at h
 | call h1 h2=>exact absurd rfl (hnc _ _ _)
 | append ht ht' h1 h2=>
  rename_i t t' t2 t2' x x' y y' md
  simp only [Go.resolve,Go.Sem.run_bind,Go.Sem.run_pure,Go.Result.andThen_ok,Go.invoke,Go.builtin]
  simp only [pureOp] at h
  split at h
  ·rw [show (#[x,y] : Array Operand).map a.eval = #[a.eval x,a.eval y] from by simp]
   exact Went.next2 S (zr f hne _) (zf9 TA (TA _ _ ht) (TA _ _ ht') S f (z6 S.hb hs h1) (z6 S.hb hs h2) h)
  ·rw [show (#[x,y] : Array Operand).map a.eval = #[a.eval x,a.eval y] from by simp]
   exact Went.next2 S (zr f hne _) (z9m TA (TA _ _ ht) (TA _ _ ht') S f (z6 S.hb hs h1) (z6 S.hb hs h2) h)
  ·simp at h
 | len ht h1=>
  rename_i t t' x x'
  simp only [pureOp,Option.map_eq_some_iff] at h
  obtain ⟨d,h3,rfl⟩:=h
  simp only [Go.resolve,Go.Sem.run_bind,Go.Sem.run_pure,Go.Result.andThen_ok,Go.invoke,Go.builtin]
  rw [show (#[x] : Array Operand).map a.eval = #[a.eval x] from by simp]
  exact z56 S (znp S.rr (TA _ _ ht) (z6 S.hb hs h1) h3)
 | maxi h1=>
  rename_i args args' at_
  simp only [pureOp,Option.map_eq_some_iff] at h
  obtain ⟨d,h3,rfl⟩:=h
  simp only [Go.resolve,Go.Sem.run_bind,Go.Sem.run_pure,Go.Result.andThen_ok,Go.invoke,Go.builtin]
  have : args.map a.eval = (args.toList.map a.eval).toArray:=by cases args; simp
  rw [this]
  exact z56 S (znm (z3n S.hb hs h1) h3)
 | mini h1=>
  rename_i args args' at_
  simp only [pureOp,Option.map_eq_some_iff] at h
  obtain ⟨d,h3,rfl⟩:=h
  simp only [Go.resolve,Go.Sem.run_bind,Go.Sem.run_pure,Go.Result.andThen_ok,Go.invoke,Go.builtin]
  have : args.map a.eval = (args.toList.map a.eval).toArray:=by cases args; simp
  rw [this]
  exact z56 S (znl (z3n S.hb hs h1) h3)
 | copy ht ht' h1 h2=>simp [pureOp] at h

end
end Dv

namespace Dv
open Go (Value Program World Act Oper Operand Code)

section
variable {P : Program} {E : Env} {CL : CLink} {F : Phi} {T : Phi} {B : Nat} {K : Nat -> Prop} {ρ : Rho} {H : HS} {os : List Obj} {w : World} {a : Act} {sl : List D}

theorem z86 {c : Nat} {a x : D} {os' : List Obj} (h : storeD E os c a x = some os') : LiveIn os os' K /\ os'.length = os.length:=by
 unfold storeD at h
 split at h
 ·split at h
  ·rename_i cs ho
   split at h
   ·simp at h; subst h; exact ⟨.set ho rfl,by simp⟩
   ·simp at h
  ·simp at h
 ·simp at h

theorem z7e {c : Nat} {m k v : D} {os' : List Obj} (h : mapsetD E os c m k v = some os') : LiveIn os os' K /\ os'.length = os.length:=by
 unfold mapsetD at h
 split at h
 ·split at h
  ·split at h
   ·rename_i es ho
    simp only [Option.map_eq_some_iff] at h
    obtain ⟨es',_,rfl⟩:=h
    exact ⟨.set ho rfl,by simp⟩
   ·simp at h
  ·simp at h
 ·simp at h

theorem zap {c c2 : Nat} {x y d : D} {os' : List Obj} (h : copyD E os c c2 x y = some (d,os')) : LiveIn os os' K /\ os'.length = os.length:=by
 unfold copyD at h
 split at h
 ·split at h
  ·rename_i cs new ho _
   split at h
   ·simp at h; obtain ⟨_,rfl⟩:=h; exact ⟨.set ho rfl,by simp⟩
   ·simp at h
  ·simp at h
 ·split at h
  ·simp at h; obtain ⟨_,rfl⟩:=h; exact ⟨.refl,rfl⟩
  ·simp at h
 ·simp at h

theorem z7i (hK : ∀ i,K i -> i < os.length) {c c2 : Nat} {x y d : D} {os' : List Obj} (h : appendG E os c c2 x y = some (d,os')) : LiveIn os os' K /\ os.length <= os'.length:=by
 unfold appendG at h
 split at h
 ·split at h
  ·split at h
   ·split at h
    ·simp at h; obtain ⟨_,rfl⟩:=h; exact ⟨.refl,Nat.le_refl _⟩
    ·split at h
     ·simp at h; obtain ⟨_,rfl⟩:=h
      exact ⟨.trans (.kill _) (.push (by simpa using hK)),by simp⟩
     ·split at h
      ·simp at h; obtain ⟨_,rfl⟩:=h
       exact ⟨.trans (.kill _) (.push (by simpa using hK)),by simp⟩
      ·simp at h
   ·simp at h
  ·simp at h
 ·split at h
  ·split at h
   ·simp at h; obtain ⟨_,rfl⟩:=h; exact ⟨.refl,Nat.le_refl _⟩
   ·split at h
    ·simp at h; obtain ⟨_,rfl⟩:=h
     exact ⟨.push hK,by simp⟩
    ·simp at h
  ·simp at h
 ·simp at h

theorem z5t {c : Nat} {x y d : D} {os' : List Obj} (h : resliceD E os c x y = some (d,os')) : os' = os:=by
 unfold resliceD at h
 (repeat' split at h) <;> simp at h
 exact h.2.symm
theorem z8k (hK : ∀ i,K i -> i < os.length) {c : Nat} {x y d : D} {os' : List Obj} (h : mkcapD E os c x y = some (d,os')) : LiveIn os os' K /\ os.length <= os'.length:=by
 unfold mkcapD at h
 (repeat' split at h) <;> simp at h
 obtain ⟨_,rfl⟩:=h
 exact ⟨.push hK,by simp⟩
theorem zdh {c : Nat} {x d : D} {os' : List Obj} (h : clrD E os c x = some (d,os')) : LiveIn os os' K /\ os'.length = os.length:=by
 unfold clrD at h
 split at h
 ·split at h
  ·rename_i cs z ho _
   split at h
   ·simp at h; obtain ⟨_,rfl⟩:=h; exact ⟨.set ho rfl,by simp⟩
   ·simp at h
  ·simp at h
 ·simp at h

def WentS (CL : CLink) (φ : Phi) (B : Nat) (K : Nat -> Prop) (ρ : Rho) (H : HS) (os : List Obj) (w : World) (r : Go.Result Go.Next) (d : D) (os' : List Obj) : Prop:=
 WentN CL φ B K ρ H os w r d os' \/ (d = .undef /\ ∃ w' ρ' H',r = .ok .skip w' /\ PostT CL φ B K ρ H w ρ' H' w' os')

theorem zog (TA : TAll P E T) {callP : Nat -> List D -> Option D} {callS callY : Nat -> List D -> List Obj -> Option (D × List Obj)} {o : Oper} {op : DOp} {d : D} {os' : List Obj} (S : SR CL F B ρ H w.heap os)
  (hK : ∀ i,K i -> i < os.length) (hs : RepL F ρ H w.heap a.tmps.toList sl)
  (hl : OpLink T F o.op op) (h : finOp E callP callS callY (getO sl) os op = some (d,os')) (hfin : op.fin = true) (hnc : ∀ md g as,op ≠ .call md g as) (hnm : ∀ g as,op ≠ .mkcall g as) : WentS CL F B K ρ H os w ((Go.execOp a.eval o).run P w) d os':=by
 unfold Go.execOp
 generalize ho : o.op = oo at hl
 cases hl with
 | store ht h1 h2=>
  simp only [finOp,Option.map_eq_some_iff] at h
  obtain ⟨os1,h3,h4⟩:=h
  simp at h4; obtain ⟨rfl,rfl⟩:=h4
  obtain ⟨w',e,p⟩:=zjj (TA _ _ ht) S (z6 S.hb hs h1) (z6 S.hb hs h2) h3
  exact .inr ⟨rfl,w',ρ,H,by simp [e],p.1.toT S (z86 h3).1 p.2⟩
 | mapset ht h1 h2 h3=>
  simp only [finOp,Option.map_eq_some_iff] at h
  obtain ⟨os1,h4,h5⟩:=h
  simp at h5; obtain ⟨rfl,rfl⟩:=h5
  obtain ⟨w',e,p⟩:=zhf TA (TA _ _ ht) S (z6 S.hb hs h1) (z6 S.hb hs h2) (z6 S.hb hs h3) h4
  exact .inr ⟨rfl,w',ρ,H,by simp [e],p.1.toT S (z7e h4).1 p.2⟩
 | append ht ht' h1 h2=>
  rename_i t t' t2 t2' x x' y y' md
  simp only [Go.resolve,Go.Sem.run_bind,Go.Sem.run_pure,Go.Result.andThen_ok,Go.invoke,Go.builtin]
  simp only [finOp] at h
  rw [show (#[x,y] : Array Operand).map a.eval = #[a.eval x,a.eval y] from by simp]
  exact .inl (Went.next2 S (z7i hK h).1 (zfa TA (TA _ _ ht) (TA _ _ ht') S (z6 S.hb hs h1) (z6 S.hb hs h2) h))
 | copy ht ht' h1 h2=>
  rename_i t t' t2 t2' x x' y y'
  simp only [Go.resolve,Go.Sem.run_bind,Go.Sem.run_pure,Go.Result.andThen_ok,Go.invoke,Go.builtin]
  simp only [finOp] at h
  rw [show (#[x,y] : Array Operand).map a.eval = #[a.eval x,a.eval y] from by simp]
  exact .inl (Went.next2 S (zap h).1 (zos TA (TA _ _ ht) S (z6 S.hb hs h1) (z6 S.hb hs h2) h))
 | mkcap ht h1 h2=>
  simp only [finOp] at h
  exact .inl (Went.next S (z8k hK h).1 (zkd TA (TA _ _ ht) S (z6 S.hb hs h1) (z6 S.hb hs h2) h))
 | reslice ht h1 h2=>
  simp only [finOp] at h
  obtain rfl:=z5t h
  exact .inl (zj S (ze5 TA (TA _ _ ht) S (z6 S.hb hs h1) (z6 S.hb hs h2) h))
 | clr ht h1=>
  rename_i t t' x x'
  simp only [Go.resolve,Go.Sem.run_bind,Go.Sem.run_pure,Go.Result.andThen_ok,Go.invoke,Go.builtin]
  simp only [finOp] at h
  rw [show (#[x] : Array Operand).map a.eval = #[a.eval x] from by simp]
  exact .inl (Went.next2 S (zdh h).1 (zsi TA (TA _ _ ht) S (z6 S.hb hs h1) h))
 | call h1 h2=>exact absurd rfl (hnc _ _ _)
 | mkcall h1 h2=>exact absurd rfl (hnm _ _)
 | _=>simp [DOp.fin] at hfin

end
end Dv

namespace Dv
open Go (Value Program World Act Oper Operand Code Ending Exit)

def Fw (r : Option Nat) : Go.Fence:={ Go.Fence.wide with round:=r }

def ρ0 : Rho:=fun _=>none

section
variable (P : Program) (CL : CLink) (F : Phi)

def PureR (H : HS) (w : World) (d : D) : Ending -> World -> Prop
 | .returned v,w'=>∃ H',Grew H H' w.heap w'.heap /\ (FzAt w.heap w'.heap /\ Still w w') /\ Rep F ρ0 H' w'.heap v d
 | _,_=>False

def StatR (B : Nat) (ρ : Rho) (H : HS) (os : List Obj) (w : World) (d : D) (os' : List Obj) : Ending -> World -> Prop
 | .returned v,w'=>os.length <= os'.length /\ ∃ ρ' H',PostT CL F B (fun i=>i < os.length) ρ H w ρ' H' w' os' /\ Rep F ρ' H' w'.heap v d
 | _,_=>False

def PureAt (call : List D -> Option D) (f : Nat) : Prop:=
 ∀ (r : Option Nat) (H : HS) (w : World) (vals : Array Value) (ds : List D) (d : D),call ds = some d -> HB H w.heap -> RepL F ρ0 H w.heap vals.toList ds ->
  Go.CallsIn (Fw r) 0 P f vals w (PureR F H w d)

def StatAt (run : List D -> List Obj -> Option (D × List Obj)) (f : Nat) : Prop:=
 ∀ (r : Option Nat) (B : Nat) (ρ : Rho) (H : HS) (os os' : List Obj) (w : World) (vals : Array Value) (ds : List D) (d : D),run ds os = some (d,os') -> SR CL F B ρ H w.heap os -> RepL F ρ H w.heap vals.toList ds ->
  Go.CallsIn (Fw r) 0 P f vals w (StatR CL F B ρ H os w d os')

def YieldAt (run : Nat -> List D -> List Obj -> Option (D × List Obj)) : Prop:=
 ∀ (r : Option Nat) (B : Nat) (ρ : Rho) (H : HS) (os os' : List Obj) (w : World) (vals : Array Value) (ds : List D) (d : D) (l b c : Nat),run l ds os = some (d,os') -> SR CL F B ρ H w.heap os -> ρ l = some (.blk b c) -> RepL F ρ H w.heap vals.toList ds ->
  ∃ f tmps assign body,(Go.Instr.yield b vals).run P w = .ok (.round b f tmps assign body) w /\ Go.RoundIn (Fw r) 0 P b f tmps assign body w (StatR CL F B ρ H os w d os')

def FnsOk : Prop:=∀ f f',F f = some f' -> ∃ fn,P.funcs[f]? = some fn /\ fn.body.isNone = false /\ (fn.name == "runtime.NumGoroutine") = false

end

section
variable {P : Program} {E : Env} {CL : CLink} {F : Phi} {T : Phi} {B : Nat} {K : Nat -> Prop} {ρ : Rho} {H : HS} {os : List Obj} {w : World} {a : Act} {sl : List D}

theorem Grew.postT (S : SR CL F B ρ H w.heap os) {H' : HS} {w' : World} (g : Grew H H' w.heap w'.heap) (hf : FzAt w.heap w'.heap) (hst : Still w w') : PostT CL F B K ρ H w ρ H' w' os:=
 ⟨g.ext ρ S.hb,S.grew g,g.size,fun b hb=>g.old b (Nat.lt_of_lt_of_le hb S.hB),fun b ds hd=>by rw [g.old b (z2m hd)]; exact hd,fun b o hh=>by
  rcases g.new b o hh with hh | ⟨hh,_⟩
  ·exact .inl hh
  ·exact .inr (Nat.le_trans S.hB hh),fun _ _ h=>h,hf,hst,fun b hb _=>g.old b hb,rbS,fun b o hh=>(g.new b o hh).elim .inl fun h=>.inr (.inr h.1)⟩

theorem z2r (hrow : ∀ (id b c : Nat) cs,ρ id = some (.blk b c) -> rowOf os id = some cs -> RowAt F ρ H w.heap b c cs) {H' : HS} {ρ' : Rho} (hHH : ∀ b o,H b o -> H' b o) {n : Nat} : ∀ {vs : List Value} {ds ds' : List D},RepL F ρ H w.heap vs ds -> frzL (frz os n) ds = some ds' ->
  (∀ id,id ∈ ds.flatMap (ids os n) -> ∀ cs b c,rowOf os id = some cs -> ρ id = some (.blk b c) -> ∀ j,j < cs.length -> H' b j) -> RepL F ρ' H' w.heap vs ds':=by
 intro vs ds
 induction ds generalizing vs with
 | nil=>
  intro ds' h hf _
  simp [frzL] at hf; subst hf
  have:=h.1; simp at this; subst this; exact .nil
 | cons d ds ih=>
  intro ds' h hf hm
  cases vs with
  | nil=>have:=h.1; simp at this
  | cons v vs=>
   obtain ⟨h1,h2⟩:=h.of_cons
   simp only [frzL] at hf
   split at hf
   ·rename_i d' r' hd hr
    simp at hf; subst hf
    exact .cons (zbm hrow hHH n h1 hd (fun id hid=>hm id (by simp only [List.flatMap_cons,List.mem_append]; exact .inl hid)))
     (ih h2 hr (fun id hid=>hm id (by simp only [List.flatMap_cons,List.mem_append]; exact .inr hid)))
   ·simp at hf

theorem Rep.up {v : Value} {d : D} {H : HS} {hp : Heap} (h : Rep F ρ0 H hp v d) (ρ : Rho) : Rep F ρ H hp v d:=h.mono ⟨fun id bk e=>by simp [ρ0] at e,fun _ _ h=>h,fun _ _ _=>rfl⟩

theorem SR.start {H : HS} {hp : Heap} (h : HB H hp) : SR CL F hp.size ρ0 H hp []:=
 ⟨fun id o h=>by simp at h,fun id bk h=>by simp [ρ0] at h,fun id id' o o' b c c' h=>by simp at h,fun id o b c h=>by simp at h,fun id cs b c o h=>by simp at h,h,Nat.le_refl _⟩

theorem PureAt.of_stat {run : List D -> List Obj -> Option (D × List Obj)} {f : Nat} (k : Bool) (h : StatAt P CL F run f) : PureAt P F (fun ds=>match run ds [] with
  | some (d,hp)=>frzK k hp d
  | none=>none) f:=by
 intro r H w vals ds d hc hb hr
 simp only at hc
 split at hc
 ·rename_i d0 os' hrun
  refine (h r w.heap.size ρ0 H [] os' w vals ds d0 hrun (SR.start hb) hr).mono fun e w' he=>?_
  cases e with
  | returned v=>
   obtain ⟨_,ρ',H',p,hv⟩:=he
   obtain ⟨H2,p2,m2⟩:=z2d (K:=fun i=>i < 0) (ids os' depth d0) p.sr
   refine ⟨H2,⟨p.size,fun b hb=>p.frB b hb,fun b o hh=>p2.ext.hs _ _ (p.ext.hs _ _ hh),fun b o hh=>?_⟩,?_,?_⟩
   ·have hlt:=p2.sr.hb b o hh
    rcases p2.hnew b o hh with h1 | h1
    ·rcases p.hnew b o h1 with h2 | h2
     ·exact .inl h2
     ·exact .inr ⟨h2,hlt⟩
    ·exact .inr ⟨h1,hlt⟩
   ·exact ⟨p.fz,p.still⟩
   ·refine zo9 (fun _ _ _ _ h1 h2=>p.sr.row h1 h2) (fun _ _ h=>p2.ext.hs _ _ h) k hv hc (fun id hid cs b c hro hid2 j hj=>?_)
    unfold rowOf at hro
    split at hro
    ·rename_i cs' ho; simp at hro; subst hro; exact m2 id _ b c hid ho hid2 j hj
    ·rename_i cs' ho
     simp at hro; subst hro
     obtain ⟨bk,r1,b',c',e1,_,hH⟩:=p.sr.dom id _ ho rfl
     rw [hid2] at r1; simp at r1; subst r1; simp at e1; obtain ⟨rfl,rfl⟩:=e1
     exact p2.ext.hs _ _ (hH j hj)
    ·simp at hro
  | panicked c=>exact he
  | outgrown=>exact he
 ·simp at hc

theorem zlj {φ : Phi} {ρ ρ' : Rho} {H H' : HS} {hp hp' : Heap} {v : Value} {d : D} (hc : d.flatB = true) (h : Rep φ ρ H hp v d) : Rep φ ρ' H' hp' v d:=by
 cases h with
 | bool b=>exact .bool b
 | int k n=>exact .int k n
 | str s=>exact .str s
 | _=>simp [D.flatB] at hc
theorem zik {φ : Phi} {ρ ρ' : Rho} {H H' : HS} {hp hp' : Heap} {v : Value} {d : D} (hc : d.closed = true) (h : Rep φ ρ H hp v d) : Rep φ ρ' H' hp' v d:=by
 cases h with
 | bool b=>exact .bool b
 | int k n=>exact .int k n
 | str s=>exact .str s
 | tup vs cs hs hr=>exact .tup vs cs hs fun j v d hv hd=>zlj (by
   simp only [D.closed,List.all_eq_true] at hc
   exact hc d (List.mem_of_getElem? hd)) (hr j v d hv hd)
 | _=>simp [D.closed,D.flatB] at hc

theorem zc4 {r : Option Nat} {o : Oper} {d : D} {os' : List Obj} {next : Act -> World -> Prop} {Q : Exit -> Act -> World -> Prop} (hnd : ∀ c,o.op ≠ .defer c)
  (h : WentS CL F B K ρ H os w ((Go.execOp a.eval o).run P w) d os')
  (hn : ∀ v w' ρ' H',PostT CL F B K ρ H w ρ' H' w' os' -> Rep F ρ' H' w'.heap v d -> next (a.put o.dst v) w') : o.wpIn (Fw r) 0 P a w next Q:=by
 refine ⟨fun f _=>trivial,?_⟩
 rw [Go.Oper.semAt_eq _ _ _ hnd]
 rcases h with ⟨v,w',ρ',H',e,h1,h2⟩ | ⟨rfl,w',ρ',H',e,h1⟩
 ·rw [e]; exact hn v w' ρ' H' h1 h2
 ·rw [e]; exact hn _ w' ρ' H' h1 .u0

theorem OpLink.no_defer {op : Go.Op} {dop : DOp} (h : OpLink T F op dop) : ∀ c,op ≠ .defer c:=by
 intro c e; subst e; cases h

theorem z4n (FO : FnsOk P F) {f f' : Nat} (hf : F f = some f') (args : Array Value) : (Go.callFunc f args).run P w = .ok (.enter f args) w:=by
 obtain ⟨fn,h1,h2,h3⟩:=FO f f' hf
 have h2' : fn.body ≠ none:=by intro e; rw [e] at h2; simp at h2
 have h3' : fn.name ≠ "runtime.NumGoroutine":=by simpa using h3
 simp [Go.callFunc,h1,h2',h3']

def IslR (CL : CLink) (F : Phi) (B : Nat) (K : Nat -> Prop) (ρ : Rho) (H : HS) (w : World) (d : D) (os' : List Obj) : Ending -> World -> Prop
 | .returned v,w'=>∃ H',PostT CL F B K ρ H w ρ H' w' os' /\ Rep F ρ H' w'.heap v d
 | _,_=>False

theorem zhp {callS : Nat -> List D -> List Obj -> Option (D × List Obj)} {r : Option Nat} {f k q : Nat} {d1 x : D} {o1 : Obj} {rest : List D} {vr : Value} {vrest : List Value} {vals : Array Value}
  (hS : StatAt P CL F (fun ds os=>noMark (callS k ds os)) f) (S : SR CL F B ρ H w.heap os) (hx : Rep F ρ H w.heap vr x) (hrest : RepL F ρ H w.heap vrest rest) (hvals : vals.toList = vr :: vrest)
  (h : islD callS k x rest os = some (d1,q,o1)) : Go.CallsIn (Fw r) 0 P f vals w (IslR CL F B K ρ H w d1 (os.set q o1)):=by
 unfold islD at h
 split at h
 case h_2=>simp at h
 rename_i q'
 split at h
 case h_2=>simp at h
 rename_i cs hos
 split at h
 case h_2=>simp at h
 rename_i vs cs1 hvs hcs1
 split at h
 case isFalse=>simp at h
 rename_i hat1
 split at h
 case h_2=>simp at h
 rename_i d hp2 hrun
 split at h
 case h_2=>simp at h
 rename_i cs2 hhead
 split at h
 case isTrue=>simp at h
 rename_i hno
 split at h
 case h_2=>simp at h
 rename_i d1' cs3 hd1 hcs3
 split at h
 case isFalse=>simp at h
 rename_i hat3
 simp only [Option.some.injEq,Prod.mk.injEq] at h
 obtain ⟨rfl,rfl,rfl⟩:=h
 have h20 : hp2[0]? = some (.cells cs2):=by rw [<- List.head?_eq_getElem?]; exact hhead
 obtain ⟨bk,rq,b,c,rfl,hrow⟩:=S.dom q' _ hos rfl
 obtain ⟨arr,el,a1,a2,a3,a4,a5⟩:=hrow
 have hlt:=z2m a1
 have hown:=S.own q' _ b c hos rfl rq
 have noids : ∀ (l : List D) (id : Nat),id ∈ l.flatMap (ids [] depth) -> ∀ (cs : List D) (b c : Nat),rowOf [] id = some cs -> ρ id = some (.blk b c) -> ∀ j,j < cs.length -> H b j:=fun l id _ cs b c h=>by simp [rowOf] at h
 obtain ⟨ρ1,hρ1⟩ : ∃ ρ1 : Rho,ρ1 = fun i=>if i = 0 then some (.blk b c) else none:=⟨_,rfl⟩
 have r0 : ρ1 0 = some (.blk b c):=by rw [hρ1]; simp
 have r1 : ∀ i bk,ρ1 i = some bk -> i = 0 /\ bk = .blk b c:=fun i bk h=>by
  rw [hρ1] at h
  simp only at h
  split at h
  ·rename_i e; exact ⟨e,by simpa using h.symm⟩
  ·cases h
 have hrepL : RepL F ρ H w.heap (arr.toList.take cs.length) cs:=⟨by simp; omega,fun j v d hv hd=>by
  have hj : j < cs.length:=(List.getElem?_eq_some_iff.1 hd).1
  rw [List.getElem?_take,if_pos hj] at hv
  exact a4 j v d (by simpa using hv) hd⟩
 have hrep1 : RepL F ρ1 H w.heap (arr.toList.take cs.length) cs1:=z2r (os:=[]) (fun id b c cs _ h=>by simp [rowOf] at h) (fun _ _ h=>h) hrepL hcs1 (noids _)
 have hl1 : cs1.length = cs.length:=(z11 hcs1).1
 have S1 : SR CL F b ρ1 H w.heap [.cells cs1]:={
  dom:=fun id o ho hl=>by
   match id,ho with
   | 0,ho=>
    simp at ho; subst ho
    refine ⟨_,r0,b,c,rfl,arr,el,a1,a2,by omega,fun j v d hv hd=>?_,fun d hd=>List.all_eq_true.1 hat1 d hd⟩
    have hj : j < cs1.length:=(List.getElem?_eq_some_iff.1 hd).1
    exact hrep1.2 j v d (by rw [List.getElem?_take,if_pos (by omega)]; simpa using hv) hd
   | id + 1,ho=>simp at ho
  lt:=fun id bk h=>by rw [(r1 id bk h).1]; simp
  inj:=fun id id' o o' b' c1 c2 h l h' l' q q'=>by rw [(r1 id _ q).1,(r1 id' _ q').1]
  own:=fun id o b' c' h l q=>by
   have:=(r1 id _ q).2
   simp only [Bk.blk.injEq] at this
   rw [this.1]; exact ⟨Nat.le_refl _,hlt⟩
  mutH:=fun id cs' b' c' o h q=>by
   have:=(r1 id _ q).2
   simp only [Bk.blk.injEq] at this
   rw [this.1]; exact S.mutH q' cs b c o hos rq
  hb:=S.hb
  hB:=Nat.le_of_lt hlt }
 have hargs : RepL F ρ1 H w.heap vals.toList (.loc 0 0 :: vs):=by
  rw [hvals]
  refine .cons ?_ (z2r (os:=[]) (fun id b c cs _ h=>by simp [rowOf] at h) (fun _ _ h=>h) hrest hvs (noids _))
  cases hx with
  | loc b' c' id off h=>
   rw [rq] at h
   simp only [Option.some.injEq,Bk.blk.injEq] at h
   obtain ⟨rfl,rfl⟩:=h
   exact .loc _ _ _ _ r0
 refine (hS r b ρ1 H [.cells cs1] hp2 w vals _ d hrun S1 hargs).mono fun e w' he=>?_
 cases e with
 | panicked c=>exact he.elim
 | outgrown=>exact he.elim
 | returned v=>
 obtain ⟨hlen,ρ2,H2,p,hv⟩:=he
 obtain ⟨H3,p2,m2⟩:=z2d (K:=fun i=>i < 0) (ids hp2 depth d ++ cs2.flatMap (ids hp2 depth)) p.sr
 have held : ∀ id,id ∈ ids hp2 depth d ++ cs2.flatMap (ids hp2 depth) -> ∀ cs b c,rowOf hp2 id = some cs -> ρ2 id = some (.blk b c) -> ∀ j,j < cs.length -> H3 b j:=fun id hid cs b c hro hid2 j hj=>by
  unfold rowOf at hro
  split at hro
  ·rename_i cs' ho; simp at hro; subst hro; exact m2 id _ b c hid ho hid2 j hj
  ·rename_i cs' ho
   simp at hro; subst hro
   obtain ⟨bk,q1,b',c',e1,_,hH⟩:=p.sr.dom id _ ho rfl
   rw [hid2] at q1; simp at q1; subst q1; simp at e1; obtain ⟨rfl,rfl⟩:=e1
   exact p2.ext.hs _ _ (hH j hj)
  ·simp at hro
 have hd : Rep F ρ H3 w'.heap v d1':=by
  have h1 : RepL F ρ H3 w'.heap [v] [d1']:=z2r (w:=w') (os:=hp2) (fun _ _ _ _ h1 h2=>p.sr.row h1 h2) (fun _ _ h=>p2.ext.hs _ _ h) (n:=depth) (.cons hv .nil) (by simp [frzL,hd1]) (fun id hid=>held id (List.mem_append_left _ (by simpa using hid)))
  exact h1.2 0 v d1' rfl rfl
 have r20 : ρ2 0 = some (.blk b c):=p.ext.rho _ _ r0
 obtain ⟨bk,q0,b0,c0,e0,arr2,el2,g1,g2,g3,g4,g5⟩:=p.sr.dom 0 _ h20 rfl
 rw [r20] at q0
 simp only [Option.some.injEq] at q0
 subst q0
 simp only [Bk.blk.injEq] at e0
 obtain ⟨rfl,rfl⟩:=e0
 have hrep3 : RepL F ρ H3 w'.heap (arr2.toList.take cs2.length) cs3:=z2r (w:=w') (os:=hp2) (fun _ _ _ _ h1 h2=>p.sr.row h1 h2) (fun _ _ h=>p2.ext.hs _ _ h) (n:=depth)
  ⟨by simp; omega,fun j v d hv hd=>by
   have hj : j < cs2.length:=(List.getElem?_eq_some_iff.1 hd).1
   rw [List.getElem?_take,if_pos hj] at hv
   exact g4 j v d (by simpa using hv) hd⟩ hcs3 (fun id hid=>held id (List.mem_append_right _ hid))
 have hl3 : cs3.length = cs2.length:=(z11 hcs3).1
 have pp : PostT CL F b (fun i=>i < 0) ρ1 H w ρ2 H3 w' (freezeAll hp2 (ids hp2 depth d ++ cs2.flatMap (ids hp2 depth))):=
  PostT.trans ⟨p.ext,p.sr,p.size,p.frB,p.frD,p.hnew,fun i hi=>absurd hi (by omega),p.fz,p.still,p.frame,p.rb,p.hn⟩ p2
 have fr : ∀ (l : List Nat) (hp : List Obj) o,l.contains 0 = false -> hp[0]? = some o -> (freezeAll hp l)[0]? = some o:=by
  intro l
  induction l with
  | nil=>intro hp o _ h; exact h
  | cons i l ih=>
   intro hp o hc h
   simp only [List.contains_cons,Bool.or_eq_false_iff] at hc
   refine ih (freeze1 hp i) o hc.2 ?_
   unfold freeze1
   split
   ·have : ¬ i = 0:=fun e=>by rw [e] at hc; simp at hc
    rw [List.getElem?_set_ne this]; exact h
   ·exact h
 have h30:=fr (ids hp2 depth d ++ cs2.flatMap (ids hp2 depth)) hp2 _ (by simpa using hno) h20
 have hold1 : ∀ b',Old ρ1 b' -> b' = b:=fun b' ho=>by
  obtain ⟨k,c',hk⟩:=ho
  have:=(r1 k _ hk).2
  simp only [Bk.blk.injEq] at this
  exact this.1
 have hold : ∀ b',Old ρ1 b' -> Old ρ b':=fun b' ho=>by rw [hold1 b' ho]; exact ⟨q',c,rq⟩
 have hx2 : Ext ρ ρ H H3 w.heap w'.heap:=⟨fun _ _ h=>h,pp.ext.hs,pp.ext.keep⟩
 have hqlt : q' < os.length:=(List.getElem?_eq_some_iff.1 hos).1
 have getS : ∀ {i : Nat} {o : Obj},(os.set q' (.cells cs3))[i]? = some o -> (i = q' /\ o = .cells cs3) \/ (i ≠ q' /\ os[i]? = some o):=fun {i o} h=>by
  by_cases e : i = q'
  ·subst e; rw [List.getElem?_set_self hqlt] at h; exact .inl ⟨rfl,by simpa using h.symm⟩
  ·rw [List.getElem?_set_ne (Ne.symm e)] at h; exact .inr ⟨e,h⟩
 have getL : ∀ {i : Nat} {o : Obj},(os.set q' (.cells cs3))[i]? = some o -> o.live = true -> ∃ o',os[i]? = some o' /\ o'.live = true:=fun {i o} h hl=>by
  rcases getS h with ⟨e,e'⟩ | ⟨e,h⟩
  ·subst e; exact ⟨_,hos,rfl⟩
  ·exact ⟨o,h,hl⟩
 refine ⟨H3,⟨hx2,?_,pp.size,fun b' hb=>pp.frB b' (Nat.lt_of_lt_of_le hb hown.1),pp.frD,fun b' o hh=>(pp.hnew b' o hh).imp id (Nat.le_trans hown.1),fun i _ h=>h,pp.fz,pp.still,
  fun b' hb ho=>pp.frame b' hb (fun h=>ho (hold b' h)),rbS,fun b' o hh=>(pp.hn b' o hh).imp id (·.imp (hold b') id)⟩,hd⟩
 refine { dom:=fun i o ho hl=>?_,lt:=fun i bk h=>by rw [List.length_set]; exact S.lt i bk h,inj:=fun i i' o o' b1 c1 c2 h l h' l' q1 q2=>?_,own:=fun i o b1 c1 h l q1=>?_,mutH:=fun i cs' b1 c1 o h q1 hh=>?_,hb:=pp.sr.hb,hB:=Nat.le_trans S.hB pp.size }
 ·rcases getS ho with ⟨e,e'⟩ | ⟨e,ho⟩
  ·subst e e'
   refine ⟨_,rq,b,c,rfl,arr2,el2,g1,g2,by omega,fun j v d hv hd=>?_,fun d hd=>List.all_eq_true.1 hat3 d hd⟩
   have hj : j < cs3.length:=(List.getElem?_eq_some_iff.1 hd).1
   exact hrep3.2 j v d (by rw [List.getElem?_take,if_pos (by omega)]; simpa using hv) hd
  ·obtain ⟨bk,q1,hR⟩:=S.dom i o ho hl
   have nold : ∀ b1 c1,bk = .blk b1 c1 -> b1 < w.heap.size /\ ¬ Old ρ1 b1:=fun b1 c1 eb=>by
    subst eb
    refine ⟨(S.own i o b1 c1 ho hl q1).2,fun h=>?_⟩
    have:=hold1 b1 h
    subst this
    exact e (S.inj i q' o _ b1 c1 c ho hl hos rfl q1 rq)
   refine ⟨bk,q1,hR.mono hx2 (fun b1 c1 eb=>pp.frame b1 (nold b1 c1 eb).1 (nold b1 c1 eb).2) (fun b1 c1 u s eb _ j _ hh=>?_)⟩
   rcases pp.hn b1 j hh with h | h | h
   ·exact h
   ·exact absurd h (nold b1 c1 eb).2
   ·exact absurd (nold b1 c1 eb).1 (by omega)
 ·obtain ⟨o1,h1,l1⟩:=getL h l
  obtain ⟨o2,h2,l2⟩:=getL h' l'
  exact S.inj i i' o1 o2 b1 c1 c2 h1 l1 h2 l2 q1 q2
 ·obtain ⟨o1,h1,l1⟩:=getL h l
  have:=S.own i o1 b1 c1 h1 l1 q1
  exact ⟨this.1,Nat.lt_of_lt_of_le this.2 pp.size⟩
 ·rcases getS h with ⟨e,e'⟩ | ⟨e,ho⟩
  ·subst e
   rw [rq] at q1
   simp only [Option.some.injEq,Bk.blk.injEq] at q1
   obtain ⟨rfl,rfl⟩:=q1
   exact pp.sr.mutH 0 _ b c o h30 r20 hh
  ·have h0:=S.own i _ b1 c1 ho rfl q1
   rcases pp.hn b1 o hh with h | h | h
   ·exact S.mutH i cs' b1 c1 o ho q1 h
   ·have:=hold1 b1 h
    subst this
    exact e (S.inj i q' _ _ b1 c1 c ho rfl hos rfl q1 rq)
   ·omega

theorem zcz {callS : Nat -> List D -> List Obj -> Option (D × List Obj)} {r : Option Nat} {f k : Nat} {d : D} {os' : List Obj} {caps vs : List D} {vals : Array Value}
  (hS : StatAt P CL F (fun ds os=>noMark (callS k ds os)) f) (S : SR CL F B ρ H w.heap os) (hrep : RepL F ρ H w.heap vals.toList caps) (hvs : frzL (frz [] depth) caps = some vs)
  (h : makD callS k vs os = some (d,os')) : Go.CallsIn (Fw r) 0 P f vals w (StatR CL F B ρ H os w d os'):=by
 unfold makD at h
 simp only [Option.map_eq_some_iff,Prod.mk.injEq] at h
 obtain ⟨⟨d0,hp2⟩,hrun,h3,h4⟩:=h
 simp only at h3 h4
 subst h3 h4
 have S1 : SR CL F w.heap.size ρ0 H w.heap (List.replicate os.length .dead):={
  dom:=fun id o ho hl=>by
   rw [List.getElem?_replicate] at ho
   split at ho
   ·simp at ho; subst ho; simp [Obj.live] at hl
   ·simp at ho
  lt:=fun id bk h=>by cases h
  inj:=fun id id' o o' b' c1 c2 h l h' l' q q'=>by cases q
  own:=fun id o b c' h l q=>by cases q
  mutH:=fun id cs' b' c' o h q=>by cases q
  hb:=S.hb
  hB:=Nat.le_refl _ }
 have hargs : RepL F ρ0 H w.heap vals.toList vs:=z2r (os:=[]) (fun id b c cs _ h=>by simp [rowOf] at h) (fun _ _ h=>h) hrep hvs (fun id _ cs b c h=>by simp [rowOf] at h)
 refine (hS r w.heap.size ρ0 H _ hp2 w vals vs d0 hrun S1 hargs).mono fun e w' he=>?_
 cases e with
 | panicked c=>exact he.elim
 | outgrown=>exact he.elim
 | returned v=>
 obtain ⟨hlen,ρ2,H2,p,hv⟩:=he
 rw [List.length_replicate] at hlen
 have r2 : ∀ i,i < os.length -> ρ2 i = none:=fun i hi=>p.vac i (by simpa using hi) rfl
 obtain ⟨ρ',hρ'⟩ : ∃ ρ' : Rho,ρ' = fun i=>if i < os.length then ρ i else ρ2 i:=⟨_,rfl⟩
 have rl : ∀ i,i < os.length -> ρ' i = ρ i:=fun i hi=>by rw [hρ']; simp [hi]
 have rg : ∀ i,¬ i < os.length -> ρ' i = ρ2 i:=fun i hi=>by rw [hρ']; simp [hi]
 have e1 : Ext ρ ρ' H H2 w.heap w'.heap:=⟨fun i bk h=>by rw [rl i (S.lt i bk h)]; exact h,p.ext.hs,p.ext.keep⟩
 have e2 : Ext ρ2 ρ' H2 H2 w'.heap w'.heap:=⟨fun i bk h=>by
  rw [rg i (fun hi=>by rw [r2 i hi] at h; cases h)]; exact h,fun _ _ h=>h,fun _ _ _=>rfl⟩
 have nold : ∀ b,¬ Old ρ0 b:=fun b ⟨k,c,h⟩=>by cases h
 have fr : ∀ b,b < w.heap.size -> w'.heap[b]? = w.heap[b]?:=fun b hb=>p.frame b hb (nold b)
 have getl : ∀ {i : Nat},i < os.length -> (os ++ hp2.drop os.length)[i]? = os[i]?:=fun hi=>List.getElem?_append_left hi
 have getr : ∀ {i : Nat},¬ i < os.length -> (os ++ hp2.drop os.length)[i]? = hp2[i]?:=fun {i} hi=>by
  rw [List.getElem?_append_right (by omega),List.getElem?_drop,show os.length + (i - os.length) = i from by omega]
 refine ⟨by simp,ρ',H2,⟨e1,?_,p.size,fun b hb=>fr b (Nat.lt_of_lt_of_le hb S.hB),p.frD,fun b o hh=>(p.hnew b o hh).imp id (Nat.le_trans S.hB),fun i hi hn=>by rw [rl i hi]; exact hn,p.fz,p.still,
  fun b hb _=>fr b hb,fun i b c hq=>?_,fun b o hh=>(p.hn b o hh).imp id fun h=>h.elim (fun h=>absurd h (nold b)) .inr⟩,hv.mono e2⟩
 ·refine { dom:=fun i o ho hl=>?_,lt:=fun i bk h=>?_,inj:=fun i i' o o' b1 c1 c2 h l h' l' q1 q2=>?_,own:=fun i o b1 c1 h l q1=>?_,mutH:=fun i cs' b1 c1 o h q1 hh=>?_,hb:=p.sr.hb,hB:=Nat.le_trans S.hB p.size }
  ·by_cases hi : i < os.length
   ·rw [getl hi] at ho
    obtain ⟨bk,q,R⟩:=S.dom i o ho hl
    refine ⟨bk,by rw [rl i hi]; exact q,R.mono e1 (fun b c eb=>fr b (S.own i o b c ho hl (eb ▸ q)).2) (fun b c u s eb _ j _ hh=>?_)⟩
    rcases p.hn b j hh with h | h | h
    ·exact h
    ·exact absurd h (nold b)
    ·exact absurd (S.own i o b c ho hl (eb ▸ q)).2 (by omega)
   ·rw [getr hi] at ho
    obtain ⟨bk,q,R⟩:=p.sr.dom i o ho hl
    exact ⟨bk,by rw [rg i hi]; exact q,R.mono e2 (fun _ _ _=>rfl) (fun _ _ _ _ _ _ _ _ h=>h)⟩
  ·by_cases hi : i < os.length
   ·simp; omega
   ·rw [rg i hi] at h
    have:=p.sr.lt i bk h
    simp; omega
  ·by_cases hi : i < os.length
   ·rw [getl hi] at h
    rw [rl i hi] at q1
    by_cases hi' : i' < os.length
    ·rw [getl hi'] at h'
     rw [rl i' hi'] at q2
     exact S.inj i i' o o' b1 c1 c2 h l h' l' q1 q2
    ·rw [getr hi'] at h'
     rw [rg i' hi'] at q2
     have a1:=(S.own i o b1 c1 h l q1).2
     have a2:=(p.sr.own i' o' b1 c2 h' l' q2).1
     omega
   ·rw [getr hi] at h
    rw [rg i hi] at q1
    by_cases hi' : i' < os.length
    ·rw [getl hi'] at h'
     rw [rl i' hi'] at q2
     have a1:=(S.own i' o' b1 c2 h' l' q2).2
     have a2:=(p.sr.own i o b1 c1 h l q1).1
     omega
    ·rw [getr hi'] at h'
     rw [rg i' hi'] at q2
     exact p.sr.inj i i' o o' b1 c1 c2 h l h' l' q1 q2
  ·by_cases hi : i < os.length
   ·rw [getl hi] at h
    rw [rl i hi] at q1
    have:=S.own i o b1 c1 h l q1
    exact ⟨this.1,Nat.lt_of_lt_of_le this.2 p.size⟩
   ·rw [getr hi] at h
    rw [rg i hi] at q1
    have:=p.sr.own i o b1 c1 h l q1
    exact ⟨Nat.le_trans S.hB this.1,this.2⟩
  ·by_cases hi : i < os.length
   ·rw [getl hi] at h
    rw [rl i hi] at q1
    have h0:=S.own i _ b1 c1 h rfl q1
    rcases p.hn b1 o hh with h2 | h2 | h2
    ·exact S.mutH i cs' b1 c1 o h q1 h2
    ·exact nold b1 h2
    ·omega
   ·rw [getr hi] at h
    rw [rg i hi] at q1
    exact p.sr.mutH i cs' b1 c1 o h q1 hh
 ·by_cases hi : i < os.length
  ·rw [rl i hi] at hq; exact .inl ⟨i,c,hq⟩
  ·rw [rg i hi] at hq
   exact (p.rb i b c hq).elim (fun h=>absurd h (nold b)) .inr

theorem zm7 (FO : FnsOk P F) {callP : Nat -> List D -> Option D} {callS callY : Nat -> List D -> List Obj -> Option (D × List Obj)}
  (hP : ∀ f f',F f = some f' -> PureAt P F (callP f') f) (hS : ∀ f f',F f = some f' -> StatAt P CL F (fun ds os=>noMark (callS f' ds os)) f) (hY : YieldAt P CL F callY)
  {r : Option Nat} {o : Oper} {id : Nat} {d : D} {os' : List Obj} {next : Act -> World -> Prop} {Q : Exit -> Act -> World -> Prop} {f : Operand} {args : Array Operand} {at_ : Array Go.TypeId} {md : Nat} {f' : Opd} {as : List Opd}
  (ho : o.op = .call { callee:=.value f,args,argTypes:=at_ }) (h1 : stripOpd F f = some f') (h2 : stripL F args.toList = some as) (hmd : md < 5)
  (S : SR CL F B ρ H w.heap os) (hK : ∀ i,K i -> i < os.length) (hs : RepL F ρ H w.heap a.tmps.toList sl)
  (h : stepOp E callP callS callY id (getO sl) os (.call md f' as) = some (d,os'))
  (hn : ∀ v w' ρ' H',PostT CL F B K ρ H w ρ' H' w' os' -> Rep F ρ' H' w'.heap v d -> os.length <= os'.length -> next (a.put o.dst v) w') : o.wpIn (Fw r) 0 P a w next Q:=by
 refine ⟨fun f _=>trivial,?_⟩
 rw [Go.Oper.semAt_eq _ _ _ (by rw [ho]; intro c e; cases e)]
 have ef:=z6 S.hb hs h1
 have ea:=z3n S.hb hs h2
 have hargs : args.map a.eval = (args.toList.map a.eval).toArray:=by cases args; simp
 have exec : (Go.execOp a.eval o).run P w = ((Go.Deferred.ofValue (a.eval f) (args.map a.eval)).run P w).andThen fun d w'=>(Go.invoke d.target d.args).run P w':=by
  unfold Go.execOp
  rw [ho]
  simp only [Go.resolve,Go.Sem.run_bind]
 rw [exec]
 -- a function of the program's
 have enter : ∀ {k : Nat} {caps : List D},getO sl f' = .fn k caps -> ∃ g vals,F g = some k /\ (((Go.Deferred.ofValue (a.eval f) (args.map a.eval)).run P w).andThen fun d w'=>(Go.invoke d.target d.args).run P w') = .ok (.enter g vals) w /\
   RepL F ρ H w.heap vals.toList (as.map (getO sl) ++ caps):=by
  intro k caps hg
  rw [hg] at ef
  generalize a.eval f = vf at ef
  cases ef with
  | fn g g' cvs caps hF hcs hcr=>
   refine ⟨g,args.map a.eval ++ cvs,hF,?_,?_⟩
   ·simp [Go.Deferred.ofValue,Go.invoke,z4n FO hF]
   ·rw [Array.toList_append,hargs]
    exact ea.append ⟨by simpa using hcs,fun j v d hv hd=>hcr j v d (by simpa using hv) hd⟩
 have pure_case : ∀ {k : Nat} {caps vs : List D} {os1 : List Obj},getO sl f' = .fn k caps -> callP k vs = some d -> (∃ H1,PostT CL F B K ρ H w ρ H1 w os1 /\ ∀ {vl : List Value},RepL F ρ H w.heap vl (as.map (getO sl) ++ caps) -> RepL F ρ0 H1 w.heap vl vs) ->
   os' = os1 -> os.length <= os1.length -> o.uponIn (Fw r) 0 P a next Q (((Go.Deferred.ofValue (a.eval f) (args.map a.eval)).run P w).andThen fun d w'=>(Go.invoke d.target d.args).run P w'):=by
  intro k caps vs os1 hg hc ⟨H1,p1,hfz⟩ e hlen
  subst e
  obtain ⟨g,vals,hF,hrun,hrep⟩:=enter hg
  rw [hrun]
  refine ⟨by simp [Fw,Go.Fence.wide],(hP g k hF r H1 w vals vs d hc p1.sr.hb (hfz hrep)).mono fun e w' he=>?_⟩
  cases e with
  | returned v=>
   obtain ⟨H',g',⟨hf',hst'⟩,hv⟩:=he
   exact hn v w' ρ H' (p1.trans (g'.postT p1.sr hf' hst')) (hv.up ρ) hlen
  | panicked c=>exact he.elim
  | outgrown=>exact he.elim
 cases md with
 | zero=>
  simp only [stepOp,DOp.fin,pureOp,Option.map_eq_some_iff] at h
  obtain ⟨ef1,h3,h4⟩:=h
  simp only [Prod.mk.injEq] at h4
  obtain ⟨h4,h5⟩:=h4
  split at h3
  ·rename_i k caps hg
   split at h3
   ·rename_i vs hv
    simp only [Option.map_eq_some_iff] at h3
    obtain ⟨d1,h6,h7⟩:=h3
    subst h7
    simp only at h4
    subst h4
    simp only [applyEf] at h5
    refine pure_case (os1:=os) hg h6 ⟨H,PostT.refl S,fun hrep=>?_⟩ h5.symm (Nat.le_refl _)
    refine z2r (os:=[]) (fun id b c cs _ h=>by simp [rowOf] at h) (fun _ _ h=>h) hrep hv (fun id _ cs b c h=>by simp [rowOf] at h)
   ·simp at h3
  ·simp at h3
 | succ md=>
  cases md with
  | zero=>
   simp only [stepOp,DOp.fin,finOp] at h
   split at h
   ·rename_i k caps hg
    split at h
    ·rename_i vs hv
     simp only [Option.map_eq_some_iff,Prod.mk.injEq] at h
     obtain ⟨d1,h3,h4,h5⟩:=h
     subst h4
     obtain ⟨H1,p1,m1⟩:=z2d (K:=K) ((as.map (getO sl) ++ caps).flatMap (ids os depth)) S
     refine pure_case (os1:=freezeAll os ((as.map (getO sl) ++ caps).flatMap (ids os depth))) hg h3 ⟨H1,p1,fun hrep=>?_⟩ h5.symm ?_
     ·refine z2r (fun _ _ _ _ h1 h2=>S.row h1 h2) (fun _ _ h=>p1.ext.hs _ _ h) hrep hv (fun id hid cs b c hro hid2 j hj=>?_)
      unfold rowOf at hro
      split at hro
      ·rename_i cs' ho; simp at hro; subst hro; exact m1 id _ b c hid ho hid2 j hj
      ·rename_i cs' ho
       simp at hro; subst hro
       obtain ⟨bk,r1,b',c',e1,_,hH⟩:=S.dom id _ ho rfl
       rw [hid2] at r1; simp at r1; subst r1; simp at e1; obtain ⟨rfl,rfl⟩:=e1
       exact p1.ext.hs _ _ (hH j hj)
      ·simp at hro
     ·have : ∀ (l : List Nat) (os : List Obj),os.length <= (freezeAll os l).length:=by
       intro l
       induction l with
       | nil=>intro os; exact Nat.le_refl _
       | cons i l ih=>intro os; refine Nat.le_trans ?_ (ih (freeze1 os i)); unfold freeze1; split <;> simp
      exact this _ _
    ·simp at h
   ·simp at h
  | succ md=>
   match md with
   | 0=>
    simp only [stepOp,DOp.fin,finOp] at h
    split at h
    ·rename_i k caps hg
     obtain ⟨g,vals,hF,hrun,hrep⟩:=enter hg
     rw [hrun]
     refine ⟨by simp [Fw,Go.Fence.wide],(hS g k hF r B ρ H os os' w vals _ d h S hrep).mono fun e w' he=>?_⟩
     cases e with
     | returned v=>
      obtain ⟨hlen,ρ',H',p,hv⟩:=he
      exact hn v w' ρ' H' ⟨p.ext,p.sr,p.size,p.frB,p.frD,p.hnew,fun i hi=>p.vac i (hK i hi),p.fz,p.still,p.frame,p.rb,p.hn⟩ hv hlen
     | panicked c=>exact he.elim
     | outgrown=>exact he.elim
    ·rename_i k rr hg
     rw [hg] at ef
     generalize a.eval f = vf at ef
     cases ef with
     | bfn g g' v0 d0 hF hr0=>
      have hrun : (((Go.Deferred.ofValue (.func (.func g) #[v0] #[]) (args.map a.eval)).run P w).andThen fun d w'=>(Go.invoke d.target d.args).run P w') = .ok (.enter g (#[v0] ++ args.map a.eval)) w:=by
       simp [Go.Deferred.ofValue,Go.invoke,z4n FO hF]
      rw [hrun]
      have hrep : RepL F ρ H w.heap (#[v0] ++ args.map a.eval).toList (rr :: as.map (getO sl)):=by
       rw [Array.toList_append,hargs]
       exact .cons hr0 ea
      refine ⟨by simp [Fw,Go.Fence.wide],(hS g k hF r B ρ H os os' w _ _ d h S hrep).mono fun e w' he=>?_⟩
      cases e with
      | returned v=>
       obtain ⟨hlen,ρ',H',p,hv⟩:=he
       exact hn v w' ρ' H' ⟨p.ext,p.sr,p.size,p.frB,p.frD,p.hnew,fun i hi=>p.vac i (hK i hi),p.fz,p.still,p.frame,p.rb,p.hn⟩ hv hlen
      | panicked c=>exact he.elim
      | outgrown=>exact he.elim
    ·rename_i l hg
     rw [hg] at ef
     generalize a.eval f = vf at ef
     cases ef with
     | yld b c id hid=>
      obtain ⟨g,tmps,assign,body,hrun,hround⟩:=hY r B ρ H os os' w (args.map a.eval) _ d l b c h S hid (by rw [hargs]; exact ea)
      have : (((Go.Deferred.ofValue (.func (.yield b) #[] #[]) (args.map a.eval)).run P w).andThen fun d w'=>(Go.invoke d.target d.args).run P w') = .ok (.round b g tmps assign body) w:=by
       simp [Go.Deferred.ofValue,Go.invoke,hrun]
      rw [this]
      refine ⟨by simp [Fw,Go.Fence.wide],hround.mono fun e w' he=>?_⟩
      cases e with
      | returned v=>
       obtain ⟨hlen,ρ',H',p,hv⟩:=he
       exact hn v w' ρ' H' ⟨p.ext,p.sr,p.size,p.frB,p.frD,p.hnew,fun i hi=>p.vac i (hK i hi),p.fz,p.still,p.frame,p.rb,p.hn⟩ hv hlen
      | panicked c=>exact he.elim
      | outgrown=>exact he.elim
    ·simp at h

   | 1=>
    simp only [stepOp,DOp.fin,finOp] at h
    split at h
    ·rename_i k caps hg
     split at h
     ·rename_i vs hv
      split at h
      ·rename_i d1 h3
       split at h
       ·rename_i hcl
        simp only [Option.some.injEq,Prod.mk.injEq] at h
        obtain ⟨h4,h5⟩:=h
        subst h4
        subst h5
        obtain ⟨g,vals,hF,hrun,hrep⟩:=enter hg
        rw [hrun]
        have hrep2 : RepL F ρ0 (fun b o=>H b o \/ b < w.heap.size) w.heap vals.toList vs:=z2r (fun _ _ _ _ h1 h2=>S.row h1 h2) (fun _ _ h=>.inl h) hrep hv (fun id hid cs b c hro hid2 j hj=>by
         obtain ⟨arr,el,r1,_⟩:=S.row hid2 hro
         exact .inr (z2m r1))
        refine ⟨by simp [Fw,Go.Fence.wide],(hP g k hF r _ w vals vs d1 h3 ⟨fun b o h=>h.elim (S.hb b o) fun h=>h,fun g cs hg j k n hj=>⟨.inl (S.hb.gl g cs hg j k n hj).1,(S.hb.gl g cs hg j k n hj).2⟩⟩ hrep2).mono fun e w' he=>?_⟩
        cases e with
        | returned v=>
         obtain ⟨H',g',⟨hf',hst'⟩,hv⟩:=he
         have g2 : Grew H H w.heap w'.heap:=⟨g'.size,g'.old,fun _ _ h=>h,fun _ _ h=>.inl h⟩
         exact hn v w' ρ H (g2.postT S hf' hst') (zik hcl hv) (Nat.le_refl _)
        | panicked c=>exact he.elim
        | outgrown=>exact he.elim
       ·simp at h
      ·simp at h
     ·simp at h
    ·simp at h
   | md + 3=>omega
   | 2=>
    cases as with
    | nil=>
     simp only [stepOp,DOp.fin,finOp] at h
     split at h
     ·rename_i k caps hg
      split at h
      ·rename_i vs hvs
       obtain ⟨g,vals,hF,hrun,hrep⟩:=enter hg
       rw [hrun]
       refine ⟨by simp [Fw,Go.Fence.wide],(zcz (hS g k hF) S (by simpa using hrep) hvs h).mono fun e w' he=>?_⟩
       cases e with
       | returned v=>
        obtain ⟨hlen,ρ',H',p,hv⟩:=he
        exact hn v w' ρ' H' ⟨p.ext,p.sr,p.size,p.frB,p.frD,p.hnew,fun i hi=>p.vac i (hK i hi),p.fz,p.still,p.frame,p.rb,p.hn⟩ hv hlen
       | panicked c=>exact he.elim
       | outgrown=>exact he.elim
      ·simp at h
     ·simp at h
    | cons x as=>
    simp only [stepOp,DOp.fin,finOp] at h
    split at h
    ·rename_i k caps hg
     simp only [Option.map_eq_some_iff,Prod.mk.injEq] at h
     obtain ⟨⟨d1,q,o1⟩,h3,h4,h5⟩:=h
     simp only at h4 h5
     subst h4 h5
     obtain ⟨g,vals,hF,hrun,hrep⟩:=enter hg
     rw [hrun]
     obtain ⟨vr,vrest,hvl⟩ : ∃ vr vrest,vals.toList = vr :: vrest:=by
      have:=hrep.1
      cases hv : vals.toList with
      | nil=>rw [hv] at this; simp at this
      | cons a l=>exact ⟨a,l,rfl⟩
     rw [hvl] at hrep
     have hrep0:=hrep.2 0 vr (getO sl x) rfl rfl
     have hrepT : RepL F ρ H w.heap vrest (as.map (getO sl) ++ caps):=⟨by have:=hrep.1; simpa using this,fun j v d hv hd=>hrep.2 (j + 1) v d (by simpa using hv) (by simpa using hd)⟩
     refine ⟨by simp [Fw,Go.Fence.wide],(zhp (K:=K) (hS g k hF) S hrep0 hrepT hvl h3).mono fun e w' he=>?_⟩
     cases e with
     | returned v=>
      obtain ⟨H',p,hv⟩:=he
      exact hn v w' ρ H' p hv (by simp)
     | panicked c=>exact he.elim
     | outgrown=>exact he.elim
    ·simp at h

theorem zeg (FO : FnsOk P F) {callP : Nat -> List D -> Option D} {callS callY : Nat -> List D -> List Obj -> Option (D × List Obj)}
  (hS : ∀ f f',F f = some f' -> StatAt P CL F (fun ds os=>noMark (callS f' ds os)) f)
  {r : Option Nat} {o : Oper} {id : Nat} {d : D} {os' : List Obj} {next : Act -> World -> Prop} {Q : Exit -> Act -> World -> Prop} {f : Operand} {args : Array Operand} {at_ : Array Go.TypeId} {f' : Opd} {as : List Opd}
  (ho : o.op = .call { callee:=.value f,args,argTypes:=at_ }) (h1 : stripOpd F f = some f') (h2 : stripL F args.toList = some as)
  (S : SR CL F B ρ H w.heap os) (hK : ∀ i,K i -> i < os.length) (hs : RepL F ρ H w.heap a.tmps.toList sl)
  (h : stepOp E callP callS callY id (getO sl) os (.mkcall f' as) = some (d,os'))
  (hn : ∀ v w' ρ' H',PostT CL F B K ρ H w ρ' H' w' os' -> Rep F ρ' H' w'.heap v d -> os.length <= os'.length -> next (a.put o.dst v) w') : o.wpIn (Fw r) 0 P a w next Q:=by
 refine ⟨fun f _=>trivial,?_⟩
 rw [Go.Oper.semAt_eq _ _ _ (by rw [ho]; intro c e; cases e)]
 have ef:=z6 S.hb hs h1
 have ea:=z3n S.hb hs h2
 have hargs : args.map a.eval = (args.toList.map a.eval).toArray:=by cases args; simp
 have exec : (Go.execOp a.eval o).run P w = ((Go.Deferred.ofValue (a.eval f) (args.map a.eval)).run P w).andThen fun d w'=>(Go.invoke d.target d.args).run P w':=by
  unfold Go.execOp
  rw [ho]
  simp only [Go.resolve,Go.Sem.run_bind]
 rw [exec]
 -- a function of the program's
 have enter : ∀ {k : Nat} {caps : List D},getO sl f' = .fn k caps -> ∃ g vals,F g = some k /\ (((Go.Deferred.ofValue (a.eval f) (args.map a.eval)).run P w).andThen fun d w'=>(Go.invoke d.target d.args).run P w') = .ok (.enter g vals) w /\
   RepL F ρ H w.heap vals.toList (as.map (getO sl) ++ caps):=by
  intro k caps hg
  rw [hg] at ef
  generalize a.eval f = vf at ef
  cases ef with
  | fn g g' cvs caps hF hcs hcr=>
   refine ⟨g,args.map a.eval ++ cvs,hF,?_,?_⟩
   ·simp [Go.Deferred.ofValue,Go.invoke,z4n FO hF]
   ·rw [Array.toList_append,hargs]
    exact ea.append ⟨by simpa using hcs,fun j v d hv hd=>hcr j v d (by simpa using hv) hd⟩
 simp only [stepOp,DOp.fin,finOp] at h
 split at h
 ·rename_i k caps hg
  split at h
  ·rename_i vs hvs
   obtain ⟨g,vals,hF,hrun,hrep⟩:=enter hg
   rw [hrun]
   refine ⟨by simp [Fw,Go.Fence.wide],(zcz (hS g k hF) S hrep hvs h).mono fun e w' he=>?_⟩
   cases e with
   | returned v=>
    obtain ⟨hlen,ρ',H',p,hv⟩:=he
    exact hn v w' ρ' H' ⟨p.ext,p.sr,p.size,p.frB,p.frD,p.hnew,fun i hi=>p.vac i (hK i hi),p.fz,p.still,p.frame,p.rb,p.hn⟩ hv hlen
   | panicked c=>exact he.elim
   | outgrown=>exact he.elim
  ·simp at h
 ·simp at h

end
end Dv

namespace Dv
open Go (Value Program World Act Oper Operand Code Ending Exit)

def step1 (E : Env) (callP : Nat -> List D -> Option D) (callS callY : Nat -> List D -> List Obj -> Option (D × List Obj)) (id : Nat) (o : DOpr) (st : St) : Option St:=
 if wantedD st.sl o.gd then
  (match stepOp E callP callS callY id (getO st.sl) st.hp o.op with
  | some (d,hp)=>some ⟨putO st.sl o.dst d,hp⟩
  | none=>none)
 else some ⟨putO st.sl o.dst .undef,st.hp⟩

theorem z8 {E : Env} {callP : Nat -> List D -> Option D} {callS callY : Nat -> List D -> List Obj -> Option (D × List Obj)} {o : DOpr} {os : List DOpr} {st : St} :
  stepOps E callP callS callY (o :: os) st = (step1 E callP callS callY st.hp.length o st).bind (stepOps E callP callS callY os):=by
 simp only [stepOps,step1]
 split
 ·generalize stepOp E callP callS callY st.hp.length (getO st.sl) st.hp o.op = r
  cases r <;> rfl
 ·rfl

theorem z3r {E : Env} {callP : Nat -> List D -> Option D} {callS callY : Nat -> List D -> List Obj -> Option (D × List Obj)} {o : DOpr} {os : List DOpr} {st : St} {id : Nat} :
  stepOpsD E callP callS callY id (o :: os) st = (step1 E callP callS callY id o st).bind (stepOpsD E callP callS callY (id + 1) os):=by
 simp only [stepOpsD,step1]
 split
 ·generalize stepOp E callP callS callY id (getO st.sl) st.hp o.op = r
  cases r <;> rfl
 ·rfl

structure OprL (T F : Phi) (all : List Oper) (o : Oper) (d : DOpr) : Prop where
 dst : d.dst = o.dst
 op : OpLink T F o.op d.op
 gd : stripGd all o.guard = some d.gd

def OpsL (T F : Phi) (all : List Oper) : List Oper -> List DOpr -> Prop
 | [],[]=>True
 | o :: os,d :: ds=>OprL T F all o d /\ OpsL T F all os ds
 | _,_=>False

section
variable {P : Program} {E : Env} {CL : CLink} {F : Phi} {T : Phi} {B : Nat} {K : Nat -> Prop} {ρ : Rho} {H : HS} {os : List Obj} {w : World} {a : Act} {sl : List D}

theorem Rep.bool_iff {hp : Heap} {v : Value} {d : D} (h : Rep F ρ H hp v d) (b : Bool) : v = .bool b ↔ d = .bool b:=by
 constructor
 ·rintro rfl
  cases h with
  | undef _ h=>exact absurd rfl (h b)
  | bool=>rfl
 ·rintro rfl; exact h.boolv

theorem z80 {ops : Array Oper} {o : Oper} {gd : Option (Nat × Bool)} (hs : RepL F ρ H w.heap a.tmps.toList sl) (h : stripGd ops.toList o.guard = some gd) : Go.Region.wanted o (Go.yielded ops a.tmps) = wantedD sl gd:=by
 unfold stripGd at h
 unfold Go.Region.wanted
 generalize o.guard = g at h ⊢
 split at h
 ·simp at h; subst h; rfl
 ·rename_i j b
  split at h
  ·rename_i oj hj
   split at h
   ·rename_i dd hd
    simp at h; subst h
    have hj' : ops[j]? = some oj:=by simpa using hj
    simp only [wantedD,Go.yielded,hj',hd,Option.bind_some]
    by_cases ht : dd < sl.length
    ·obtain ⟨v,hv,hr⟩:=hs.get (List.getElem?_eq_getElem ht)
     have hv' : a.tmps[dd]? = some v:=by simpa using hv
     rw [hv',List.getD_eq_getElem?_getD,List.getElem?_eq_getElem ht,Option.getD_some]
     cases hb : sl[dd] with
     | bool c=>
      rw [(hr.bool_iff c).2 hb]
      simp only [Option.bind_some]
      cases c <;> cases b <;> rfl
     | _=>
      have : ∀ c,v ≠ .bool c:=fun c e=>by have:=(hr.bool_iff c).1 e; rw [hb] at this; cases this
      cases v <;> first | rfl | exact absurd rfl (this _)
    ·have ht' : sl.length <= dd:=Nat.le_of_not_lt ht
     have h0 : a.tmps.size = sl.length:=by simpa using hs.1
     rw [Array.getElem?_eq_none (by rw [h0]; exact ht'),List.getD_eq_getElem?_getD,List.getElem?_eq_none ht']
     rfl
   ·simp at h
  ·simp at h

theorem z3u {v : Value} {d : D} {dst : Option Nat} (hs : RepL F ρ H w.heap a.tmps.toList sl) (hv : Rep F ρ H w.heap v d) : RepL F ρ H w.heap (a.put dst v).tmps.toList (putO sl dst d):=by
 unfold Act.put putO
 cases dst with
 | none=>exact hs
 | some i=>simpa using hs.set i hv

theorem z18 (a : Act) (dst : Option Nat) (v : Value) : (a.put dst v).defers = a.defers:=by
 unfold Act.put; cases dst <;> rfl

theorem z6b : ∀ (l : List Nat) (os : List Obj),os.length <= (freezeAll os l).length
 | [],os=>Nat.le_refl _
 | i :: l,os=>Nat.le_trans (by unfold freeze1; split <;> simp) (z6b l (freeze1 os i))

theorem zf8 {id : Nat} (f : Free ρ os id) (ef : Ef) : os.length <= (applyEf os id ef).length:=by
 unfold applyEf
 split
 ·exact Nat.le_refl _
 ·exact (z7w f).2
 ·simp
 ·rename_i k o _ _
  have:=(z7w (o:=o) (f.kill (k:=k))).2
  simpa using this

theorem zk7 (TA : TAll P E T) (FO : FnsOk P F) {callP : Nat -> List D -> Option D} {callS callY : Nat -> List D -> List Obj -> Option (D × List Obj)}
  (hP : ∀ f f',F f = some f' -> PureAt P F (callP f') f) (hS : ∀ f f',F f = some f' -> StatAt P CL F (fun ds os=>noMark (callS f' ds os)) f) (hY : YieldAt P CL F callY)
  {r : Option Nat} {o : Oper} {op : DOp} {id : Nat} {d : D} {os' : List Obj} {next : Act -> World -> Prop} {Q : Exit -> Act -> World -> Prop}
  (S : SR CL F B ρ H w.heap os) (f : Free ρ os id) (hK : ∀ i,K i -> i < os.length /\ i ≠ id) (hs : RepL F ρ H w.heap a.tmps.toList sl)
  (hl : OpLink T F o.op op) (h : stepOp E callP callS callY id (getO sl) os op = some (d,os'))
  (hn : ∀ v w' ρ' H',PostT CL F B K ρ H w ρ' H' w' os' -> Rep F ρ' H' w'.heap v d -> os.length <= os'.length -> next (a.put o.dst v) w') : o.wpIn (Fw r) 0 P a w next Q:=by
 by_cases hc : ∃ md g as,op = .call md g as
 ·obtain ⟨md,g,as,rfl⟩:=hc
  generalize ho : o.op = oo at hl
  cases hl with
  | call hmd h1 h2=>exact zm7 FO hP hS hY ho h1 h2 hmd S (fun i hi=>(hK i hi).1) hs h hn
 ·have hnc : ∀ md g as,op ≠ .call md g as:=fun md g as e=>hc ⟨md,g,as,e⟩
  by_cases hc2 : ∃ g as,op = .mkcall g as
  ·obtain ⟨g,as,rfl⟩:=hc2
   generalize ho : o.op = oo at hl
   cases hl with
   | mkcall h1 h2=>exact zeg FO hS ho h1 h2 S (fun i hi=>(hK i hi).1) hs h hn
  have hnm : ∀ g as,op ≠ .mkcall g as:=fun g as e=>hc2 ⟨g,as,e⟩
  unfold stepOp at h
  split at h
  ·rename_i hfin
   have hlen : os.length <= os'.length:=by
    cases op with
    | store t x y=>
     simp only [finOp,Option.map_eq_some_iff] at h
     obtain ⟨os1,h3,h4⟩:=h; simp at h4; obtain ⟨_,rfl⟩:=h4
     exact Nat.le_of_eq (z86 (K:=fun _=>True) h3).2.symm
    | mapset t x y z=>
     simp only [finOp,Option.map_eq_some_iff] at h
     obtain ⟨os1,h3,h4⟩:=h; simp at h4; obtain ⟨_,rfl⟩:=h4
     exact Nat.le_of_eq (z7e (K:=fun _=>True) h3).2.symm
    | append md t t2 x y=>exact (z7i (K:=fun i=>i < os.length) (fun _ h=>h) (by simpa [finOp] using h)).2
    | copy t t2 x y=>exact Nat.le_of_eq (zap (K:=fun _=>True) (by simpa [finOp] using h)).2.symm
    | call md g as=>exact absurd rfl (hnc md g as)
    | mkcall g as=>exact absurd rfl (hnm g as)
    | prim n as=>generalize o.op = oo at hl; cases hl
    | mkcap t l c=>exact (z8k (K:=fun i=>i < os.length) (fun _ h=>h) (by simpa [finOp] using h)).2
    | reslice t x y=>exact Nat.le_of_eq (congrArg List.length (z5t (by simpa [finOp] using h))).symm
    | clr t x=>exact Nat.le_of_eq (zdh (K:=fun _=>True) (by simpa [finOp] using h)).2.symm
    | _=>simp [DOp.fin] at hfin
   exact zc4 hl.no_defer (zog TA S (fun i hi=>(hK i hi).1) hs hl h hfin hnc hnm) (fun v w' ρ' H' p hv=>hn v w' ρ' H' p hv hlen)
  ·rename_i hfin
   simp only [Option.map_eq_some_iff] at h
   obtain ⟨ef,h1,h2⟩:=h
   simp only [Prod.mk.injEq] at h2
   obtain ⟨rfl,rfl⟩:=h2
   exact zc4 hl.no_defer (.inl (zk2 TA S f (fun i hi=>(hK i hi).2) hs hl h1 hnc)) (fun v w' ρ' H' p hv=>hn v w' ρ' H' p hv (zf8 f ef))

theorem z5x (TA : TAll P E T) (FO : FnsOk P F) {callP : Nat -> List D -> Option D} {callS callY : Nat -> List D -> List Obj -> Option (D × List Obj)}
  (hP : ∀ f f',F f = some f' -> PureAt P F (callP f') f) (hS : ∀ f f',F f = some f' -> StatAt P CL F (fun ds os=>noMark (callS f' ds os)) f) (hY : YieldAt P CL F callY)
  {r : Option Nat} {ops : Array Oper} {i : Nat} {o : Oper} {dop : DOpr} {id : Nat} {st st' : St} {next : Act -> World -> Prop} {Q : Exit -> Act -> World -> Prop}
  (ho : ops[i]? = some o) (hl : OprL T F ops.toList o dop) (h : step1 E callP callS callY id dop st = some st')
  (S : SR CL F B ρ H w.heap st.hp) (f : Free ρ st.hp id) (hK : ∀ i,K i -> i < st.hp.length /\ i ≠ id) (hs : RepL F ρ H w.heap a.tmps.toList st.sl)
  (hn : ∀ a' w' ρ' H',PostT CL F B K ρ H w ρ' H' w' st'.hp -> RepL F ρ' H' w'.heap a'.tmps.toList st'.sl -> st.hp.length <= st'.hp.length -> a'.defers = a.defers -> next a' w') : Go.wpOpIn (Fw r) 0 P ops Q i next a w:=by
 unfold Go.wpOpIn
 simp only [ho]
 rw [z80 hs hl.gd]
 unfold step1 at h
 split at h
 ·rename_i hw
  rw [if_pos hw]
  split at h
  ·rename_i d hp' hst
   simp at h; subst h
   refine zk7 TA FO hP hS hY S f hK hs hl.op hst (fun v w' ρ' H' p hv hlen=>hn _ w' ρ' H' p ?_ hlen (z18 _ _ _))
   rw [hl.dst]
   exact z3u (hs.mono p.ext) hv
  ·simp at h
 ·rename_i hw
  rw [if_neg hw]
  simp at h; subst h
  refine ⟨fun _ _=>trivial,hn _ w ρ H (PostT.refl S) ?_ (Nat.le_refl _) (z18 _ _ _)⟩
  rw [hl.dst]
  exact z3u hs .u0

theorem PostT.weaken {K K' : Nat -> Prop} {ρ' : Rho} {H' : HS} {w w' : World} {os' : List Obj} (h : PostT CL F B K ρ H w ρ' H' w' os') (hk : ∀ i,K' i -> K i) : PostT CL F B K' ρ H w ρ' H' w' os':=
 ⟨h.ext,h.sr,h.size,h.frB,h.frD,h.hnew,fun i hi=>h.vac i (hk i hi),h.fz,h.still,h.frame,h.rb,h.hn⟩

theorem z5v (TA : TAll P E T) (FO : FnsOk P F) {callP : Nat -> List D -> Option D} {callS callY : Nat -> List D -> List Obj -> Option (D × List Obj)}
  (hP : ∀ f f',F f = some f' -> PureAt P F (callP f') f) (hS : ∀ f f',F f = some f' -> StatAt P CL F (fun ds os=>noMark (callS f' ds os)) f) (hY : YieldAt P CL F callY)
  {r : Option Nat} {ops : Array Oper} {Q : Exit -> Act -> World -> Prop} : ∀ (ds : List DOpr) (k : Nat) {ρ : Rho} {H : HS} {w : World} {a : Act} {st st' : St},
   OpsL T F ops.toList (ops.toList.drop k) ds -> stepOps E callP callS callY ds st = some st' -> SR CL F B ρ H w.heap st.hp -> RepL F ρ H w.heap a.tmps.toList st.sl ->
   (∀ a' w' ρ' H',PostT CL F B (fun i=>i < st.hp.length) ρ H w ρ' H' w' st'.hp -> RepL F ρ' H' w'.heap a'.tmps.toList st'.sl -> st.hp.length <= st'.hp.length -> a'.defers = a.defers -> Q .normal a' w') ->
   Go.wpOpsIn (Fw r) 0 P ops Q (List.range' k ds.length) a w
 | [],k,ρ,H,w,a,st,st',hl,h,S,hs,hn=>by
  simp only [stepOps,Option.some.injEq] at h; subst h
  exact hn a w ρ H (PostT.refl S) hs (Nat.le_refl _) rfl
 | dop :: ds,k,ρ,H,w,a,st,st',hl,h,S,hs,hn=>by
  cases hd : ops.toList.drop k with
  | nil=>rw [hd] at hl; exact hl.elim
  | cons o rest=>
   rw [hd] at hl
   obtain ⟨h1,h2⟩:=hl
   have hk : ops.toList[k]? = some o:=by
    have:=congrArg (fun l : List Oper=>l[0]?) hd
    simpa using this
   have ho : ops[k]? = some o:=by simpa using hk
   have hrest : ops.toList.drop (k + 1) = rest:=by
    have:=congrArg (fun l : List Oper=>l.drop 1) hd
    simpa [List.drop_drop,Nat.add_comm] using this
   rw [z8] at h
   simp only [Option.bind_eq_some_iff] at h
   obtain ⟨st1,h3,h4⟩:=h
   rw [List.length_cons,List.range'_succ,Go.wpOpsIn_cons]
   refine z5x TA FO hP hS hY ho h1 h3 S S.free (fun i hi=>⟨hi,Nat.ne_of_lt hi⟩) hs (K:=fun i=>i < st.hp.length) (fun a' w' ρ' H' p hs' hlen hdf=>?_)
   refine z5v TA FO hP hS hY ds (k + 1) (by rw [hrest]; exact h2) h4 p.sr hs' (fun a2 w2 ρ2 H2 p2 hs2 hlen2 hdf2=>?_)
   exact hn a2 w2 ρ2 H2 (p.trans (p2.weaken fun i hi=>Nat.lt_of_lt_of_le hi hlen)) hs2 (Nat.le_trans hlen hlen2) (hdf2.trans hdf)

theorem OpsL.len {all : List Oper} : ∀ {l : List Oper} {ds : List DOpr},OpsL T F all l ds -> l.length = ds.length
 | [],[],_=>rfl
 | _ :: _,_ :: _,h=>by simp [OpsL.len h.2]
 | [],_ :: _,h=>h.elim
 | _ :: _,[],h=>h.elim

end
end Dv

namespace Dv

def isStore : DOp -> Bool
 | .store _ _ _=>true
 | .call 4 _ (_ :: _)=>true
 | _=>false

def isMk : DOp -> Bool
 | .call 4 _ []=>true
 | .mkcall _ _=>true
 | _=>false

def locl (op : DOp) : Bool:=!op.fin || isStore op

def hfree : DOp -> Bool
 | .move _=>true
 | .assign _=>true
 | .pick _ _ _=>true
 | .build _ _=>true
 | .bslice mu _ _ _=>!mu
 | .bin _ _ _ _=>true
 | .un _ _=>true
 | .conv _ _ _=>true
 | .mkfn _ _=>true
 | .mkslice mu _ _ _=>!mu
 | .slice _ _ _ _ _=>true
 | .faddr _ _ _=>true
 | .nilc _=>true
 | .mark _ _=>true
 | .field _ _ _=>true
 | .iaddr _ _ _=>true
 | .index _ _ _=>true
 | .extract _ _=>true
 | .call md _ _=>md == 0
 | .maxi _=>true
 | .mini _=>true
 | .ibox _ _=>true
 | .iload _ _=>true
 | .mkbfn _ _=>true
 | .b2s _ _ _=>true
 | .s2b _ _ _=>true
 | _=>false

def opnds : DOp -> List Opd
 | .move x=>[x]
 | .assign x=>[x]
 | .pick c a b=>[c,a,b]
 | .alloc _=>[]
 | .box _ x=>[x]
 | .build _ ps=>ps.map (·.2)
 | .bslice _ _ _ ps=>ps.map (·.2)
 | .load _ a=>[a]
 | .store _ a x=>[a,x]
 | .bin _ _ x y=>[x,y]
 | .un _ x=>[x]
 | .conv _ _ x=>[x]
 | .mkfn _ cs=>cs
 | .mkmap _=>[]
 | .mkslice _ _ l c=>[l,c]
 | .slice _ x lo hi mx=>x :: (lo.toList ++ (hi.toList ++ mx.toList))
 | .faddr _ x _=>[x]
 | .field _ x _=>[x]
 | .iaddr _ x i=>[x,i]
 | .index _ x i=>[x,i]
 | .lookup _ m k _=>[m,k]
 | .mapset _ m k v=>[m,k,v]
 | .extract x _=>[x]
 | .call _ f as=>f :: as
 | .append _ _ _ x y=>[x,y]
 | .len _ x=>[x]
 | .nilc x=>[x]
 | .mark _ x=>[x]
 | .maxi as=>as
 | .mini as=>as
 | .copy _ _ x y=>[x,y]
 | .b2s _ _ x=>[x]
 | .s2b _ _ x=>[x]
 | .mkcap _ l c=>[l,c]
 | .reslice _ x h=>[x,h]
 | .clr _ x=>[x]
 | .ibox _ x=>[x]
 | .iload _ a=>[a]
 | .mkbfn _ x=>[x]
 | .mkcall f as=>f :: as
 | .prim _ as=>as

def slots (l : List Opd) : List Nat:=l.filterMap fun | .t n=>some n | _=>none

def reads (o : DOpr) : List Nat:=slots (opnds o.op) ++ (match o.gd with | some (j,_)=>[j] | none=>[])

section
variable {E : Env} {callP : Nat -> List D -> Option D} {callS callY : Nat -> List D -> List Obj -> Option (D × List Obj)} {id : Nat} {g g' : Opd -> D} {hp hp' : List Obj} {op : DOp}

theorem z1f {l : List Opd} (h : ∀ x,x ∈ l -> g x = g' x) : l.map g = l.map g':=List.map_congr_left h

theorem z7f {l : List (Nat × Opd)} (h : ∀ x,x ∈ l.map (·.2) -> g x = g' x) : (l.map fun p=>(p.1,g p.2)) = l.map fun p=>(p.1,g' p.2):=
 List.map_congr_left fun p hp=>by rw [h p.2 (List.mem_map.2 ⟨p,hp,rfl⟩)]

theorem z4b {x : Option Opd} (h : ∀ y,y ∈ x.toList -> g y = g' y) : x.map g = x.map g':=by
 cases x with
 | none=>rfl
 | some y=>simp only [Option.map_some]; rw [h y (by simp)]

theorem z3b (h : ∀ x,x ∈ opnds op -> g x = g' x) : pureOp E callP id g hp op = pureOp E callP id g' hp op:=by
 cases op with
 | move x=>simp only [pureOp]; rw [h x (by simp [opnds])]
 | assign x=>simp only [pureOp]; rw [h x (by simp [opnds])]
 | pick c a b=>simp only [pureOp]; rw [h c (by simp [opnds]),h a (by simp [opnds]),h b (by simp [opnds])]
 | alloc t=>rfl
 | box t x=>simp only [pureOp]; rw [h x (by simp [opnds])]
 | build t ps=>simp only [pureOp]; rw [z7f h]
 | bslice mu t len ps=>simp only [pureOp]; rw [z7f h]
 | load t a=>simp only [pureOp]; rw [h a (by simp [opnds])]
 | store t a x=>rfl
 | bin o t x y=>simp only [pureOp]; rw [h x (by simp [opnds]),h y (by simp [opnds])]
 | un o x=>simp only [pureOp]; rw [h x (by simp [opnds])]
 | conv s d x=>simp only [pureOp]; rw [h x (by simp [opnds])]
 | mkfn f cs=>simp only [pureOp]; rw [z1f (l:=cs) h]
 | mkmap t=>rfl
 | mkslice mu t l c=>simp only [pureOp]; rw [h l (by simp [opnds]),h c (by simp [opnds])]
 | slice t x lo hi mx=>simp only [pureOp]; rw [h x (by simp [opnds]),z4b fun y hy=>h y (by simp only [opnds,List.mem_cons,List.mem_append]; exact .inr (.inl hy)),z4b fun y hy=>h y (by simp only [opnds,List.mem_cons,List.mem_append]; exact .inr (.inr (.inl hy))),z4b fun y hy=>h y (by simp only [opnds,List.mem_cons,List.mem_append]; exact .inr (.inr (.inr hy)))]
 | faddr t x f=>simp only [pureOp]; rw [h x (by simp [opnds])]
 | field t x f=>simp only [pureOp]; rw [h x (by simp [opnds])]
 | iaddr t x i=>simp only [pureOp]; rw [h x (by simp [opnds]),h i (by simp [opnds])]
 | index t x i=>simp only [pureOp]; rw [h x (by simp [opnds]),h i (by simp [opnds])]
 | lookup t m k ok=>simp only [pureOp]; rw [h m (by simp [opnds]),h k (by simp [opnds])]
 | mapset t m k v=>rfl
 | extract x i=>simp only [pureOp]; rw [h x (by simp [opnds])]
 | call md f as=>
  cases md with
  | zero=>simp only [pureOp]; rw [h f (by simp [opnds]),z1f fun x hx=>h x (by simp only [opnds]; exact List.mem_cons_of_mem _ hx)]
  | succ n=>rfl
 | append md t t2 x y=>simp only [pureOp]; rw [h x (by simp [opnds]),h y (by simp [opnds])]
 | len t x=>simp only [pureOp]; rw [h x (by simp [opnds])]
 | nilc x=>simp only [pureOp]; rw [h x (by simp [opnds])]
 | mark b x=>simp only [pureOp]; rw [h x (by simp [opnds])]
 | maxi as=>simp only [pureOp]; rw [z1f (l:=as) h]
 | mini as=>simp only [pureOp]; rw [z1f (l:=as) h]
 | copy t t2 x y=>rfl
 | b2s s d x=>simp only [pureOp]; rw [h x (by simp [opnds])]
 | s2b s d x=>simp only [pureOp]; rw [h x (by simp [opnds])]
 | mkbfn f x=>simp only [pureOp]; rw [h x (by simp [opnds])]
 | mkcap t l c=>rfl
 | mkcall f as=>rfl
 | prim n as=>rfl
 | reslice t x h=>rfl
 | clr t x=>rfl
 | ibox t x=>simp only [pureOp]; rw [h x (by simp [opnds])]
 | iload t a=>simp only [pureOp]; rw [h a (by simp [opnds])]

theorem zew (h : ∀ x,x ∈ opnds op -> g x = g' x) : finOp E callP callS callY g hp op = finOp E callP callS callY g' hp op:=by
 cases op with
 | store t a x=>simp only [finOp]; rw [h x (by simp [opnds]),h a (by simp [opnds])]
 | mapset t m k v=>simp only [finOp]; rw [h m (by simp [opnds]),h k (by simp [opnds]),h v (by simp [opnds])]
 | append md t t2 x y=>simp only [finOp]; rw [h x (by simp [opnds]),h y (by simp [opnds])]
 | copy t t2 x y=>simp only [finOp]; rw [h x (by simp [opnds]),h y (by simp [opnds])]
 | mkcall f as=>simp only [finOp]; rw [h f (by simp [opnds]),z1f (l:=as) fun y hy=>h y (by simp only [opnds]; exact List.mem_cons_of_mem _ hy)]
 | prim n as=>simp only [finOp]; rw [z1f (l:=as) h]
 | mkcap t l c=>simp only [finOp]; rw [h l (by simp [opnds]),h c (by simp [opnds])]
 | reslice t x y=>simp only [finOp]; rw [h x (by simp [opnds]),h y (by simp [opnds])]
 | clr t x=>simp only [finOp]; rw [h x (by simp [opnds])]
 | call md f as=>
  have h1:=h f (by simp [opnds])
  have h2:=z1f fun x hx=>h x (by simp only [opnds]; exact List.mem_cons_of_mem _ hx)
  match md with
  | 0=>simp only [finOp]; rw [h1,h2]
  | 1=>simp only [finOp]; rw [h1,h2]
  | 2=>simp only [finOp]; rw [h1,h2]
  | 3=>simp only [finOp]; rw [h1,h2]
  | 4=>
   cases as with
   | nil=>simp only [finOp]; rw [h1]
   | cons x as=>
    simp only [finOp]
    rw [h1,h x (by simp [opnds]),z1f (l:=as) fun y hy=>h y (by simp only [opnds]; exact List.mem_cons_of_mem _ (List.mem_cons_of_mem _ hy))]
  | 5=>simp only [finOp]; rw [h1,h2]
  | 6=>simp only [finOp]; rw [h1,h2]
  | n + 7=>simp only [finOp]; rw [h1,h2]
 | _=>rfl

theorem z73 (h : ∀ x,x ∈ opnds op -> g x = g' x) : stepOp E callP callS callY id g hp op = stepOp E callP callS callY id g' hp op:=by
 unfold stepOp
 rw [z3b h,zew h]

theorem z65 (h : hfree op = true) : op.fin = false:=by
 cases op with
 | append md t t2 x y=>simp [hfree] at h
 | call md f as=>
  cases md with
  | zero=>rfl
  | succ n=>simp [hfree] at h
 | _=>first | rfl | simp [hfree] at h

theorem z6m {id' : Nat} (h : hfree op = true) : pureOp E callP id g hp op = pureOp E callP id' g hp' op:=by
 cases op with
 | append md t t2 x y=>simp [hfree] at h
 | call md f as=>
  cases md with
  | zero=>rfl
  | succ n=>simp [hfree] at h
 | bslice mu t len ps=>
  simp [hfree] at h; subst h
  simp only [pureOp,Bool.false_eq_true,false_and,if_false]
 | mkslice mu t l c=>
  simp [hfree] at h; subst h
  simp only [pureOp,Bool.false_eq_true,if_false]
 | _=>first | rfl | simp [hfree] at h

theorem z6n {e : Ef} (h : hfree op = true) (hp : pureOp E callP id g hp op = some e) : e.new = none /\ e.kill = none:=by
 cases op with
 | append md t t2 x y=>simp [hfree] at h
 | call md f as=>
  cases md with
  | zero=>
   simp only [pureOp] at hp
   (repeat' split at hp) <;> simp at hp
   obtain ⟨_,_,rfl⟩:=hp; exact ⟨rfl,rfl⟩
  | succ n=>simp [hfree] at h
 | bslice mu t len ps=>
  simp [hfree] at h; subst h
  simp only [pureOp,Bool.false_eq_true,false_and,if_false] at hp
  (repeat' split at hp) <;> simp at hp
  subst hp; exact ⟨rfl,rfl⟩
 | ibox t x=>
  simp only [pureOp] at hp
  split at hp
  ·simp only [Option.some.injEq] at hp; subst hp; exact ⟨rfl,rfl⟩
  ·simp at hp
 | mkslice mu t l c=>
  simp [hfree] at h; subst h
  simp only [pureOp,Bool.false_eq_true,if_false] at hp
  (repeat' split at hp) <;> simp at hp
  subst hp; exact ⟨rfl,rfl⟩
 | pick c a b=>
  simp only [pureOp] at hp
  (repeat' split at hp) <;> simp at hp <;> subst hp <;> exact ⟨rfl,rfl⟩
 | build t ps=>
  simp only [pureOp] at hp
  (repeat' split at hp) <;> simp at hp
  obtain ⟨_,_,rfl⟩:=hp; exact ⟨rfl,rfl⟩
 | mark b x=>
  simp only [pureOp] at hp
  (repeat' split at hp) <;> simp at hp <;> subst hp <;> exact ⟨rfl,rfl⟩
 | nilc x=>
  simp only [pureOp] at hp
  (repeat' split at hp) <;> simp at hp <;> subst hp <;> exact ⟨rfl,rfl⟩
 | extract x i=>
  simp only [pureOp] at hp
  (repeat' split at hp) <;> simp at hp
  obtain ⟨_,_,rfl⟩:=hp; exact ⟨rfl,rfl⟩
 | _=>first
   | (simp [hfree] at h; done)
   | (simp only [pureOp,Option.some.injEq] at hp; subst hp; exact ⟨rfl,rfl⟩)
   | (simp only [pureOp,Option.map_eq_some_iff] at hp; obtain ⟨_,_,rfl⟩:=hp; exact ⟨rfl,rfl⟩)

def KeptD (hp hp' : List Obj) (d : D) : Prop:=∀ k,did d = some k -> ∀ o : Obj,hp[k]? = some o -> o.live = true -> hp'[k]? = some o \/ ∃ u s,o = .tok u s

theorem zh1 {k : Nat} {cs : List D} (hk : ∀ o : Obj,hp[k]? = some o -> o.live = true -> hp'[k]? = some o \/ ∃ u s,o = .tok u s) (h : rowOf hp k = some cs) : rowOf hp' k = some cs:=by
 unfold rowOf at h
 split at h
 ·rename_i ho
  rcases hk _ ho rfl with h1 | ⟨u,s,h1⟩
  ·unfold rowOf; rw [h1]; exact h
  ·cases h1
 ·rename_i ho
  rcases hk _ ho rfl with h1 | ⟨u,s,h1⟩
  ·unfold rowOf; rw [h1]; exact h
  ·cases h1
 ·simp at h

theorem zhi {t : Nat} {a d : D} (hk : KeptD hp hp' a) (h : loadD E hp t a = some d) : loadD E hp' t a = some d:=by
 unfold loadD at h ⊢
 split at h
 ·rename_i k off
  split at h
  ·rename_i cs ho
   rcases hk k rfl _ ho rfl with h1 | ⟨u,s,h1⟩
   ·simp only [h1]; exact h
   ·cases h1
  ·rename_i cs ho
   rcases hk k rfl _ ho rfl with h1 | ⟨u,s,h1⟩
   ·simp only [h1]; exact h
   ·cases h1
  ·simp at h
 ·exact h
 ·simp at h

theorem z8s {sz : Nat} {ag : Bool} {d : D} {l : List D} (hk : KeptD hp hp' d) (h : listOf hp sz ag d = some l) : listOf hp' sz ag d = some l:=by
 unfold listOf at h ⊢
 split at h
 ·exact h
 ·split at h
  ·rename_i k off len sz' ag' gr hz
   rw [if_pos hz]
   split at h
   ·rename_i cs hr
    rw [zh1 (fun o ho hl=>hk k rfl o ho hl) hr]; exact h
   ·simp at h
  ·simp at h
 ·simp at h

theorem zkk {t : Nat} {x d : D} (hk : KeptD hp hp' x) (h : lenD E hp t x = some d) : lenD E hp' t x = some d:=by
 unfold lenD at h ⊢
 split at h <;> first | exact h | skip
 rename_i k _ _
 split at h
 ·rename_i es ho
  rcases hk _ rfl _ ho rfl with h1 | ⟨u,s,h1⟩
  ·simp only [h1]; exact h
  ·cases h1
 ·simp at h

theorem zd0 {t : Nat} {m k d : D} {ok : Bool} (hk : KeptD hp hp' m) (h : lookupD E hp t m k ok = some d) : lookupD E hp' t m k ok = some d:=by
 unfold lookupD at h ⊢
 split at h
 ·rename_i kt e mid _
  split at h
  ·rename_i hok
   rw [if_pos hok]
   cases mid with
   | none=>exact h
   | some mid=>
    simp only at h ⊢
    cases ho : hp[mid]? with
    | none=>simp [ho] at h
    | some o=>
     cases o with
     | map es=>
      rcases hk mid rfl _ ho rfl with h1 | ⟨u,s,h1⟩
      ·rw [h1]; rw [ho] at h; exact h
      ·cases h1
     | _=>simp [ho] at h
  ·simp at h
 ·simp at h

theorem z7j {el : Nat} {sp : Spare} {els new : List D} {e : Ef} (hx : ∀ k,sp = .tok k -> ∀ o : Obj,hp[k]? = some o -> o.live = true -> hp'[k]? = some o \/ ((∃ u s,o = .tok u s) /\ e.kill ≠ some k))
  (h : appendB E hp id el sp els new = some e) : appendB E hp' id el sp els new = some e:=by
 unfold appendB at h ⊢
 split at h
 ·rename_i hc
  simp only [if_pos hc]
  cases sp with
  | exact=>exact h
  | none=>simp at h
  | tok k=>
   simp only at h ⊢
   split at h
   ·rename_i used sz ho
    split at h
    ·rename_i hu
     simp at h; subst h
     rcases hx k rfl _ ho rfl with h1 | ⟨_,h1⟩
     ·simp [h1,hu]
     ·exact absurd rfl h1
    ·simp at h
   ·simp at h
 ·simp at h

theorem ze6 {e : Ef} (hm : ∀ x,x ∈ touch op -> ∀ k,did (g x) = some k -> ∀ o : Obj,hp[k]? = some o -> o.live = true -> hp'[k]? = some o \/ ((∃ u s,o = .tok u s) /\ e.kill ≠ some k))
  (h : pureOp E callP id g hp op = some e) : pureOp E callP id g hp' op = some e:=by
 have hm' : ∀ x,x ∈ touch op -> KeptD hp hp' (g x):=fun x hx k hk o ho hl=>(hm x hx k hk o ho hl).imp (fun h=>h) (fun h=>h.1)
 cases op with
 | load t a=>
  simp only [pureOp,Option.map_eq_some_iff] at h ⊢
  obtain ⟨d,h1,h2⟩:=h
  exact ⟨d,zhi (hm' a (by simp [touch])) h1,h2⟩
 | lookup t m k ok=>
  simp only [pureOp,Option.map_eq_some_iff] at h ⊢
  obtain ⟨d,h1,h2⟩:=h
  exact ⟨d,zd0 (hm' m (by simp [touch])) h1,h2⟩
 | len t x=>
  simp only [pureOp,Option.map_eq_some_iff] at h ⊢
  obtain ⟨d,h1,h2⟩:=h
  exact ⟨d,zkk (hm' x (by simp [touch])) h1,h2⟩
 | append md t t2 x y=>
  have hy:=hm' y (by simp [touch])
  match md with
  | 0=>
   have h : appendI E hp id t t2 (g x) (g y) = some e:=h
   show appendI E hp' id t t2 (g x) (g y) = some e
   have hx:=hm x (by simp [touch])
   generalize g x = dx at h hx ⊢
   generalize g y = dy at h hy ⊢
   unfold appendI at h ⊢
   split at h
   ·rename_i el _ sp els _ _
    split at h
    ·rename_i new hn
     rw [z8s hy hn]
     exact z7j (fun k hk=>by subst hk; exact hx k rfl) h
    ·simp at h
   ·rename_i el sp els _ _
    split at h
    ·rename_i s
     split at h
     ·rename_i hc
      simp only [if_pos hc]
      exact z7j (fun k hk=>by subst hk; exact hx k rfl) h
     ·simp at h
    ·simp at h
   ·simp at h
  | 1=>
   have h : appendM E hp id t t2 (g x) (g y) = some e:=h
   show appendM E hp' id t t2 (g x) (g y) = some e
   generalize g x = dx at h ⊢
   generalize g y = dy at h hy ⊢
   unfold appendM at h ⊢
   split at h
   ·split at h
    ·rename_i new hn
     rw [z8s hy hn]; exact h
    ·simp at h
   ·simp at h
  | n + 2=>exact h
 | call md f as=>
  cases md with
  | zero=>exact h
  | succ n=>exact h
 | _=>exact h

theorem ze8 {e : Ef} {k : Nat} (h : pureOp E callP id g hp op = some e) (hk : e.kill = some k) : (∃ u s,hp[k]? = some (.tok u s)) /\ ∃ x,x ∈ touch op /\ did (g x) = some k:=by
 cases op with
 | append md t t2 x y=>
  match md with
  | 0=>
   have h : appendI E hp id t t2 (g x) (g y) = some e:=h
   have key : ∀ {el : Nat} {sp : Spare} {els new : List D},g x = .imm sp els -> appendB E hp id el sp els new = some e -> (∃ u s,hp[k]? = some (.tok u s)) /\ ∃ y',y' ∈ touch (.append 0 t t2 x y) /\ did (g y') = some k:=by
    intro el sp els new hg h
    unfold appendB at h
    split at h
    ·cases sp with
     | exact=>simp at h; subst h; simp at hk
     | none=>simp at h
     | tok k'=>
      simp only at h
      split at h
      ·rename_i used sz ho
       split at h
       ·simp at h; subst h; simp at hk; subst hk
        exact ⟨⟨_,_,ho⟩,x,by simp [touch],by rw [hg]; rfl⟩
       ·simp at h
      ·simp at h
    ·simp at h
   unfold appendI at h
   split at h
   ·rename_i hg
    split at h
    ·exact key hg h
    ·simp at h
   ·rename_i hg
    split at h
    ·split at h
     ·exact key hg h
     ·simp at h
    ·simp at h
   ·simp at h
  | 1=>
   have h : appendM E hp id t t2 (g x) (g y) = some e:=h
   unfold appendM at h
   (repeat' split at h) <;> simp at h <;> subst h <;> simp at hk
  | n + 2=>simp [pureOp] at h
 | call md f as=>
  cases md with
  | zero=>
   simp only [pureOp] at h
   (repeat' split at h) <;> simp at h
   obtain ⟨_,_,rfl⟩:=h; simp at hk
  | succ n=>simp [pureOp] at h
 | _=>
  simp only [pureOp] at h
  first
   | (simp at h; done)
   | (simp only [Option.some.injEq] at h; subst h; simp at hk; done)
   | (simp only [Option.map_eq_some_iff] at h; obtain ⟨_,_,rfl⟩:=h; simp at hk; done)
   | ((repeat' split at h) <;> first | (simp at h; done) | (simp only [Option.some.injEq] at h; subst h; simp at hk; done) | (simp only [Option.map_eq_some_iff] at h; obtain ⟨_,_,rfl⟩:=h; simp at hk; done))

end
end Dv

namespace Dv

abbrev W2:=Option (Nat × Obj)

def oset (hp : List Obj) : W2 -> List Obj
 | none=>hp
 | some (k,v)=>hp.set k v

theorem z1n (hp : List Obj) (o : W2) : (oset hp o).length = hp.length:=by
 cases o with
 | none=>rfl
 | some p=>simp [oset]

theorem z1q {hp : List Obj} {o : W2} {k : Nat} (h : ∀ v,o ≠ some (k,v)) : (oset hp o)[k]? = hp[k]?:=by
 cases o with
 | none=>rfl
 | some p=>
  obtain ⟨i,v⟩:=p
  simp only [oset]
  rw [List.getElem?_set_ne]
  rintro rfl; exact h v rfl

theorem zfn {hp : List Obj} {k : Nat} {v : Obj} (h : k < hp.length) : (oset hp (some (k,v)))[k]? = some v:=by
 simp [oset,h]

theorem z7q {hp X : List Obj} {o : W2} (h : ∀ k v,o = some (k,v) -> k < hp.length) : oset (hp ++ X) o = oset hp o ++ X:=by
 cases o with
 | none=>rfl
 | some p=>
  obtain ⟨k,v⟩:=p
  simp only [oset]
  rw [List.set_append_left _ _ (h k v rfl)]

theorem z5u {hp : List Obj} {o o' : W2} (h : ∀ k v v',o = some (k,v) -> o' ≠ some (k,v')) : oset (oset hp o) o' = oset (oset hp o') o:=by
 cases o with
 | none=>rfl
 | some p=>
  cases o' with
  | none=>rfl
  | some p'=>
   obtain ⟨i,v⟩:=p
   obtain ⟨i',v'⟩:=p'
   simp only [oset]
   exact List.set_comm _ _ fun e=>by subst e; exact h _ v v' rfl rfl

def lact (E : Env) (callP : Nat -> List D -> Option D) (callS : Nat -> List D -> List Obj -> Option (D × List Obj)) (id : Nat) (g : Opd -> D) (hp : List Obj) (op : DOp) : Option (D × W2 × W2):=
 match op with
 | .store t a x=>
  (match g a with
  | .loc k off=>(match hp[k]? with
   | some (.cells cs)=>
    if (g x).storable = true /\ (g x).cellsL.length = (E.ty t).size /\ off + (E.ty t).size <= cs.length then some (.undef,none,some (k,.cells (setCells cs off (g x).cellsL))) else none
   | _=>none)
  | _=>none)
 | .call 4 f (x :: as)=>
  (match g f with
  | .fn k caps=>(islD callS k (g x) (as.map g ++ caps) hp).map fun r=>(r.1,none,some (r.2.1,r.2.2))
  | _=>none)
 | op=>(pureOp E callP id g hp op).map fun e=>(e.d,e.kill.map fun k=>(k,Obj.dead),e.new.map fun o=>(id,o))

section
variable {E : Env} {callP : Nat -> List D -> Option D} {callS callY : Nat -> List D -> List Obj -> Option (D × List Obj)} {id : Nat} {g g' : Opd -> D} {hp hp' : List Obj} {op : DOp}

theorem z62 (h : isStore op = false) : lact E callP callS id g hp op = (pureOp E callP id g hp op).map fun e=>(e.d,e.kill.map fun k=>(k,Obj.dead),e.new.map fun o=>(id,o)):=by
 cases op with
 | store t a x=>simp [isStore] at h
 | call md f as=>
  match md with
  | 0=>rfl
  | 1=>rfl
  | 2=>rfl
  | 3=>rfl
  | 4=>
   cases as with
   | nil=>rfl
   | cons x as=>simp [isStore] at h
  | n + 5=>rfl
 | _=>rfl

theorem z3e {md : Nat} {f : Opd} {as : List Opd} (h : isStore (.call md f as) = true) : md = 4:=by
 match md with
 | 4=>rfl
 | 0=>simp [isStore] at h
 | 1=>simp [isStore] at h
 | 2=>simp [isStore] at h
 | 3=>simp [isStore] at h
 | n + 5=>simp [isStore] at h

theorem zd4 {k : Nat} {x d : D} {rest : List D} {q : Nat} {o : Obj} (h : islD callS k x rest hp = some (d,q,o)) :
  (∃ cs,hp[q]? = some (.cells cs)) /\ (∃ cs,o = .cells cs) /\ did x = some q /\ ∀ hp',hp'[q]? = hp[q]? -> islD callS k x rest hp' = some (d,q,o):=by
 unfold islD at h
 split at h
 case h_2=>simp at h
 rename_i q'
 have key : q' = q:=by
  (repeat' split at h) <;> simp at h
  exact h.2.1
 subst key
 split at h
 case h_2=>simp at h
 rename_i cs ho
 refine ⟨⟨_,ho⟩,?_,rfl,fun hp' e=>?_⟩
 ·(repeat' split at h) <;> simp at h
  exact ⟨_,h.2.symm⟩
 ·unfold islD
  simp only [e,ho]
  exact h

theorem z10 (hl : locl op = true) (hid : id < hp.length) : stepOp E callP callS callY id g hp op = (lact E callP callS id g hp op).map fun r=>(r.1,oset (oset hp r.2.1) r.2.2):=by
 by_cases hs : isStore op = true
 ·cases op with
  | store t a x=>
   simp only [stepOp,DOp.fin,finOp,storeD,lact]
   cases g a with
   | loc k off=>
    simp only
    cases hp[k]? with
    | none=>rfl
    | some o=>
     cases o with
     | cells cs=>
      simp only
      split <;> rfl
     | _=>rfl
   | _=>rfl
  | call md f as=>
   have:=z3e hs
   subst this
   cases as with
   | nil=>simp [isStore] at hs
   | cons x as=>
    simp only [stepOp,DOp.fin,finOp,lact]
    cases g f with
    | fn k caps=>
     simp only
     cases islD callS k (g x) (as.map g ++ caps) hp with
     | none=>rfl
     | some r=>rfl
    | _=>rfl
  | _=>simp [isStore] at hs
 ·have hs : isStore op = false:=by simpa using hs
  have hf : op.fin = false:=by simpa [locl,hs] using hl
  rw [z62 hs]
  unfold stepOp
  rw [hf]
  simp only
  cases pureOp E callP id g hp op with
  | none=>rfl
  | some e=>
   obtain ⟨d,new,kill⟩:=e
   cases new <;> cases kill <;> simp [applyEf,oset,addO,hid]

theorem z40 {d : D} {o1 o2 : W2} {k : Nat} {v : Obj} (h : lact E callP callS id g hp op = some (d,o1,o2)) (h1 : o1 = some (k,v)) : v = .dead /\ (∃ u s,hp[k]? = some (.tok u s)) /\ ∃ x,x ∈ touch op /\ did (g x) = some k:=by
 by_cases hs : isStore op = true
 ·cases op with
  | store t a x=>
   simp only [lact] at h
   (repeat' split at h) <;> simp at h
   obtain ⟨_,rfl,_⟩:=h
   simp at h1
  | call md f as=>
   have:=z3e hs
   subst this
   cases as with
   | nil=>simp [isStore] at hs
   | cons x as=>
    simp only [lact] at h
    split at h
    ·simp only [Option.map_eq_some_iff,Prod.mk.injEq] at h
     obtain ⟨_,_,_,rfl,_⟩:=h
     simp at h1
    ·simp at h
  | _=>simp [isStore] at hs
 ·rw [z62 (by simpa using hs)] at h
  simp only [Option.map_eq_some_iff,Prod.mk.injEq] at h
  obtain ⟨e,h2,_,h3,_⟩:=h
  subst h3
  simp only [Option.map_eq_some_iff,Prod.mk.injEq] at h1
  obtain ⟨k',h4,rfl,rfl⟩:=h1
  exact ⟨rfl,ze8 h2 h4⟩

theorem z4c {d : D} {o1 o2 : W2} {k : Nat} {v : Obj} (h : lact E callP callS id g hp op = some (d,o1,o2)) (h1 : o2 = some (k,v)) : (isStore op = false /\ k = id) \/ (isStore op = true /\ (∃ cs,hp[k]? = some (.cells cs)) /\ (∃ cs,v = .cells cs) /\ ∃ x,x ∈ touch op /\ did (g x) = some k):=by
 by_cases hs : isStore op = true
 ·cases op with
  | store t a x=>
   simp only [lact] at h
   split at h
   case h_2=>simp at h
   rename_i k' off hg
   split at h
   case h_2=>simp at h
   rename_i cs ho
   split at h
   case isFalse=>simp at h
   simp at h
   obtain ⟨_,_,rfl⟩:=h
   simp at h1
   obtain ⟨rfl,rfl⟩:=h1
   exact .inr ⟨rfl,⟨_,ho⟩,⟨_,rfl⟩,a,by simp [touch],by rw [hg]; rfl⟩
  | call md f as=>
   have:=z3e hs
   subst this
   cases as with
   | nil=>simp [isStore] at hs
   | cons x as=>
    simp only [lact] at h
    split at h
    ·simp only [Option.map_eq_some_iff,Prod.mk.injEq] at h
     obtain ⟨⟨d1,q,o⟩,h3,_,_,rfl⟩:=h
     simp at h1
     obtain ⟨rfl,rfl⟩:=h1
     obtain ⟨i1,i2,i3,_⟩:=zd4 h3
     exact .inr ⟨rfl,i1,i2,x,by simp [touch],i3⟩
    ·simp at h
  | _=>simp [isStore] at hs
 ·have hs : isStore op = false:=by simpa using hs
  rw [z62 hs] at h
  simp only [Option.map_eq_some_iff,Prod.mk.injEq] at h
  obtain ⟨e,h2,_,_,h3⟩:=h
  subst h3
  simp only [Option.map_eq_some_iff,Prod.mk.injEq] at h1
  obtain ⟨k',h4,rfl,rfl⟩:=h1
  exact .inl ⟨hs,rfl⟩

theorem z63 {d : D} {o1 o2 : W2} (hm : ∀ x,x ∈ touch op -> ∀ k,did (g x) = some k -> ∀ o : Obj,hp[k]? = some o -> o.live = true -> hp'[k]? = some o \/ ((∃ u s,o = .tok u s) /\ ∀ v,o1 ≠ some (k,v)))
  (h : lact E callP callS id g hp op = some (d,o1,o2)) : lact E callP callS id g hp' op = some (d,o1,o2):=by
 by_cases hs : isStore op = true
 ·cases op with
  | store t a x=>
   have hx:=hm a (by simp [touch])
   simp only [lact] at h ⊢
   split at h
   ·rename_i k off hg
    split at h
    ·rename_i cs ho
     rcases hx k (by rw [hg]; rfl) _ ho rfl with h1 | ⟨⟨u,s,h1⟩,_⟩
     ·rw [h1]; exact h
     ·cases h1
    ·simp at h
   ·simp at h
  | call md f as=>
   have:=z3e hs
   subst this
   cases as with
   | nil=>simp [isStore] at hs
   | cons x as=>
    have hx:=hm x (by simp [touch])
    simp only [lact] at h ⊢
    split at h
    ·rename_i k caps hg
     simp only [Option.map_eq_some_iff,Prod.mk.injEq] at h ⊢
     obtain ⟨⟨d1,q,o⟩,h3,h4⟩:=h
     refine ⟨_,?_,h4⟩
     obtain ⟨⟨cs,i1⟩,i2,i3,i4⟩:=zd4 h3
     rcases hx q i3 _ i1 rfl with h1 | ⟨⟨u,s,h1⟩,_⟩
     ·exact i4 hp' (by rw [h1,i1])
     ·cases h1
    ·simp at h
  | _=>simp [isStore] at hs
 ·have hs : isStore op = false:=by simpa using hs
  rw [z62 hs] at h ⊢
  simp only [Option.map_eq_some_iff,Prod.mk.injEq] at h ⊢
  obtain ⟨e,h1,h2,h3,h4⟩:=h
  refine ⟨e,ze6 (fun x hx k hk o ho hl=>?_) h1,h2,h3,h4⟩
  rcases hm x hx k hk o ho hl with h5 | ⟨h5,h6⟩
  ·exact .inl h5
  ·refine .inr ⟨h5,fun he=>?_⟩
   rw [he] at h3
   exact h6 .dead (by rw [<- h3]; rfl)

def Apart (g g' : Opd -> D) (op op' : DOp) : Prop:=∀ x,x ∈ touch op -> ∀ y,y ∈ touch op' -> ∀ k,did (g x) = some k -> did (g' y) ≠ some k

theorem zkn {id' : Nat} {op' : DOp} {d d' : D} {a1 a2 b1 b2 : W2} (h : lact E callP callS id g hp op = some (d,a1,a2)) (h' : lact E callP callS id' g' (oset (oset hp a1) a2) op' = some (d',b1,b2))
  (hid : hp[id]? = some .dead) (hid' : hp[id']? = some .dead) (hne : id ≠ id') (hc : ∀ x,x ∈ touch op' -> did (g' x) ≠ some id)
  (hap : (isStore op = false /\ isStore op' = false) \/ Apart g g' op op') :
  lact E callP callS id' g' hp op' = some (d',b1,b2) /\ lact E callP callS id g (oset (oset hp b1) b2) op = some (d,a1,a2) /\ oset (oset (oset (oset hp a1) a2) b1) b2 = oset (oset (oset (oset hp b1) b2) a1) a2:=by
 -- what the first writes is not what the second looks at
 have a2key : ∀ x,x ∈ touch op' -> ∀ k,did (g' x) = some k -> ∀ v,a2 ≠ some (k,v):=by
  intro x hx k hk v e
  rcases z4c h e with ⟨_,rfl⟩ | ⟨hs,_,_,y,hy,hyk⟩
  ·exact hc x hx hk
  ·rcases hap with ⟨h1,_⟩ | h1
   ·rw [hs] at h1; cases h1
   ·exact h1 y hy x hx k hyk hk
 have first : lact E callP callS id' g' hp op' = some (d',b1,b2):=by
  refine z63 (fun x hx k hk o ho hl=>.inl ?_) h'
  rw [z1q (a2key x hx k hk)] at ho
  by_cases e : ∃ v,a1 = some (k,v)
  ·obtain ⟨v,e⟩:=e
   obtain ⟨rfl,⟨u,s,ht⟩,_⟩:=z40 h e
   rw [e,zfn (List.getElem?_eq_some_iff.1 ht).1] at ho
   simp at ho; subst ho; simp [Obj.live] at hl
  ·rw [z1q fun v hv=>e ⟨v,hv⟩] at ho
   exact ho
 have a1b1 : ∀ k v v',a1 = some (k,v) -> b1 ≠ some (k,v'):=by
  intro k v v' e e'
  obtain ⟨rfl,⟨u,s,ht⟩,_⟩:=z40 h e
  obtain ⟨_,⟨u',s',ht'⟩,x,hx,hk⟩:=z40 h' e'
  rw [z1q (a2key x hx k hk),e,zfn (List.getElem?_eq_some_iff.1 ht).1] at ht'
  cases ht'
 have a1b2 : ∀ k v v',a1 = some (k,v) -> b2 ≠ some (k,v'):=by
  intro k v v' e e'
  obtain ⟨rfl,⟨u,s,ht⟩,x,hx,hk⟩:=z40 h e
  rcases z4c first e' with ⟨_,rfl⟩ | ⟨hs,⟨cs,hcs⟩,_,y,hy,hyk⟩
  ·rw [hid'] at ht; cases ht
  ·rw [ht] at hcs; cases hcs
 have a2b1 : ∀ k v v',a2 = some (k,v) -> b1 ≠ some (k,v'):=by
  intro k v v' e e'
  obtain ⟨_,⟨u,s,ht⟩,x,hx,hk⟩:=z40 first e'
  exact a2key x hx k hk v e
 have a2b2 : ∀ k v v',a2 = some (k,v) -> b2 ≠ some (k,v'):=by
  intro k v v' e e'
  rcases z4c first e' with ⟨hs,rfl⟩ | ⟨hs,⟨cs,hcs⟩,_,y,hy,hyk⟩
  ·rcases z4c h e with ⟨_,rfl⟩ | ⟨_,⟨cs,hcs⟩,_⟩
   ·exact hne rfl
   ·rw [hid'] at hcs; cases hcs
  ·exact a2key y hy k hyk v e
 refine ⟨first,?_,?_⟩
 ·refine z63 (fun x hx k hk o ho hl=>?_) h
  by_cases e2 : ∃ v,b2 = some (k,v)
  ·obtain ⟨v,e2⟩:=e2
   rcases z4c first e2 with ⟨_,rfl⟩ | ⟨hs,_,_,y,hy,hyk⟩
   ·rw [hid'] at ho; simp at ho; subst ho; simp [Obj.live] at hl
   ·rcases hap with ⟨_,h1⟩ | h1
    ·rw [hs] at h1; cases h1
    ·exact absurd hyk (h1 x hx y hy k hk)
  ·rw [z1q fun v hv=>e2 ⟨v,hv⟩]
   by_cases e1 : ∃ v,b1 = some (k,v)
   ·obtain ⟨v,e1⟩:=e1
    obtain ⟨_,⟨u,s,ht⟩,_⟩:=z40 first e1
    rw [ht] at ho; simp at ho
    exact .inr ⟨⟨u,s,ho.symm⟩,fun v' hv'=>a1b1 k v' v hv' e1⟩
   ·rw [z1q fun v hv=>e1 ⟨v,hv⟩]
    exact .inl ho
 ·rw [z5u (hp:=oset hp a1) (o:=a2) (o':=b1) a2b1,z5u (hp:=hp) a1b1,z5u (hp:=oset (oset hp b1) a1) (o:=a2) (o':=b2) a2b2,z5u (hp:=oset hp b1) (o:=a1) (o':=b2) a1b2]

end


def qt : DOp -> Bool
 | .load _ _=>true
 | .lookup _ _ _ _=>true
 | .len _ _=>true
 | .call 1 _ _=>true
 | .call 3 _ _=>true
 | _=>false

def frzO : Obj -> Obj
 | .cells cs=>.frozen cs
 | o=>o

theorem zev {hp : List Obj} {i j : Nat} : (freeze1 hp i)[j]? = if j = i then (hp[j]?).map frzO else hp[j]?:=by
 unfold freeze1
 split
 ·rename_i cs h
  have hlt:=(List.getElem?_eq_some_iff.1 h).1
  by_cases e : j = i
  ·subst e
   rw [if_pos rfl,h,List.getElem?_set_self hlt]; rfl
  ·rw [if_neg e,List.getElem?_set_ne (fun h=>e h.symm)]
 ·rename_i h
  by_cases e : j = i
  ·subst e
   rw [if_pos rfl]
   cases ho : hp[j]? with
   | none=>rfl
   | some o=>
    cases o <;> first | rfl | (exact absurd ho (h _))
  ·rw [if_neg e]
theorem zlb {o : Obj} : frzO (frzO o) = frzO o:=by cases o <;> rfl
theorem zw {j : Nat} : ∀ {l : List Nat} {hp : List Obj},(freezeAll hp l)[j]? = if j ∈ l then (hp[j]?).map frzO else hp[j]?
 | [],hp=>by simp [freezeAll]
 | i :: l,hp=>by
  have ih:=zw (j:=j) (l:=l) (hp:=freeze1 hp i)
  have : freezeAll hp (i :: l) = freezeAll (freeze1 hp i) l:=rfl
  rw [this,ih,zev]
  by_cases e : j = i
  ·subst e
   simp only [if_true,List.mem_cons,true_or]
   split
   ·cases hp[j]? with
    | none=>rfl
    | some o=>simp only [Option.map_some,zlb]
   ·rfl
  ·simp only [e,if_false,List.mem_cons,false_or]
theorem z9t {hp : List Obj} {l m : List Nat} : freezeAll (freezeAll hp m) l = freezeAll (freezeAll hp l) m:=by
 apply List.ext_getElem?
 intro j
 rw [zw,zw,zw,zw]
 by_cases h1 : j ∈ l <;> by_cases h2 : j ∈ m <;> simp [h1,h2]
theorem zcp {hp : List Obj} {l : List Nat} {i : Nat} : rowOf (freezeAll hp l) i = rowOf hp i:=by
 unfold rowOf
 rw [zw]
 by_cases h : i ∈ l
 ·rw [if_pos h]
  cases hp[i]? with
  | none=>rfl
  | some o=>cases o <;> rfl
 ·rw [if_neg h]
theorem zla {hp hp' : List Obj} (h : ∀ i,rowOf hp i = rowOf hp' i) : ∀ (n : Nat) (d : D),frz hp n d = frz hp' n d
 | 0,d=>rfl
 | n + 1,d=>by
  have ih : frz hp n = frz hp' n:=funext (zla h n)
  cases d <;> simp only [frz,ih,h]
theorem zkz {hp hp' : List Obj} (h : ∀ i,rowOf hp i = rowOf hp' i) : ∀ (n : Nat) (d : D),ids hp n d = ids hp' n d
 | 0,d=>rfl
 | n + 1,d=>by
  have ih : ids hp n = ids hp' n:=funext (zkz h n)
  cases d <;> simp only [ids,ih,h]

section
variable {E : Env} {callP : Nat -> List D -> Option D} {callS callY : Nat -> List D -> List Obj -> Option (D × List Obj)} {g : Opd -> D} {hp : List Obj} {op : DOp}

def qact (E : Env) (callP : Nat -> List D -> Option D) (g : Opd -> D) (hp : List Obj) : DOp -> Option (D × List Nat)
 | .load t a=>(loadD E hp t (g a)).map (·,[])
 | .lookup t m k ok=>(lookupD E hp t (g m) (g k) ok).map (·,[])
 | .len t x=>(lenD E hp t (g x)).map (·,[])
 | .call 1 f as=>(match g f with
  | .fn k caps=>(match frzL (frz hp depth) (as.map g ++ caps) with
    | some vs=>(callP k vs).map (·,(as.map g ++ caps).flatMap (ids hp depth))
    | none=>none)
  | _=>none)
 | .call 3 f as=>(match g f with
  | .fn k caps=>(match frzL (frz hp depth) (as.map g ++ caps) with
    | some vs=>(match callP k vs with
     | some d=>if d.closed = true then some (d,[]) else none
     | none=>none)
    | none=>none)
  | _=>none)
 | _=>none

theorem z23 {id : Nat} (h : qt op = true) : stepOp E callP callS callY id g hp op = (qact E callP g hp op).map fun r=>(r.1,freezeAll hp r.2):=by
 cases op with
 | load t a=>simp only [stepOp,DOp.fin,pureOp,qact]; cases loadD E hp t (g a) <;> rfl
 | lookup t m k ok=>simp only [stepOp,DOp.fin,pureOp,qact]; cases lookupD E hp t (g m) (g k) ok <;> rfl
 | len t x=>simp only [stepOp,DOp.fin,pureOp,qact]; cases lenD E hp t (g x) <;> rfl
 | call md f as=>
  match md with
  | 0=>simp [qt] at h
  | 1=>
   simp only [stepOp,DOp.fin,finOp,qact]
   cases g f <;> try rfl
   rename_i k caps
   simp only []
   cases frzL (frz hp depth) (as.map g ++ caps) with
   | none=>rfl
   | some vs=>simp only []; cases callP k vs <;> rfl
  | 2=>simp [qt] at h
  | 3=>
   simp only [stepOp,DOp.fin,finOp,qact]
   cases g f <;> try rfl
   rename_i k caps
   simp only []
   cases frzL (frz hp depth) (as.map g ++ caps) with
   | none=>rfl
   | some vs=>
    simp only []
    cases callP k vs with
    | none=>rfl
    | some d=>simp only []; split <;> rfl
  | n + 4=>simp [qt] at h
 | _=>simp [qt] at h

theorem zkj {hp' : List Obj} {t : Nat} {a : D} (h : ∀ i,rowOf hp i = rowOf hp' i) : loadD E hp t a = loadD E hp' t a:=by
 cases a <;> try rfl
 rename_i i off
 have e : ∀ hp : List Obj,loadD E hp t (.loc i off) = (match rowOf hp i with
  | some cs=>(takeC cs off (E.ty t).size).bind (ofCells (E.ty t).ag)
  | none=>none):=fun hp=>by
  simp only [loadD,rowOf]
  cases hp[i]? with
  | none=>rfl
  | some o=>cases o <;> rfl
 rw [e,e,h]
theorem z9s {l : List Nat} {t : Nat} {m k : D} {ok : Bool} : lookupD E (freezeAll hp l) t m k ok = lookupD E hp t m k ok:=by
 unfold lookupD
 cases (E.ty t).k <;> try rfl
 cases m <;> try rfl
 rename_i mid
 cases mid with
 | none=>rfl
 | some i=>
  simp only [zw]
  by_cases h : i ∈ l
  ·simp only [if_pos h]
   cases hp[i]? with
   | none=>rfl
   | some o=>cases o <;> rfl
  ·simp only [if_neg h]
theorem zej {l : List Nat} {t : Nat} {x : D} : lenD E (freezeAll hp l) t x = lenD E hp t x:=by
 unfold lenD
 cases (E.ty t).k <;> cases x <;> try rfl
 rename_i mid
 cases mid with
 | none=>rfl
 | some i=>
  simp only [zw]
  by_cases h : i ∈ l
  ·simp only [if_pos h]
   cases hp[i]? with
   | none=>rfl
   | some o=>cases o <;> rfl
  ·simp only [if_neg h]
theorem z8f {m : List Nat} : qact E callP g (freezeAll hp m) op = qact E callP g hp op:=by
 have hr : ∀ i,rowOf (freezeAll hp m) i = rowOf hp i:=fun i=>zcp
 have e1 : frz (freezeAll hp m) depth = frz hp depth:=funext (zla hr depth)
 have e2 : ids (freezeAll hp m) depth = ids hp depth:=funext (zkz hr depth)
 cases op with
 | load t a=>simp only [qact,zkj hr]
 | lookup t mm k ok=>simp only [qact,z9s]
 | len t x=>simp only [qact,zej]
 | call md f as=>
  match md with
  | 0=>simp only [qact]
  | 1=>simp only [qact,e1,e2]
  | 2=>simp only [qact]
  | 3=>simp only [qact,e1]
  | n + 4=>simp only [qact]
 | _=>simp only [qact]

end

def heapOk (ap : Bool) (o o' : DOp) : Bool:=hfree o || hfree o' || (qt o && qt o') || (isMk o && (locl o' && !isStore o')) || (isMk o' && (locl o && !isStore o)) || (locl o && locl o' && (ap || (!isStore o && !isStore o')))

theorem zbh {E : Env} {callP : Nat -> List D -> Option D} {callS callY : Nat -> List D -> List Obj -> Option (D × List Obj)} {id : Nat} {g : Opd -> D} {hp hp1 : List Obj} {op : DOp} {d : D} (hm : isMk op = true) (h : stepOp E callP callS callY id g hp op = some (d,hp1)) :
  ∃ X,hp1 = hp ++ X /\ ∀ (id' : Nat) (hp' : List Obj),hp'.length = hp.length -> stepOp E callP callS callY id' g hp' op = some (d,hp' ++ X):=by
 cases op with
 | call md f as=>
  have e : md = 4 /\ as = []:=by
   match md,as with
   | 4,[]=>exact ⟨rfl,rfl⟩
   | 4,_ :: _=>simp [isMk] at hm
   | 0,_=>simp [isMk] at hm
   | 1,_=>simp [isMk] at hm
   | 2,_=>simp [isMk] at hm
   | 3,_=>simp [isMk] at hm
   | n + 5,_=>simp [isMk] at hm
  obtain ⟨rfl,rfl⟩:=e
  simp only [stepOp,DOp.fin,finOp] at h ⊢
  split at h
  ·rename_i k caps hg
   split at h
   ·rename_i vs hv
    unfold makD at h ⊢
    simp only [Option.map_eq_some_iff,Prod.mk.injEq] at h
    obtain ⟨⟨d0,hp2⟩,h1,h2,h3⟩:=h
    simp only at h2 h3
    subst h2 h3
    refine ⟨_,rfl,fun _ hp' hl=>?_⟩
    rw [hl,h1]; rfl
   ·simp at h
  ·simp at h
 | mkcall f as=>
  simp only [stepOp,DOp.fin,finOp] at h ⊢
  split at h
  ·rename_i k caps hg
   split at h
   ·rename_i vs hv
    unfold makD at h ⊢
    simp only [Option.map_eq_some_iff,Prod.mk.injEq] at h
    obtain ⟨⟨d0,hp2⟩,h1,h2,h3⟩:=h
    simp only at h2 h3
    subst h2 h3
    refine ⟨_,rfl,fun _ hp' hl=>?_⟩
    rw [hl,h1]; rfl
   ·simp at h
  ·simp at h
 | _=>simp [isMk] at hm

def act1 (E : Env) (callP : Nat -> List D -> Option D) (callS callY : Nat -> List D -> List Obj -> Option (D × List Obj)) (id : Nat) (o : DOpr) (sl : List D) (hp : List Obj) : Option (D × List Obj):=
 if wantedD sl o.gd then stepOp E callP callS callY id (getO sl) hp o.op else some (.undef,hp)

section
variable {E : Env} {callP : Nat -> List D -> Option D} {callS callY : Nat -> List D -> List Obj -> Option (D × List Obj)} {id id' : Nat} {sl sl' : List D} {hp hp' : List Obj} {o o' : DOpr} {st st' st'' : St}

theorem z3j : step1 E callP callS callY id o st = (act1 E callP callS callY id o st.sl st.hp).map fun r=>⟨putO st.sl o.dst r.1,r.2⟩:=by
 unfold step1 act1
 split
 ·cases stepOp E callP callS callY id (getO st.sl) st.hp o.op <;> rfl
 ·rfl

theorem getD_set_ne {l : List D} {i j : Nat} {d e : D} (h : i ≠ j) : (l.set i d).getD j e = l.getD j e:=by
 simp [List.getD_eq_getElem?_getD,List.getElem?_set_ne h]

theorem zg0 {dst : Option Nat} {d : D} {x : Opd} (h : ∀ n,dst = some n -> x ≠ .t n) : getO (putO sl dst d) x = getO sl x:=by
 cases dst with
 | none=>rfl
 | some n=>
  cases x with
  | t m=>
   have hne : n ≠ m:=fun e=>h n rfl (by rw [e])
   exact getD_set_ne hne
  | c d=>rfl
  | f k=>rfl

theorem z8l {l : List Opd} {n : Nat} : n ∈ slots l ↔ .t n ∈ l:=by
 unfold slots
 rw [List.mem_filterMap]
 constructor
 ·rintro ⟨x,hx,e⟩
  cases x <;> simp at e
  subst e; exact hx
 ·intro h; exact ⟨_,h,rfl⟩

theorem zdt {gd : Option (Nat × Bool)} {dst : Option Nat} {d : D} (h : ∀ n j b,dst = some n -> gd = some (j,b) -> j ≠ n) : wantedD (putO sl dst d) gd = wantedD sl gd:=by
 cases gd with
 | none=>rfl
 | some p=>
  obtain ⟨j,b⟩:=p
  cases dst with
  | none=>rfl
  | some n=>
   have hne : n ≠ j:=fun e=>h n j b rfl rfl e.symm
   unfold wantedD putO
   simp only
   rw [getD_set_ne hne]

theorem zgl {dst : Option Nat} {d : D} (h : ∀ n,dst = some n -> n ∉ reads o) : act1 E callP callS callY id o (putO sl dst d) hp = act1 E callP callS callY id o sl hp:=by
 unfold act1
 rw [zdt (fun n j b e e' hj=>h n e (by subst hj; simp [reads,e']))]
 rw [z73 (g:=getO (putO sl dst d)) (g':=getO sl) (fun x hx=>zg0 fun n e hxn=>h n e (by
  subst hxn; exact List.mem_append_left _ (z8l.2 hx)))]

def slotsOk (o o' : DOpr) : Prop:=(∀ n,o.dst = some n -> n ∉ reads o' /\ o'.dst ≠ some n) /\ (∀ n,o'.dst = some n -> n ∉ reads o)

theorem znd {d d' : D} (h : slotsOk o o') : putO (putO sl o.dst d) o'.dst d' = putO (putO sl o'.dst d') o.dst d:=by
 have h1:=h.1
 generalize o.dst = x at h1 ⊢
 generalize o'.dst = y at h1 ⊢
 cases x with
 | none=>rfl
 | some n=>
  cases y with
  | none=>rfl
  | some m=>
   simp only [putO]
   exact List.set_comm _ _ fun e=>(h1 n rfl).2 (by rw [e])


theorem z6w (hf : hfree o.op = true) {d : D} (h : act1 E callP callS callY id o sl hp = some (d,hp')) : hp' = hp /\ ∀ hp2 id2,act1 E callP callS callY id2 o sl hp2 = some (d,hp2):=by
 unfold act1 at h ⊢
 split at h
 ·rename_i hw
  simp only [hw,if_true]
  unfold stepOp at h ⊢
  rw [z65 hf] at h ⊢
  simp only [Option.map_eq_some_iff,Prod.mk.injEq] at h ⊢
  obtain ⟨e,h1,h2,h3⟩:=h
  obtain ⟨n1,n2⟩:=z6n hf h1
  refine ⟨by rw [<- h3]; simp [applyEf,n1,n2],fun hp2 id2=>⟨e,?_,h2,by simp [applyEf,n1,n2]⟩⟩
  rw [<- z6m (hp:=hp) (id:=id) hf]; exact h1
 ·rename_i hw
  simp only [hw,if_false]
  simp at h; obtain ⟨rfl,rfl⟩:=h
  exact ⟨rfl,fun _ _=>rfl⟩

theorem zmm {ap : Bool} (hk : heapOk ap o.op o'.op = true) {d d' : D} {hp1 hp2 : List Obj} (h : act1 E callP callS callY id o sl hp = some (d,hp1)) (h' : act1 E callP callS callY id' o' sl' hp1 = some (d',hp2))
  (hd : hfree o.op = false -> hfree o'.op = false -> hp[id]? = some .dead /\ hp[id']? = some .dead /\ id ≠ id' /\ (∀ x,x ∈ touch o'.op -> did (getO sl' x) ≠ some id))
  (hap : ap = true -> hfree o.op = false -> hfree o'.op = false -> (isStore o.op = true \/ isStore o'.op = true) -> Apart (getO sl) (getO sl') o.op o'.op)
  (hin : hfree o'.op = false -> ∀ x,x ∈ touch o'.op -> ∀ k,did (getO sl' x) = some k -> k < hp.length) :
  ∃ hp1',act1 E callP callS callY id' o' sl' hp = some (d',hp1') /\ act1 E callP callS callY id o sl hp1' = some (d,hp2):=by
 by_cases f1 : hfree o.op = true
 ·obtain ⟨rfl,h1⟩:=z6w f1 h
  exact ⟨hp2,h',h1 _ _⟩
 ·by_cases f2 : hfree o'.op = true
  ·obtain ⟨rfl,h1⟩:=z6w f2 h'
   exact ⟨hp,h1 _ _,h⟩
  ·have f1 : hfree o.op = false:=by simpa using f1
   have f2 : hfree o'.op = false:=by simpa using f2
   obtain ⟨hid,hid',hne,hc⟩:=hd f1 f2
   by_cases q : (qt o.op && qt o'.op) = true
   ·simp only [Bool.and_eq_true] at q
    by_cases w1 : wantedD sl o.gd = true
    ·by_cases w2 : wantedD sl' o'.gd = true
     ·simp only [act1,w1,w2,if_true] at h h' ⊢
      rw [z23 q.1] at h
      rw [z23 q.2] at h'
      simp only [Option.map_eq_some_iff,Prod.mk.injEq] at h h'
      obtain ⟨⟨x,l1⟩,h1,rfl,rfl⟩:=h
      obtain ⟨⟨y,l2⟩,h2,rfl,rfl⟩:=h'
      rw [z8f] at h2
      refine ⟨freezeAll hp l2,by rw [z23 q.2,h2]; rfl,?_⟩
      rw [z23 q.1,z8f,h1]
      simp only [Option.map_some]
      rw [z9t]
     ·simp only [act1,w2] at h' ⊢
      simp at h'; obtain ⟨rfl,rfl⟩:=h'
      exact ⟨hp,by simp,h⟩
    ·simp only [act1,w1] at h ⊢
     simp at h; obtain ⟨rfl,rfl⟩:=h
     exact ⟨hp2,h',by simp⟩
   have q : (qt o.op && qt o'.op) = false:=by simpa using q
   have lt1:=(List.getElem?_eq_some_iff.1 hid).1
   have lt2:=(List.getElem?_eq_some_iff.1 hid').1
   by_cases m1 : (isMk o.op && (locl o'.op && !isStore o'.op)) = true
   ·simp only [Bool.and_eq_true,Bool.not_eq_true'] at m1
    obtain ⟨mk,ll,ns⟩:=m1
    by_cases w1 : wantedD sl o.gd = true
    ·simp only [act1,w1,if_true] at h
     obtain ⟨X,rfl,hX⟩:=zbh mk h
     by_cases w2 : wantedD sl' o'.gd = true
     ·simp only [act1,w1,w2,if_true] at h' ⊢
      rw [z10 ll (by rw [List.length_append]; omega)] at h'
      simp only [Option.map_eq_some_iff,Prod.mk.injEq] at h'
      obtain ⟨⟨y,b1,b2⟩,h2,rfl,rfl⟩:=h'
      have h3 : lact E callP callS id' (getO sl') hp o'.op = some (y,b1,b2):=z63 (fun x hx k hk ob ho hl=>.inl (by
       rw [List.getElem?_append_left (hin f2 x hx k hk)] at ho; exact ho)) h2
      refine ⟨oset (oset hp b1) b2,by rw [z10 ll lt2,h3]; rfl,?_⟩
      rw [hX id _ (by rw [z1n,z1n])]
      have k1 : ∀ k v,b1 = some (k,v) -> k < hp.length:=fun k v e=>by
       obtain ⟨_,⟨u,s,ht⟩,_⟩:=z40 h3 e
       exact (List.getElem?_eq_some_iff.1 ht).1
      have k2 : ∀ k v,b2 = some (k,v) -> k < hp.length:=fun k v e=>by
       rcases z4c h3 e with ⟨_,rfl⟩ | ⟨_,⟨cs,hcs⟩,_⟩
       ·exact lt2
       ·exact (List.getElem?_eq_some_iff.1 hcs).1
      rw [z7q k1,z7q (by rw [z1n]; exact k2)]
     ·simp only [act1,w2] at h' ⊢
      simp at h'; obtain ⟨rfl,rfl⟩:=h'
      exact ⟨hp,by simp,by simp only [w1,if_true]; exact h⟩
    ·simp only [act1,w1] at h ⊢
     simp at h; obtain ⟨rfl,rfl⟩:=h
     exact ⟨hp2,h',by simp⟩
   by_cases m2 : (isMk o'.op && (locl o.op && !isStore o.op)) = true
   ·simp only [Bool.and_eq_true,Bool.not_eq_true'] at m2
    obtain ⟨mk,ll,ns⟩:=m2
    by_cases w2 : wantedD sl' o'.gd = true
    ·simp only [act1,w2,if_true] at h'
     by_cases w1 : wantedD sl o.gd = true
     ·simp only [act1,w1,w2,if_true] at h ⊢
      rw [z10 ll lt1] at h
      simp only [Option.map_eq_some_iff,Prod.mk.injEq] at h
      obtain ⟨⟨x,a1,a2⟩,h1,rfl,rfl⟩:=h
      obtain ⟨X,rfl,hX⟩:=zbh mk h'
      refine ⟨hp ++ X,hX id' hp (by rw [z1n,z1n]),?_⟩
      have h3 : lact E callP callS id (getO sl) (hp ++ X) o.op = some (x,a1,a2):=z63 (fun x hx k hk ob ho hl=>.inl (by
       rw [List.getElem?_append_left (List.getElem?_eq_some_iff.1 ho).1]; exact ho)) h1
      rw [z10 ll (by rw [List.length_append]; omega),h3]
      have k1 : ∀ k v,a1 = some (k,v) -> k < hp.length:=fun k v e=>by
       obtain ⟨_,⟨u,s,ht⟩,_⟩:=z40 h1 e
       exact (List.getElem?_eq_some_iff.1 ht).1
      have k2 : ∀ k v,a2 = some (k,v) -> k < hp.length:=fun k v e=>by
       rcases z4c h1 e with ⟨_,rfl⟩ | ⟨_,⟨cs,hcs⟩,_⟩
       ·exact lt1
       ·exact (List.getElem?_eq_some_iff.1 hcs).1
      simp only [Option.map_some]
      rw [z7q k1,z7q (by rw [z1n]; exact k2)]
     ·simp only [act1,w1,w2,if_true] at h ⊢
      simp at h; obtain ⟨rfl,rfl⟩:=h
      exact ⟨hp2,h',by simp⟩
    ·simp only [act1,w2] at h' ⊢
     simp at h'; obtain ⟨rfl,rfl⟩:=h'
     exact ⟨hp,by simp,h⟩
   have m1 : (isMk o.op && (locl o'.op && !isStore o'.op)) = false:=by simpa using m1
   have m2 : (isMk o'.op && (locl o.op && !isStore o.op)) = false:=by simpa using m2
   simp only [heapOk,f1,f2,q,m1,m2,Bool.false_or,Bool.and_eq_true] at hk
   obtain ⟨⟨l1,l2⟩,l3⟩:=hk
   by_cases w1 : wantedD sl o.gd = true
   ·by_cases w2 : wantedD sl' o'.gd = true
    ·simp only [act1,w1,w2,if_true] at h h' ⊢
     rw [z10 l1 lt1] at h
     simp only [Option.map_eq_some_iff,Prod.mk.injEq] at h
     obtain ⟨⟨x,a1,a2⟩,h1,rfl,rfl⟩:=h
     rw [z10 l2 (by rw [z1n,z1n]; exact lt2)] at h'
     simp only [Option.map_eq_some_iff,Prod.mk.injEq] at h'
     obtain ⟨⟨y,b1,b2⟩,h2,rfl,rfl⟩:=h'
     have key:=zkn h1 h2 hid hid' hne hc (by
      by_cases s1 : isStore o.op = true
      ·refine .inr (hap ?_ f1 f2 (.inl s1))
       simpa [s1] using l3
      ·by_cases s2 : isStore o'.op = true
       ·refine .inr (hap ?_ f1 f2 (.inr s2))
        simpa [s2] using l3
       ·exact .inl ⟨by simpa using s1,by simpa using s2⟩)
     obtain ⟨k1,k2,k3⟩:=key
     refine ⟨oset (oset hp b1) b2,by rw [z10 l2 lt2,k1]; rfl,?_⟩
     rw [z10 l1 (by rw [z1n,z1n]; exact lt1),k2]
     simp only [Option.map_some,k3]
    ·simp only [act1,w2] at h' ⊢
     simp at h'; obtain ⟨rfl,rfl⟩:=h'
     exact ⟨hp,by simp,h⟩
   ·simp only [act1,w1] at h ⊢
    simp at h; obtain ⟨rfl,rfl⟩:=h
    exact ⟨hp2,h',by simp⟩

theorem zgv {ap : Bool} (hs : slotsOk o o') (hk : heapOk ap o.op o'.op = true) (h : step1 E callP callS callY id o st = some st') (h' : step1 E callP callS callY id' o' st' = some st'')
  (hd : hfree o.op = false -> hfree o'.op = false -> st.hp[id]? = some .dead /\ st.hp[id']? = some .dead /\ id ≠ id' /\ (∀ x,x ∈ touch o'.op -> did (getO st.sl x) ≠ some id))
  (hap : ap = true -> hfree o.op = false -> hfree o'.op = false -> (isStore o.op = true \/ isStore o'.op = true) -> Apart (getO st.sl) (getO st.sl) o.op o'.op)
  (hin : hfree o'.op = false -> ∀ x,x ∈ touch o'.op -> ∀ k,did (getO st.sl x) = some k -> k < st.hp.length) :
  ∃ st1,step1 E callP callS callY id' o' st = some st1 /\ step1 E callP callS callY id o st1 = some st'':=by
 rw [z3j] at h h'
 simp only [Option.map_eq_some_iff] at h h'
 obtain ⟨⟨d,hp1⟩,h1,rfl⟩:=h
 obtain ⟨⟨d',hp2⟩,h2,rfl⟩:=h'
 simp only at h2 ⊢
 rw [zgl (fun n e=>(hs.1 n e).1)] at h2
 obtain ⟨hp1',h3,h4⟩:=zmm hk h1 h2 hd hap hin
 refine ⟨⟨putO st.sl o'.dst d',hp1'⟩,by rw [z3j,h3]; rfl,?_⟩
 rw [z3j]
 simp only
 rw [zgl (fun n e=>hs.2 n e),h4]
 simp only [Option.map_some,znd hs]

end
end Dv

namespace Dv
open Go (Value Program World Act Oper Operand Code Ending Exit)

section
variable (E : Env) (callP : Nat -> List D -> Option D) (callS callY : Nat -> List D -> List Obj -> Option (D × List Obj)) (N : Nat)
def runI : List (Nat × DOpr) -> St -> Option St
 | [],st=>some st
 | p :: l,st=>(step1 E callP callS callY (N + p.1) p.2 st).bind (runI l)
end

def number : Nat -> List DOpr -> List (Nat × DOpr)
 | _,[]=>[]
 | k,o :: os=>(k,o) :: number (k + 1) os

theorem z4r : ∀ {ds : List DOpr} {k i : Nat} {o : DOpr},(i,o) ∈ number k ds ↔ k <= i /\ ds[i - k]? = some o
 | [],k,i,o=>by simp [number]
 | d :: ds,k,i,o=>by
  simp only [number,List.mem_cons,Prod.mk.injEq]
  rw [z4r]
  constructor
  ·rintro (⟨rfl,rfl⟩ | ⟨h1,h2⟩)
   ·simp
   ·refine ⟨by omega,?_⟩
    rw [show i - k = (i - (k + 1)) + 1 from by omega]
    simpa using h2
  ·rintro ⟨h1,h2⟩
   rcases Nat.eq_or_lt_of_le h1 with e | h
   ·subst e; simp at h2; exact .inl ⟨rfl,h2.symm⟩
   ·refine .inr ⟨h,?_⟩
    rw [show i - k = (i - (k + 1)) + 1 from by omega] at h2
    simpa using h2

theorem z5z : ∀ (ds : List DOpr) (k : Nat),(number k ds).Pairwise fun p q=>p.1 < q.1
 | [],k=>.nil
 | d :: ds,k=>by
  simp only [number]
  refine List.Pairwise.cons (fun q hq=>?_) (z5z ds (k + 1))
  have:=(z4r (i:=q.1) (o:=q.2)).1 hq
  omega

section
variable {E : Env} {callP : Nat -> List D -> Option D} {callS callY : Nat -> List D -> List Obj -> Option (D × List Obj)} {N : Nat}

theorem z72 : ∀ (ds : List DOpr) (k : Nat) (st : St),stepOpsD E callP callS callY (N + k) ds st = runI E callP callS callY N (number k ds) st
 | [],k,st=>rfl
 | d :: ds,k,st=>by
  rw [z3r]
  simp only [number,runI]
  congr 1
  funext st'
  exact z72 ds (k + 1) st'

theorem z9z {id : Nat} {o : DOpr} {st st' : St} {x : Opd} (h : step1 E callP callS callY id o st = some st') (hx : ∀ n,o.dst = some n -> x ≠ .t n) : getO st'.sl x = getO st.sl x:=by
 rw [z3j] at h
 simp only [Option.map_eq_some_iff] at h
 obtain ⟨r,_,rfl⟩:=h
 exact zg0 hx

theorem z8c {x : Opd} : ∀ {l : List (Nat × DOpr)} {st st' : St},runI E callP callS callY N l st = some st' -> (∀ p,p ∈ l -> ∀ n,p.2.dst = some n -> x ≠ .t n) -> getO st'.sl x = getO st.sl x
 | [],st,st',h,_=>by simp [runI] at h; subst h; rfl
 | p :: l,st,st',h,hx=>by
  simp only [runI,Option.bind_eq_some_iff] at h
  obtain ⟨st1,h1,h2⟩:=h
  rw [z8c h2 (fun q hq=>hx q (by simp [hq])),z9z h1 (hx p (by simp))]

theorem za1 {id m : Nat} {o : DOpr} {st st' : St} (hl : (locl o.op || qt o.op || isMk o.op) = true) (h : step1 E callP callS callY id o st = some st') (hid : hfree o.op = false -> st.hp[id]? = some .dead) (hm : st.hp[m]? = some .dead) (hne : m ≠ id) : st'.hp[m]? = some .dead:=by
 rw [z3j] at h
 simp only [Option.map_eq_some_iff] at h
 obtain ⟨⟨d,hp'⟩,h1,rfl⟩:=h
 simp only
 by_cases f : hfree o.op = true
 ·rw [(z6w f h1).1]; exact hm
 ·have hid:=hid (by simpa using f)
  have hlt:=(List.getElem?_eq_some_iff.1 hid).1
  by_cases q : qt o.op = true
  ·unfold act1 at h1
   split at h1
   ·rw [z23 q] at h1
    simp only [Option.map_eq_some_iff,Prod.mk.injEq] at h1
    obtain ⟨⟨x,l⟩,h2,_,rfl⟩:=h1
    simp only []
    rw [zw,hm]
    split <;> rfl
   ·simp at h1; rw [<- h1.2]; exact hm
  by_cases mk : isMk o.op = true
  ·unfold act1 at h1
   split at h1
   ·obtain ⟨X,rfl,_⟩:=zbh mk h1
    rw [List.getElem?_append_left (List.getElem?_eq_some_iff.1 hm).1]; exact hm
   ·simp at h1; rw [<- h1.2]; exact hm
  have hl : locl o.op = true:=by simpa [q,mk] using hl
  unfold act1 at h1
  split at h1
  ·rw [z10 hl hlt] at h1
   simp only [Option.map_eq_some_iff,Prod.mk.injEq] at h1
   obtain ⟨⟨x,a1,a2⟩,h2,_,rfl⟩:=h1
   rw [z1q fun v hv=>?_,z1q fun v hv=>?_]
   ·exact hm
   ·obtain ⟨_,⟨u,s,ht⟩,_⟩:=z40 h2 hv
    rw [hm] at ht; cases ht
   ·rcases z4c h2 hv with ⟨_,e⟩ | ⟨_,⟨cs,hcs⟩,_⟩
    ·exact hne e
    ·rw [hm] at hcs; cases hcs
  ·simp at h1; rw [<- h1.2]; exact hm

theorem zi1 {op : DOp} (h : hfree op = true) : locl op = true:=by simp [locl,z65 h]

theorem z8x {ap : Bool} {o o' : DOp} (h : heapOk ap o o' = true) (h' : hfree o' = false) : (locl o || qt o || isMk o) = true:=by
 by_cases f : hfree o = true
 ·rw [zi1 f]; rfl
 ·have f : hfree o = false:=by simpa using f
  simp only [heapOk,f,h',Bool.false_or,Bool.or_eq_true,Bool.and_eq_true] at h ⊢
  rcases h with ((h | h) | h) | h
  ·exact .inl (.inr h.1)
  ·exact .inr h.1
  ·exact .inl (.inl h.2.1)
  ·exact .inl (.inl h.1.1)

theorem zgu {id : Nat} {o : DOpr} {st st' : St} (hl : (locl o.op || qt o.op || isMk o.op) = true) (hlt : id < st.hp.length) (h : step1 E callP callS callY id o st = some st') : st.hp.length <= st'.hp.length:=by
 rw [z3j] at h
 simp only [Option.map_eq_some_iff] at h
 obtain ⟨⟨d,hp'⟩,h1,rfl⟩:=h
 simp only
 unfold act1 at h1
 split at h1
 ·by_cases q : qt o.op = true
  ·rw [z23 q] at h1
   simp only [Option.map_eq_some_iff,Prod.mk.injEq] at h1
   obtain ⟨⟨x,l⟩,h2,_,rfl⟩:=h1
   exact z6b _ _
  by_cases mk : isMk o.op = true
  ·obtain ⟨X,rfl,_⟩:=zbh mk h1
   simp
  have hl : locl o.op = true:=by simpa [q,mk] using hl
  rw [z10 hl hlt] at h1
  simp only [Option.map_eq_some_iff,Prod.mk.injEq] at h1
  obtain ⟨⟨x,a1,a2⟩,h2,_,rfl⟩:=h1
  rw [z1n,z1n]; exact Nat.le_refl _
 ·simp at h1; rw [<- h1.2]; exact Nat.le_refl _

theorem bubble {i : Nat} {oi : DOpr} {ap : Nat -> Bool} {post : List (Nat × DOpr)} {stF : St} : ∀ {pre : List (Nat × DOpr)} {st : St},
  (∀ p,p ∈ pre -> slotsOk p.2 oi /\ heapOk (ap p.1) p.2.op oi.op = true) -> (pre ++ (i,oi) :: post).Pairwise (fun p q=>p.1 < q.1) ->
  (hfree oi.op = false -> st.hp[N + i]? = some .dead /\ ∀ p,p ∈ pre -> st.hp[N + p.1]? = some .dead /\ ∀ x,x ∈ touch oi.op -> did (getO st.sl x) ≠ some (N + p.1)) ->
  (∀ p,p ∈ pre -> ap p.1 = true -> (∀ x,x ∈ touch p.2.op -> ∀ y,y ∈ touch oi.op -> ∀ k,did (getO stF.sl x) = some k -> did (getO stF.sl y) ≠ some k) /\
   (∀ x,x ∈ touch p.2.op -> ∀ q,q ∈ pre ++ (i,oi) :: post -> p.1 <= q.1 -> ∀ n,q.2.dst = some n -> x ≠ .t n) /\ (∀ y,y ∈ touch oi.op -> ∀ q,q ∈ (i,oi) :: post -> ∀ n,q.2.dst = some n -> y ≠ .t n)) ->
  (hfree oi.op = false -> ∀ x,x ∈ touch oi.op -> ∀ k,did (getO st.sl x) = some k -> k < st.hp.length) ->
  runI E callP callS callY N (pre ++ (i,oi) :: post) st = some stF ->
  ∃ st1,step1 E callP callS callY (N + i) oi st = some st1 /\ runI E callP callS callY N (pre ++ post) st1 = some stF
 | [],st,_,_,_,_,_,h=>by
  simp only [List.nil_append,runI,Option.bind_eq_some_iff] at h
  simpa using h
 | p :: pre,st,hi,hs,hd,ha,hn,h=>by
  simp only [List.cons_append,runI,Option.bind_eq_some_iff] at h
  obtain ⟨st1,h1,h2⟩:=h
  obtain ⟨sp,hp⟩:=hi p (by simp)
  rw [List.cons_append] at hs
  obtain ⟨s1,s2⟩:=List.pairwise_cons.1 hs
  have hlt : p.1 < i:=s1 (i,oi) (by simp)
  -- what the operation looks at stays as it is
  have keep : ∀ x,x ∈ opnds oi.op -> getO st1.sl x = getO st.sl x:=fun x hx=>z9z h1 fun n e hxn=>(sp.1 n e).1 (by
   subst hxn; exact List.mem_append_left _ (z8l.2 hx))
  have tsub : ∀ x,x ∈ touch oi.op -> x ∈ opnds oi.op:=by
   intro x hx
   generalize oi.op = op at hx ⊢
   cases op with
   | call md f as=>
    match md,as with
    | 4,y :: as=>simp [touch] at hx; simp [opnds,hx]
    | 4,[]=>simp [touch] at hx
    | 0,_=>simp [touch] at hx
    | 1,_=>simp [touch] at hx
    | 2,_=>simp [touch] at hx
    | 3,_=>simp [touch] at hx
    | n + 5,_=>simp [touch] at hx
   | _=>simp [touch] at hx <;> simp [opnds,hx]
  have hd1 : hfree oi.op = false -> st1.hp[N + i]? = some .dead /\ ∀ q,q ∈ pre -> st1.hp[N + q.1]? = some .dead /\ ∀ x,x ∈ touch oi.op -> did (getO st1.sl x) ≠ some (N + q.1):=by
   intro f
   obtain ⟨d1,d2⟩:=hd f
   have hl:=z8x hp f
   refine ⟨za1 hl h1 (fun _=>(d2 p (by simp)).1) d1 (by omega),fun q hq=>⟨za1 hl h1 (fun _=>(d2 p (by simp)).1) (d2 q (by simp [hq])).1 (by have:=s1 q (by simp [hq]); omega),fun x hx=>?_⟩⟩
   rw [keep x (tsub x hx)]
   exact (d2 q (by simp [hq])).2 x hx
  obtain ⟨st2,h3,h4⟩:=bubble (fun q hq=>hi q (by simp [hq])) s2 hd1
   (fun q hq hap=>⟨(ha q (by simp [hq]) hap).1,fun x hx r hr hle=>(ha q (by simp [hq]) hap).2.1 x hx r (by simp only [List.cons_append,List.mem_cons]; exact .inr hr) hle,(ha q (by simp [hq]) hap).2.2⟩)
   (fun f x hx k hk=>by
    rw [keep x (tsub x hx)] at hk
    have hpd:=((hd f).2 p (by simp)).1
    exact Nat.lt_of_lt_of_le (hn f x hx k hk) (zgu (z8x hp f) (List.getElem?_eq_some_iff.1 hpd).1 h1)) h2
  obtain ⟨st3,h5,h6⟩:=zgv (ap:=ap p.1) sp hp h1 h3
   (fun _ f=>⟨((hd f).2 p (by simp)).1,(hd f).1,by omega,((hd f).2 p (by simp)).2⟩)
   (fun hap _ _ _ x hx y hy k hxk hyk=>by
    obtain ⟨a1,a2,a3⟩:=ha p (by simp) hap
    have hall : runI E callP callS callY N (p :: pre ++ (i,oi) :: post) st = some stF:=by
     simp only [List.cons_append,runI,Option.bind_eq_some_iff]; exact ⟨st1,h1,h2⟩
    have e1:=z8c (x:=x) hall (fun q hq n hn=>a2 x hx q hq (by
     simp only [List.cons_append,List.mem_cons,List.mem_append] at hq
     rcases hq with rfl | hq | rfl | hq
     ·exact Nat.le_refl _
     ·exact Nat.le_of_lt (s1 q (by simp [hq]))
     ·exact Nat.le_of_lt (s1 _ (by simp))
     ·exact Nat.le_of_lt (s1 q (by simp [hq]))) n hn)
    have e2:=z8c (x:=y) hall (fun q hq n hn=>by
     simp only [List.cons_append,List.mem_cons,List.mem_append] at hq
     have hpre : ∀ q,q ∈ p :: pre -> q.2.dst = some n -> y ≠ .t n:=fun q hq e hyn=>((hi q hq).1.1 n e).1 (by
      subst hyn; exact List.mem_append_left _ (z8l.2 (tsub _ hy)))
     rcases hq with rfl | hq | hq
     ·exact hpre q (by simp) hn
     ·exact hpre q (by simp [hq]) hn
     ·exact a3 y hy q (by simpa using hq) n hn)
    rw [<- e1] at hxk
    rw [<- e2] at hyk
    exact a1 x hx y hy k hxk hyk) hn
  refine ⟨st3,h5,?_⟩
  simp only [List.cons_append,runI,Option.bind_eq_some_iff]
  exact ⟨st2,h6,h4⟩

end
end Dv

namespace Dv
open Go (Value Program World Act Oper Operand Code Ending Exit Region.binds Region.ready)

structure DrawOk (ops : Array Oper) (ds : List DOpr) (ap : List (Nat × Nat)) : Prop where
 back : ∀ (i : Nat) o,ops[i]? = some o -> ∀ e,e ∈ o.after -> Region.binds .any e = true -> e.on < i
 pairs : ∃ tab : Nat -> Nat -> Prop,(∀ i m,tab i m -> ∃ o,ops[i]? = some o /\ ∃ e,e ∈ o.after /\ Region.binds .any e = true /\ (e.on = m \/ tab e.on m)) /\
  ∀ (j i : Nat) oj oi,j < i -> ds[j]? = some oj -> ds[i]? = some oi -> tab i j \/ (slotsOk oj oi /\ heapOk (ap.contains (j,i)) oj.op oi.op = true)
 aps : ∀ (j i : Nat),(j,i) ∈ ap -> ∀ oj oi,ds[j]? = some oj -> ds[i]? = some oi ->
  (∀ x,x ∈ touch oj.op -> ∀ (k : Nat) ok n,j <= k -> ds[k]? = some ok -> ok.dst = some n -> x ≠ .t n) /\ (∀ y,y ∈ touch oi.op -> ∀ (k : Nat) ok n,i <= k -> ds[k]? = some ok -> ok.dst = some n -> y ≠ .t n)
 consts : ∀ (i : Nat) oi,ds[i]? = some oi -> ∀ x,x ∈ touch oi.op -> ∀ d,x = .c d -> did d = none

section
variable {P : Program} {E : Env} {CL : CLink} {F : Phi} {T : Phi} {B : Nat} {K : Nat -> Prop} {ρ : Rho} {H : HS} {os : List Obj} {w : World} {a : Act} {sl : List D}

theorem Rep.did_rho {hp : Heap} {v : Value} {d : D} {k : Nat} (h : Rep F ρ H hp v d) (hk : did d = some k) : ρ k ≠ none:=by
 cases h <;> simp [did] at hk
 case loc b c id off h=>subst hk; rw [h]; simp
 case imm sp els a cap b off su vs hu hcap hex htok ha hH hr=>
  cases sp with
  | exact=>simp at hk
  | none=>simp at hk
  | tok k'=>
   simp at hk; subst hk
   rcases htok k' rfl with ⟨b',h,_⟩ | ⟨h,_⟩ <;> rw [h] <;> simp
 case sl id off len sz ag gr b c cap a h hl ha hc=>subst hk; rw [h]; simp
 case map b c id h=>subst hk; rw [h]; simp

theorem zny {x : Opd} {k : Nat} (hs : RepL F ρ H w.heap a.tmps.toList sl) (hc : ∀ d,x = .c d -> did d = none) (hk : did (getO sl x) = some k) : ρ k ≠ none:=by
 cases x with
 | t n=>
  simp only [getO] at hk
  by_cases hn : n < sl.length
  ·obtain ⟨v,_,hr⟩:=hs.get (List.getElem?_eq_getElem hn)
   rw [List.getD_eq_getElem?_getD,List.getElem?_eq_getElem hn] at hk
   exact hr.did_rho hk
  ·rw [List.getD_eq_getElem?_getD,List.getElem?_eq_none (Nat.le_of_not_lt hn)] at hk
   simp [did] at hk
 | c d=>simp only [getO] at hk; rw [hc d rfl] at hk; cases hk
 | f n=>simp [getO,did] at hk

theorem SR.pad (S : SR CL F B ρ H w.heap os) (n : Nat) : SR CL F B ρ H w.heap (os ++ List.replicate n .dead):=by
 have get : ∀ (i : Nat) o,(os ++ List.replicate n Obj.dead)[i]? = some o -> o.live = true -> os[i]? = some o:=by
  intro i o h hl
  rcases Nat.lt_or_ge i os.length with hi | hi
  ·rwa [List.getElem?_append_left hi] at h
  ·rw [List.getElem?_append_right hi,List.getElem?_replicate] at h
   split at h
   ·simp at h; subst h; simp [Obj.live] at hl
   ·simp at h
 exact {
  dom:=fun i o h hl=>S.dom i o (get i o h hl) hl
  lt:=fun i b h=>by have:=S.lt i b h; simp; omega
  inj:=fun i i' o o' b c c' h l h' l' r r'=>S.inj i i' o o' b c c' (get i o h l) l (get i' o' h' l') l' r r'
  own:=fun i o b c h l r=>S.own i o b c (get i o h l) l r
  mutH:=fun i cs b c o h r=>S.mutH i cs b c o (get i _ h rfl) r
  hb:=S.hb
  hB:=S.hB }

theorem zon (TA : TAll P E T) (FO : FnsOk P F) {callP : Nat -> List D -> Option D} {callS callY : Nat -> List D -> List Obj -> Option (D × List Obj)}
  (hP : ∀ f f',F f = some f' -> PureAt P F (callP f') f) (hS : ∀ f f',F f = some f' -> StatAt P CL F (fun ds os=>noMark (callS f' ds os)) f) (hY : YieldAt P CL F callY)
  {r : Option Nat} {ops : Array Oper} {ds : List DOpr} {ap : List (Nat × Nat)} {Q : Exit -> Act -> World -> Prop} {N : Nat} {stF : St} (hl : ∀ (i : Nat) o d,ops[i]? = some o -> ds[i]? = some d -> OprL T F ops.toList o d) (hlen : ops.size = ds.length)
  (hok : DrawOk ops ds ap) (hF : apartD stF.sl ds ap = true) {tab : Nat -> Nat -> Prop} (htab : ∀ i m,tab i m -> ∃ o,ops[i]? = some o /\ ∃ e,e ∈ o.after /\ Region.binds .any e = true /\ (e.on = m \/ tab e.on m))
  (hpairs : ∀ (j i : Nat) oj oi,j < i -> ds[j]? = some oj -> ds[i]? = some oi -> tab i j \/ (slotsOk oj oi /\ heapOk (ap.contains (j,i)) oj.op oi.op = true)) :
  ∀ (fuel : Nat) (listed : Array Bool) (rem : List (Nat × DOpr)) {ρ : Rho} {H : HS} {w : World} {a : Act} {st : St},
   listed.size = ops.size -> rem.length <= fuel -> rem.Pairwise (fun p q=>p.1 < q.1) -> (∀ i o,(i,o) ∈ rem ↔ (ds[i]? = some o /\ listed.getD i true = false)) ->
   (∀ i,listed.getD i false = true -> ∀ m,tab i m -> listed.getD m false = true) ->
   runI E callP callS callY N rem st = some stF -> SR CL F B ρ H w.heap st.hp -> RepL F ρ H w.heap a.tmps.toList st.sl ->
   (∀ p,p ∈ rem -> ρ (N + p.1) = none /\ st.hp[N + p.1]? = some .dead) -> N <= st.hp.length ->
   (∀ a' w' ρ' H',PostT CL F B (fun i=>i < N) ρ H w ρ' H' w' stF.hp -> RepL F ρ' H' w'.heap a'.tmps.toList stF.sl -> st.hp.length <= stF.hp.length -> a'.defers = a.defers -> Q .normal a' w') ->
   Go.wpAnyIn (Fw r) 0 P .any ops Q fuel listed a w:=by
 intro fuel
 have empty : ∀ (listed : Array Bool) (rem : List (Nat × DOpr)),rem.Pairwise (fun p q=>p.1 < q.1) -> (∀ i o,(i,o) ∈ rem ↔ (ds[i]? = some o /\ listed.getD i true = false)) -> listed.size = ops.size -> Region.ready .any ops listed = [] -> rem = []:=by
  intro listed rem hsort hrem hsz hr
  cases rem with
  | nil=>rfl
  | cons p rem=>
   obtain ⟨i,o⟩:=p
   obtain ⟨h1,h2⟩:=(hrem i o).1 (by simp)
   have hi : i < ops.size:=by rw [hlen]; exact (List.getElem?_eq_some_iff.1 h1).1
   have : i ∈ Region.ready .any ops listed:=by
    refine Go.mem_ready.2 ⟨h2,ops[i],by simp [hi],fun e he hb=>?_⟩
    have hlt:=hok.back i ops[i] (by simp [hi]) e he hb
    have hlt' : e.on < listed.size:=by omega
    cases hv : listed[e.on] with
    | true=>simp [Array.getD_eq_getD_getElem?,hlt',hv]
    | false=>
     have hds : ∃ oe,ds[e.on]? = some oe:=⟨_,List.getElem?_eq_getElem (by omega)⟩
     obtain ⟨oe,hoe⟩:=hds
     have hmem:=(hrem e.on oe).2 ⟨hoe,by simp [Array.getD_eq_getD_getElem?,hlt',hv]⟩
     have hs1:=(List.pairwise_cons.1 hsort).1
     rcases List.mem_cons.1 hmem with hm | hm
     ·simp at hm; omega
     ·have:=hs1 _ hm; simp at this; omega
   rw [hr] at this; cases this
 induction fuel with
 | zero=>
  intro listed rem ρ H w a st hsz hfuel hsort hrem hdown hrun S hs hv hN hn
  have hr0 : rem = []:=List.length_eq_zero_iff.1 (Nat.le_zero.1 hfuel)
  subst hr0
  simp only [runI,Option.some.injEq] at hrun; subst hrun
  refine ⟨?_,hn a w ρ H (PostT.refl S) hs (Nat.le_refl _) rfl⟩
  cases hr : Region.ready .any ops listed with
  | nil=>rfl
  | cons i l=>
   have hi : i ∈ Region.ready .any ops listed:=by rw [hr]; simp
   obtain ⟨h1,o,ho,_⟩:=Go.mem_ready.1 hi
   have hlt:=(Array.getElem?_eq_some_iff.1 ho).1
   have:=(hrem i (ds[i]'(by omega))).2 ⟨by simp [show i < ds.length from by omega],h1⟩
   cases this
 | succ fuel ih=>
  intro listed rem ρ H w a st hsz hfuel hsort hrem hdown hrun S hs hv hN hn
  refine ⟨fun hr=>?_,fun i hi=>?_⟩
  ·have hr0:=empty listed rem hsort hrem hsz hr
   subst hr0
   simp only [runI,Option.some.injEq] at hrun; subst hrun
   exact hn a w ρ H (PostT.refl S) hs (Nat.le_refl _) rfl
  ·obtain ⟨h1,o,ho,hedges⟩:=Go.mem_ready.1 hi
   have hlt:=(Array.getElem?_eq_some_iff.1 ho).1
   obtain ⟨oi,hoi⟩ : ∃ oi,ds[i]? = some oi:=⟨_,List.getElem?_eq_getElem (by omega)⟩
   have hmem:=(hrem i oi).2 ⟨hoi,h1⟩
   obtain ⟨pre,post,rfl⟩:=List.append_of_mem hmem
   have hlink:=hl i o oi ho hoi
   -- those ahead of it in the text it does not look at
   have hpre : ∀ p,p ∈ pre -> p.1 < i /\ ds[p.1]? = some p.2 /\ listed.getD p.1 true = false:=fun p hp=>by
    refine ⟨?_,(hrem p.1 p.2).1 (by simp [hp])⟩
    exact (List.pairwise_append.1 hsort).2.2 p hp (i,oi) (by simp)
   have hind : ∀ p,p ∈ pre -> slotsOk p.2 oi /\ heapOk (ap.contains (p.1,i)) p.2.op oi.op = true:=fun p hp=>by
    obtain ⟨p1,p2,p3⟩:=hpre p hp
    rcases hpairs p.1 i p.2 oi p1 p2 hoi with ht | ht
    ·exfalso
     obtain ⟨o',ho',e,he,hb,ht⟩:=htab i p.1 ht
     rw [ho] at ho'; simp at ho'; subst ho'
     have hle:=hedges e he hb
     have hpl : listed.getD p.1 false = true:=by
      rcases ht with ht | ht
      ·rw [<- ht]; exact hle
      ·exact hdown e.on hle p.1 ht
     have hpsz : p.1 < listed.size:=by omega
     simp [Array.getD_eq_getD_getElem?,hpsz] at hpl p3
     rw [hpl] at p3; cases p3
    ·exact ht
   have hcond : ∀ x,x ∈ touch oi.op -> ∀ k,did (getO st.sl x) = some k -> ρ k ≠ none:=fun x hx k hk=>zny hs (fun d hd=>hok.consts i oi hoi x hx d hd) hk
   have hback : ∀ q,q ∈ pre ++ (i,oi) :: post -> ds[q.1]? = some q.2:=fun q hq=>((hrem q.1 q.2).1 hq).1
   have hpost : ∀ q,q ∈ (i,oi) :: post -> i <= q.1:=fun q hq=>by
    rcases List.mem_cons.1 hq with rfl | hq
    ·exact Nat.le_refl _
    ·have:=(List.pairwise_append.1 hsort).2.1
     exact Nat.le_of_lt ((List.pairwise_cons.1 this).1 q hq)
   obtain ⟨st1,hst,hrun1⟩:=bubble (ap:=fun j=>ap.contains (j,i)) hind hsort
    (fun _=>⟨(hv (i,oi) (by simp)).2,fun p hp=>⟨(hv p (by simp [hp])).2,fun x hx hk=>hcond x hx _ hk (hv p (by simp [hp])).1⟩⟩)
    (fun p hp hap=>by
     obtain ⟨p1,p2,_⟩:=hpre p hp
     have hin : (p.1,i) ∈ ap:=by simpa using hap
     obtain ⟨a1,a2⟩:=hok.aps p.1 i hin p.2 oi p2 hoi
     refine ⟨fun x hx y hy k hk hk'=>?_,fun x hx q hq hle n hn=>a1 x hx q.1 q.2 n hle (hback q hq) hn,fun y hy q hq n hn=>a2 y hy q.1 q.2 n (hpost q hq) (hback q (by simp only [List.mem_append]; exact .inr hq)) hn⟩
     have:=List.all_eq_true.1 hF (p.1,i) hin
     simp only [p2,hoi,apart1] at this
     have:=List.all_eq_true.1 (List.all_eq_true.1 this x hx) y hy
     rw [hk,hk'] at this
     simp [idsNe] at this)
    (fun _ x hx k hk=>by
     cases hr : ρ k with
     | none=>exact absurd hr (hcond x hx k hk)
     | some bk=>exact S.lt k bk hr) hrun
   have hfree : Free ρ st.hp (N + i):=⟨(hv (i,oi) (by simp)).1,.inr (hv (i,oi) (by simp)).2⟩
   refine z5x TA FO hP hS hY ho hlink hst S hfree (K:=fun k=>k < st.hp.length /\ k ≠ N + i) (fun k hk=>hk) hs (fun a' w' ρ' H' p hs' hlen' hdf=>?_)
   have hne : ∀ q,q ∈ pre ++ post -> q.1 ≠ i:=fun q hq e=>by
    rcases List.mem_append.1 hq with h | h
    ·have:=(hpre q h).1; omega
    ·have h2:=(List.pairwise_append.1 hsort).2.1
     have:=(List.pairwise_cons.1 h2).1 q h; simp at this; omega
   have hsub : ∀ q,q ∈ pre ++ post -> q ∈ pre ++ (i,oi) :: post:=fun q hq=>by
    rcases List.mem_append.1 hq with h | h <;> simp [h]
   refine ih (listed.setIfInBounds i true) (pre ++ post) (by simpa using hsz) (by simp at hfuel ⊢; omega) ?_ ?_ ?_ hrun1 p.sr hs' ?_ (Nat.le_trans hN hlen') ?_
   ·have:=List.pairwise_append.1 hsort
    exact List.pairwise_append.2 ⟨this.1,(List.pairwise_cons.1 this.2.1).2,fun x hx y hy=>this.2.2 x hx y (by simp [hy])⟩
   ·intro k ok
    by_cases hki : k = i
    ·subst hki
     constructor
     ·intro hq; exact absurd rfl (hne _ hq)
     ·rintro ⟨_,hq⟩
      simp [Array.getD_eq_getD_getElem?,show k < listed.size from by omega] at hq
    ·rw [Go.getD_set_ne true (fun e=>hki e.symm),<- hrem k ok]
     constructor
     ·exact hsub _
     ·intro hq
      simp only [List.mem_append,List.mem_cons,Prod.mk.injEq] at hq ⊢
      rcases hq with h | ⟨h,_⟩ | h
      ·exact .inl h
      ·exact absurd h hki
      ·exact .inr h
   ·intro k hk m hm
    by_cases hki : k = i
    ·subst hki
     obtain ⟨o',ho',e,he,hb,ht⟩:=htab k m hm
     rw [ho] at ho'; simp at ho'; subst ho'
     have hle:=hedges e he hb
     rcases ht with rfl | ht
     ·exact Go.getD_set_true hle
     ·exact Go.getD_set_true (hdown e.on hle m ht)
    ·rw [Go.getD_set_ne false (fun e=>hki e.symm)] at hk
     exact Go.getD_set_true (hdown k hk m hm)
   ·intro q hq
    obtain ⟨q1,q2⟩:=hv q (hsub q hq)
    have hqlt:=(List.getElem?_eq_some_iff.1 q2).1
    have r1:=p.vac (N + q.1) ⟨hqlt,by have:=hne q hq; omega⟩ q1
    refine ⟨r1,?_⟩
    obtain ⟨x,hx⟩ : ∃ x,st1.hp[N + q.1]? = some x:=⟨_,List.getElem?_eq_getElem (by omega)⟩
    rw [hx]
    cases hxl : x.live with
    | false=>cases x <;> simp [Obj.live] at hxl; rfl
    | true=>
     obtain ⟨bk,r2,_⟩:=p.sr.dom _ _ hx hxl
     rw [r1] at r2; cases r2
   ·intro a2 w2 ρ2 H2 p2 hs2 hlen2 hdf2
    refine hn a2 w2 ρ2 H2 ((p.weaken fun k hk=>⟨Nat.lt_of_lt_of_le hk hN,by omega⟩).trans p2) hs2 (Nat.le_trans hlen' hlen2) (hdf2.trans hdf)

theorem OpsL.at {all : List Oper} : ∀ {l : List Oper} {ds : List DOpr},OpsL T F all l ds -> ∀ (i : Nat) o d,l[i]? = some o -> ds[i]? = some d -> OprL T F all o d
 | [],_,_,i,o,d,h,_=>by simp at h
 | _ :: _,[],h,_,_,_,_,_=>h.elim
 | _ :: _,_ :: _,h,0,o,d,h1,h2=>by simp at h1 h2; subst h1; subst h2; exact h.1
 | _ :: _,_ :: _,h,i + 1,o,d,h1,h2=>OpsL.at h.2 i o d (by simpa using h1) (by simpa using h2)

theorem zao (TA : TAll P E T) (FO : FnsOk P F) {callP : Nat -> List D -> Option D} {callS callY : Nat -> List D -> List Obj -> Option (D × List Obj)}
  (hP : ∀ f f',F f = some f' -> PureAt P F (callP f') f) (hS : ∀ f f',F f = some f' -> StatAt P CL F (fun ds os=>noMark (callS f' ds os)) f) (hY : YieldAt P CL F callY)
  {r : Option Nat} {ops : Array Oper} {ds : List DOpr} {ap : List (Nat × Nat)} {Q : Exit -> Act -> World -> Prop} {st stF : St} (hl : OpsL T F ops.toList ops.toList ds) (hok : DrawOk ops ds ap)
  (h : checkAp ds ap (stepOpsD E callP callS callY st.hp.length ds ⟨st.sl,st.hp ++ List.replicate ds.length .dead⟩) = some stF) (S : SR CL F B ρ H w.heap st.hp) (hs : RepL F ρ H w.heap a.tmps.toList st.sl)
  (hn : ∀ a' w' ρ' H',PostT CL F B (fun i=>i < st.hp.length) ρ H w ρ' H' w' stF.hp -> RepL F ρ' H' w'.heap a'.tmps.toList stF.sl -> st.hp.length <= stF.hp.length -> a'.defers = a.defers -> Q .normal a' w') :
  Go.wpAnyIn (Fw r) 0 P .any ops Q ops.size (Array.replicate ops.size false) a { w with drawn:=w.drawn + 1 }:=by
 unfold checkAp at h
 split at h
 ·rename_i st' hst
  split at h
  ·rename_i hF
   simp at h; subst h
   have hlen : ops.size = ds.length:=by simpa using hl.len
   obtain ⟨tab,htab,hpairs⟩:=hok.pairs
   have hst':=z72 (E:=E) (callP:=callP) (callS:=callS) (callY:=callY) (N:=st.hp.length) ds 0 ⟨st.sl,st.hp ++ List.replicate ds.length .dead⟩
   rw [Nat.add_zero] at hst'
   rw [hst'] at hst
   have hrl : ∀ i,i < ops.size -> (Array.replicate ops.size false).getD i true = false:=fun i hi=>by simp [Array.getD_eq_getD_getElem?,hi]
   refine zon TA FO hP hS hY (w:={ w with drawn:=w.drawn + 1 }) (ρ:=ρ) (H:=H) (st:=⟨st.sl,st.hp ++ List.replicate ds.length .dead⟩) (fun i o d h1 h2=>OpsL.at hl i o d (by simpa using h1) h2) hlen hok hF htab hpairs ops.size _ (number 0 ds) (by simp) ?_ (z5z ds 0) ?_ ?_ hst (S.pad _) hs ?_ (by simp) ?_
   ·have : ∀ (l : List DOpr) (k : Nat),(number k l).length = l.length:=by
     intro l
     induction l with
     | nil=>intro k; rfl
     | cons d l ih=>intro k; simp [number,ih]
    rw [this,hlen]; exact Nat.le_refl _
   ·intro i o
    rw [z4r]
    constructor
    ·rintro ⟨_,h2⟩
     exact ⟨h2,hrl i (by rw [hlen]; exact (List.getElem?_eq_some_iff.1 h2).1)⟩
    ·rintro ⟨h1,_⟩
     exact ⟨Nat.zero_le _,h1⟩
   ·intro i hi
    by_cases h2 : i < ops.size
    ·simp [Array.getD_eq_getD_getElem?,h2] at hi
    ·simp [Array.getD_eq_getD_getElem?,h2] at hi
   ·intro p hp
    obtain ⟨_,h2⟩:=(z4r (i:=p.1) (o:=p.2)).1 hp
    have hlt:=(List.getElem?_eq_some_iff.1 h2).1
    constructor
    ·cases hr : ρ (st.hp.length + p.1) with
     | none=>rfl
     | some bk=>have:=S.lt _ _ hr; omega
    ·simp only
     rw [List.getElem?_append_right (by omega),List.getElem?_replicate,if_pos (by omega)]
   ·intro a' w' ρ' H' p hs' hlen' hdf
    exact hn a' w' ρ' H' ⟨p.ext,p.sr,p.size,p.frB,p.frD,p.hnew,p.vac,p.fz,⟨p.still.os,p.still.tape,p.still.out,Nat.le_trans (Nat.le_succ _) p.still.dr⟩,p.frame,p.rb,p.hn⟩ hs' (by simp at hlen'; omega) hdf
  ·simp at h
 ·simp at h

theorem zlr (hm : P.follows .mixedOrders = true) (TA : TAll P E T) (FO : FnsOk P F) {callP : Nat -> List D -> Option D} {callS callY : Nat -> List D -> List Obj -> Option (D × List Obj)}
  (hP : ∀ f f',F f = some f' -> PureAt P F (callP f') f) (hS : ∀ f f',F f = some f' -> StatAt P CL F (fun ds os=>noMark (callS f' ds os)) f) (hY : YieldAt P CL F callY)
  {r : Option Nat} {id : Nat} {ops : Array Oper} {ds : List DOpr} {ap : List (Nat × Nat)} {Q : Exit -> Act -> World -> Prop} {st stF : St} (hl : OpsL T F ops.toList ops.toList ds) (hok : DrawOk ops ds ap)
  (h : checkAp ds ap (stepOpsD E callP callS callY st.hp.length ds ⟨st.sl,st.hp ++ List.replicate ds.length .dead⟩) = some stF) (S : SR CL F B ρ H w.heap st.hp) (hs : RepL F ρ H w.heap a.tmps.toList st.sl)
  (hn : ∀ a' w' ρ' H',PostT CL F B (fun i=>i < st.hp.length) ρ H w ρ' H' w' stF.hp -> RepL F ρ' H' w'.heap a'.tmps.toList stF.sl -> st.hp.length <= stF.hp.length -> a'.defers = a.defers -> Q .normal a' w') :
  (Code.region id ops true).wpIn (Fw r) 0 P Q a w:=
 Go.wpIn_region_any hm (zao TA FO hP hS hY hl hok h S hs hn)

end
end Dv

namespace Dv
open Go (Value Program World Act Oper Operand Code Ending Exit Region.binds Region.ready)

section
variable {P : Program} {E : Env} {CL : CLink} {F : Phi} {T : Phi} {B : Nat} {K : Nat -> Prop} {ρ : Rho} {H : HS} {os : List Obj} {w : World} {a : Act} {sl : List D}

theorem zft : ∀ {xs ys : List D},kindsL xs ys = true -> eqL xs xs = some true
 | [],[],_=>rfl
 | [],_ :: _,h=>by simp [kindsL] at h
 | x :: xs,[],h=>by cases x <;> simp [kindsL] at h
 | x :: xs,y :: ys,h=>by
  have key : atomEq x x = some true /\ kindsL xs ys = true:=by
   cases x <;> cases y <;> simp [kindsL] at h <;> first | exact ⟨by simp [atomEq],h⟩ | exact ⟨by simp [atomEq],h.2⟩
  simp only [eqL,key.1,zft key.2,Bool.and_self]
theorem z6l {kt : Nat} {k : D} (h : keyOk E kt k = true) : k.eqb k = some true:=by
 unfold keyOk at h
 split at h
 ·simp only [Bool.and_eq_true] at h
  exact zft h.2
 ·simp [D.eqb,atomEq]
 ·simp [D.eqb,atomEq]
 ·simp [D.eqb,atomEq]
 ·simp at h
theorem zac {k v : D} (hr : k.eqb k = some true) : ∀ {es : List (D × D)} {n i : Nat},mapIdx k es n = some i -> mapIdx k (es.set (i - n) (k,v)) n = some i
 | [],n,i,h=>by simp [mapIdx] at h
 | e :: es,n,i,h=>by
  simp only [mapIdx] at h
  split at h
  ·simp at h; subst h
   simp [mapIdx,hr]
  ·rename_i hne
   obtain ⟨h1,_⟩:=z27 h
   rw [show i - n = (i - (n + 1)) + 1 from by omega,List.set_cons_succ]
   simp only [mapIdx]
   exact zac hr h
theorem zad {k v : D} (hr : k.eqb k = some true) : ∀ {es : List (D × D)} {n : Nat},mapIdx k es n = none -> mapIdx k (es ++ [(k,v)]) n = some (n + es.length)
 | [],n,_=>by simp [mapIdx,hr]
 | e :: es,n,h=>by
  simp only [mapIdx] at h
  split at h
  ·simp at h
  ·rename_i hne
   simp only [List.cons_append,mapIdx]
   rw [zad hr h,List.length_cons]; congr 1; omega
theorem z8o {k v : D} (hr : k.eqb k = some true) : ∀ {es es1 : List (D × D)},mapPut k v es = some es1 -> mapFind k es1 = some (some v)
 | [],es1,h=>by simp [mapPut] at h; subst h; simp [mapFind,hr]
 | e :: es,es1,h=>by
  simp only [mapPut] at h
  split at h
  ·simp at h; subst h; simp [mapFind,hr]
  ·rename_i hb
   simp only [Option.map_eq_some_iff] at h
   obtain ⟨es2,h1,rfl⟩:=h
   simp only [mapFind,hb]
   exact z8o hr h1
  ·simp at h
theorem zab {k v u : D} (hr : k.eqb k = some true) : ∀ {es es1 : List (D × D)},mapPut k v es = some es1 -> mapPut k u es1 = mapPut k u es
 | [],es1,h=>by simp [mapPut] at h; subst h; simp [mapPut,hr]
 | e :: es,es1,h=>by
  simp only [mapPut] at h
  split at h
  ·rename_i hb
   simp at h; subst h; simp [mapPut,hr,hb]
  ·rename_i hb
   simp only [Option.map_eq_some_iff] at h
   obtain ⟨es2,h1,rfl⟩:=h
   simp only [mapPut,hb]
   rw [zab hr h1]
  ·simp at h

theorem zhe (TA : TAll P E T) {t c : Nat} {vm vk : Value} {k : D} {id : Nat} {es esE : List (D × D)} {kt e : Nat} {z : D} {r : Option D}
  (TT : TOk P E T t c) (S : SR CL F B ρ H w.heap os) (hm : Rep F ρ H w.heap vm (.map (some id))) (hk : Rep F ρ H w.heap vk k)
  (hc : (E.ty c).k = .map kt e) (hos : os[id]? = some (.map es)) (hkey : keyOk E kt k = true) (hf : mapFind k es = some r) (hz : r = none -> zeroE E e = some z) (hput : mapPut k (r.getD z) es = some esE) :
  ∃ w' v b c' me clock j e0,vm = .map (some b) /\ ρ id = some (.blk b c') /\ (Go.Instr.mapEntry t vm vk).run P w = .ok (.tuple #[v,.int .i64 ((e0 : Go.MapEntry).born : Nat)]) w' /\
   Post CL F B ρ H w.heap os ρ H w'.heap (os.set id (.map esE)) /\ Still w w' /\ w'.heap[b]? = some (.map me clock) /\ me[j]? = some e0 /\ mapIdx k esE 0 = some j:=by
 have hr:=z6l hkey
 have hu:=TT.und; rw [hc] at hu
 obtain ⟨k',e',hu,hk',he'⟩:=hu
 cases hm with
 | map b cc _ hid=>
  obtain ⟨me,clock,h1,h2,hst⟩:=(S.mapAt hid hos).list
  obtain ⟨r',hf',hs⟩:=z3y hput
  rw [hf] at hf'; simp only [Option.some.injEq] at hf'; subst hf'
  obtain ⟨x,f1,f2,f3⟩:=z5d (TA _ _ hk') hk hkey h2 hf
  have hck:=z4j (w:=w) (TA _ _ hk') hk hkey false
  have hg : (Go.getObj b).run P w = .ok (.map me clock) w:=by simp [Go.getObj,Go.Sem.run,h1]
  have hnc : ∀ a el fr,(Go.Obj.map me clock) ≠ .cells a el fr:=fun _ _ _ h=>by cases h
  have fin : ∀ (w1 w2 : World) (me' : Array Go.MapEntry) (clock' : Nat),(w1.heap = w.heap /\ Still w w1) -> WroteO w1 w2 b (.map me' clock') -> RepM F ρ H w.heap me'.toList esE -> StampL me' clock' ->
    (Post CL F B ρ H w.heap os ρ H w2.heap (os.set id (.map esE)) /\ Still w w2 /\ w2.heap[b]? = some (.map me' clock')):=by
   intro w1 w2 me' clock' ⟨hw1,hsl⟩ hw2 hr hst2
   have hw : WroteO w w2 b (.map me' clock'):=⟨hw2.at_,fun b' hb'=>by rw [hw2.other b' hb',hw1],by rw [hw2.size,hw1],hsl.trans hw2.still⟩
   have x : Ext ρ ρ H H w.heap w2.heap:=⟨fun _ _ h=>h,fun _ _ h=>h,fun b' o _=>by
    by_cases e : b' = b
    ·subst e
     rw [zt (hp:=w.heap) (by rw [h1]; intro a el fr h; cases h),zt (by rw [hw.at_]; intro a el fr h; cases h)]
    ·unfold cellOf; rw [hw.other b' e]⟩
   exact ⟨S.writeO hos rfl hid hw (by rw [h1]; intro a el fr h; cases h) (fun _ _ _ h=>by cases h) ⟨b,cc,rfl,(hr.mono x).mapAt hw.at_ hst2⟩ (fun _ h=>by cases h),hw.still,hw.at_⟩
  cases hi : mapIdx k es 0 with
  | none=>
   rw [hi] at f2 hs
   simp only at hs
   obtain ⟨rfl,rfl⟩:=hs
   have hx : x = none:=by cases x <;> simp_all
   subst hx
   obtain ⟨zv,z1,_,z3,_⟩:=z2f (P:=P) (φ:=F) (ρ:=ρ) (H:=H) (w:=w) (TA _ _ he') (hz rfl)
   obtain ⟨w2,s1,s2⟩:=z1t (P:=P) (o':=.map (me.push { key:=vk,val:=zv,born:=clock }) (clock + 1)) h1 hnc
   have hfin:=fin w w2 _ _ ⟨rfl,Still.refl _⟩ s2 (by simpa using h2.push (e:={ key:=vk,val:=zv,born:=clock }) (p:=(k,z)) ⟨hk,z3⟩) hst.push
   refine ⟨w2,zv,b,cc,_,_,me.size,{ key:=vk,val:=zv,born:=clock },rfl,hid,?_,hfin.1,hfin.2.1,hfin.2.2,by simp,?_⟩
   ·unfold Go.Instr.mapEntry
    simp only [Go.Sem.run_bind,run_underlying hu,Go.Result.andThen_ok,hg,hck,f1,z1,s1]
    rfl
   ·rw [show (Option.none : Option D).getD z = z from rfl,zad hr hi,Nat.zero_add]
    have:=h2.1; simp at this; rw [this]
  | some i=>
   rw [hi] at f2 hs
   simp only at hs
   obtain ⟨rfl,hlt,_⟩:=hs
   obtain ⟨p,rfl⟩ : ∃ p,x = some p:=by cases x <;> simp_all
   obtain ⟨pi,pv⟩:=p
   simp at f2; subst f2
   obtain ⟨_,q,hq,hqk⟩:=z27 hi
   rw [Nat.sub_zero] at hq
   have hlm : pi < me.size:=by have:=h2.1; simp at this; omega
   obtain ⟨kv,w1,k1,k2,k3⟩:=z74 (P:=P) (w:=w) (((me[pi]?).map (·.key)).getD vk) vk
   have hkr : Rep F ρ H w.heap kv k:=by
    rcases k2 with rfl | rfl
    ·have:=(h2.2 pi me[pi] q (by simp [hlm]) hq).1
     rw [hqk] at this
     simpa [hlm] using this
    ·exact hk
   obtain ⟨rv,rfl⟩ : ∃ rv,r = some rv:=by cases r <;> simp_all
   have hqv : q.2 = rv:=by
    have key : ∀ (es : List (D × D)) (n i : Nat) (q : D × D),mapFind k es = some (some rv) -> mapIdx k es n = some i -> es[i - n]? = some q -> q.2 = rv:=by
     intro es
     induction es with
     | nil=>intro n i q h; simp [mapFind] at h
     | cons e es ih=>
      intro n i q h hi hq
      simp only [mapFind] at h
      simp only [mapIdx] at hi
      cases hb : k.eqb e.1 with
      | none=>simp [hb] at h
      | some bb=>
       cases bb with
       | true=>
        simp [hb] at h hi
        subst hi; simp at hq; rw [<- hq]; exact h
       | false=>
        simp only [hb] at h hi
        obtain ⟨g1,_⟩:=z27 hi
        rw [show i - n = (i - (n + 1)) + 1 from by omega] at hq
        exact ih (n + 1) i q h hi (by simpa using hq)
    exact key es 0 pi q hf hi (by simpa using hq)
   have h1' : w1.heap[b]? = some (.map me clock):=by rw [k3.1,h1]
   obtain ⟨w2,s1,s2⟩:=z1t (P:=P) (w:=w1) (o':=.map (me.modify pi fun e=>{ e with key:=kv }) clock) h1' hnc
   have hfin:=fin w1 w2 _ _ k3 s2 (by
    refine ⟨by simp; simpa using h2.1,fun j e p he hp=>?_⟩
    simp only [Array.getElem?_toList,Array.getElem?_modify] at he
    rw [List.getElem?_set] at hp
    by_cases hj : pi = j
    ·subst hj
     simp [hlm] at he; simp [hlt] at hp
     have hv2:=(h2.2 pi me[pi] q (by simp [hlm]) hq).2
     rw [hqv] at hv2
     rw [<- he,<- hp]; exact ⟨hkr,hv2⟩
    ·rw [if_neg hj] at he hp
     exact h2.2 j e p (by simpa using he) hp) (hst.modify fun _=>rfl)
   refine ⟨w2,pv,b,cc,_,_,pi,{ me[pi] with key:=kv },rfl,hid,?_,hfin.1,hfin.2.1,hfin.2.2,by rw [Array.getElem?_modify,if_pos rfl,Array.getElem?_eq_getElem hlm]; rfl,?_⟩
   ·unfold Go.Instr.mapEntry
    simp only [Go.Sem.run_bind,run_underlying hu,Go.Result.andThen_ok,hg,hck,f1,k1,s1]
    simp [hlm,Go.goInt]
   ·have:=zac (v:=rv) hr hi
    simpa using this

theorem zie {t : Nat} {vv : Value} {v k : D} {id b c : Nat} {es es2 : List (D × D)} {me : Array Go.MapEntry} {clock j : Nat} {e0 : Go.MapEntry} (S : SR CL F B ρ H w.heap os) (hid : ρ id = some (.blk b c)) (hos : os[id]? = some (.map es))
  (hv : Rep F ρ H w.heap vv v) (hb : w.heap[b]? = some (.map me clock)) (hj : me[j]? = some e0) (hi : mapIdx k es 0 = some j) (hput : mapPut k v es = some es2) :
  ∃ w',(Go.Instr.entryStore t (.map (some b)) (.int .i64 (e0.born : Nat)) vv).run P w = .ok () w' /\ Post CL F B ρ H w.heap os ρ H w'.heap (os.set id (.map es2)) /\ Still w w':=by
 obtain ⟨me',clock',h1,h2,hst⟩:=(S.mapAt hid hos).list
 rw [hb] at h1
 simp only [Option.some.injEq,Go.Obj.map.injEq] at h1
 obtain ⟨rfl,rfl⟩:=h1
 obtain ⟨r,hf,hs⟩:=z3y hput
 rw [hi] at hs
 simp only at hs
 obtain ⟨rfl,hlt,_⟩:=hs
 obtain ⟨hlm,hje⟩:=Array.getElem?_eq_some_iff.1 hj
 have hnc : ∀ a el fr,(Go.Obj.map me clock) ≠ .cells a el fr:=fun _ _ _ h=>by cases h
 obtain ⟨w2,s1,s2⟩:=z1t (P:=P) (o':=.map (me.modify j fun e=>{ e with val:=vv }) clock) hb hnc
 obtain ⟨_,q,hq,hqk⟩:=z27 hi
 rw [Nat.sub_zero] at hq
 have hx : me.findIdx? (fun e=>(e.born : Int) == ((e0.born : Nat) : Int)) = some j:=by
  rw [Array.findIdx?_eq_some_iff_getElem]
  refine ⟨hlm,by rw [hje]; simp,fun i hi=>?_⟩
  have hne : (me[i]'(by omega)).born ≠ e0.born:=by
   intro e
   have hn:=hst.2
   rw [List.nodup_iff_pairwise_ne,List.pairwise_iff_getElem] at hn
   have:=hn i j (by simp; omega) (by simpa using hlm) hi
   simp only [List.getElem_map,Array.getElem_toList] at this
   rw [hje] at this
   exact this e
  simp only [beq_iff_eq]
  omega
 have hw:=s2
 have x : Ext ρ ρ H H w.heap w2.heap:=⟨fun _ _ h=>h,fun _ _ h=>h,fun b' o _=>by
  by_cases e : b' = b
  ·subst e
   rw [zt (hp:=w.heap) (by rw [hb]; intro a el fr h; cases h),zt (by rw [hw.at_]; intro a el fr h; cases h)]
  ·unfold cellOf; rw [hw.other b' e]⟩
 refine ⟨w2,?_,?_,hw.still⟩
 ·unfold Go.Instr.entryStore
  have hg : (Go.getObj b).run P w = .ok (.map me clock) w:=by simp [Go.getObj,Go.Sem.run,hb]
  have ha : (Go.asInt (.int .i64 ((e0.born : Nat) : Int))).run P w = .ok ((e0.born : Nat) : Int) w:=by simp [Go.asInt,Go.asIntOf]
  simp only [Go.Sem.run_bind,Go.Result.andThen_ok,hg,ha,hx,s1]
 ·have hm2 : RepM F ρ H w.heap (me.modify j fun e=>{ e with val:=vv }).toList (es.set j (k,v)):=by
   refine ⟨by simp; simpa using h2.1,fun i e p he hp=>?_⟩
   simp only [Array.getElem?_toList,Array.getElem?_modify] at he
   rw [List.getElem?_set] at hp
   by_cases hij : j = i
   ·subst hij
    simp [hlm] at he; simp [hlt] at hp
    have hk2:=(h2.2 j me[j] q (by simp [hlm]) hq).1
    rw [hqk] at hk2
    rw [<- he,<- hp]; exact ⟨hk2,hv⟩
   ·rw [if_neg hij] at he hp
    exact h2.2 i e p (by simpa using he) hp
  exact S.writeO hos rfl hid hw (by rw [hb]; intro a el fr h; cases h) (fun _ _ _ h=>by cases h) ⟨b,c,rfl,(hm2.mono x).mapAt hw.at_ (hst.modify fun _=>rfl)⟩ (fun _ h=>by cases h)

end
end Dv

namespace Dv
open Go (Value Program World Act Oper Operand Code Ending Exit Region.binds Region.ready)

def boundTo (ops : Array Oper) (i j : Nat) : Prop:=∃ o,ops[i]? = some o /\ ∃ e,e ∈ o.after /\ Region.binds .any e = true /\ e.on = j

def plainD : DOp -> Bool
 | .load _ _=>true
 | op=>hfree op

structure AsgOk (T F : Phi) (ops : Array Oper) (pre : List DOpr) (q : AsgQ) (iL iB : Nat) : Prop where
 len : ops.size = pre.length + 3
 lt : iL < pre.length /\ iB < pre.length
 lk : ∀ (i : Nat) o d,ops[i]? = some o -> pre[i]? = some d -> OprL T F ops.toList o d /\ d.gd = none
 pl : ∀ (i : Nat) d,i ≠ iL -> pre[i]? = some d -> plainD d.op = true
 E : ops[pre.length]? = some q.oE /\ q.oE.op = .mapEntry q.t (.tmp q.mt) (.tmp q.kt) /\ q.oE.guard = none /\ q.oE.dst = some q.dE
 X : ops[pre.length + 1]? = some q.oX /\ q.oX.op = .extract (.tmp q.dE) 1 /\ q.oX.guard = none /\ q.oX.dst = some q.dX
 S : ops[pre.length + 2]? = some q.oS /\ q.oS.op = .entryStore q.t (.tmp q.mt) (.tmp q.dX) (.tmp q.vt) /\ q.oS.guard = none /\ q.oS.dst = none
 ty : T q.t = some q.t'
 L : ∃ dL,pre[iL]? = some ⟨dL,.lookup q.t' (.t q.mt) (.t q.kt) false,none⟩
 B : ∃ dB op t x y,pre[iB]? = some ⟨dB,.bin op t x y,none⟩
 dsts : ∀ (i j : Nat) oi oj t,ops[i]? = some oi -> ops[j]? = some oj -> oi.dst = some t -> oj.dst = some t -> i = j
 rd : ∀ (i : Nat) d,pre[i]? = some d -> ∀ t,t ∈ slots (opnds d.op) -> ∀ j oj,ops[j]? = some oj -> oj.dst = some t -> j < i /\ boundTo ops i j
 rdE : ∀ t,t = q.mt \/ t = q.kt -> ∀ (j : Nat) oj,ops[j]? = some oj -> oj.dst = some t -> j < pre.length /\ boundTo ops pre.length j
 rdV : ∀ (j : Nat) oj,ops[j]? = some oj -> oj.dst = some q.vt -> j < pre.length
 eE : ∀ i,i < pre.length -> i ≠ iL -> i ≠ iB -> boundTo ops pre.length i
 eX : boundTo ops (pre.length + 1) pre.length
 eS : ∀ i,i < pre.length + 2 -> boundTo ops (pre.length + 2) i
 back : ∀ (i : Nat) o,ops[i]? = some o -> ∀ e,e ∈ o.after -> Region.binds .any e = true -> e.on < i

def InvS (ops : Array Oper) (dl : List D) (sl0 slX : List D) (L : Nat -> Bool) : Prop:=
 slX.length = sl0.length /\ (∀ (j : Nat) o d t,ops[j]? = some o -> dl[j]? = some d -> L j = true -> o.dst = some t -> t < sl0.length -> slX[t]? = some d) /\
  ∀ t,(∀ (j : Nat) o,ops[j]? = some o -> L j = true -> o.dst ≠ some t) -> slX[t]? = sl0[t]?

theorem z8v {ops : Array Oper} {dl sl0 slX : List D} {L L' : Nat -> Bool} {i : Nat} {o : Oper} {d : D} (hd : ∀ (i j : Nat) oi oj t,ops[i]? = some oi -> ops[j]? = some oj -> oi.dst = some t -> oj.dst = some t -> i = j)
  (h : InvS ops dl sl0 slX L) (ho : ops[i]? = some o) (hdl : dl[i]? = some d) (hL : ∀ j,L' j = (L j || j == i)) : InvS ops dl sl0 (putO slX o.dst d) L':=by
 obtain ⟨h1,h2,h3⟩:=h
 cases hu : o.dst with
 | none=>
  refine ⟨h1,fun j oj dj t hj hdj hl ht htl=>?_,fun t ht=>h3 t fun j oj hj hl=>ht j oj hj (by rw [hL,hl]; rfl)⟩
  rw [hL] at hl
  simp only [Bool.or_eq_true,beq_iff_eq] at hl
  rcases hl with hl | rfl
  ·exact h2 j oj dj t hj hdj hl ht htl
  ·rw [ho] at hj; cases hj; rw [hu] at ht; cases ht
 | some u=>
  refine ⟨by simp [putO,h1],fun j oj dj t hj hdj hl ht htl=>?_,fun t ht=>?_⟩
  ·rw [hL] at hl
   simp only [Bool.or_eq_true,beq_iff_eq] at hl
   simp only [putO]
   by_cases hji : j = i
   ·subst hji
    rw [ho] at hj; cases hj
    rw [hu] at ht
    simp only [Option.some.injEq] at ht
    subst ht
    rw [hdl] at hdj; cases hdj
    rw [List.getElem?_set_self (by rw [h1]; exact htl)]
   ·have hlj:=hl.resolve_right hji
    have hne : u ≠ t:=fun e=>hji (hd j i oj o t hj ho ht (by rw [hu,e]))
    rw [List.getElem?_set_ne hne]
    exact h2 j oj dj t hj hdj hlj ht htl
  ·have hne : u ≠ t:=fun e=>ht i o ho (by rw [hL]; simp) (by rw [hu,e])
   simp only [putO]
   rw [List.getElem?_set_ne hne]
   exact h3 t fun j oj hj hl=>ht j oj hj (by rw [hL,hl]; rfl)

theorem zfw {ops : Array Oper} {dl sl0 slX slY : List D} {L1 L2 : Nat -> Bool} {t : Nat} (h1 : InvS ops dl sl0 slX L1) (h2 : InvS ops dl sl0 slY L2)
  (ht : ∀ (j : Nat) o,ops[j]? = some o -> o.dst = some t -> L1 j = true /\ L2 j = true /\ ∃ d,dl[j]? = some d) : slX[t]? = slY[t]?:=by
 by_cases hx : ∃ (j : Nat) (o : Oper),ops[j]? = some o /\ o.dst = some t
 ·obtain ⟨j,o,hj,hd⟩:=hx
  obtain ⟨g1,g2,d,g3⟩:=ht j o hj hd
  by_cases hl : t < sl0.length
  ·rw [h1.2.1 j o d t hj g3 g1 hd hl,h2.2.1 j o d t hj g3 g2 hd hl]
  ·rw [List.getElem?_eq_none (by rw [h1.1]; omega),List.getElem?_eq_none (by rw [h2.1]; omega)]
 ·rw [h1.2.2 t fun j o hj _ hd=>hx ⟨j,o,hj,hd⟩,h2.2.2 t fun j o hj _ hd=>hx ⟨j,o,hj,hd⟩]

theorem zet {slX slY : List D} {x : Opd} (h : ∀ t,x = .t t -> slX[t]? = slY[t]?) : getO slX x = getO slY x:=by
 cases x with
 | t n=>simp only [getO,List.getD_eq_getElem?_getD]; rw [h n rfl]
 | c d=>rfl
 | f k=>rfl
theorem za9 {x : Opd} {t : Nat} {l : List Opd} (hx : x ∈ l) (e : x = .t t) : t ∈ slots l:=by
 subst e
 exact List.mem_filterMap.2 ⟨_,hx,rfl⟩

section
variable {P : Program} {E : Env} {CL : CLink} {F : Phi} {T : Phi} {B : Nat} {K : Nat -> Prop} {ρ : Rho} {H : HS} {os : List Obj} {w : World} {a : Act} {sl : List D}

theorem zcu {op : DOp} (h : plainD op = true) : op.fin = false:=by
 cases op with
 | load t x=>rfl
 | _=>exact z65 (by exact h)
theorem zh6 {callP : Nat -> List D -> Option D} {id : Nat} {g : Opd -> D} {hp : List Obj} {op : DOp} {e : Ef} (h : plainD op = true) (hp : pureOp E callP id g hp op = some e) : e = ⟨e.d,none,none⟩:=by
 cases op with
 | load t x=>
  simp only [pureOp,Option.map_eq_some_iff] at hp
  obtain ⟨_,_,rfl⟩:=hp; rfl
 | _=>
  obtain ⟨h1,h2⟩:=z6n (by exact h) hp
  cases e
  simp only at h1 h2
  subst h1; subst h2; rfl
theorem zhh {callP : Nat -> List D -> Option D} {id : Nat} {g : Opd -> D} {hp : List Obj} {t : Nat} {m k : Opd} {e : Ef} (hp : pureOp E callP id g hp (.lookup t m k false) = some e) : e = ⟨e.d,none,none⟩:=by
 simp only [pureOp,Option.map_eq_some_iff] at hp
 obtain ⟨_,_,rfl⟩:=hp; rfl

theorem zjs {callP : Nat -> List D -> Option D} {callS callY : Nat -> List D -> List Obj -> Option (D × List Obj)} {ops : Array Oper} (hd : ∀ (i j : Nat) oi oj t,ops[i]? = some oi -> ops[j]? = some oj -> oi.dst = some t -> oj.dst = some t -> i = j) {sl0 : List D} {hp0 : List Obj} :
  ∀ (rest : List DOpr) (pre : List DOpr) (dl : List D) (slX : List D) (stF : St),dl.length = pre.length -> (∀ (i : Nat) o d,ops[i]? = some o -> (pre ++ rest)[i]? = some d -> d.dst = o.dst /\ d.gd = none) -> (pre ++ rest).length <= ops.size ->
   (∀ d,d ∈ rest -> plainD d.op = true \/ ∃ t m k,d.op = .lookup t m k false) ->
   InvS ops dl sl0 slX (fun j=>decide (j < pre.length)) -> stepOps E callP callS callY rest ⟨slX,hp0⟩ = some stF ->
   stF.hp = hp0 /\ ∃ dl2,(dl ++ dl2).length = (pre ++ rest).length /\ InvS ops (dl ++ dl2) sl0 stF.sl (fun j=>decide (j < (pre ++ rest).length)) /\
    ∀ (i : Nat) o,pre.length <= i -> (pre ++ rest)[i]? = some o -> ∃ slI d,InvS ops (dl ++ dl2) sl0 slI (fun j=>decide (j < i)) /\ (dl ++ dl2)[i]? = some d /\ pureOp E callP hp0.length (getO slI) hp0 o.op = some ⟨d,none,none⟩
 | [],pre,dl,slX,stF,hdl,_,_,_,hI,h=>by
  simp only [stepOps,Option.some.injEq] at h
  subst h
  refine ⟨rfl,[],by simp [hdl],by simpa using hI,fun i o hi ho=>?_⟩
  have:=(List.getElem?_eq_some_iff.1 ho).1
  simp at this; omega
 | r :: rest,pre,dl,slX,stF,hdl,hg,hsz,hpl,hI,h=>by
  have hlen : pre.length < ops.size:=by simp at hsz; omega
  obtain ⟨o,ho⟩ : ∃ o,ops[pre.length]? = some o:=⟨_,Array.getElem?_eq_getElem hlen⟩
  obtain ⟨hdst,hgd⟩:=hg pre.length o r ho (by simp)
  rw [z8] at h
  have hfin : r.op.fin = false:=by
   rcases hpl r (by simp) with h1 | ⟨t,m,k,h1⟩
   ·exact zcu h1
   ·rw [h1]; rfl
  have hs1 : ∃ d,pureOp E callP hp0.length (getO slX) hp0 r.op = some ⟨d,none,none⟩ /\ step1 E callP callS callY hp0.length r ⟨slX,hp0⟩ = some ⟨putO slX r.dst d,hp0⟩:=by
   cases hp : pureOp E callP hp0.length (getO slX) hp0 r.op with
   | none=>
    simp [step1,hgd,wantedD,stepOp,hfin,hp] at h
   | some e=>
    have he : e = ⟨e.d,none,none⟩:=by
     rcases hpl r (by simp) with h1 | ⟨t,m,k,h1⟩
     ·exact zh6 h1 hp
     ·rw [h1] at hp; exact zhh hp
    rw [he] at hp ⊢
    refine ⟨e.d,rfl,?_⟩
    simp [step1,hgd,wantedD,stepOp,hfin,hp,applyEf]
  obtain ⟨d,hp,hst⟩:=hs1
  rw [hst] at h
  simp only [Option.bind_some] at h
  have hI2 : InvS ops (dl ++ [d]) sl0 slX (fun j=>decide (j < pre.length)):=by
   refine ⟨hI.1,fun j oj dj t hj hdj hl ht htl=>?_,hI.2.2⟩
   have hl' : j < pre.length:=by simpa using hl
   rw [List.getElem?_append_left (by omega)] at hdj
   exact hI.2.1 j oj dj t hj hdj hl ht htl
  have hI3 : InvS ops (dl ++ [d]) sl0 (putO slX r.dst d) (fun j=>decide (j < (pre ++ [r]).length)):=by
   rw [hdst]
   refine z8v hd hI2 ho (by rw [<- hdl]; simp) fun j=>?_
   rw [List.length_append,List.length_singleton]
   rw [Bool.eq_iff_iff]
   simp only [decide_eq_true_eq,Bool.or_eq_true,beq_iff_eq]
   omega
  obtain ⟨r1,dl2,r2,r3,r4⟩:=zjs hd rest (pre ++ [r]) (dl ++ [d]) (putO slX r.dst d) stF (by simp [hdl]) (by simpa using hg) (by simpa using hsz) (fun x hx=>hpl x (by simp [hx])) hI3 h
  refine ⟨r1,d :: dl2,by simpa using r2,by simpa using r3,fun i oi hi hoi=>?_⟩
  by_cases he : i = pre.length
  ·subst he
   simp at hoi
   subst hoi
   refine ⟨slX,d,?_,by rw [<- hdl]; simp,hp⟩
   refine ⟨hI.1,fun j oj dj t hj hdj hl ht htl=>?_,hI.2.2⟩
   have hl' : j < pre.length:=by simpa using hl
   rw [List.getElem?_append_left (by omega)] at hdj
   exact hI.2.1 j oj dj t hj hdj hl ht htl
  ·obtain ⟨slI,d',k1,k2,k3⟩:=r4 i oi (by simp; omega) (by simpa using hoi)
   exact ⟨slI,d',by simpa using k1,by simpa using k2,k3⟩
end
end Dv

namespace Dv
open Go (Value Program World Act Oper Operand Code Ending Exit Region.binds Region.ready)

section
variable {P : Program} {E : Env} {CL : CLink} {F : Phi} {T : Phi} {B : Nat} {K : Nat -> Prop} {ρ : Rho} {H : HS} {os : List Obj} {w : World} {a : Act} {sl : List D}

def EntAt (hp : Heap) (b : Nat) (k : D) (es : List (D × D)) (st : Int) : Prop:=
 ∃ (me : Array Go.MapEntry) (clock j : Nat) (e0 : Go.MapEntry),hp[b]? = some (.map me clock) /\ me[j]? = some e0 /\ mapIdx k es 0 = some j /\ st = ((e0.born : Nat) : Int)

theorem zjx {ops : Array Oper} {listed : Array Bool} (hsz : listed.size = ops.size) (hback : ∀ (i : Nat) o,ops[i]? = some o -> ∀ e,e ∈ o.after -> Region.binds .any e = true -> e.on < i)
  (hr : Region.ready .any ops listed = []) : ∀ i,i < ops.size -> listed.getD i false = true:=by
 intro i
 induction i using Nat.strongRecOn with
 | ind i ih=>
  intro hi
  cases hv : listed[i]'(by omega) with
  | true=>simp [Array.getD_eq_getD_getElem?,hsz,hi,hv]
  | false=>
   exfalso
   have : i ∈ Region.ready .any ops listed:=Go.mem_ready.2 ⟨by simp [Array.getD_eq_getD_getElem?,hsz,hi,hv],ops[i],by simp [hi],fun e he hb=>ih e.on (hback i ops[i] (by simp [hi]) e he hb) (Nat.lt_trans (hback i ops[i] (by simp [hi]) e he hb) hi)⟩
   rw [hr] at this; cases this

theorem z9w {r : Option Nat} {ops : Array Oper} {i : Nat} {o : Oper} {v : Value} {w' : World} {next : Act -> World -> Prop} {Q : Exit -> Act -> World -> Prop} (ho : ops[i]? = some o) (hg : o.guard = none) (hnd : ∀ c,o.op ≠ .defer c)
  (h : (Go.execOp a.eval o).run P w = .ok (.value v) w') (hn : next (a.put o.dst v) w') : Go.wpOpIn (Fw r) 0 P ops Q i next a w:=by
 unfold Go.wpOpIn
 simp only [ho]
 rw [if_pos (by simp [Go.Region.wanted,hg])]
 refine ⟨fun f _=>trivial,?_⟩
 rw [Go.Oper.semAt_eq _ _ _ hnd,h]
 exact hn
theorem zjp {r : Option Nat} {ops : Array Oper} {i : Nat} {o : Oper} {w' : World} {next : Act -> World -> Prop} {Q : Exit -> Act -> World -> Prop} (ho : ops[i]? = some o) (hg : o.guard = none) (hnd : ∀ c,o.op ≠ .defer c)
  (h : (Go.execOp a.eval o).run P w = .ok .skip w') (hn : next (a.put o.dst Go.undef) w') : Go.wpOpIn (Fw r) 0 P ops Q i next a w:=by
 unfold Go.wpOpIn
 simp only [ho]
 rw [if_pos (by simp [Go.Region.wanted,hg])]
 refine ⟨fun f _=>trivial,?_⟩
 rw [Go.Oper.semAt_eq _ _ _ hnd,h]
 exact hn

theorem zd1 {listed : Array Bool} {i : Nat} (h : listed.getD i true = false) : listed.getD i false = true -> False:=by
 intro h2
 by_cases hi : i < listed.size
 ·simp [Array.getD_eq_getD_getElem?,hi] at h h2; rw [h] at h2; cases h2
 ·simp [Array.getD_eq_getD_getElem?,hi] at h

theorem z85 {F : Phi} {x : Operand} {n : Nat} (h : stripOpd F x = some (.t n)) : x = .tmp n:=by
 unfold stripOpd at h
 split at h <;> simp at h
 rw [h]

theorem zjy {a : Act} {u t : Nat} {v : Value} (h : u ≠ t) : (a.put (some u) v).tmps[t]? = a.tmps[t]?:=by
 simp [Act.put,Array.getElem?_setIfInBounds_ne h]
theorem zfj {a : Act} {u : Nat} {v : Value} (h : u < a.tmps.size) : (a.put (some u) v).tmps[u]? = some v:=by
 simp [Act.put,h]
theorem zlp {a : Act} {t : Nat} {v : Value} (h : a.tmps[t]? = some v) : a.eval (.tmp t) = v:=by
 simp [Act.eval,Array.getD_eq_getD_getElem?,h]

theorem zsq (TA : TAll P E T) (FO : FnsOk P F) {callP : Nat -> List D -> Option D} {callS callY : Nat -> List D -> List Obj -> Option (D × List Obj)}
  (hP : ∀ f f',F f = some f' -> PureAt P F (callP f') f) (hS : ∀ f f',F f = some f' -> StatAt P CL F (fun ds os=>noMark (callS f' ds os)) f) (hY : YieldAt P CL F callY)
  {r : Option Nat} {ops : Array Oper} {pre : List DOpr} {q : AsgQ} {iL iB : Nat} (A : AsgOk T F ops pre q iL iB) {Q : Exit -> Act -> World -> Prop} {hp0 : List Obj} {sl0 dl slF : List D} {kt e id : Nat} {es esE esF : List (D × D)} {rr : Option D} {z kd vd : D}
  (hdl : dl.length = pre.length + 3) (hdE : dl[pre.length]? = some .undef) (hdX : dl[pre.length + 1]? = some .undef) (hdS : dl[pre.length + 2]? = some .undef)
  (hseq : ∀ (i : Nat) o,pre[i]? = some o -> ∃ slI d,InvS ops dl sl0 slI (fun j=>decide (j < i)) /\ dl[i]? = some d /\ pureOp E callP hp0.length (getO slI) hp0 o.op = some ⟨d,none,none⟩)
  (hm : ∀ slX L,InvS ops dl sl0 slX L -> (∀ j,boundTo ops pre.length j -> L j = true) -> getO slX (.t q.mt) = .map (some id))
  (hk : ∀ slX L,InvS ops dl sl0 slX L -> (∀ j,boundTo ops pre.length j -> L j = true) -> getO slX (.t q.kt) = kd)
  (hv : ∀ slX L,InvS ops dl sl0 slX L -> (∀ j,j < pre.length -> L j = true) -> getO slX (.t q.vt) = vd)
  (hc : (E.ty q.t').k = .map kt e) (hos : hp0[id]? = some (.map es)) (hkey : keyOk E kt kd = true) (hf : mapFind kd es = some rr) (hz : rr = none -> zeroE E e = some z) (hputE : mapPut kd (rr.getD z) es = some esE) (hputF : mapPut kd vd esE = some esF)
  (hEl : q.dE < sl0.length) (hXl : q.dX < sl0.length) (hF : InvS ops dl sl0 slF (fun _=>true)) :
  ∀ (fuel : Nat) (listed : Array Bool) (rem : List Nat) {ρ : Rho} {H : HS} {w : World} {a : Act} {slX : List D},listed.size = ops.size -> rem.length <= fuel -> (∀ i,i < ops.size -> listed.getD i true = false -> i ∈ rem) ->
   InvS ops dl sl0 slX (fun i=>listed.getD i false) -> RepL F ρ H w.heap a.tmps.toList slX ->
   (((∀ i,pre.length <= i -> listed.getD i false = false) /\ SR CL F B ρ H w.heap hp0) \/
    (listed.getD pre.length false = true /\ listed.getD (pre.length + 2) false = false /\ (∀ i,i < pre.length -> i ≠ iL -> i ≠ iB -> listed.getD i false = true) /\ (∀ j,boundTo ops pre.length j -> listed.getD j false = true) /\ SR CL F B ρ H w.heap (hp0.set id (.map esE)) /\
     ∃ st b c v,ρ id = some (.blk b c) /\ EntAt w.heap b kd esE st /\ a.tmps[q.dE]? = some (.tuple #[v,.int .i64 st]) /\ (listed.getD (pre.length + 1) false = true -> a.tmps[q.dX]? = some (.int .i64 st))) \/
    ((∀ i,i < ops.size -> listed.getD i false = true) /\ SR CL F B ρ H w.heap (hp0.set id (.map esF)))) ->
   (∀ a' w' ρ' H',PostT CL F B (fun i=>i < hp0.length) ρ H w ρ' H' w' (hp0.set id (.map esF)) -> RepL F ρ' H' w'.heap a'.tmps.toList slF -> a'.defers = a.defers -> Q .normal a' w') ->
   Go.wpAnyIn (Fw r) 0 P .any ops Q fuel listed a w:=by
 have hos0 : id < hp0.length:=(List.getElem?_eq_some_iff.1 hos).1
 have dlAt : ∀ j,j < ops.size -> ∃ d,dl[j]? = some d:=fun j hj=>⟨_,List.getElem?_eq_getElem (by have:=A.len; omega)⟩
 have dlOp : ∀ (j : Nat) (o : Oper),ops[j]? = some o -> ∃ d,dl[j]? = some d:=fun j o h=>dlAt j (Array.getElem?_eq_some_iff.1 h).1
 have fin : ∀ {listed : Array Bool} {ρ : Rho} {H : HS} {w : World} {a : Act} {slX : List D},(∀ i,i < ops.size -> listed.getD i false = true) -> InvS ops dl sl0 slX (fun i=>listed.getD i false) -> RepL F ρ H w.heap a.tmps.toList slX ->
   (((∀ i,pre.length <= i -> listed.getD i false = false) /\ SR CL F B ρ H w.heap hp0) \/
    (listed.getD pre.length false = true /\ listed.getD (pre.length + 2) false = false /\ (∀ i,i < pre.length -> i ≠ iL -> i ≠ iB -> listed.getD i false = true) /\ (∀ j,boundTo ops pre.length j -> listed.getD j false = true) /\ SR CL F B ρ H w.heap (hp0.set id (.map esE)) /\
     ∃ st b c v,ρ id = some (.blk b c) /\ EntAt w.heap b kd esE st /\ a.tmps[q.dE]? = some (.tuple #[v,.int .i64 st]) /\ (listed.getD (pre.length + 1) false = true -> a.tmps[q.dX]? = some (.int .i64 st))) \/
    ((∀ i,i < ops.size -> listed.getD i false = true) /\ SR CL F B ρ H w.heap (hp0.set id (.map esF)))) ->
   (∀ a' w' ρ' H',PostT CL F B (fun i=>i < hp0.length) ρ H w ρ' H' w' (hp0.set id (.map esF)) -> RepL F ρ' H' w'.heap a'.tmps.toList slF -> a'.defers = a.defers -> Q .normal a' w') -> Q .normal a w:=by
  intro listed ρ H w a slX hall hI hs hph hn
  have hA:=A.len
  rcases hph with ⟨h1,_⟩ | ⟨_,h1,_⟩ | ⟨_,S⟩
  ·have:=h1 pre.length (Nat.le_refl _)
   rw [hall _ (by omega)] at this; cases this
  ·rw [hall _ (by omega)] at h1; cases h1
  ·have e : slX = slF:=List.ext_getElem? fun t=>zfw hI hF fun j o hj _=>⟨hall j (Array.getElem?_eq_some_iff.1 hj).1,rfl,dlOp j o hj⟩
   subst e
   exact hn a w ρ H (PostT.refl S) hs rfl
 intro fuel
 induction fuel with
 | zero=>
  intro listed rem ρ H w a slX hsz hfuel hrem hI hs hph hn
  have hr0 : rem = []:=List.length_eq_zero_iff.1 (Nat.le_zero.1 hfuel)
  subst hr0
  have hall : ∀ i,i < ops.size -> listed.getD i false = true:=fun i hi=>by
   cases hv : listed[i]'(by omega) with
   | true=>simp [Array.getD_eq_getD_getElem?,hsz,hi,hv]
   | false=>cases hrem i hi (by simp [Array.getD_eq_getD_getElem?,hsz,hi,hv])
  refine ⟨?_,fin hall hI hs hph hn⟩
  cases hr : Region.ready .any ops listed with
  | nil=>rfl
  | cons i l=>
   have hi : i ∈ Region.ready .any ops listed:=by rw [hr]; simp
   obtain ⟨h1,o,ho,_⟩:=Go.mem_ready.1 hi
   exact (zd1 h1 (hall i (Array.getElem?_eq_some_iff.1 ho).1)).elim
 | succ fuel ih=>
  intro listed rem ρ H w a slX hsz hfuel hrem hI hs hph hn
  refine ⟨fun hr=>fin (zjx hsz A.back hr) hI hs hph hn,fun i hi=>?_⟩
  obtain ⟨h1,o,ho,hedges⟩:=Go.mem_ready.1 hi
  have hlt:=(Array.getElem?_eq_some_iff.1 ho).1
  have hA:=A.len
  have hbd : ∀ j,boundTo ops i j -> listed.getD j false = true:=fun j hb=>by
   obtain ⟨o',ho',e,he,hbn,rfl⟩:=hb
   rw [ho] at ho'; cases ho'
   exact hedges e he hbn
  have hnl : listed.getD i false = true -> False:=zd1 h1
  -- what is the same for every operation
  have hsz' : (listed.setIfInBounds i true).size = ops.size:=by simpa using hsz
  have hself : (listed.setIfInBounds i true).getD i false = true:=by simp [Array.getD_eq_getD_getElem?,show i < listed.size from by omega]
  have hoth : ∀ j,j ≠ i -> ∀ b,(listed.setIfInBounds i true).getD j b = listed.getD j b:=fun j hj b=>Go.getD_set_ne b (fun e=>hj e.symm)
  have hup : ∀ j,listed.getD j false = true -> (listed.setIfInBounds i true).getD j false = true:=fun j hj=>Go.getD_set_true hj
  have him : i ∈ rem:=hrem i hlt h1
  have hrem' : ∀ j,j < ops.size -> (listed.setIfInBounds i true).getD j true = false -> j ∈ rem.erase i:=fun j hj h2=>by
   by_cases e : j = i
   ·subst e; simp [Array.getD_eq_getD_getElem?,show j < listed.size from by omega] at h2
   ·rw [hoth j e] at h2
    exact (List.mem_erase_of_ne e).2 (hrem j hj h2)
  have hfuel' : (rem.erase i).length <= fuel:=by
   have:=List.length_erase_of_mem him
   have : 0 < rem.length:=List.length_pos_of_mem him
   omega
  have hL' : ∀ j,(listed.setIfInBounds i true).getD j false = (listed.getD j false || j == i):=fun j=>by
   by_cases e : j = i
   ·subst e; rw [hself]; simp
   ·rw [hoth j e]; simp [e]
  obtain ⟨di,hdi⟩:=dlAt i hlt
  have hI':=z8v A.dsts hI ho hdi hL'
  rcases hph with ⟨p1,S⟩ | ⟨p1,p2,p3,p4,S,st,b,c,v,q1,q2,q3,q4⟩ | ⟨p1,S⟩
  ·-- ahead of the entry
   have hin : i <= pre.length:=by
    rcases Nat.lt_or_ge pre.length i with h2 | h2
    ·exfalso
     have : boundTo ops i pre.length:=by
      rcases (show i = pre.length + 1 \/ i = pre.length + 2 by omega) with rfl | rfl
      ·exact A.eX
      ·exact A.eS _ (by omega)
     have h3:=p1 pre.length (Nat.le_refl _)
     rw [hbd _ this] at h3; cases h3
    ·exact h2
   rcases Nat.lt_or_eq_of_le hin with hin | rfl
   ·obtain ⟨d,hd⟩ : ∃ d,pre[i]? = some d:=⟨_,List.getElem?_eq_getElem hin⟩
    obtain ⟨hl,hgd⟩:=A.lk i o d ho hd
    obtain ⟨slI,dd,k1,k2,k3⟩:=hseq i d hd
    rw [hdi] at k2; cases k2
    have hfin : d.op.fin = false:=by
     by_cases e : i = iL
     ·subst e
      obtain ⟨dL,hL⟩:=A.L
      rw [hd] at hL; cases hL; rfl
     ·exact zcu (A.pl i d e hd)
    have hp : pureOp E callP hp0.length (getO slX) hp0 d.op = some ⟨di,none,none⟩:=by
     rw [<- k3]
     refine z3b fun x hx=>zet fun t e=>zfw hI k1 fun j oj hj hdj=>?_
     obtain ⟨g1,g2⟩:=A.rd i d hd t (za9 hx e) j oj hj hdj
     exact ⟨hbd j g2,by simpa using g1,dlOp j oj hj⟩
    have hst : step1 E callP callS callY hp0.length d ⟨slX,hp0⟩ = some ⟨putO slX d.dst di,hp0⟩:=by
     simp [step1,hgd,wantedD,stepOp,hfin,hp,applyEf]
    have hfree : Free ρ hp0 hp0.length:=⟨by
     cases hr : ρ hp0.length with
     | none=>rfl
     | some bk=>exact absurd (S.lt _ _ hr) (Nat.lt_irrefl _),.inl rfl⟩
    refine z5x TA FO hP hS hY ho hl hst S hfree (K:=fun k=>k < hp0.length) (fun k hk=>⟨hk,by omega⟩) hs (fun a' w' ρ' H' p hs' _ hdf=>?_)
    refine ih (listed.setIfInBounds i true) (rem.erase i) hsz' hfuel' hrem' hI' (by rw [<- hl.dst]; exact hs') (.inl ⟨fun j hj=>by rw [hoth _ (by omega)]; exact p1 j hj,p.sr⟩) ?_
    intro a2 w2 ρ2 H2 pp hs2 hd2
    exact hn a2 w2 ρ2 H2 (p.trans pp) hs2 (hd2.trans hdf)
   ·-- the entry
    obtain ⟨e1,e2,e3,e4⟩:=A.E
    rw [ho] at e1; simp only [Option.some.injEq] at e1; subst e1
    have hmv:=z2e (t:=q.mt) hs
    have hkv:=z2e (t:=q.kt) hs
    rw [hm slX _ hI (fun j hb=>hbd j hb)] at hmv
    rw [hk slX _ hI (fun j hb=>hbd j hb)] at hkv
    obtain ⟨w',v,b,c',me,clock,j,e0,r1,r2,r3,r4,r5,r6,r7,r8⟩:=zhe TA (TA _ _ A.ty) S hmv hkv hc hos hkey hf hz hputE
    have hp:=r4.toT S (K:=fun i=>i < hp0.length) (LiveIn.set hos rfl) r5
    refine z9w ho e3 (by rw [e2]; intro c h; cases h) (v:=.tuple #[v,.int .i64 ((e0.born : Nat) : Int)]) (w':=w') ?_ ?_
    ·unfold Go.execOp
     rw [e2]
     simp only [Go.Sem.run_bind,r3,Go.Result.andThen_ok,Go.Sem.run_pure]
    ·rw [hdE] at hdi; simp only [Option.some.injEq] at hdi; subst hdi
     refine ih (listed.setIfInBounds pre.length true) (rem.erase pre.length) hsz' hfuel' hrem' hI' (z3u (hs.mono hp.ext) (.undef _ (by intro b h; cases h))) (.inr (.inl ⟨hself,?_,fun j hj h2 h3=>?_,fun j hj=>hup j (hbd j hj),hp.sr,_,b,c',v,r2,⟨me,clock,j,e0,r6,r7,r8,rfl⟩,?_,fun h2=>?_⟩)) ?_
     ·rw [hoth _ (by omega)]; exact p1 _ (by omega)
     ·rw [hup j (hbd j (A.eE j hj h2 h3))]
     ·rw [e4]; exact zfj (by have:=hs.1; have:=hI.1; simp at *; omega)
     ·rw [hoth _ (by omega),p1 _ (by omega)] at h2; cases h2
     ·intro a2 w2 ρ2 H2 pp hs2 hd2
      exact hn a2 w2 ρ2 H2 (hp.trans pp) hs2 (hd2.trans (z18 _ _ _))
  ·-- behind the entry
   have hfE : mapFind kd esE = some (some (rr.getD z)):=z8o (z6l hkey) hputE
   have hosE : (hp0.set id (.map esE))[id]? = some (.map esE):=by simp [hos0]
   -- an operation that changes nothing
   have quiet : ∀ (v' : Value),o.guard = none -> (∀ c,o.op ≠ .defer c) -> (Go.execOp a.eval o).run P w = .ok (.value v') w -> Rep F ρ H w.heap v' di -> i ≠ pre.length -> i ≠ pre.length + 2 -> (i = pre.length + 1 -> v' = .int .i64 st /\ o.dst = some q.dX) ->
     Go.wpOpIn (Fw r) 0 P ops Q i (Go.wpAnyIn (Fw r) 0 P .any ops Q fuel (listed.setIfInBounds i true)) a w:=by
    intro v' hg hnd hrun hrep hne1 hne2 hX
    refine z9w ho hg hnd hrun ?_
    have hdEne : ∀ u,o.dst = some u -> u ≠ q.dE:=fun u hu e=>by
     obtain ⟨e1,_,_,e4⟩:=A.E
     exact hne1 (A.dsts i pre.length o q.oE u ho e1 hu (by rw [e4,e]))
    refine ih (listed.setIfInBounds i true) (rem.erase i) hsz' hfuel' hrem' hI' (z3u hs hrep) (.inr (.inl ⟨hup _ p1,by rw [hoth _ (fun e=>hne2 e.symm)]; exact p2,fun j hj h2 h3=>hup j (p3 j hj h2 h3),fun j hj=>hup j (p4 j hj),S,st,b,c,v,q1,q2,?_,fun h2=>?_⟩)) ?_
    ·cases hu : o.dst with
     | none=>exact q3
     | some u=>rw [zjy (hdEne u hu)]; exact q3
    ·by_cases hi1 : i = pre.length + 1
     ·obtain ⟨rfl,hdst⟩:=hX hi1
      rw [hdst]
      exact zfj (by have:=hs.1; have:=hI.1; simp at *; omega)
     ·rw [hoth _ (fun e=>hi1 e.symm)] at h2
      have h3:=q4 h2
      cases hu : o.dst with
      | none=>exact h3
      | some u=>
       have : u ≠ q.dX:=fun e=>by
        obtain ⟨e1,_,_,e4⟩:=A.X
        exact hi1 (A.dsts i (pre.length + 1) o q.oX u ho e1 hu (by rw [e4,e]))
       rw [zjy this]; exact h3
    ·intro a2 w2 ρ2 H2 pp hs2 hd2
     exact hn a2 w2 ρ2 H2 pp hs2 (hd2.trans (z18 _ _ _))
   rcases (show i < pre.length \/ i = pre.length \/ i = pre.length + 1 \/ i = pre.length + 2 by omega) with hin | rfl | rfl | rfl
   ·obtain ⟨d,hd⟩ : ∃ d,pre[i]? = some d:=⟨_,List.getElem?_eq_getElem hin⟩
    obtain ⟨hl,hgd⟩:=A.lk i o d ho hd
    have hg : o.guard = none:=by
     have:=hl.gd
     rw [hgd] at this
     unfold stripGd at this
     split at this
     ·assumption
     ·split at this
      ·split at this <;> simp at this
      ·simp at this
    obtain ⟨slI,dd,k1,k2,k3⟩:=hseq i d hd
    rw [hdi] at k2; cases k2
    have hgo : ∀ x,x ∈ opnds d.op -> getO slX x = getO slI x:=fun x hx=>zet fun t e=>zfw hI k1 fun j oj hj hdj=>by
     obtain ⟨g1,g2⟩:=A.rd i d hd t (za9 hx e) j oj hj hdj
     exact ⟨hbd j g2,by simpa using g1,dlOp j oj hj⟩
    have hLB : i = iL \/ i = iB:=by
     by_cases e : i = iL
     ·exact .inl e
     ·refine .inr (Decidable.byContradiction fun e2=>hnl (p3 i hin e e2))
    have hp : pureOp E callP hp0.length (getO slX) hp0 d.op = some ⟨di,none,none⟩:=by rw [<- k3]; exact z3b hgo
    by_cases e : i = iL
    ·subst e
     obtain ⟨dL,hL⟩:=A.L
     rw [hd] at hL; simp only [Option.some.injEq] at hL; subst hL
     simp only [pureOp,Option.map_eq_some_iff,Ef.mk.injEq,and_true] at hp
     obtain ⟨d0,h2,rfl⟩:=hp
     have hmx:=hm slX _ hI (fun j hb=>p4 j hb)
     have hkx:=hk slX _ hI (fun j hb=>p4 j hb)
     rw [hmx,hkx] at h2
     have h3 : lookupD E (hp0.set id (.map esE)) q.t' (.map (some id)) kd false = some d0:=by
      unfold lookupD at h2 ⊢
      simp only [hc,hkey,if_true,hos,hosE,hf,hfE] at h2 ⊢
      cases rr with
      | none=>
       simp only [hz rfl] at h2
       exact h2
      | some x=>exact h2
     have hmv:=z2e (t:=q.mt) hs
     have hkv:=z2e (t:=q.kt) hs
     rw [hmx] at hmv
     rw [hkx] at hkv
     have hlo:=hl.op
     generalize hoo : o.op = oo at hlo
     cases hlo with
     | lookup ht g1 g2=>
      rename_i t1 m1 k1'
      have e1 : m1 = .tmp q.mt:=z85 g1
      have e2 : k1' = .tmp q.kt:=z85 g2
      subst e1; subst e2
      obtain ⟨v',g3,g4⟩:=zae TA S.rr (TA _ _ ht) hmv hkv h3
      refine quiet v' hg (by rw [hoo]; intro c h; cases h) ?_ g4 (by omega) (by omega) (fun h=>by omega)
      unfold Go.execOp
      rw [hoo]
      simp only [Go.Sem.run_bind,g3,Go.Result.andThen_ok,Go.Sem.run_pure]
    ·have hiB:=hLB.resolve_left e
     subst hiB
     obtain ⟨dB,bop,bt,bx,by_,hB⟩:=A.B
     rw [hd] at hB; simp only [Option.some.injEq] at hB; subst hB
     simp only [pureOp,Option.map_eq_some_iff,Ef.mk.injEq,and_true] at hp
     obtain ⟨d0,h2,rfl⟩:=hp
     have hlo:=hl.op
     generalize hoo : o.op = oo at hlo
     cases hlo with
     | bin ht g1 g2=>
      obtain ⟨v',g3,g4⟩:=zmb (P:=P) (ox:=_) (oy:=_) (TA _ _ ht) (z6 S.hb hs g1) (z6 S.hb hs g2) h2
      refine quiet v' hg (by rw [hoo]; intro c h; cases h) ?_ g4 (by omega) (by omega) (fun h=>by omega)
      unfold Go.execOp
      rw [hoo]
      rw [Go.Sem.run_bind,g3]
      rfl
   ·exact (hnl p1).elim
   ·obtain ⟨e1,e2,e3,e4⟩:=A.X
    rw [ho] at e1; simp only [Option.some.injEq] at e1; subst e1
    rw [hdX] at hdi; simp only [Option.some.injEq] at hdi; subst hdi
    refine quiet (.int .i64 st) e3 (by rw [e2]; intro c h; cases h) ?_ (.undef _ (by intro b h; cases h)) (by omega) (by omega) (fun _=>⟨rfl,e4⟩)
    unfold Go.execOp
    rw [e2]
    have hev : a.eval (.tmp q.dE) = .tuple #[v,.int .i64 st]:=zlp q3
    simp [hev,Go.Instr.extract]
   ·obtain ⟨e1,e2,e3,e4⟩:=A.S
    rw [ho] at e1; simp only [Option.some.injEq] at e1; subst e1
    have hmx:=hm slX _ hI (fun j hb=>p4 j hb)
    have hvx:=hv slX _ hI (fun j hj=>hbd j (A.eS j (by omega)))
    have hmv:=z2e (t:=q.mt) hs
    have hvv:=z2e (t:=q.vt) hs
    rw [hmx] at hmv
    rw [hvx] at hvv
    have hst:=q4 (hbd _ (A.eS _ (by omega)))
    obtain ⟨me,clock,j,e0,r1,r2,r3,rfl⟩:=q2
    have hmb : a.eval (.tmp q.mt) = .map (some b):=by
     generalize a.eval (.tmp q.mt) = vm at hmv
     cases hmv with
     | map b' c' _ hid=>rw [q1] at hid; cases hid; rfl
    obtain ⟨w',s1,s2,s3⟩:=zie (P:=P) (t:=q.t) S q1 hosE hvv r1 r2 r3 hputF
    rw [List.set_set] at s2
    have hp:=s2.toT S (K:=fun i=>i < hp0.length) (LiveIn.trans (LiveIn.set hosE rfl) (by rw [List.set_set]; exact LiveIn.refl)) s3
    rw [hdS] at hdi; simp only [Option.some.injEq] at hdi; subst hdi
    refine zjp ho e3 (by rw [e2]; intro c h; cases h) (w':=w') ?_ ?_
    ·unfold Go.execOp
     rw [e2]
     have hev : a.eval (.tmp q.dX) = .int .i64 ((e0.born : Nat) : Int):=zlp hst
     simp only [hmb,hev,Go.Sem.run_bind,s1,Go.Result.andThen_ok,Go.Sem.run_pure]
    ·refine ih (listed.setIfInBounds (pre.length + 2) true) (rem.erase (pre.length + 2)) hsz' hfuel' hrem' hI' (z3u (hs.mono hp.ext) .u0) (.inr (.inr ⟨fun j hj=>?_,hp.sr⟩)) ?_
     ·by_cases hj2 : j = pre.length + 2
      ·rw [hj2]; exact hself
      ·exact hup j (hbd j (A.eS j (by omega)))
     ·intro a2 w2 ρ2 H2 pp hs2 hd2
      exact hn a2 w2 ρ2 H2 (hp.trans pp) hs2 (hd2.trans (z18 _ _ _))
  ·exact (hnl (p1 i hlt)).elim
end
end Dv

namespace Dv
open Go (Value Program World Act Oper Operand Code Ending Exit Region.binds Region.ready)

section
variable {P : Program} {E : Env} {CL : CLink} {F : Phi} {T : Phi} {B : Nat} {K : Nat -> Prop} {ρ : Rho} {H : HS} {os : List Obj} {w : World} {a : Act} {sl : List D}

theorem z71 {callP : Nat -> List D -> Option D} {callS callY : Nat -> List D -> List Obj -> Option (D × List Obj)} : ∀ (x y : List DOpr) (st : St),stepOps E callP callS callY (x ++ y) st = (stepOps E callP callS callY x st).bind (stepOps E callP callS callY y)
 | [],y,st=>rfl
 | o :: x,y,st=>by
  rw [List.cons_append,z8,z8]
  cases step1 E callP callS callY st.hp.length o st with
  | none=>rfl
  | some s=>simp only [Option.bind_some]; exact z71 x y s

theorem zl8 {l : List D} {n : Nat} {d : D} (h : l.getD n .undef = d) (hd : d ≠ .undef) : n < l.length:=by
 rcases Nat.lt_or_ge n l.length with h1 | h1
 ·exact h1
 ·rw [List.getD_eq_getElem?_getD,List.getElem?_eq_none h1] at h
  exact absurd h.symm hd

theorem zmz {callP : Nat -> List D -> Option D} {callS callY : Nat -> List D -> List Obj -> Option (D × List Obj)} {q : AsgQ} {st stF : St} (h : stepOps E callP callS callY (asgTail q) st = some stF) (hne : q.dE ≠ q.dX) :
  q.dE < st.sl.length /\ q.dX < st.sl.length /\ stF.sl = ((st.sl.set q.dX .undef).set q.dE .undef) /\ mapsetD E st.hp q.t' (getO stF.sl (.t q.mt)) (getO stF.sl (.t q.kt)) (getO stF.sl (.t q.vt)) = some stF.hp:=by
 obtain ⟨sl,hp⟩:=st
 unfold asgTail at h
 rw [z8] at h
 simp only [step1,wantedD,if_true,stepOp,DOp.fin,pureOp,Option.map_some,applyEf,putO,Option.bind_some,getO] at h
 rw [z8] at h
 simp only [step1,wantedD,if_true,stepOp,DOp.fin,pureOp,putO,getO] at h
 split at h
 case h_2=>simp at h
 rename_i d1 hp1 e1
 have hX : q.dX < sl.length /\ d1 = .bool true /\ hp1 = hp:=by
  cases hg : (sl.set q.dX (D.bool true)).getD q.dX .undef with
  | bool b=>
   have:=zl8 hg (by intro e; cases e)
   rw [hg] at e1
   simp [applyEf] at e1
   exact ⟨by simpa using this,e1.1.symm,e1.2.symm⟩
  | _=>rw [hg] at e1; simp at e1
 obtain ⟨hX,rfl,rfl⟩:=hX
 simp only [Option.bind_some] at h
 rw [z8] at h
 simp only [step1,wantedD,if_true,stepOp,DOp.fin,pureOp,putO,getO] at h
 split at h
 case h_2=>simp at h
 rename_i d2 hp2 e2
 have hE : q.dE < sl.length /\ d2 = .undef /\ hp2 = hp1:=by
  cases hg : ((sl.set q.dX (D.bool true)).set q.dE (D.bool true)).getD q.dE .undef with
  | bool b=>
   have:=zl8 hg (by intro e; cases e)
   rw [hg] at e2
   simp [applyEf] at e2
   exact ⟨by simpa using this,e2.1.symm,e2.2.symm⟩
  | _=>rw [hg] at e2; simp at e2
 obtain ⟨hE,rfl,rfl⟩:=hE
 simp only [Option.bind_some] at h
 rw [z8] at h
 simp only [step1,wantedD,if_true,stepOp,DOp.fin,pureOp,Option.map_some,applyEf,putO,Option.bind_some,getO] at h
 have hsl : (((sl.set q.dX (D.bool true)).set q.dE (D.bool true)).set q.dX .undef).set q.dE .undef = (sl.set q.dX .undef).set q.dE .undef:=by
  refine List.ext_getElem? fun t=>?_
  simp only [List.getElem?_set,List.length_set]
  by_cases h1 : q.dE = t
  ·simp [h1]
  ·by_cases h2 : q.dX = t
   ·simp [h1,h2]
   ·simp [h1,h2]
 rw [hsl,z8] at h
 simp only [step1,wantedD,if_true,stepOp,DOp.fin,finOp,putO] at h
 cases hms : mapsetD E hp2 q.t' (getO ((sl.set q.dX .undef).set q.dE .undef) (.t q.mt)) (getO ((sl.set q.dX .undef).set q.dE .undef) (.t q.kt)) (getO ((sl.set q.dX .undef).set q.dE .undef) (.t q.vt)) with
 | none=>rw [hms] at h; simp at h
 | some hpF=>
  rw [hms] at h
  simp [stepOps] at h
  subst h
  exact ⟨hE,hX,rfl,hms⟩

theorem zpf (hmix : P.follows .mixedOrders = true) (TA : TAll P E T) (FO : FnsOk P F) {callP : Nat -> List D -> Option D} {callS callY : Nat -> List D -> List Obj -> Option (D × List Obj)}
  (hP : ∀ f f',F f = some f' -> PureAt P F (callP f') f) (hS : ∀ f f',F f = some f' -> StatAt P CL F (fun ds os=>noMark (callS f' ds os)) f) (hY : YieldAt P CL F callY)
  {r : Option Nat} {ix : Nat} {ops : Array Oper} {pre : List DOpr} {q : AsgQ} {iL iB : Nat} {Q : Exit -> Act -> World -> Prop} {st stF : St} (A : AsgOk T F ops pre q iL iB)
  (h : stepOps E callP callS callY (pre ++ asgTail q) st = some stF) (S : SR CL F B ρ H w.heap st.hp) (hs : RepL F ρ H w.heap a.tmps.toList st.sl)
  (hn : ∀ a' w' ρ' H',PostT CL F B (fun i=>i < st.hp.length) ρ H w ρ' H' w' stF.hp -> RepL F ρ' H' w'.heap a'.tmps.toList stF.sl -> st.hp.length <= stF.hp.length -> a'.defers = a.defers -> Q .normal a' w') :
  (Code.region ix ops true).wpIn (Fw r) 0 P Q a w:=by
 have hA:=A.len
 rw [z71,Option.bind_eq_some_iff] at h
 obtain ⟨st1,h1,h2⟩:=h
 have hne : q.dE ≠ q.dX:=fun e=>by
  obtain ⟨a1,_,_,a4⟩:=A.E
  obtain ⟨b1,_,_,b4⟩:=A.X
  have:=A.dsts _ _ _ _ q.dE a1 b1 a4 (by rw [b4,e])
  omega
 obtain ⟨r1,dl2,r2,r3,r4⟩:=zjs (callP:=callP) (callS:=callS) (callY:=callY) A.dsts (sl0:=st.sl) (hp0:=st.hp) pre [] [] st.sl st1 rfl (fun i o d ho hd=>⟨(A.lk i o d ho (by simpa using hd)).1.dst,(A.lk i o d ho (by simpa using hd)).2⟩) (by simp; omega) (fun d hd=>by
   obtain ⟨i,hi⟩:=List.mem_iff_getElem?.1 hd
   by_cases e : i = iL
   ·subst e
    obtain ⟨dL,hL⟩:=A.L
    rw [hi] at hL; simp only [Option.some.injEq] at hL; subst hL
    exact .inr ⟨_,_,_,rfl⟩
   ·exact .inl (A.pl i d e hi)) ⟨rfl,fun j o d t _ hd=>by simp at hd,fun t _=>rfl⟩ h1
 simp only [List.nil_append] at r2 r3 r4
 obtain ⟨k1,k2,k3,k4⟩:=zmz h2 hne
 rw [r1] at k4
 have hlen1 : st1.sl.length = st.sl.length:=r3.1
 -- what the operations hand over
 obtain ⟨dl,hdl⟩ : ∃ dl,dl = dl2 ++ [.undef,.undef,.undef]:=⟨_,rfl⟩
 have hdlen : dl.length = pre.length + 3:=by rw [hdl]; simp [r2]
 have hdi : ∀ j,j < pre.length -> dl[j]? = dl2[j]?:=fun j hj=>by rw [hdl,List.getElem?_append_left (by omega)]
 have hdE : dl[pre.length]? = some .undef:=by rw [hdl,List.getElem?_append_right (by omega),r2,Nat.sub_self]; rfl
 have hdX : dl[pre.length + 1]? = some .undef:=by rw [hdl,List.getElem?_append_right (by omega),r2,Nat.add_sub_cancel_left]; rfl
 have hdS : dl[pre.length + 2]? = some .undef:=by rw [hdl,List.getElem?_append_right (by omega),r2,Nat.add_sub_cancel_left]; rfl
 have more : ∀ {slX : List D} {n : Nat},n <= pre.length -> InvS ops dl2 st.sl slX (fun j=>decide (j < n)) -> InvS ops dl st.sl slX (fun j=>decide (j < n)):=fun {slX n} hn hI=>by
  refine ⟨hI.1,fun j o d t hj hd hl ht htl=>?_,hI.2.2⟩
  have hl' : j < n:=by simpa using hl
  rw [hdi j (by omega)] at hd
  exact hI.2.1 j o d t hj hd hl ht htl
 have r3':=more (Nat.le_refl _) r3
 have hF : InvS ops dl st.sl stF.sl (fun _=>true):=by
  obtain ⟨a1,_,_,a4⟩:=A.E
  obtain ⟨b1,_,_,b4⟩:=A.X
  obtain ⟨c1,_,_,c4⟩:=A.S
  have i1:=z8v A.dsts r3' b1 hdX (L':=fun j=>decide (j < pre.length) || j == pre.length + 1) (fun _=>rfl)
  have i2:=z8v A.dsts i1 a1 hdE (L':=fun j=>(decide (j < pre.length) || j == pre.length + 1) || j == pre.length) (fun _=>rfl)
  have i3:=z8v A.dsts i2 c1 hdS (L':=fun j=>((decide (j < pre.length) || j == pre.length + 1) || j == pre.length) || j == pre.length + 2) (fun _=>rfl)
  rw [b4,a4,c4] at i3
  simp only [putO] at i3
  rw [<- k3] at i3
  refine ⟨i3.1,fun j o d t hj hd _ ht htl=>i3.2.1 j o d t hj hd ?_ ht htl,fun t ht=>i3.2.2 t fun j o hj _=>ht j o hj rfl⟩
  have:=(Array.getElem?_eq_some_iff.1 hj).1
  simp only [Bool.or_eq_true,decide_eq_true_eq,beq_iff_eq]
  omega
 -- the map,the key,the value
 have same : ∀ (slX : List D) (L : Nat -> Bool) (t : Nat),InvS ops dl st.sl slX L -> (∀ (j : Nat) o,ops[j]? = some o -> o.dst = some t -> L j = true) -> getO slX (.t t) = getO stF.sl (.t t):=fun slX L t hI hx=>
  zet fun u e=>by
   cases e
   exact zfw hI hF fun j o hj hd=>⟨hx j o hj hd,rfl,⟨_,List.getElem?_eq_getElem (by have:=(Array.getElem?_eq_some_iff.1 hj).1; omega)⟩⟩
 obtain ⟨kd,hkd⟩ : ∃ kd,kd = getO stF.sl (.t q.kt):=⟨_,rfl⟩
 obtain ⟨vd,hvd⟩ : ∃ vd,vd = getO stF.sl (.t q.vt):=⟨_,rfl⟩
 rw [<- hkd,<- hvd] at k4
 unfold mapsetD at k4
 split at k4
 case h_2=>simp at k4
 rename_i kt e id hkk hmt
 split at k4
 case isFalse=>simp at k4
 rename_i hc
 split at k4
 case h_2=>simp at k4
 rename_i es hos
 simp only [Option.map_eq_some_iff] at k4
 obtain ⟨esF,hputF,hpF⟩:=k4
 have hr:=z6l hc.1
 obtain ⟨rr,hf,_⟩:=z3y hputF
 -- the look at the entry says what is there
 obtain ⟨dL,hL⟩:=A.L
 obtain ⟨slI,dLv,g1,g2,g3⟩:=r4 iL _ (Nat.zero_le _) hL
 simp only [pureOp,Option.map_eq_some_iff,Ef.mk.injEq,and_true] at g3
 obtain ⟨d0,g3,rfl⟩:=g3
 have g1':=more (Nat.le_of_lt A.lt.1) g1
 have gm:=same slI _ q.mt g1' fun j o hj hd=>by
  have:=(A.rd iL _ hL q.mt (by simp [opnds,slots]) j o hj hd).1
  simpa using this
 have gk:=same slI _ q.kt g1' fun j o hj hd=>by
  have:=(A.rd iL _ hL q.kt (by simp [opnds,slots]) j o hj hd).1
  simpa using this
 rw [gm,gk,<- hkd,hmt] at g3
 unfold lookupD at g3
 simp only [hkk,hc.1,if_true,hos,hf] at g3
 obtain ⟨z,hz⟩ : ∃ z,rr = none -> zeroE E e = some z:=by
  cases rr with
  | some x=>exact ⟨.undef,fun h=>by cases h⟩
  | none=>
   simp only at g3
   split at g3
   ·rename_i z hz; exact ⟨z,fun _=>hz⟩
   ·simp at g3
 obtain ⟨esE,hputE⟩ : ∃ esE,mapPut kd (rr.getD z) es = some esE:=by
  have key : ∀ (es esF : List (D × D)),mapPut kd vd es = some esF -> ∃ esE,mapPut kd (rr.getD z) es = some esE:=by
   intro es
   induction es with
   | nil=>intro esF _; exact ⟨_,rfl⟩
   | cons x es ih=>
    intro esF h
    simp only [mapPut] at h ⊢
    split at h
    ·exact ⟨_,rfl⟩
    ·rename_i hb
     simp only [Option.map_eq_some_iff] at h
     obtain ⟨e2,h3,_⟩:=h
     obtain ⟨e3,h4⟩:=ih e2 h3
     exact ⟨_,by rw [h4]; rfl⟩
    ·simp at h
  exact key es esF hputF
 have hputF2 : mapPut kd vd esE = some esF:=by rw [zab hr hputE]; exact hputF
 refine Go.wpIn_region_any hmix ?_
 refine zsq (w:={ w with drawn:=w.drawn + 1 }) (sl0:=st.sl) (slF:=stF.sl) TA FO hP hS hY A hdlen hdE hdX hdS (fun i o hi=>?_) (fun slX L hI hb=>?_) (fun slX L hI hb=>?_) (fun slX L hI hb=>?_) hkk hos hc.1 hf hz hputE hputF2 (by omega) (by omega) hF ops.size _ (List.range ops.size) (by simp) (by simp) (fun i hi _=>List.mem_range.2 hi) ⟨rfl,fun j o d t hj _ hl=>?_,fun t _=>rfl⟩ hs (.inl ⟨fun i hi=>?_,S⟩) ?_
 ·obtain ⟨slI,d,j1,j2,j3⟩:=r4 i o (Nat.zero_le _) hi
  have hlt:=(List.getElem?_eq_some_iff.1 hi).1
  exact ⟨slI,d,more (Nat.le_of_lt hlt) j1,by rw [hdi i hlt]; exact j2,j3⟩
 ·rw [same slX L q.mt hI fun j o hj hd=>hb j (A.rdE q.mt (.inl rfl) j o hj hd).2,hmt]
 ·rw [same slX L q.kt hI fun j o hj hd=>hb j (A.rdE q.kt (.inr rfl) j o hj hd).2,hkd]
 ·rw [same slX L q.vt hI fun j o hj hd=>hb j (A.rdV j o hj hd),hvd]
 ·have:=(Array.getElem?_eq_some_iff.1 hj).1
  simp [Array.getD_eq_getD_getElem?,this] at hl
 ·by_cases h5 : i < ops.size
  ·simp [Array.getD_eq_getD_getElem?,h5]
  ·simp [Array.getD_eq_getD_getElem?,h5]
 ·intro a' w' ρ' H' p hs' hdf
  rw [hpF] at p
  refine hn a' w' ρ' H' ⟨p.ext,p.sr,p.size,p.frB,p.frD,p.hnew,p.vac,p.fz,⟨p.still.os,p.still.tape,p.still.out,Nat.le_trans (Nat.le_succ _) p.still.dr⟩,p.frame,p.rb,p.hn⟩ hs' (by rw [<- hpF]; simp) hdf

end
end Dv

namespace Dv
open Go (Value Program World Act Oper Operand Code Ending Exit)

inductive CLk (T F : Phi) : Bool -> Code -> DC -> Prop
 | skip {b} : CLk T F b .skip .skip
 | ret {b} : CLk T F b .ret .ret
 | exit {b id} : CLk T F b (.exit id) (.exit id)
 | seq {b x y x' y'} (h1 : CLk T F b x x') (h2 : CLk T F b y y') : CLk T F b (.seq x y) (.seq x' y')
 | cond {b c x y c' x' y'} (h : stripOpd F c = some c') (h1 : CLk T F b x x') (h2 : CLk T F b y y') : CLk T F b (.cond c x y) (.cond c' x' y')
 | block {b id x x'} (h1 : CLk T F b x x') : CLk T F b (.block id x) (.block id x')
 | loop {b x x'} (h1 : CLk T F b x x') : CLk T F b (.loop x) (.loop x')
 | rfunc {f f' ps asg body asg' body'} (h : stripOpd F f = some f') (h1 : CLk T F true asg asg') (h2 : CLk T F true body body') : CLk T F false (.rangeFunc f ps asg body) (.rfunc f' ps.toList asg' body')
 | region {b id ops ap ds} (h : OpsL T F (Array.toList ops) (Array.toList ops) ds) : CLk T F b (.region id ops false) (.region false ap ds)
 | dead {b c} : CLk T F b c deadC
 | asg {b id ops ap ds pre q iL iB} (A : AsgOk T F ops pre q iL iB) (e : ds = pre ++ asgTail q) : CLk T F b (.region id ops true) (.region false ap ds)
 | draw {b id ops ap ds} (h : OpsL T F (Array.toList ops) (Array.toList ops) ds) (hd : DrawOk ops ds ap) : CLk T F b (.region id ops true) (.region true ap ds)

def RvL (T : Phi) : List Go.ResultVar -> List RV -> Prop
 | [],[]=>True
 | .tmp t :: r,.tmp t' :: r'=>t = t' /\ RvL T r r'
 | .cell a t :: r,.cell a' t' :: r'=>a = a' /\ T t = some t' /\ RvL T r r'
 | _,_=>False

structure FnL (P : Program) (T F : Phi) (f : Nat) (G : DFn) : Prop where
 tie : ∃ fn c,P.funcs[f]? = some fn /\ fn.body = some c /\ fn.ntmps = G.ntmps /\ RvL T fn.results.toList G.results /\ CLk T F false c G.body

def exOf : Ex -> Exit
 | .normal=>.normal
 | .exit id=>.exit id
 | .ret=>.ret

def mkMark (r : Nat) : Go.Deferred:={ target:=.collected r,args:=#[] }

structure Marks (M : Nat) (hp : Heap) (l : List Nat) : Prop where
 nd : l.Nodup
 at_ : ∀ r,r ∈ l -> M <= r /\ hp[r]? = some (.deferred (some []))

def Ok (CL : CLink) (F : Phi) (B M : Nat) (D0 : List Go.Deferred) (ρ : Rho) (H : HS) (w0 : World) (len : Nat) (st' : St) (a' : Act) (w' : World) : Prop:=
 ∃ ρ' H' l,PostT CL F B (fun i=>i < len) ρ H w0 ρ' H' w' st'.hp /\ RepL F ρ' H' w'.heap a'.tmps.toList st'.sl /\ len <= st'.hp.length /\ a'.defers = l.map mkMark ++ D0 /\ Marks M w'.heap l

def CodeAt (P : Program) (T F : Phi) (run : DC -> St -> Option (Ex × St)) : Prop:=
 ∀ (b : Bool) (c : Code) (dc : DC),CLk T F b c dc -> ∀ (r : Option Nat),(b = false -> r = none) -> ∀ (B M : Nat) (D0 : List Go.Deferred) (st st' : St) (ex : Ex) (ρ : Rho) (H : HS) (a : Act) (w : World) (l : List Nat),
  run dc st = some (ex,st') -> SR (CLk T F true) F B ρ H w.heap st.hp -> RepL F ρ H w.heap a.tmps.toList st.sl -> a.defers = l.map mkMark ++ D0 -> Marks M w.heap l -> M <= w.heap.size ->
  ∀ Q : Exit -> Act -> World -> Prop,(∀ a' w',Ok (CLk T F true) F B M D0 ρ H w st.hp.length st' a' w' -> Q (exOf ex) a' w') -> c.wpIn (Fw r) 0 P Q a w

def CodeAt1 (P : Program) (T F : Phi) (run : DC -> St -> Option (Ex × St)) (c : Code) (dc : DC) : Prop:=
 ∀ (B M : Nat) (D0 : List Go.Deferred) (st st' : St) (ex : Ex) (ρ : Rho) (H : HS) (a : Act) (w : World) (l : List Nat),
  run dc st = some (ex,st') -> SR (CLk T F true) F B ρ H w.heap st.hp -> RepL F ρ H w.heap a.tmps.toList st.sl -> a.defers = l.map mkMark ++ D0 -> Marks M w.heap l -> M <= w.heap.size ->
  ∀ Q : Exit -> Act -> World -> Prop,(∀ a' w',Ok (CLk T F true) F B M D0 ρ H w st.hp.length st' a' w' -> Q (exOf ex) a' w') -> c.wpIn (Fw none) 0 P Q a w

section
variable {P : Program} {E : Env} {CL : CLink} {F : Phi} {T : Phi} {B M : Nat} {K : Nat -> Prop} {ρ : Rho} {H : HS} {os : List Obj} {w : World} {a : Act} {sl : List D}

theorem SR.setFree {hp : Heap} (S : SR CL F B ρ H hp os) {b : Nat} {o : Go.Obj} (hold : ∀ a el fr,hp[b]? ≠ some (.cells a el fr)) (hnew : ∀ a el fr,o ≠ .cells a el fr)
  (hno : ∀ (i : Nat) o' c,os[i]? = some o' -> o'.live = true -> ρ i ≠ some (.blk b c)) : SR CL F B ρ H (hp.setIfInBounds b o) os /\ Ext ρ ρ H H hp (hp.setIfInBounds b o):=by
 have other : ∀ b',b' ≠ b -> (hp.setIfInBounds b o)[b']? = hp[b']?:=fun b' hne=>by simp [Array.getElem?_setIfInBounds,Ne.symm hne]
 have x : Ext ρ ρ H H hp (hp.setIfInBounds b o):=⟨fun _ _ h=>h,fun _ _ h=>h,fun b' o' hh=>by
  by_cases e : b' = b
  ·subst e
   rw [zt hold,zt fun a el fr h=>?_]
   rw [Array.getElem?_setIfInBounds] at h
   simp at h
   exact hnew _ _ _ h.2
  ·unfold cellOf; rw [other b' e]⟩
 refine ⟨?_,x⟩
 exact {
  dom:=fun i o' h l=>by
   obtain ⟨bk,r,h2⟩:=S.dom i o' h l
   exact ⟨bk,r,h2.mono x (fun b' c' e=>other b' (fun e'=>hno i o' c' h l (by rw [r,e,e']))) (fun _ _ _ _ _ _ _ _ hh=>hh)⟩
  lt:=S.lt
  inj:=S.inj
  own:=fun i o' b1 c1 h l r=>by simpa using S.own i o' b1 c1 h l r
  mutH:=S.mutH
  hb:=S.hb.ext x fun b1 o' h=>by simpa using S.hb b1 o' h
  hB:=by simpa using S.hB }

theorem zeb {hp : Heap} {b c : Nat} {o : Obj} (h : ObjRel CL F ρ H hp (.blk b c) o) (hl : o.live = true) {ds : Option (List Go.Deferred)} : hp[b]? ≠ some (.deferred ds):=by
 intro hd
 cases o with
 | dead=>simp [Obj.live] at hl
 | cells cs=>obtain ⟨_,_,e,arr,el,h3,_⟩:=h; simp at e; obtain ⟨rfl,rfl⟩:=e; rw [hd] at h3; cases h3
 | frozen cs=>obtain ⟨_,_,e,⟨arr,el,h3,_⟩,_⟩:=h; simp at e; obtain ⟨rfl,rfl⟩:=e; rw [hd] at h3; cases h3
 | tok u s=>
  rcases h with h2 | ⟨_,_,e,arr,el,h3,_⟩
  ·cases h2
  ·simp at e; obtain ⟨rfl,rfl⟩:=e; rw [hd] at h3; cases h3
 | map es=>obtain ⟨_,_,e,me,cl,h3,_⟩:=h; simp at e; obtain ⟨rfl,rfl⟩:=e; rw [hd] at h3; cases h3
 | loop busy slots ps asg body pend=>obtain ⟨_,_,e,L,h3,_⟩:=h; simp at e; obtain ⟨rfl,rfl⟩:=e; rw [hd] at h3; cases h3

theorem zeh {t c : Nat} {va : Value} {x d : D} (Tt : TOk P E T t c) (S : SR CL F B ρ H w.heap os) (ha : Rep F ρ H w.heap va x) (h : loadD E os c x = some d) :
  ∃ v ad,va = .pointer (some ad) /\ (Go.loadVar t ad).run P w = .ok v w /\ Rep F ρ H w.heap v d:=by
 obtain ⟨v,h1,h2⟩:=z8q S.rr Tt ha h
 have : ∃ ad,va = .pointer (some ad):=by
  unfold loadD at h
  split at h
  ·cases ha; exact ⟨_,rfl⟩
  ·cases ha; exact ⟨_,rfl⟩
  ·simp at h
 obtain ⟨ad,rfl⟩:=this
 refine ⟨v,ad,rfl,?_,h2⟩
 simpa [Go.Instr.loadAt,Go.Instr.sureAddr] using h1

end
end Dv

namespace Dv
open Go (Value Program World Act Oper Operand Code Ending Exit)

section
variable {P : Program} {E : Env} {CL : CLink} {F : Phi} {T : Phi} {B M : Nat} {K : Nat -> Prop} {ρ : Rho} {H : HS} {os : List Obj} {w : World} {a : Act} {sl : List D}

theorem z7n {t : Nat} {tmps : Array Value} (hs : RepL F ρ H w.heap tmps.toList sl) : Rep F ρ H w.heap (tmps.getD t Go.undef) (sl.getD t .undef):=by
 have:=z2e (a:={ tmps:=tmps,defers:=[] }) (t:=t) hs
 simpa [Act.eval,getO] using this

def resF (tmps : Array Value) : Go.ResultVar -> Go.Sem Value
 | .tmp t=>pure (tmps.getD t Go.undef)
 | .cell a t=>do Go.loadVar t (<- Go.asAddr (tmps.getD a Go.undef))

theorem z4a {tmps : Array Value} {st : St} (TA : TAll P E T) (S : SR CL F B ρ H w.heap st.hp) (hs : RepL F ρ H w.heap tmps.toList st.sl) : ∀ {rs : List Go.ResultVar} {rs' : List RV} {l : List D},RvL T rs rs' -> resD E st rs' = some l ->
  ∃ vl : List Value,(rs.mapM (resF tmps)).run P w = .ok vl w /\ RepL F ρ H w.heap vl l
 | [],[],l,_,h=>by simp [resD] at h; subst h; exact ⟨[],by simp,.nil⟩
 | .tmp t :: rs,.tmp t' :: rs',l,hl,h=>by
  obtain ⟨rfl,h2⟩:=hl
  simp only [resD] at h
  split at h
  ·rename_i l' hl'
   simp at h; subst h
   obtain ⟨vl,h3,h4⟩:=z4a TA S hs h2 hl'
   refine ⟨tmps.getD t Go.undef :: vl,?_,.cons (z7n hs) h4⟩
   rw [List.mapM_cons]
   simp only [resF,Go.Sem.run_bind,Go.Sem.run_pure,Go.Result.andThen_ok,h3]
  ·simp at h
 | .cell x t :: rs,.cell x' t' :: rs',l,hl,h=>by
  obtain ⟨rfl,ht,h2⟩:=hl
  simp only [resD] at h
  split at h
  ·rename_i d l' hd hl'
   simp at h; subst h
   obtain ⟨vl,h3,h4⟩:=z4a TA S hs h2 hl'
   obtain ⟨v,ad,e,h5,h6⟩:=zeh (TA _ _ ht) S (z7n hs) hd
   refine ⟨v :: vl,?_,.cons h6 h4⟩
   rw [List.mapM_cons]
   simp only [resF,e,Go.asAddr,Go.Sem.run_bind,Go.Sem.run_pure,Go.Result.andThen_ok,h5,h3]
  ·simp at h
 | .tmp _ :: _,.cell _ _ :: _,_,h,_=>h.elim
 | .cell _ _ :: _,.tmp _ :: _,_,h,_=>h.elim
 | .tmp _ :: _,[],_,h,_=>h.elim
 | .cell _ _ :: _,[],_,h,_=>h.elim
 | [],.tmp _ :: _,_,h,_=>h.elim
 | [],.cell _ _ :: _,_,h,_=>h.elim

theorem z8d {fn : Go.Func} {tmps : Array Value} {st : St} {rs : List RV} {l : List D} (TA : TAll P E T) (S : SR CL F B ρ H w.heap st.hp) (hs : RepL F ρ H w.heap tmps.toList st.sl) (hr : RvL T fn.results.toList rs) (h : resD E st rs = some l) :
  ∃ v,(Go.results fn tmps).run P w = .ok v w /\ Rep F ρ H w.heap v (oneRes l):=by
 obtain ⟨vl,h1,h2⟩:=z4a TA S hs hr h
 have e : Go.results fn tmps = (do
   let vs <- fn.results.mapM (resF tmps)
   pure (if h : vs.size = 1 then vs[0] else .tuple vs)):=rfl
 rw [e,Array.mapM_eq_mapM_toList]
 simp only [Go.Sem.run_bind,Go.Sem.run_map,h1,Go.Result.andThen_ok,Go.Sem.run_pure]
 have hlen:=h2.1
 cases l with
 | nil=>
  cases vl with
  | nil=>exact ⟨_,rfl,.tup _ _ rfl (fun j v d hv=>by simp at hv)⟩
  | cons v vl=>simp at hlen
 | cons d l=>
  cases vl with
  | nil=>simp at hlen
  | cons v vl=>
   cases l with
   | nil=>
    cases vl with
    | nil=>exact ⟨v,rfl,h2.of_cons.1⟩
    | cons v2 vl=>simp at hlen
   | cons d2 l=>
    cases vl with
    | nil=>simp at hlen
    | cons v2 vl=>
     refine ⟨.tuple (v :: v2 :: vl).toArray,by simp,?_⟩
     exact .tup _ _ (by simpa using hlen) (fun j x y hx hy=>h2.2 j x y (by simpa using hx) hy)

theorem z3z {fn : Go.Func} {tmps : Array Value} {r : Option Nat} {R : Ending -> World -> Prop} : ∀ (l : List Nat) (w : World),
  (∀ x,x ∈ l -> w.heap[x]? = some (.deferred (some []))) -> l.Nodup ->
  (∀ w',(w'.heap = l.foldl (fun hp x=>hp.setIfInBounds x (.deferred none)) w.heap /\ Still w w') -> ∃ v,(Go.results fn tmps).run P w' = .ok v w' /\ R (.returned v) w') ->
  Go.LeavesInM (Fw r) 0 P fn tmps R (l.map mkMark) .returning w
 | [],w,_,_,h=>h w ⟨rfl,Still.refl _⟩
 | x :: l,w,hm,hnd,h=>by
  have hx:=hm x (by simp)
  obtain ⟨hnx,hnd⟩:=List.nodup_cons.1 hnd
  refine ⟨fun e=>(by cases e),.inl ⟨x,{ w with heap:=w.heap.setIfInBounds x (.deferred none) },rfl,?_,?_⟩⟩
  ·unfold Go.Instr.takeDeferred
   simp [Go.getObj,Go.setObj,Go.Sem.run,hx]
  ·refine z3z l _ (fun y hy=>?_) hnd (fun w' he=>h w' ⟨he.1,he.2.os,he.2.tape,he.2.out,he.2.dr⟩)
   have : x ≠ y:=fun e=>hnx (by rw [e]; exact hy)
   simp only [Array.getElem?_setIfInBounds_ne this]
   exact hm y (by simp [hy])

theorem unmark (S : SR CL F B ρ H w.heap os) : ∀ (l : List Nat) (hp : Heap),SR CL F B ρ H hp os -> (∀ x,x ∈ l -> hp[x]? = some (.deferred (some []))) -> l.Nodup ->
  SR CL F B ρ H (l.foldl (fun hp x=>hp.setIfInBounds x (.deferred none)) hp) os /\ Ext ρ ρ H H hp (l.foldl (fun hp x=>hp.setIfInBounds x (.deferred none)) hp) /\
   (l.foldl (fun hp x=>hp.setIfInBounds x (.deferred none)) hp).size = hp.size /\ (∀ b,b ∉ l -> (l.foldl (fun (hp : Heap) x=>hp.setIfInBounds x (.deferred none)) hp)[b]? = hp[b]?) /\ FzAt hp (l.foldl (fun (hp : Heap) x=>hp.setIfInBounds x (.deferred none)) hp)
 | [],hp,S1,_,_=>⟨S1,Ext.refl _ _ _,rfl,fun _ _=>rfl,FzAt.refl _⟩
 | x :: l,hp,S1,hm,hnd=>by
  have hx:=hm x (by simp)
  obtain ⟨hnx,hnd⟩:=List.nodup_cons.1 hnd
  have s:=S1.setFree (b:=x) (o:=.deferred none) (by rw [hx]; intro a el fr h; cases h) (by intro a el fr h; cases h) (fun i o' c h l r=>by
   obtain ⟨bk,r2,h2⟩:=S1.dom i o' h l
   rw [r] at r2; simp at r2; subst r2
   exact zeb h2 l hx)
  obtain ⟨i1,i2,i3,i4,i5⟩:=unmark S l (hp.setIfInBounds x (.deferred none)) s.1 (fun y hy=>by
   have : x ≠ y:=fun e=>hnx (by rw [e]; exact hy)
   rw [Array.getElem?_setIfInBounds_ne this]; exact hm y (by simp [hy])) hnd
  refine ⟨i1,s.2.trans i2,by rw [List.foldl_cons,i3]; simp,fun b hb=>?_,?_⟩
  ·simp only [List.mem_cons,not_or] at hb
   rw [List.foldl_cons,i4 b hb.2,Array.getElem?_setIfInBounds_ne (Ne.symm hb.1)]
  rw [List.foldl_cons]
  refine FzAt.trans ?_ i5
  exact FzAt.at (b:=x) (o:=.deferred none) (by rw [Array.getElem?_setIfInBounds]; simp [z2m hx]) (by intro arr el fr h; cases h) (fun b' hne=>Array.getElem?_setIfInBounds_ne (Ne.symm hne))

theorem zck (TA : TAll P E T) {run : DC -> St -> Option (Ex × St)} {f : Nat} {G : DFn} {fn : Go.Func} {c : Code} (hfn : P.funcs[f]? = some fn) (hb : fn.body = some c) (hnt : fn.ntmps = G.ntmps) (hres : RvL T fn.results.toList G.results) (hC : CodeAt1 P T F run c G.body) :
  StatAt P (CLk T F true) F (fun ds os=>finishF E G (run G.body (startF G ds os))) f:=by
 intro r B ρ H os os' w vals ds d h S hr
 have h0 : Go.CallsIn (Fw none) 0 P f vals w (StatR (CLk T F true) F B ρ H os w d os'):=by
  refine Go.callsIn_of_wp_marks hfn hb trivial ?_
  simp only [finishF] at h
  have slots : RepL F ρ H w.heap (vals ++ Array.replicate (fn.ntmps - vals.size) Go.undef).toList (startF G ds os).sl:=by
   simp only [startF,Array.toList_append,Array.toList_replicate]
   have : vals.size = ds.length:=by simpa using hr.1
   rw [this,hnt]
   exact hr.append ⟨by simp,fun j v d hv hd=>by
    rw [List.getElem?_replicate] at hv hd
    split at hv
    ·rename_i hj
     rw [if_pos hj] at hd
     simp at hv hd; subst hv; subst hd; exact .u0
    ·simp at hv⟩
  have fin : ∀ {ex : Ex} {st' : St},run G.body (startF G ds os) = some (ex,st') -> (ex = .normal \/ ex = .ret) -> (resD E st' G.results).map (fun l=>(oneRes l,st'.hp)) = some (d,os') ->
    c.wpIn (Fw none) 0 P (Go.bodyPostM (Fw none) 0 P fn (StatR (CLk T F true) F B ρ H os w d os')) { tmps:=vals ++ Array.replicate (fn.ntmps - vals.size) Go.undef,defers:=[] } w:=by
   intro ex st' hrun hex hres'
   refine hC B w.heap.size [] (startF G ds os) st' ex ρ H _ w [] hrun S slots rfl ⟨.nil,fun r h=>by cases h⟩ (Nat.le_refl _) _ (fun a' w' ok=>?_)
   obtain ⟨ρ',H',l,p,hs',hlen,hdf,hm⟩:=ok
   simp only [Option.map_eq_some_iff,Prod.mk.injEq] at hres'
   obtain ⟨rl,h1,rfl,rfl⟩:=hres'
   have goal : Go.LeavesInM (Fw none) 0 P fn a'.tmps (StatR (CLk T F true) F B ρ H os w (oneRes rl) st'.hp) a'.defers .returning w':=by
    rw [hdf,List.append_nil]
    refine z3z l w' (fun x hx=>(hm.at_ x hx).2) hm.nd (fun w2 he=>?_)
    obtain ⟨u1,u2,u3,u4,u5⟩:=unmark p.sr l w'.heap p.sr (fun x hx=>(hm.at_ x hx).2) hm.nd
    obtain ⟨he,hst2⟩:=he
    rw [<- he] at u1 u2 u3 u4 u5
    obtain ⟨v,h2,h3⟩:=z8d TA u1 (hs'.mono u2) hres h1
    refine ⟨v,h2,hlen,ρ',H',⟨p.ext.trans u2,u1,by rw [u3]; exact p.size,fun b hb=>?_,fun b ds' hd=>?_,p.hnew,p.vac,p.fz.trans u5,p.still.trans hst2,fun b hb ho=>by rw [u4 b (fun hbl=>by have:=(hm.at_ b hbl).1; omega)]; exact p.frame b hb ho,p.rb,p.hn⟩,h3⟩
    ·rw [u4 b (fun hbl=>by have:=(hm.at_ b hbl).1; have:=S.hB; omega)]
     exact p.frB b hb
    ·rw [u4 b (fun hbl=>by have:=(hm.at_ b hbl).1; have:=z2m hd; omega)]
     exact p.frD b ds' hd
   rcases hex with rfl | rfl
   ·exact goal
   ·exact goal
  split at h
  ·rename_i st' hrun; exact fin hrun (.inr rfl) h
  ·rename_i st' hrun; exact fin hrun (.inl rfl) h
  ·simp at h
 exact h0

theorem zcj (TA : TAll P E T) {run : DC -> St -> Option (Ex × St)} {f : Nat} {G : DFn} (hC : CodeAt P T F run) (hf : FnL P T F f G) :
  StatAt P (CLk T F true) F (fun ds os=>finishF E G (run G.body (startF G ds os))) f:=by
 obtain ⟨fn,c,hfn,hb,hnt,hres,hcl⟩:=hf.tie
 exact zck TA hfn hb hnt hres (fun B M D0 st st' ex ρ H a w l h S hs hd hm hM Q hQ=>hC false c G.body hcl none (fun _=>rfl) B M D0 st st' ex ρ H a w l h S hs hd hm hM Q hQ)

end
end Dv

namespace Dv
open Go (Value Program World Act Oper Operand Code Ending Exit)

section
variable {P : Program} {E : Env} {CL : CLink} {F : Phi} {T : Phi} {B M : Nat} {K : Nat -> Prop} {ρ : Rho} {H : HS} {os : List Obj} {w : World} {a : Act} {sl : List D}

theorem za2 {hp : Heap} : ∀ {ps : List Nat} {vals : List Value} {ds : List D} {tmps : Array Value} {sl : List D},RepL F ρ H hp tmps.toList sl -> RepL F ρ H hp vals ds ->
  RepL F ρ H hp ((ps.zip vals).foldl (fun (tmps : Array Value) p=>tmps.setIfInBounds p.1 p.2) tmps).toList (setAll sl ps ds)
 | [],_,_,_,_,h,_=>by simpa [setAll] using h
 | p :: ps,[],ds,_,_,h,h'=>by
  have:=h'.1; simp at this
  cases ds with
  | nil=>simpa [setAll] using h
  | cons d ds=>simp at this
 | p :: ps,v :: vs,[],_,_,h,h'=>by have:=h'.1; simp at this
 | p :: ps,v :: vs,d :: ds,tmps,sl,h,h'=>by
  obtain ⟨h1,h2⟩:=h'.of_cons
  simp only [List.zip_cons_cons,List.foldl_cons,setAll]
  exact za2 (by simpa using h.set p h1) h2

theorem zbj (S : SR CL F B ρ H w.heap os) {l b c : Nat} {busy : Bool} {slots : List D} {ps : List Nat} {asg body : DC} {pend : Option Ex} (hr : ρ l = some (.blk b c)) (ho : os[l]? = some (.loop busy slots ps asg body pend)) : LoopAt CL F ρ H w.heap b busy slots ps asg body pend:=by
 obtain ⟨bk,h1,h2⟩:=S.dom _ _ ho rfl
 rw [hr] at h1; simp at h1; subst h1
 obtain ⟨b',c',e,h⟩:=h2; simp at e; obtain ⟨rfl,rfl⟩:=e; exact h

theorem zfs (S : SR CL F B ρ H w.heap os) {l b c : Nat} {busy busy' : Bool} {slots : List D} {ps : List Nat} {asg body : DC} {pend pend' : Option Ex} {L L' : Go.Loop} (hr : ρ l = some (.blk b c)) (ho : os[l]? = some (.loop busy slots ps asg body pend))
  (hb : w.heap[b]? = some (.loop L)) (ht : RepL F ρ H w.heap L.tmps.toList slots) (hL : L'.tmps = L.tmps /\ L'.params.toList = ps /\ CL L'.assign asg /\ CL L'.body body /\
   L'.state = (if pend'.isSome then .done else if busy' then .busy else .ready) /\ L'.pending = pend'.map exCode) :
  ∃ w',(Go.setObj b (.loop L')).run P w = .ok () w' /\ PostT CL F B K ρ H w ρ H w' (os.set l (.loop busy' slots ps asg body pend')):=by
 obtain ⟨w',h1,h2⟩:=z1t (P:=P) (o':=.loop L') hb (by intro a el fr h; cases h)
 have x : Ext ρ ρ H H w.heap w'.heap:=⟨fun _ _ h=>h,fun _ _ h=>h,fun b' o hh=>by
  by_cases e : b' = b
  ·subst e
   rw [zt (hp:=w.heap) (by rw [hb]; intro a el fr h; cases h),zt (hp:=w'.heap) (by rw [h2.at_]; intro a el fr h; cases h)]
  ·unfold cellOf; rw [h2.other b' e]⟩
 have p:=S.writeO ho rfl hr h2 (ob':=.loop busy' slots ps asg body pend') (by rw [hb]; intro a el fr h; cases h) (by intro a el fr h; cases h)
  ⟨b,c,rfl,L',h2.at_,by rw [hL.1]; exact ht.mono x,hL.2.1,hL.2.2.1,hL.2.2.2.1,hL.2.2.2.2.1,hL.2.2.2.2.2⟩ (by intro cs h; cases h)
 exact ⟨w',h1,p.toT S (.set ho rfl) h2.still⟩

theorem z3t {b : Nat} {L : Go.Loop} (h : w.heap[b]? = some (.loop L)) : (Go.Instr.getLoop b).run P w = .ok L w:=by
 simp [Go.Instr.getLoop,Go.getObj,Go.Sem.run,h]

theorem zax {run : DC -> St -> Option (Ex × St)} (hC : CodeAt P T F run) : YieldAt P (CLk T F true) F (runY run):=by
 intro r B ρ H os os' w vals ds d l b c h S hr hvals
 unfold runY at h
 split at h
 ·rename_i slots ps asg body hol
  split at h
  ·rename_i hlen
   obtain ⟨L,hb,ht,hps,hasg,hbody,hst,hpend⟩:=zbj S hr hol
   refine ⟨L.fn,(L.params.zip vals).foldl (fun tmps (t,a)=>tmps.setIfInBounds t a) L.tmps,L.assign,L.body,?_,?_⟩
   ·have hsz : vals.size = L.params.size:=by
     have h1 : vals.size = ds.length:=by simpa using hvals.1
     have h2 : L.params.size = ps.length:=by rw [<- hps]; simp
     omega
    unfold Go.Instr.yield
    simp [Go.Sem.run_bind,z3t hb,hsz]
   ·have htm : RepL F ρ H w.heap ((L.params.zip vals).foldl (fun (tmps : Array Value) (p : Nat × Value)=>tmps.setIfInBounds p.1 p.2) L.tmps).toList (setAll slots ps ds):=by
     have:=za2 (ps:=ps) (vals:=vals.toList) ht hvals
     rw [<- hps] at this ⊢
     rw [<- Array.foldl_toList,Array.toList_zip]
     exact this
    split at h
    ·rename_i st1 hasg1
     split at h
     ·rename_i slots1 ps1 asg1 body1 hol1
      split at h
      ·rename_i ex st2 hbody1
       refine Go.roundIn_of_wpIn trivial ?_
       refine hC true L.assign asg hasg (some b) (fun e=>by cases e) B w.heap.size [] ⟨setAll slots ps ds,os⟩ st1 .normal ρ H _ w [] hasg1 S htm rfl ⟨.nil,fun r h=>by cases h⟩ (Nat.le_refl _) _ (fun a1 w1 ok1=>?_)
       obtain ⟨ρ1,H1,l1,p1,hs1,hlen1,hdf1,hm1⟩:=ok1
       have hr1:=p1.ext.rho _ _ hr
       obtain ⟨L1,hb1,ht1,hps1,hasg1',hbody1',hst1,hpend1⟩:=zbj p1.sr hr1 hol1
       simp at hst1 hpend1
       obtain ⟨w2,hset2,p2⟩:=zfs (K:=fun i=>i < os.length) (busy':=true) (pend':=none) (L':={ L1 with state:=.busy }) p1.sr hr1 hol1 hb1 ht1 ⟨rfl,hps1,hasg1',hbody1',rfl,hpend1⟩
       refine ⟨w2,?_,?_⟩
       ·unfold Go.Instr.beginRound
        simp only [Go.Sem.run_bind,z3t hb1,Go.Result.andThen_ok]
        rw [hset2]
        simp [hst1]
       ·have hs2:=hs1.mono p2.ext
        refine hC true L.body body hbody (some b) (fun e=>by cases e) B w.heap.size [] ⟨st1.sl,st1.hp.set l (.loop true slots1 ps1 asg1 body1 none)⟩ st2 ex ρ1 H1 a1 w2 l1 hbody1 p2.sr hs2 hdf1
         ⟨hm1.nd,fun x hx=>⟨(hm1.at_ x hx).1,p2.frD x _ (hm1.at_ x hx).2⟩⟩ (Nat.le_trans p1.size p2.size) _ (fun a3 w3 ok3=>?_)
        obtain ⟨ρ3,H3,l3,p3,hs3,hlen3,hdf3,hm3⟩:=ok3
        have hr3:=p3.ext.rho _ _ hr1
        split at h
        ·rename_i slots2 ps2 asg2 body2 hol3
         obtain ⟨L3,hb3,ht3,hps3,hasg3',hbody3',hst3,hpend3⟩:=zbj p3.sr hr3 hol3
         have p12 : PostT (CLk T F true) F B (fun i=>i < os.length) ρ H w ρ3 H3 w3 st2.hp:=p1.trans (p2.trans (p3.weaken fun i (hi : i < os.length)=>by simp only [List.length_set]; exact Nat.lt_of_lt_of_le hi hlen1))
         have hlen12 : os.length <= st2.hp.length:=by simp at hlen3 hlen1; omega
         have fin : ∀ (pend' : Option Ex) (bb : Bool),bb = pend'.isNone -> d = .bool bb -> os' = st2.hp.set l (.loop false slots2 ps2 asg2 body2 pend') ->
           ∃ v w',(Go.Instr.endRound b (pend'.map exCode)).run P w3 = .ok v w' /\ StatR (CLk T F true) F B ρ H os w d os' (.returned v) w':=by
          intro pend' bb hbb hd hos
          subst hd hos
          obtain ⟨w4,hset4,p4⟩:=zfs (K:=fun i=>i < os.length) (busy':=false) (pend':=pend') (L':={ L3 with state:=if (pend'.map exCode).isNone then .ready else .done,pending:=pend'.map exCode }) p3.sr hr3 hol3 hb3 ht3 ⟨rfl,hps3,hasg3',hbody3',by cases pend' <;> rfl,rfl⟩
          refine ⟨.bool (pend'.map exCode).isNone,w4,?_,?_,ρ3,H3,p12.trans p4,?_⟩
          ·unfold Go.Instr.endRound
           simp only [Go.Sem.run_bind,z3t hb3,Go.Result.andThen_ok]
           rw [hset4]
           rfl
          ·simpa using hlen12
          ·rw [hbb]
           cases pend' <;> exact .bool _
         cases ex with
         | normal=>
          simp at h
          exact fin none true rfl h.1.symm h.2.symm
         | exit id=>
          simp at h
          exact fin (some (.exit id)) false rfl h.1.symm h.2.symm
         | ret=>
          simp at h
          exact fin (some .ret) false rfl h.1.symm h.2.symm
        ·simp at h
      ·simp at h
     ·simp at h
    ·simp at h
  ·simp at h
 ·simp at h

end
end Dv
