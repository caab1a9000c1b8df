/- Texts that a proof of this claim uses, joined: Lw.W199, Lw.W200, Lw.W203, Lw.W204, Lw.W205, Lw.W201, Lw.W202, Lw.W206, Lw.W207, Lw.W208, Lw.W209, Lw.W210, Lw.W211, Lw.W212, Lw.W213, Lw.W214, Lw.W215, Lw.W217, Lw.W218, Lw.W219, Lw.W220, Lw.W221, Lw.W222, Lw.W223, Lw.W216, Lw.W224, Lw.W225. -/
import Derived.Test.YtejanbpdkinjfaaDoorLwa
import Derived.Test.YtejanbpdkinjfaaDoorTc
import Derived.Test.YtejanbpdkinjfaaDoorWa
import Derived.Test.YtejanbpdkinjfaaDoorDva
set_option linter.all false
set_option maxRecDepth 100000
set_option maxHeartbeats 16000000
namespace Dv

theorem zl7 {A : Type} {hp r : List A} {i : Nat} {o : A} (h : hp[i]? = some o) : (hp ++ r)[i]? = some o:=by
 rw [List.getElem?_append_left (List.getElem?_eq_some_iff.1 h).1,h]
theorem zts {A : Type} {hp : List A} {i : Nat} {o : A} (h : hp[i]? = some o) : i < hp.length:=(List.getElem?_eq_some_iff.1 h).1
theorem ztx {A : Type} {hp : List A} {i j : Nat} {x o : A} (h : hp[i]? = some o) (hn : j ≠ i) : (hp.set j x)[i]? = some o:=by
 rw [List.getElem?_set_ne hn,h]
theorem zs2 {A : Type} {hp : List A} {i : Nat} {x : A} (h : i < hp.length) : (hp.set i x)[i]? = some x:=by
 rw [List.getElem?_set_self h]
theorem z69 {A : Type} {hp r : List A} {k : Nat} : (hp ++ r)[hp.length + k]? = r[k]?:=by
 rw [List.getElem?_append_right (by omega)]; congr 1; omega
theorem zb7 {A : Type} {hp r : List A} {k : Nat} {x : A} : (hp ++ r).set (hp.length + k) x = hp ++ r.set k x:=by
 rw [List.set_append_right _ _ (by omega)]; congr 2; omega
theorem z1y {A : Type} {hp r : List A} {i : Nat} {x : A} (h : i < hp.length) : (hp ++ r).set i x = hp.set i x ++ r:=List.set_append_left _ _ h

def At (hp : List Obj) (i : Nat) (o : Obj) : Prop:=hp[i]? = some o
theorem At.eq {hp : List Obj} {i : Nat} {o : Obj} (h : At hp i o) : hp[i]? = some o:=h
theorem At.app {hp r : List Obj} {i : Nat} {o : Obj} (h : At hp i o) : At (hp ++ r) i o:=zl7 h
theorem At.appE {hp r : List Obj} {i : Nat} {o : Obj} (h : At hp i o) : (hp ++ r)[i]? = some o:=zl7 h
theorem At.ne {hp : List Obj} {i j : Nat} {x o : Obj} (h : At hp i o) (hn : j ≠ i) : At (hp.set j x) i o:=ztx h hn
theorem At.lt {hp : List Obj} {i : Nat} {o : Obj} (h : At hp i o) : i < hp.length:=zts h
theorem At.self {hp : List Obj} {i : Nat} {o : Obj} (h : i < hp.length) : At (hp.set i o) i o:=zs2 h

def Room (C : Nat) (hp : List Obj) (sp : Spare) (n sz : Nat) : Prop:=sp = .exact \/ ∃ k,sp = .tok k /\ C <= k /\ At hp k (.tok (n * sz) sz)
def Keep (i C : Nat) (hp hp' : List Obj) : Prop:=∀ J : List Obj -> Prop,(∀ hp r,J hp -> J (hp ++ r)) -> (∀ hp j o,J hp -> (j = i \/ C <= j) -> J (hp.set j o)) -> J hp -> J hp'
theorem Keep.at {i C : Nat} {hp hp' : List Obj} (h : Keep i C hp hp') {j : Nat} {o : Obj} (hj : j ≠ i) (hC : j < C) (g : At hp j o) : At hp' j o:=
 h (fun hp=>At hp j o) (fun _ _ h=>h.app) (fun _ k _ h hk=>h.ne (by rcases hk with rfl | hk; exact fun e=>hj e.symm; omega)) g
theorem Keep.refl {i C : Nat} {hp : List Obj} : Keep i C hp hp:=fun _ _ _ h=>h
theorem Keep.trans {i C : Nat} {hp hp' hp'' : List Obj} (h : Keep i C hp hp') (h' : Keep i C hp' hp'') : Keep i C hp hp'':=fun J h1 h2 h3=>h' J h1 h2 (h J h1 h2 h3)
theorem Keep.app {i C : Nat} {hp r : List Obj} : Keep i C hp (hp ++ r):=fun _ h1 _ h3=>h1 _ _ h3
theorem Keep.set {i C j : Nat} {o : Obj} {hp : List Obj} (hj : j = i \/ C <= j) : Keep i C hp (hp.set j o):=fun _ _ h2 h3=>h2 _ _ _ h3 hj

end Dv

namespace Dv

inductive CV where
 | mk (k n : Int) (s : List UInt8) (l : List CV)

abbrev dBy (l : List UInt8) : D:=.imm .none (l.map byteD)

mutual
def dV : CV -> D
 | .mk k n s l=>.agg [dI k,dI n,.str s,.imm .none (dVs l)]
def dVs : List CV -> List D
 | []=>[]
 | v :: l=>dV v :: dVs l
end
theorem zlw : ∀ (l : List CV),dVs l = l.map dV
 | []=>rfl
 | v :: l=>by simp [dVs,zlw l]
theorem z37 {k n : Int} {s : List UInt8} {l : List CV} : dV (.mk k n s l) = .agg [dI k,dI n,.str s,.imm .none (l.map dV)]:=by rw [dV,zlw]

def num (u : Nat) : List UInt8:=if h : u < 128 then [UInt8.ofNat u] else UInt8.ofNat (u % 128 + 128) :: num (u / 128)
termination_by u
decreasing_by omega
theorem za8 {u : Nat} (h : u < 128) : num u = [UInt8.ofNat u]:=by rw [num,dif_pos h]
theorem zfp {u : Nat} (h : ¬ u < 128) : num u = UInt8.ofNat (u % 128 + 128) :: num (u / 128):=by rw [num,dif_neg h]

def uns (n : Int) : Nat:=if 0 <= n then 2 * n.toNat else 2 * (-(n + 1)).toNat + 1
def sgn (u : Nat) : Int:=if u % 2 = 0 then (u / 2 : Nat) else -((u / 2 : Nat) : Int) - 1
theorem zjf {n : Int} (h : i64 n) : uns n < 18446744073709551616:=by
 obtain ⟨h1,h2⟩:=h
 unfold uns; split <;> omega
def rdN : Nat -> List UInt8 -> Option (Nat × List UInt8)
 | _,[]=>none
 | i,c :: r=>if (i = 0 \/ c ≠ 0) /\ (i < 9 \/ c.toNat <= 1) then
   (if c.toNat < 128 then some (c.toNat,r) else (rdN (i + 1) r).map fun p=>(c.toNat - 128 + 128 * p.1,p.2))
  else none

theorem ze9 {n : Nat} (h : n < 256) : (UInt8.ofNat n).toNat = n:=by
 rw [UInt8.toNat_ofNat']; exact Nat.mod_eq_of_lt h
theorem ztp {u : Nat} : num u ≠ []:=by
 by_cases h : u < 128
 ·rw [za8 h]; simp
 ·rw [zfp h]; simp
theorem zed {u : Nat} : 1 <= (num u).length:=by
 have:=ztp (u:=u)
 cases h : num u with
 | nil=>exact absurd h this
 | cons _ _=>simp

mutual
def enc : CV -> List UInt8
 | .mk k n s l=>if k = 1 then 1 :: num (uns n) else if k = 2 then 2 :: (num s.length ++ s) else 3 :: (num l.length ++ encL l)
def encL : List CV -> List UInt8
 | []=>[]
 | v :: l=>enc v ++ encL l
end

mutual
def fmd : CV -> Prop
 | .mk k n s l=>(k = 1 /\ i64 n /\ s = [] /\ l = []) \/ (k = 2 /\ n = 0 /\ l = []) \/ (k = 3 /\ n = 0 /\ s = [] /\ fmdL l)
def fmdL : List CV -> Prop
 | []=>True
 | v :: l=>fmd v /\ fmdL l
end
mutual
def dep : CV -> Nat
 | .mk k _ _ l=>if k = 3 then depL l + 1 else 0
def depL : List CV -> Nat
 | []=>0
 | v :: l=>Nat.max (dep v) (depL l)
end

theorem zsb {v : CV} : 1 <= (enc v).length:=by
 cases v with
 | mk k n s l=>rw [enc]; split <;> (try split) <;> simp
theorem zbt : ∀ (l : List CV),l.length <= (encL l).length
 | []=>by simp
 | v :: l=>by
  have:=zbt l
  have:=zsb (v:=v)
  simp only [encL,List.length_cons,List.length_append]; omega
theorem z5e : ∀ (a b : List CV),encL (a ++ b) = encL a ++ encL b
 | [],b=>by simp [encL]
 | v :: a,b=>by simp [encL,z5e a b]

def rdL (f : List UInt8 -> Option (CV × List UInt8)) : Nat -> List UInt8 -> Option (List CV × List UInt8)
 | 0,b=>some ([],b)
 | n + 1,b=>match f b with
  | none=>none
  | some p=>match rdL f n p.2 with
   | none=>none
   | some q=>some (p.1 :: q.1,q.2)

def rdS (b : List UInt8) : Option (Nat × List UInt8):=match rdN 0 b with
 | some p=>if p.1 <= p.2.length then some p else none
 | none=>none

def rdV : Nat -> List UInt8 -> Option (CV × List UInt8)
 | _,[]=>none
 | 0,c :: r=>if c = 1 then (rdN 0 r).map fun p=>(.mk 1 (sgn p.1) [] [],p.2)
  else if c = 2 then (rdS r).map fun p=>(.mk 2 0 (p.2.take p.1) [],p.2.drop p.1)
  else none
 | d + 1,c :: r=>if c = 1 then (rdN 0 r).map fun p=>(.mk 1 (sgn p.1) [] [],p.2)
  else if c = 2 then (rdS r).map fun p=>(.mk 2 0 (p.2.take p.1) [],p.2.drop p.1)
  else if c = 3 then (rdS r).bind fun p=>(rdL (rdV d) p.1 p.2).map fun q=>(.mk 3 0 [] q.1,q.2)
  else none


end Dv

namespace Dv
attribute [local simp] List.replicate depth dCell dUse dInts dChoice dVar dProb tStart addO Ret
attribute [local congr] z38 z3d z2j z1u z1h z2k z1e


theorem zjc {n : Nat} (h : n < 18446744073709551616) : Go.IntKind.u64.wrap (n : Int) = n:=by
 simp [Go.IntKind.wrap,Go.IntKind.bits,Go.IntKind.signed]; omega
theorem zdr {n : Nat} : Go.IntKind.u8.wrap (n : Int) = ((n % 256 : Nat) : Int):=by
 simp [Go.IntKind.wrap,Go.IntKind.bits,Go.IntKind.signed]
theorem or128 {n : Nat} (h : n < 256) : iorI .u8 (n : Int) 128 = ((n % 128 + 128 : Nat) : Int):=by
 have key : ∀ m : Fin 256,iorI .u8 ((m.val : Nat) : Int) 128 = ((m.val % 128 + 128 : Nat) : Int):=by decide +kernel
 exact key ⟨n,h⟩
theorem z3h : Go.IntKind.u64.bits = 64:=rfl
theorem shr7 {n : Nat} : ((n : Int).fdiv 128) = ((n / 128 : Nat) : Int):=by
 rw [Int.fdiv_eq_ediv_of_nonneg _ (by omega)]; omega
theorem mk8 {n : Nat} (h : n < 256) : (D.int .u8 (n : Int)) = byteD (UInt8.ofNat n):=by
 unfold byteD
 rw [ze9 h]

theorem zfo {u : Nat} (h : u < 18446744073709551616) : (num u).length <= 11:=by
 have key : ∀ (k u : Nat),u < 2 ^ (7 * k) -> (num u).length <= k + 1:=by
  intro k
  induction k with
  | zero=>intro u h; rw [za8 (by omega)]; simp
  | succ k ih=>
   intro u h
   by_cases h1 : u < 128
   ·rw [za8 h1]; simp
   ·rw [zfp h1]
    have:=ih (u / 128) (by
     rw [Nat.div_lt_iff_lt_mul (by decide),show (128 : Nat) = 2 ^ 7 from rfl,<- Nat.pow_add]
     rwa [show 7 * k + 7 = 7 * (k + 1) from by omega])
    simp; omega
 have : (18446744073709551616 : Nat) <= 2 ^ (7 * 10):=by decide
 exact key 10 u (by omega)
theorem z6s {l : List UInt8} : fitsE 1 (l.map byteD) = true:=by
 unfold fitsE
 rw [List.all_eq_true]
 intro x hx
 obtain ⟨r,_,rfl⟩:=List.mem_map.1 hx
 rfl
theorem z1i {l : List UInt8} {new : List D} (h : l.length + new.length <= 1000000000000) : appOk E 13 (l.map byteD) new:=by
 refine ⟨?_,?_,?_,z6s⟩ <;> simp [maxBytes]
 omega

theorem s312 {C : Nat} : ∀ (u : Nat) {hp : List Obj} {sp : Spare} (l : List UInt8),u < 18446744073709551616 -> l.length <= 900000000000 -> Room C hp sp l.length 1 -> C <= hp.length ->
  ∃ d hp',runS E (dL E) 312 [.imm sp (l.map byteD),.int .u64 u] hp = some (d,hp') /\ ∃ k,d = .imm (.tok k) ((l ++ num u).map byteD) /\ C <= k /\ At hp' k (.tok (l ++ num u).length 1) /\ Keep C C hp hp' /\ hp.length <= hp'.length:=by
 intro u hp sp l hu hl R hC
 refine z2z c312 (args:=[.imm sp (l.map byteD),.int .u64 u]) (hp:=hp) (R:=fun d hp'=>∃ k,d = .imm (.tok k) ((l ++ num u).map byteD) /\ C <= k /\ At hp' k (.tok (l ++ num u).length 1) /\ Keep C C hp hp' /\ hp.length <= hp'.length) (by simp) ?_
 conv in t312=>reduce; dsimp [Int.negSucc_eq]
 simp [t312,n312]
 have hlen:=zfo hu
 refine ⟨fun k env h=>∃ (x3 x4 x5 : D) (sp' : Spare) (l' : List UInt8),env = [.imm sp' (l'.map byteD),.int .u64 (k : Nat),.imm .exact [],x3,x4,x5] /\ k < 18446744073709551616 /\ l' ++ num k = l ++ num u /\ Room C h sp' l'.length 1 /\ Keep C C hp h /\ hp.length <= h.length,u,⟨_,_,_,sp,l,rfl,hu,rfl,R,Keep.refl,Nat.le_refl _⟩,?_⟩
 rintro k env h ⟨x3,x4,x5,sp',l',rfl,hk,he,R',K',hh⟩
 have htot : l'.length + (num k).length <= 900000000000 + 11:=by
  have:=congrArg List.length he
  simp only [List.length_append] at this
  omega
 have hpos:=zed (u:=k)
 by_cases h128 : 128 <= k
 ·have hn : ¬ k < 128:=by omega
  have hI : (128 : Int) <= (k : Int):=by omega
  have hap : ∀ x : D,appOk E 13 (l'.map byteD) [x]:=fun x=>z1i (by simp; omega)
  have e1 : D.int .u8 (iorI .u8 ((k : Int) % 256) 128) = byteD (UInt8.ofNat (k % 128 + 128)):=by
   have h1:=or128 (n:=k % 256) (by omega)
   rw [show k % 256 % 128 + 128 = k % 128 + 128 from by omega,show ((k % 256 : Nat) : Int) = (k : Int) % 256 from by omega] at h1
   rw [h1,mk8 (n:=k % 128 + 128) (by omega)]
  have e2 : (k : Int).fdiv 128 = ((k / 128 : Nat) : Int):=shr7
  rw [zfp hn] at he
  obtain ⟨c,hc⟩ : ∃ c,c = UInt8.ofNat (k % 128 + 128):=⟨_,rfl⟩
  rw [<- hc] at e1 he
  have he' : (l' ++ [c]) ++ num (k / 128) = l ++ num u:=by simpa using he
  rcases R' with rfl | ⟨q,rfl,hq,hq2⟩
  ·simp [hI,convD,zi,z1a,hap,zdr,e1,z3h,e2]
   exact ⟨k / 128,by omega,_,_,_,_,l' ++ [c],⟨⟨rfl,by simp⟩,by omega,rfl,rfl,rfl⟩,by omega,he',.inr ⟨h.length,rfl,by omega,by simp [At]⟩,K'.trans Keep.app,by omega⟩
  ·simp [hI,convD,zi,z1o,hap,zdr,e1,hq2.eq,z3h,e2]
   exact ⟨k / 128,by omega,_,_,_,_,l' ++ [c],⟨⟨rfl,by simp⟩,by omega,rfl,rfl,rfl⟩,by omega,he',.inr ⟨h.length,rfl,by omega,by simp [At]⟩,(K'.trans (Keep.set (.inr hq))).trans Keep.app,by omega⟩
 ·have hI : ¬ (128 : Int) <= (k : Int):=by omega
  have e0:=zdr (n:=k)
  rw [show k % 256 = k from by omega] at e0
  have e3:=mk8 (n:=k) (by omega)
  have hap : ∀ x : D,appOk E 13 (l'.map byteD) [x]:=fun x=>z1i (by simp; omega)
  rw [za8 (by omega)] at he
  obtain ⟨c,hc⟩ : ∃ c,c = UInt8.ofNat k:=⟨_,rfl⟩
  rw [<- hc] at e3 he
  have hm : l'.map byteD ++ [byteD c] = l.map byteD ++ (num u).map byteD:=by
   have:=congrArg (List.map byteD) he
   simpa using this
  have hl2 : l'.length + 1 = l.length + (num u).length:=by
   have:=congrArg List.length he
   simpa using this
  rcases R' with rfl | ⟨q,rfl,hq,hq2⟩
  ·simp [hI,convD,zi,z1a,hap,e0,e3]
   exact ⟨h.length,⟨rfl,hm⟩,by omega,by simp [At,hl2],K'.trans Keep.app,by omega⟩
  ·simp [hI,convD,zi,z1o,hap,e0,e3,hq2.eq]
   exact ⟨h.length,⟨rfl,hm⟩,by omega,by simp [At,hl2],(K'.trans (Keep.set (.inr hq))).trans Keep.app,by omega⟩

theorem zow : Go.IntKind.i64.bits = 64:=rfl
theorem z21 (m : Int) : Go.IntKind.u64.wrap m = m % 18446744073709551616:=by
 simp [Go.IntKind.wrap,Go.IntKind.bits,Go.IntKind.signed]
theorem zmt {x : Nat} (h : x < 18446744073709551616) : xorI .u64 (x : Int) 0 = x:=by
 unfold xorI
 rw [z21]
 have e : (BitVec.ofInt Go.IntKind.u64.bits (x : Int) ^^^ BitVec.ofInt Go.IntKind.u64.bits 0).toNat = x:=by
  rw [show Go.IntKind.u64.bits = 64 from rfl]
  simp
  omega
 rw [e]; omega
theorem zmu {x : Nat} (h : x < 18446744073709551616) : xorI .u64 (x : Int) 18446744073709551615 = ((18446744073709551615 - x : Nat) : Int):=by
 unfold xorI
 rw [z21]
 have e : (BitVec.ofInt Go.IntKind.u64.bits (x : Int) ^^^ BitVec.ofInt Go.IntKind.u64.bits 18446744073709551615).toNat = 18446744073709551615 - x:=by
  rw [show Go.IntKind.u64.bits = 64 from rfl]
  have : (BitVec.ofInt 64 18446744073709551615) = BitVec.allOnes 64:=by decide
  rw [this,BitVec.xor_allOnes]
  simp
  omega
 rw [e]; omega
theorem zig {n : Int} (h : i64 n) : xorI .u64 (Go.IntKind.u64.wrap (Go.IntKind.u64.wrap n * 2)) (Go.IntKind.u64.wrap (n.fdiv 9223372036854775808)) = (uns n : Nat):=by
 obtain ⟨h1,h2⟩:=h
 have hf : n.fdiv 9223372036854775808 = n / 9223372036854775808:=Int.fdiv_eq_ediv_of_nonneg _ (by omega)
 rw [hf,z21,z21,z21]
 unfold uns
 by_cases h0 : 0 <= n
 ·rw [if_pos h0,show n / 9223372036854775808 % 18446744073709551616 = 0 from by omega,show n % 18446744073709551616 * 2 % 18446744073709551616 = ((2 * n.toNat : Nat) : Int) from by omega]
  exact zmt (by omega)
 ·rw [if_neg h0,show n / 9223372036854775808 % 18446744073709551616 = 18446744073709551615 from by omega,show n % 18446744073709551616 * 2 % 18446744073709551616 = ((18446744073709551616 - 2 * (-n).toNat : Nat) : Int) from by omega,zmu (by omega)]
  omega

theorem r311 {n : Int} (h : i64 n) : runP E (dL E) 311 [dI n] = some (.int .u64 (uns n : Nat)):=by
 refine zx c311 (by simp) ?_
 conv in t311=>reduce; dsimp [Int.negSucc_eq]
 have e:=zig h
 simp [t311,n311,convD,z3h,zow,e]

def WrOk (C : Nat) (hp : List Obj) (l e : List UInt8) (d : D) (hp' : List Obj) : Prop:=
 ∃ k,d = .imm (.tok k) ((l ++ e).map byteD) /\ C <= k /\ At hp' k (.tok (l ++ e).length 1) /\ Keep C C hp hp' /\ hp.length <= hp'.length

theorem z9v {C : Nat} {hp h2 : List Obj} {l a e : List UInt8} {d : D} {hp' : List Obj} (hk : Keep C C hp h2) (hl : hp.length <= h2.length) (w : WrOk C h2 (l ++ a) e d hp') : WrOk C hp l (a ++ e) d hp':=by
 obtain ⟨k,w1,w2,w3,w4,w5⟩:=w
 rw [List.append_assoc] at w1 w3
 exact ⟨k,w1,w2,w3,hk.trans w4,Nat.le_trans hl w5⟩
theorem WrOk.imm {C : Nat} {hp : List Obj} {l e : List UInt8} {d : D} {hp' : List Obj} (w : WrOk C hp l e d hp') : isMark d = false:=by
 obtain ⟨k,rfl,_⟩:=w; rfl
theorem q312 {C : Nat} (u : Nat) {hp : List Obj} {sp : Spare} (l : List UInt8) (hu : u < 18446744073709551616) (hl : l.length <= 900000000000) (R : Room C hp sp l.length 1) (hC : C <= hp.length) :
  ∃ d hp',runS E (dL E) 312 [.imm sp (l.map byteD),.int .u64 u] hp = some (d,hp') /\ isMark d = false /\ WrOk C hp l (num u) d hp':=by
 obtain ⟨d,hp',e,w⟩:=s312 u l hu hl R hC
 have w : WrOk C hp l (num u) d hp':=w
 exact ⟨d,hp',e,w.imm,w⟩
theorem z7o {C : Nat} {hp r : List Obj} {n k : Nat} (hC : C <= hp.length) (h : r[k]? = some (.tok n 1)) : Room C (hp ++ r) (.tok (hp.length + k)) n 1:=
 .inr ⟨hp.length + k,rfl,by omega,by rw [Nat.mul_one]; exact z69.trans h⟩
theorem zba {C : Nat} {hp r : List Obj} {o : Obj} {n k q : Nat} (hC : C <= hp.length) (h : r[k]? = some (.tok n 1)) : Room C (hp.set q o ++ r) (.tok (hp.length + k)) n 1:=by
 have:=z7o (C:=C) (hp:=hp.set q o) (r:=r) (k:=k) (n:=n) (by simpa using hC) h
 simpa using this
theorem zst {C : Nat} {hp : List Obj} {sp : Spare} {l : List UInt8} {m k : Nat} (c : UInt8) (x : D) (hx : x = byteD c) (hk : k < m) (R : Room C hp sp l.length 1) (hC : C <= hp.length) (hl : l.length <= 900000000000) :
  ∃ h2,app0 E (hp ++ List.replicate m .dead) (hp.length + k) 30 30 (.imm sp (l.map byteD)) (.imm .exact [x]) = some (.imm (.tok (hp.length + k)) ((l ++ [c]).map byteD),h2) /\ Keep C C hp h2 /\ h2.length = hp.length + m /\ Room C h2 (.tok (hp.length + k)) (l ++ [c]).length 1:=by
 subst hx
 have hap : ∀ x : D,appOk E 13 (l.map byteD) [x]:=fun x=>z1i (by simp; omega)
 have hr : (List.replicate m Obj.dead).length = m:=by simp
 have hg : ((List.replicate m Obj.dead).set k (.tok (l.length + 1) 1))[k]? = some (.tok (l.length + 1) 1):=by simp [hk]
 rcases R with rfl | ⟨q,rfl,hq,hq2⟩
 ·refine ⟨hp ++ (List.replicate m Obj.dead).set k (.tok (l.length + 1) 1),?_,Keep.app,by simp,?_⟩
  ·simp [z1a,hap,hk,↓zb7]
  ·have:=z7o (C:=C) hC hg
   simpa using this
 ·have hlt:=hq2.lt
  have hq3 : (hp ++ List.replicate m Obj.dead)[q]? = some (.tok (l.length * 1) 1):=hq2.appE
  rw [Nat.mul_one] at hq3
  refine ⟨hp.set q .dead ++ (List.replicate m Obj.dead).set k (.tok (l.length + 1) 1),?_,(Keep.set (.inr hq)).trans Keep.app,by simp,?_⟩
  ·have e : ((hp ++ List.replicate m Obj.dead).set q .dead).set (hp.length + k) (.tok (l.length + 1) 1) = hp.set q .dead ++ (List.replicate m Obj.dead).set k (.tok (l.length + 1) 1):=by
    rw [z1y hlt]
    have:=zb7 (hp:=hp.set q Obj.dead) (r:=List.replicate m Obj.dead) (k:=k) (x:=.tok (l.length + 1) 1)
    rwa [List.length_set] at this
   simp [z1o,hap,hk,hq3]
   exact e
  ·have:=zba (C:=C) (o:=.dead) (q:=q) hC hg
   simpa using this
theorem z7r {l : List UInt8} {c : UInt8} : (l ++ [c]).map byteD = l.map byteD ++ [.int .u8 c.toNat]:=by simp

theorem s298 {C : Nat} {hp : List Obj} {sp : Spare} (l : List UInt8) (n : Int) (hn : i64 n) (hl : l.length <= 800000000000) (R : Room C hp sp l.length 1) (hC : C <= hp.length) :
  ∃ d hp',runS E (dL E) 298 [.imm sp (l.map byteD),dV (.mk 1 n [] [])] hp = some (d,hp') /\ WrOk C hp l (enc (.mk 1 n [] [])) d hp':=by
 refine z2z c298 (args:=[.imm sp (l.map byteD),dV (.mk 1 n [] [])]) (hp:=hp) (R:=WrOk C hp l (enc (.mk 1 n [] []))) (by simp) ?_
 conv in t298=>reduce; dsimp [Int.negSucc_eq]
 have h311:=r311 hn
 have hap : ∀ x : D,appOk E 13 (l.map byteD) [x]:=fun x=>z1i (by simp; omega)
 have he : enc (.mk 1 n [] []) = [1] ++ num (uns n):=by rw [enc,if_pos rfl]; rfl
 rw [z37,he]
 rcases R with rfl | ⟨q,rfl,hq,hq2⟩
 ·obtain ⟨d,hp',e,hm,w⟩:=q312 (C:=C) (hp:=hp ++ [.dead,.dead,.tok (l.length + 1) 1,.dead,.dead,.dead,.dead,.dead]) (sp:=.tok (hp.length + 2)) (uns n) (l ++ [1]) (zjf hn) (by simp; omega) (by rw [List.length_append]; exact z7o hC rfl) (by simp; omega)
  have w':=z9v (hp:=hp) Keep.app (by simp) w
  rw [z7r] at e
  simp at e
  simp [t298,n298,zi,z1a,hap,h311,e,hm]
  exact w'
 ·obtain ⟨d,hp',e,hm,w⟩:=q312 (C:=C) (hp:=hp.set q .dead ++ [.dead,.dead,.tok (l.length + 1) 1,.dead,.dead,.dead,.dead,.dead]) (sp:=.tok (hp.length + 2)) (uns n) (l ++ [1]) (zjf hn) (by simp; omega) (by rw [List.length_append]; exact zba hC rfl) (by simp; omega)
  have w':=z9v (hp:=hp) ((Keep.set (.inr hq)).trans Keep.app) (by simp) w
  rw [z7r] at e
  simp at e
  have hq3 : (hp ++ List.replicate 8 Obj.dead)[q]? = some (.tok (l.length * 1) 1):=hq2.appE
  simp at hq3
  have hlt:=hq2.lt
  simp [t298,n298,zi,z1o,hap,h311,e,hm,hq3,↓z1y hlt]
  exact w'

theorem s299 {C : Nat} {hp : List Obj} {sp : Spare} (l s : List UInt8) (hl : l.length + s.length <= 800000000000) (R : Room C hp sp l.length 1) (hC : C <= hp.length) :
  ∃ d hp',runS E (dL E) 299 [.imm sp (l.map byteD),dV (.mk 2 0 s [])] hp = some (d,hp') /\ WrOk C hp l (enc (.mk 2 0 s [])) d hp':=by
 refine z2z c299 (args:=[.imm sp (l.map byteD),dV (.mk 2 0 s [])]) (hp:=hp) (R:=WrOk C hp l (enc (.mk 2 0 s []))) (by simp) ?_
 conv in t299=>reduce; dsimp [Int.negSucc_eq]
 have hap : ∀ x : D,appOk E 13 (l.map byteD) [x]:=fun x=>z1i (by simp; omega)
 have he : enc (.mk 2 0 s []) = ([2] ++ num s.length) ++ s:=by rw [enc,if_neg (by decide),if_pos rfl]; rfl
 have hw:=zjc (n:=s.length) (by omega)
 have hn:=zfo (u:=s.length) (by omega)
 rw [z37,he]
 have fin : ∀ {d : D} {h2 : List Obj},hp.length + 12 <= h2.length -> WrOk C hp l ([2] ++ num s.length) d h2 -> ∃ k,d = .imm (.tok k) ((l ++ ([2] ++ num s.length)).map byteD) /\ h2[k]? = some (.tok (l ++ ([2] ++ num s.length)).length 1) /\ appOk E 13 ((l ++ ([2] ++ num s.length)).map byteD) (s.map byteD) /\
   WrOk C hp l (([2] ++ num s.length) ++ s) (.imm (.tok (hp.length + 10)) ((l ++ ([2] ++ num s.length)).map byteD ++ s.map byteD)) ((h2.set k .dead).set (hp.length + 10) (.tok ((l ++ ([2] ++ num s.length)).length + s.length) 1)):=by
  rintro d h2 hh ⟨k,rfl,w2,w3,w4,w5⟩
  refine ⟨k,rfl,w3,z1i (by simp at hn ⊢; omega),hp.length + 10,by simp,by omega,?_,(w4.trans (Keep.set (.inr w2))).trans (Keep.set (.inr (by omega))),by simp; omega⟩
  have : (l ++ (([2] ++ num s.length) ++ s)).length = (l ++ ([2] ++ num s.length)).length + s.length:=by simp; omega
  rw [this]
  exact At.self (by simp; omega)
 rcases R with rfl | ⟨q,rfl,hq,hq2⟩
 ·obtain ⟨d,hp',e,hm,w⟩:=q312 (C:=C) (hp:=hp ++ [.dead,.dead,.tok (l.length + 1) 1,.dead,.dead,.dead,.dead,.dead,.dead,.dead,.dead,.dead]) (sp:=.tok (hp.length + 2)) s.length (l ++ [2]) (by omega) (by simp; omega) (by rw [List.length_append]; exact z7o hC rfl) (by simp; omega)
  have hlen : hp.length + 12 <= hp'.length:=by have:=w.choose_spec.2.2.2.2; simpa using this
  have w':=z9v (hp:=hp) Keep.app (by simp) w
  obtain ⟨k,rfl,f1,f2,f3⟩:=fin hlen w'
  rw [z7r] at e
  simp at e f1 f2 f3
  have h10 : hp.length + 10 < hp'.length:=by omega
  simp [t299,n299,zi,z1a,z1o,hap,hw,convD,e,f1,f2,h10]
  simpa using f3
 ·obtain ⟨d,hp',e,hm,w⟩:=q312 (C:=C) (hp:=hp.set q .dead ++ [.dead,.dead,.tok (l.length + 1) 1,.dead,.dead,.dead,.dead,.dead,.dead,.dead,.dead,.dead]) (sp:=.tok (hp.length + 2)) s.length (l ++ [2]) (by omega) (by simp; omega) (by rw [List.length_append]; exact zba hC rfl) (by simp; omega)
  have hlen : hp.length + 12 <= hp'.length:=by have:=w.choose_spec.2.2.2.2; simpa using this
  have w':=z9v (hp:=hp) ((Keep.set (.inr hq)).trans Keep.app) (by simp) w
  obtain ⟨k,rfl,f1,f2,f3⟩:=fin hlen w'
  rw [z7r] at e
  have hq3 : (hp ++ List.replicate 12 Obj.dead)[q]? = some (.tok (l.length * 1) 1):=hq2.appE
  simp at e f1 f2 f3 hq3
  have hlt:=hq2.lt
  have h10 : hp.length + 10 < hp'.length:=by omega
  simp [t299,n299,zi,z1o,hap,hw,convD,e,f1,f2,h10,hq3,↓z1y hlt]
  simpa using f3

structure Wrs (hp : List Obj) (A B : Nat) : Prop where
 a : At hp A (.cells [.nilfn,.fn 298 [],.fn 299 [],.fn 300 [.loc B 0]])
 b : At hp B (.cells [.loc A 0])
theorem Wrs.keep {C : Nat} {hp hp' : List Obj} {A B : Nat} (w : Wrs hp A B) (hA : A < C) (hB : B < C) (k : Keep C C hp hp') : Wrs hp' A B:=⟨k.at (by omega) hA w.a,k.at (by omega) hB w.b⟩

def wrF (k : Int) : Nat:=if k = 1 then 298 else if k = 2 then 299 else 300
def wrC (k : Int) (B : Nat) : List D:=if k = 1 then [] else if k = 2 then [] else [.loc B 0]
def Writes (v : CV) (k : Int) : Prop:=∀ {C A B : Nat} {hp : List Obj} {sp : Spare} (l : List UInt8),Wrs hp A B -> A < C -> B < C -> l.length + (enc v).length <= 800000000000 -> Room C hp sp l.length 1 -> C <= hp.length ->
 ∃ d hp',runS E (dL E) (wrF k) (.imm sp (l.map byteD) :: dV v :: wrC k B) hp = some (d,hp') /\ WrOk C hp l (enc v) d hp'

theorem s300 (vs : List CV) (ih : ∀ k n s l,CV.mk k n s l ∈ vs -> (k = 1 \/ k = 2 \/ k = 3) /\ Writes (.mk k n s l) k) : Writes (.mk 3 0 [] vs) 3:=by
 intro C A B hp sp l W hA hB hl R hC
 have he : enc (.mk 3 0 [] vs) = ([3] ++ num vs.length) ++ encL vs:=by rw [enc,if_neg (by decide),if_neg (by decide)]; rfl
 rw [he] at hl ⊢
 have hvl : vs.length <= 800000000000:=by have:=zbt vs; simp at hl; omega
 show ∃ d hp',runS E (dL E) 300 [.imm sp (l.map byteD),dV (.mk 3 0 [] vs),.loc B 0] hp = some (d,hp') /\ WrOk C hp l (([3] ++ num vs.length) ++ encL vs) d hp'
 refine z2z c300 (args:=[.imm sp (l.map byteD),dV (.mk 3 0 [] vs),.loc B 0]) (hp:=hp) (R:=WrOk C hp l (([3] ++ num vs.length) ++ encL vs)) (by simp) ?_
 conv in t300=>reduce; dsimp [Int.negSucc_eq]
 have hap : ∀ x : D,appOk E 13 (l.map byteD) [x]:=fun x=>z1i (by simp at hl ⊢; omega)
 have hw:=zjc (n:=vs.length) (by omega)
 rw [z37]
 obtain ⟨h2,e1,k1,l1,R1⟩:=zst (l:=l) (m:=9) (k:=2) 3 (.int .u8 3) rfl (by omega) R hC (by simp at hl; omega)
 obtain ⟨d,h3,e2,hm,w⟩:=q312 (C:=C) (hp:=h2) vs.length (l ++ [3]) (by omega) (by simp at hl ⊢; omega) R1 (by omega)
 have w':=z9v (hp:=hp) k1 (by omega) w
 simp at e1 e2
 simp [t300,n300,zi,hw,convD,e1,e2,hm]
 refine z1l vs.length (fun i env h=>∃ (x5 x6 x7 x11 x12 x13 : D) (dd : D),env = [dd,.agg [dI 3,dI 0,.str [],.imm .none (vs.map dV)],.loc B 0,.iptr [dI 3,dI 0,.str [],.imm .none (vs.map dV)],.imm .exact [],x5,x6,x7,.imm .none (vs.map dV),dI vs.length,dI i,x11,x12,x13] /\ WrOk C hp l (([3] ++ num vs.length) ++ encL (vs.take i)) dd h) 0 (by omega) ?_ ?_
 ·exact ⟨_,_,_,_,_,_,d,rfl,by simpa [encL] using w'⟩
 rintro i env h hi ⟨x5,x6,x7,x11,x12,x13,dd,rfl,wi⟩
 by_cases hlt : i < vs.length
 ·obtain ⟨tk,rfl,w2,w3,w4,w5⟩:=wi
  obtain ⟨k,n,s,l',hv⟩ : ∃ k n s l',vs[i] = CV.mk k n s l':=by
   cases h : vs[i] with
   | mk k n s l'=>exact ⟨k,n,s,l',rfl⟩
  have WA:=W.keep hA hB w4
  obtain ⟨hk,hwr⟩:=ih k n s l' (by rw [<- hv]; exact List.getElem_mem hlt)
  have a1:=WA.a
  have b1:=WA.b
  have hsp : encL (vs.take (i + 1)) = encL (vs.take i) ++ enc (.mk k n s l'):=by
   rw [List.take_add_one,List.getElem?_eq_getElem hlt,hv,z5e]; simp [encL]
  have htk : encL vs = encL (vs.take (i + 1)) ++ encL (vs.drop (i + 1)):=by rw [<- z5e,List.take_append_drop]
  have hL : (l ++ ([3] ++ num vs.length ++ encL (vs.take i))).length + (enc (.mk k n s l')).length <= 800000000000:=by
   rw [htk,hsp] at hl
   simp only [List.length_append] at hl ⊢
   omega
  obtain ⟨d',h5,e,w⟩:=hwr (C:=C) (A:=A) (B:=B) (sp:=.tok tk) (hp:=h ++ [.cells [dI k,dI n,.str s,.imm .none (l'.map dV)],.dead,.dead,.dead,.dead,.dead,.dead,.dead,.dead,.dead,.dead,.dead]) (l ++ ([3] ++ num vs.length ++ encL (vs.take i))) (WA.keep hA hB Keep.app) hA hB hL (.inr ⟨tk,rfl,w2,by rw [Nat.mul_one]; exact w3.app⟩) (by simp; omega)
  have hm':=w.imm
  have w':=z9v (hp:=hp) (l:=l) (a:=[3] ++ num vs.length ++ encL (vs.take i)) (w4.trans Keep.app) (by simp; omega) w
  have hf : ([3] ++ num vs.length ++ encL (vs.take i)) ++ enc (.mk k n s l') = 3 :: (num vs.length ++ encL (vs.take (i + 1))):=by rw [hsp]; simp
  rw [hf] at w'
  have hup:=zl hlt (by omega)
  rw [z37] at e
  rcases hk with rfl | rfl | rfl
  ·simp [wrF,wrC] at e
   simp [hlt,hv,z37,a1.appE,b1.appE,e,hm',hup]
   exact ⟨_,_,_,_,_,_,_,⟨rfl,rfl,rfl,rfl,rfl,rfl,rfl⟩,w'⟩
  ·simp [wrF,wrC] at e
   simp [hlt,hv,z37,a1.appE,b1.appE,e,hm',hup]
   exact ⟨_,_,_,_,_,_,_,⟨rfl,rfl,rfl,rfl,rfl,rfl,rfl⟩,w'⟩
  ·simp [wrF,wrC] at e
   simp [hlt,hv,z37,a1.appE,b1.appE,e,hm',hup]
   exact ⟨_,_,_,_,_,_,_,⟨rfl,rfl,rfl,rfl,rfl,rfl,rfl⟩,w'⟩
 ·have : i = vs.length:=by omega
  subst this
  rw [List.take_length] at wi
  simp
  simpa using wi

theorem z93 : ∀ {l : List CV},fmdL l -> ∀ v ∈ l,fmd v
 | [],_,v,h=>by simp at h
 | w :: l,hf,v,h=>by
  rw [fmdL] at hf
  rcases List.mem_cons.1 h with rfl | h
  ·exact hf.1
  ·exact z93 hf.2 v h
theorem zu2 {k n : Int} {s : List UInt8} {l : List CV} (h : fmd (.mk k n s l)) : k = 1 \/ k = 2 \/ k = 3:=by
 rw [fmd] at h
 rcases h with ⟨h,_⟩ | ⟨h,_⟩ | ⟨h,_⟩ <;> simp [h]

theorem writes : ∀ (m : Nat) (v : CV),sizeOf v <= m -> fmd v -> ∀ k n s l,v = .mk k n s l -> Writes v k:=by
 intro m
 induction m with
 | zero=>
  intro v hm
  cases v
  simp at hm
 | succ m ih=>
  intro v hm hf k n s l hv
  subst hv
  have hf':=hf
  rw [fmd] at hf'
  rcases hf' with ⟨rfl,hn,rfl,rfl⟩ | ⟨rfl,rfl,rfl⟩ | ⟨rfl,rfl,rfl,hl⟩
  ·intro C A B hp sp l W hA hB hl R hC
   exact s298 l n hn (by omega) R hC
  ·intro C A B hp sp l' W hA hB hl R hC
   have he : enc (.mk 2 0 s []) = 2 :: (num s.length ++ s):=by rw [enc,if_neg (by decide),if_pos rfl]
   rw [he] at hl
   exact s299 l' s (by simp at hl; omega) R hC
  ·have q : ∀ k' n' s' l',CV.mk k' n' s' l' ∈ l -> (k' = 1 \/ k' = 2 \/ k' = 3) /\ Writes (.mk k' n' s' l') k':=fun k' n' s' l' hmem=>⟨zu2 (z93 hl _ hmem),by
    have h1:=List.sizeOf_lt_of_mem hmem
    have h2 : sizeOf (CV.mk k' n' s' l') <= m:=by
     rw [CV.mk.sizeOf_spec] at hm
     omega
    intro C A B hp sp
    exact ih _ h2 (z93 hl _ hmem) k' n' s' l' rfl⟩
   intro C A B hp sp
   exact s300 l q

theorem zf0 : ∀ {l : List CV} {v : CV},v ∈ l -> dep v <= depL l
 | [],v,h=>by simp at h
 | w :: l,v,h=>by
  rw [depL]
  rcases List.mem_cons.1 h with rfl | h
  ·exact Nat.le_max_left _ _
  ·exact Nat.le_trans (zf0 h) (Nat.le_max_right _ _)
theorem zq2 {hp : List Obj} : ∀ (m : Nat) (v : CV),fmd v -> dep v <= m -> ∀ n,2 * m + 2 <= n -> frz hp n (dV v) = some (dV v):=by
 intro m
 induction m with
 | zero=>
  intro v hf hd n hn
  obtain ⟨n,rfl⟩ : ∃ j,n = j + 2:=⟨n - 2,by omega⟩
  obtain ⟨k,x,s,l⟩:=v
  rw [fmd] at hf
  rw [dep] at hd
  rcases hf with ⟨rfl,_,rfl,rfl⟩ | ⟨rfl,rfl,rfl⟩ | ⟨rfl,_⟩
  ·rw [z37]; rfl
  ·rw [z37]; rfl
  ·simp at hd
 | succ m ih=>
  intro v hf hd n hn
  obtain ⟨n,rfl⟩ : ∃ j,n = j + 3:=⟨n - 3,by omega⟩
  obtain ⟨k,x,s,l⟩:=v
  rw [fmd] at hf
  rw [dep] at hd
  rcases hf with ⟨rfl,_,rfl,rfl⟩ | ⟨rfl,rfl,rfl⟩ | ⟨rfl,rfl,rfl,hl⟩
  ·rw [z37]; rfl
  ·rw [z37]; rfl
  ·rw [if_pos rfl] at hd
   have e : frzL (frz hp (n + 1)) (l.map dV) = some (l.map dV):=z13 fun v hv=>ih v (z93 hl v hv) (by have:=zf0 hv; omega) (n + 1) (by omega)
   rw [z37]
   have hs : frz hp (n + 2) (.str []) = some (.str []):=rfl
   simp only [z6p,z3f,z5c,hs,z4i,e,Option.map_some,z7,z6a]

theorem zlv {l : List CV} {i : Nat} (h : i < l.length) : depL (l.take (i + 1)) = Nat.max (depL (l.take i)) (dep l[i]):=by
 induction l generalizing i with
 | nil=>simp at h
 | cons v l ih=>
  cases i with
  | zero=>simp [depL]
  | succ i=>
   simp only [List.length_cons] at h
   simp only [List.take_succ_cons,depL,List.getElem_cons_succ]
   rw [ih (by omega)]
   exact (Nat.max_assoc _ _ _).symm

theorem zgd : ∀ {l : List CV} {v : CV},v ∈ l -> (enc v).length <= (encL l).length
 | [],v,h=>by simp at h
 | w :: l,v,h=>by
  rw [encL,List.length_append]
  rcases List.mem_cons.1 h with rfl | h
  ·omega
  ·have:=zgd h
   omega
structure fmdOk (v : CV) : Prop where
 f : fmd v
 d : dep v <= 4
 n : (enc v).length <= 800000000000
theorem fmdOk.len {k n : Int} {s : List UInt8} {l : List CV} (h : fmdOk (.mk k n s l)) : s.length <= 800000000000 /\ l.length <= 800000000000:=by
 have hf:=h.f
 have hn:=h.n
 rw [fmd] at hf
 rcases hf with ⟨rfl,_,rfl,rfl⟩ | ⟨rfl,rfl,rfl⟩ | ⟨rfl,rfl,rfl,hl⟩
 ·simp
 ·rw [enc,if_neg (by decide),if_pos rfl] at hn
  simp at hn ⊢; omega
 ·rw [enc,if_neg (by decide),if_neg (by decide)] at hn
  have:=zbt l
  simp at hn ⊢; omega
theorem fmdOk.sub {n : Int} {s : List UInt8} {l : List CV} (h : fmdOk (.mk 3 n s l)) {v : CV} (hv : v ∈ l) : fmdOk v:=by
 have hf:=h.f
 have hn:=h.n
 have hd:=h.d
 rw [fmd] at hf
 rw [dep,if_pos rfl] at hd
 rcases hf with ⟨h3,_⟩ | ⟨h3,_⟩ | ⟨_,rfl,rfl,hl⟩
 ·omega
 ·omega
 ·rw [enc,if_neg (by decide),if_neg (by decide)] at hn
  have:=zgd hv
  have:=zf0 hv
  exact ⟨z93 hl v hv,by omega,by simp at hn; omega⟩
theorem zbn {hp : List Obj} {v : CV} (h : fmdOk v) : frz hp 12 (dV v) = some (dV v):=zq2 4 v h.f h.d 12 (by decide)

theorem r297 : ∀ (m : Nat) (v : CV),sizeOf v <= m -> fmdOk v -> runP E (dL E) 297 [dV v] = some (.tup [dI (dep v),.bool true]):=by
 intro m
 induction m with
 | zero=>intro v hm; cases v; simp at hm
 | succ m ih=>
  intro v hm hf
  obtain ⟨k,n,s,l⟩:=v
  have hf':=hf.f
  have hz:=zbn (hp:=[]) hf
  refine zx c297 (by simp) ?_
  conv in t297=>reduce; dsimp [Int.negSucc_eq]
  rw [fmd] at hf'
  rw [z37]
  rcases hf' with ⟨rfl,hn,rfl,rfl⟩ | ⟨rfl,rfl,rfl⟩ | ⟨rfl,rfl,rfl,hl⟩
  ·by_cases h0 : n = 0 <;> simp [t297,n297,h0,dep]
  ·by_cases h0 : s = [] <;> simp [t297,n297,h0,dep]
  ·have hd : depL l <= 3:=by have:=hf.d; rw [dep,if_pos rfl] at this; omega
   have hln:=hf.len.2
   have hdw : Go.IntKind.i64.wrap ((depL l : Int) + 1) = (depL l : Int) + 1:=za ⟨by omega,by omega⟩
   by_cases hb : ((l.length : Int) == 0) = true
   all_goals
    simp [t297,n297,dep,hb]
    refine z1l l.length (fun i env h=>∃ (x0 x1 x3 x4 x5 x6 x7 x8 x9 x10 x14 x15 x16 x17 : D) ,env = [x0,x1,dI (depL (l.take i)),x3,x4,x5,x6,x7,x8,x9,x10,.imm .none (l.map dV),dI l.length,dI i,x14,x15,x16,x17]) 0 (by omega) ?_ ?_
    ·exact ⟨_,_,_,_,_,_,_,_,_,_,_,_,_,_,rfl⟩
    rintro i env h hi ⟨x0,x1,x3,x4,x5,x6,x7,x8,x9,x10,x14,x15,x16,x17,rfl⟩
    by_cases hlt : i < l.length
    ·have hv:=hf.sub (List.getElem_mem hlt)
     have e:=ih l[i] (by have:=List.sizeOf_lt_of_mem (List.getElem_mem hlt); rw [CV.mk.sizeOf_spec] at hm; omega) hv
     have hz':=zbn (hp:=[]) hv
     have hup:=zl hlt (by omega)
     obtain ⟨k,n,s,l',hq⟩ : ∃ k n s l',l[i] = CV.mk k n s l':=by
      cases h : l[i] with
      | mk k n s l'=>exact ⟨k,n,s,l',rfl⟩
     have hdt:=zlv hlt
     rw [hq] at e hz' hdt
     rw [z37] at e hz'
     simp [hlt,hq,z37,e,hz',hup]
     rw [hdt]
     simp only [Nat.max_def]
     split <;> split <;> omega
    ·have : i = l.length:=by omega
     subst this
     simp [hdw]

theorem z3s {E : Env} {cP : Nat -> List D -> Option D} {cS cY : Nat -> List D -> List Obj -> Option (D × List Obj)} {hp : List Obj} {id : Nat} {g : Opd -> D} {f : Opd} : stepOp E cP cS cY id g hp (.call 4 f []) = (match g f with | .fn k caps=>ob (frzL (frz [] depth) caps) (fun vs=>makD cS k vs hp) | _=>none):=by
 simp only [stepOp,DOp.fin,finOp]
 cases g f <;> try rfl
 rename_i k caps
 simp only []
 cases frzL (frz [] depth) caps <;> rfl

theorem s282 (hp : List Obj) : runS E (dL E) 282 [] hp = some (.loc hp.length 0,hp ++ [.cells [.nilfn,.fn 298 [],.fn 299 [],.fn 300 [.loc (hp.length + 1) 0]],.cells [.loc hp.length 0]]):=by
 have : ∃ d hp',runS E (dL E) 282 [] hp = some (d,hp') /\ (d = .loc hp.length 0 /\ hp' = hp ++ [.cells [.nilfn,.fn 298 [],.fn 299 [],.fn 300 [.loc (hp.length + 1) 0]],.cells [.loc hp.length 0]]):=by
  refine z2z c282 (args:=[]) (hp:=hp) (R:=fun d hp'=>d = .loc hp.length 0 /\ hp' = hp ++ [.cells [.nilfn,.fn 298 [],.fn 299 [],.fn 300 [.loc (hp.length + 1) 0]],.cells [.loc hp.length 0]]) (by simp) ?_
  conv in t282=>reduce; dsimp [Int.negSucc_eq]
  simp [t282,n282]
 obtain ⟨d,hp',e,rfl,rfl⟩:=this
 exact e
theorem r281 {v : CV} (h : fmdOk v) : runP E (dL E) 281 [dV v] = some (dI 0):=by
 have e:=r297 (sizeOf v) v (Nat.le_refl _) h
 have hz:=zbn (hp:=[]) h
 obtain ⟨k,n,s,l⟩:=v
 refine zx c281 (by simp) ?_
 conv in t281=>reduce; dsimp [Int.negSucc_eq]
 have hd:=h.d
 rw [z37] at e hz ⊢
 simp [t281,n281,e,hz]
 omega
theorem r264 {v : CV} (h : fmdOk v) : runP E (dL E) 264 [dV v] = some (.tup [dBy (enc v),dI 0]):=by
 have e:=r281 h
 have hz:=zbn (hp:=[]) h
 have e2:=s282 (List.replicate 11 .dead)
 have hf:=h.f
 have hn:=h.n
 obtain ⟨k,n,s,l⟩:=v
 have hk:=zu2 hf
 obtain ⟨d,h5,e5,w⟩:=writes (sizeOf (CV.mk k n s l)) (.mk k n s l) (Nat.le_refl _) hf k n s l rfl (C:=13) (A:=11) (B:=12) (sp:=.exact) (hp:=List.replicate 11 .dead ++ [.cells [.nilfn,.fn 298 [],.fn 299 [],.fn 300 [.loc 12 0]],.cells [.loc 11 0]]) []
  ⟨by simp [At],by simp [At]⟩ (by omega) (by omega) (by simpa using hn) (.inl rfl) (by simp)
 have hm:=w.imm
 obtain ⟨tk,rfl,w2,w3,w4,w5⟩:=w
 rw [List.nil_append] at w3 hm e5
 have hfz : ∀ l : List UInt8,frzL (frz h5 10) (l.map byteD) = some (l.map byteD):=fun l=>z13 fun x _=>rfl
 refine zx c264 (by simp) ?_
 conv in t264=>reduce; dsimp [Int.negSucc_eq]
 rw [z37] at e hz e5 ⊢
 simp at e2
 rcases hk with rfl | rfl | rfl
 ·simp [wrF,wrC] at e5
  simp [t264,n264,e,hz,z3s,makD,e2,e5,hfz,noMark]
 ·simp [wrF,wrC] at e5
  simp [t264,n264,e,hz,z3s,makD,e2,e5,hfz,noMark]
 ·simp [wrF,wrC] at e5
  simp [t264,n264,e,hz,z3s,makD,e2,e5,hfz,noMark]

end Dv

namespace Dv

structure Ent where
 kind : Int
 idx : Int
 amt : Int
deriving DecidableEq

structure Pst where
 no : Int
 minute : Int
 corrects : Int
 ents : List Ent
 prev : List UInt8
deriving DecidableEq


abbrev dEnt (e : Ent) : D:=.agg [dI e.kind,dI e.idx,dI e.amt]
abbrev dPst (p : Pst) : D:=.agg (dI p.no :: dI p.minute :: dI p.corrects :: .imm .none (p.ents.map dEnt) :: p.prev.map byteD)
abbrev dPsts (l : List Pst) : D:=.imm .none (l.map dPst)
abbrev dDig (d : List UInt8) : D:=.agg (d.map byteD)

def ltA (a b : Ent) : Prop:=a.kind < b.kind \/ a.kind = b.kind /\ a.idx < b.idx
instance (a b : Ent) : Decidable (ltA a b):=inferInstanceAs (Decidable (_ \/ _))
def okEnt (x : Ent) : Prop:=(1 <= x.kind /\ x.kind <= 5) /\ (-1 <= x.idx /\ x.idx <= 4095) /\ x.amt ≠ 0 /\ -1099511627776 <= x.amt /\ x.amt <= 1099511627776
instance (x : Ent) : Decidable (okEnt x):=inferInstanceAs (Decidable (_ /\ _))
def ordE (l : List Ent) : Prop:=∀ i,∀ h : i + 1 < l.length,ltA l[i] l[i + 1]
def sumE : List Ent -> Int
 | []=>0
 | x :: l=>x.amt + sumE l
theorem zdv (a b : List Ent) : sumE (a ++ b) = sumE a + sumE b:=by
 induction a with
 | nil=>simp [sumE]
 | cons x a ih=>simp only [List.cons_append,sumE,ih]; omega
structure fmE (l : List Ent) : Prop where
 two : 2 <= l.length
 most : l.length <= 4096
 ok : ∀ x,x ∈ l -> okEnt x
 ord : ordE l
structure fmP (p : Pst) : Prop where
 no : 0 <= p.no /\ p.no < 65536
 minute : 0 <= p.minute /\ p.minute < 1440
 corrects : -1 <= p.corrects /\ p.corrects < p.no
 ents : fmE p.ents
open Classical in
noncomputable def pchk (p : Pst) : Int:=if fmP p then (if sumE p.ents = 0 then 0 else 411) else 410
structure gdP (p : Pst) : Prop where
 fm : fmP p
 sum : sumE p.ents = 0
theorem z2i {p : Pst} : pchk p = 0 ↔ gdP p:=by
 unfold pchk
 constructor
 ·intro h
  split at h
  ·rename_i h1
   split at h
   ·rename_i h2; exact ⟨h1,h2⟩
   ·simp at h
  ·simp at h
 ·rintro ⟨h1,h2⟩
  rw [if_pos h1,if_pos h2]

def cI (n : Int) : CV:=.mk 1 n [] []
def cL (l : List CV) : CV:=.mk 3 0 [] l
def cT (s : List UInt8) : CV:=.mk 2 0 s []
def entV (x : Ent) : CV:=cL [cI x.kind,cI x.idx,cI x.amt]
def pstV (p : Pst) : CV:=cL [cI p.no,cI p.minute,cI p.corrects,cL (p.ents.map entV),cT p.prev]
def encP (p : Pst) : List UInt8:=enc (pstV p)

theorem z6q {n : Int} (h : i64 n) : fmd (cI n):=by unfold cI; rw [fmd]; exact .inl ⟨rfl,h,rfl,rfl⟩
theorem zoc {s : List UInt8} : fmd (cT s):=by unfold cT; rw [fmd]; exact .inr (.inl ⟨rfl,rfl,rfl⟩)
theorem zbo {l : List CV} (h : fmdL l) : fmd (cL l):=by unfold cL; rw [fmd]; exact .inr (.inr ⟨rfl,rfl,rfl,h⟩)
theorem z7s : ∀ {l : List CV},(∀ v,v ∈ l -> fmd v) -> fmdL l
 | [],_=>by rw [fmdL]; trivial
 | v :: l,h=>by rw [fmdL]; exact ⟨h v (by simp),z7s fun w hw=>h w (by simp [hw])⟩
theorem zbv {n : Int} : dep (cI n) = 0:=by unfold cI; rw [dep,if_neg (by decide)]
theorem zoq {s : List UInt8} : dep (cT s) = 0:=by unfold cT; rw [dep,if_neg (by decide)]
theorem zbu {l : List CV} : dep (cL l) = depL l + 1:=by unfold cL; rw [dep,if_pos rfl]
theorem zbw {n : Nat} : ∀ {l : List CV},(∀ v,v ∈ l -> dep v <= n) -> depL l <= n
 | [],_=>by rw [depL]; omega
 | v :: l,h=>by rw [depL]; exact Nat.max_le.2 ⟨h v (by simp),zbw fun w hw=>h w (by simp [hw])⟩

structure i64P (p : Pst) : Prop where
 no : i64 p.no
 minute : i64 p.minute
 corrects : i64 p.corrects
 ents : ∀ x,x ∈ p.ents -> i64 x.kind /\ i64 x.idx /\ i64 x.amt

theorem zl1 {p : Pst} (h : fmP p) : i64P p:=by
 obtain ⟨h1,h2,h3,h4⟩:=h
 refine ⟨⟨by omega,by omega⟩,⟨by omega,by omega⟩,⟨by omega,by omega⟩,fun x hx=>?_⟩
 obtain ⟨a,b,c,d⟩:=h4.ok x hx
 exact ⟨⟨by omega,by omega⟩,⟨by omega,by omega⟩,⟨by omega,by omega⟩⟩

theorem zlg {x : Ent} (h : i64 x.kind /\ i64 x.idx /\ i64 x.amt) : fmd (entV x):=by
 unfold entV
 refine zbo (z7s fun v hv=>?_)
 simp only [List.mem_cons,List.not_mem_nil,or_false] at hv
 rcases hv with rfl | rfl | rfl
 ·exact z6q h.1
 ·exact z6q h.2.1
 ·exact z6q h.2.2
theorem zs7 {p : Pst} (h : i64P p) : fmd (pstV p):=by
 unfold pstV
 refine zbo (z7s fun v hv=>?_)
 simp only [List.mem_cons,List.not_mem_nil,or_false] at hv
 rcases hv with rfl | rfl | rfl | rfl | rfl
 ·exact z6q h.no
 ·exact z6q h.minute
 ·exact z6q h.corrects
 ·refine zbo (z7s fun v hv=>?_)
  obtain ⟨x,hx,rfl⟩:=List.mem_map.1 hv
  exact zlg (h.ents x hx)
 ·exact zoc
theorem zlu {x : Ent} : dep (entV x) = 1:=by
 unfold entV; rw [zbu]; simp [depL,zbv]
theorem zse {p : Pst} : dep (pstV p) <= 3:=by
 unfold pstV
 rw [zbu]
 have : depL [cI p.no,cI p.minute,cI p.corrects,cL (p.ents.map entV),cT p.prev] <= 2:=by
  refine zbw fun v hv=>?_
  simp only [List.mem_cons,List.not_mem_nil,or_false] at hv
  rcases hv with rfl | rfl | rfl | rfl | rfl
  ·rw [zbv]; omega
  ·rw [zbv]; omega
  ·rw [zbv]; omega
  ·rw [zbu]
   have : depL (p.ents.map entV) <= 1:=zbw fun v hv=>by
    obtain ⟨x,_,rfl⟩:=List.mem_map.1 hv
    rw [zlu]; omega
   omega
  ·rw [zoq]; omega
 omega

theorem z8i {u : Nat} (h : u < 18446744073709551616) : (num u).length <= 11:=by
 have key : ∀ (k u : Nat),u < 2 ^ (7 * k) -> (num u).length <= k + 1:=by
  intro k
  induction k with
  | zero=>intro u h; rw [za8 (by omega)]; simp
  | succ k ih=>
   intro u h
   by_cases h1 : u < 128
   ·rw [za8 h1]; simp
   ·rw [zfp h1]
    have:=ih (u / 128) (by
     rw [Nat.div_lt_iff_lt_mul (by decide),show (128 : Nat) = 2 ^ 7 from rfl,<- Nat.pow_add]
     rwa [show 7 * k + 7 = 7 * (k + 1) from by omega])
    simp; omega
 have : (18446744073709551616 : Nat) <= 2 ^ (7 * 10):=by decide
 exact key 10 u (by omega)
theorem zsc {n : Int} : enc (cI n) = 1 :: num (uns n):=by unfold cI; rw [enc,if_pos rfl]
theorem zol {s : List UInt8} : enc (cT s) = 2 :: (num s.length ++ s):=by unfold cT; rw [enc,if_neg (by decide),if_pos rfl]
theorem zbs {l : List CV} : enc (cL l) = 3 :: (num l.length ++ encL l):=by unfold cL; rw [enc,if_neg (by decide),if_neg (by decide)]
theorem z4v {n : Int} (h : i64 n) : (enc (cI n)).length <= 12:=by
 rw [zsc]
 have:=z8i (zjf h)
 simp; omega
theorem zlq {n : Nat} : ∀ {l : List CV},(∀ v,v ∈ l -> (enc v).length <= n) -> (encL l).length <= l.length * n
 | [],_=>by simp [encL]
 | v :: l,h=>by
  have h1:=h v (by simp)
  have h2:=zlq (l:=l) fun w hw=>h w (by simp [hw])
  simp only [encL,List.length_append,List.length_cons,Nat.add_mul]; omega
theorem zom {x : Ent} (h : i64 x.kind /\ i64 x.idx /\ i64 x.amt) : (enc (entV x)).length <= 48:=by
 unfold entV
 rw [zbs]
 have h1:=z4v h.1
 have h2:=z4v h.2.1
 have h3:=z4v h.2.2
 have h4:=z8i (u:=3) (by omega)
 simp [encL] at h1 h2 h3 h4 ⊢
 omega
theorem zgc {p : Pst} (h : i64P p) (hn : p.ents.length <= 1000000) (hp : p.prev.length <= 1000000) : (encP p).length <= 48 * p.ents.length + p.prev.length + 100:=by
 unfold encP pstV
 rw [zbs]
 have h1:=z4v h.no
 have h2:=z4v h.minute
 have h3:=z4v h.corrects
 have h4:=z8i (u:=5) (by omega)
 have h5 : (enc (cL (p.ents.map entV))).length <= 48 * p.ents.length + 12:=by
  rw [zbs]
  have:=z8i (u:=(p.ents.map entV).length) (by simp; omega)
  have h6:=zlq (n:=48) (l:=p.ents.map entV) fun v hv=>by
   obtain ⟨x,hx,rfl⟩:=List.mem_map.1 hv
   exact zom (h.ents x hx)
  simp at this h6 ⊢
  omega
 have h7 : (enc (cT p.prev)).length <= p.prev.length + 12:=by
  rw [zol]
  have:=z8i (u:=p.prev.length) (by omega)
  simp; omega
 simp only [List.length_cons,List.length_append,encL,List.length_nil,Nat.reduceAdd] at h4 ⊢
 omega


abbrev Tag:=List UInt8 -> List UInt8 -> List UInt8
def bPostings : List UInt8:=[112,111,115,116,105,110,103,115]
def bPosting : List UInt8:=[112,111,115,116,105,110,103]
def bChain : List UInt8:=[99,104,97,105,110]
def startT (tg : Tag) : List UInt8:=tg bPostings []
def chainT (tg : Tag) (a b : List UInt8) : List UInt8:=tg bChain (a ++ b)
def stepT (tg : Tag) (d : List UInt8) (p : Pst) : List UInt8:=chainT tg d (tg bPosting (encP p))
def digT (tg : Tag) (l : List Pst) : List UInt8:=l.foldl (stepT tg) (startT tg)
theorem zlt {tg : Tag} {l : List Pst} {p : Pst} : digT tg (l ++ [p]) = stepT tg (digT tg l) p:=by simp [digT]
theorem zls {tg : Tag} {l : List Pst} {i : Nat} (h : i < l.length) : digT tg (l.take (i + 1)) = stepT tg (digT tg (l.take i)) l[i]:=by
 rw [List.take_succ_eq_append_getElem h,zlt]

structure atP (tg : Tag) (l : List Pst) (i : Nat) (p : Pst) : Prop where
 no : p.no = i
 prev : p.prev = digT tg (l.take i)
 minute : ∀ j q,j + 1 = i -> l[j]? = some q -> q.minute <= p.minute
def vld (tg : Tag) (l : List Pst) : Prop:=l.length <= 65536 /\ (∀ p,p ∈ l -> gdP p) /\ ∀ i p,l[i]? = some p -> atP tg l i p

open Classical in
noncomputable def firstE : List Pst -> Int
 | []=>0
 | p :: l=>if pchk p = 0 then firstE l else pchk p
open Classical in
noncomputable def rdE (tg : Tag) (l : List Pst) : Int:=if 65536 < l.length then 2 else if firstE l ≠ 0 then firstE l else if vld tg l then 0 else 410

theorem z36 : ∀ {l : List Pst},firstE l = 0 ↔ ∀ p,p ∈ l -> gdP p
 | []=>by simp [firstE]
 | p :: l=>by
  simp only [firstE,List.mem_cons,forall_eq_or_imp]
  split
  ·rename_i h
   rw [z36]
   exact ⟨fun h2=>⟨z2i.1 h,h2⟩,fun h2=>h2.2⟩
  ·rename_i h
   exact ⟨fun h2=>absurd h2 h,fun h2=>absurd (z2i.2 h2.1) h⟩
theorem z1k {tg : Tag} {l : List Pst} : rdE tg l = 0 ↔ vld tg l:=by
 unfold rdE
 constructor
 ·intro h
  split at h
  ·simp at h
  ·split at h
   ·rename_i h2; exact absurd h h2
   ·split at h
    ·assumption
    ·simp at h
 ·intro h
  rw [if_neg (by have:=h.1; omega),if_neg (by simp only [ne_eq,Decidable.not_not]; exact z36.2 h.2.1),if_pos h]

theorem z81 {tg : Tag} : vld tg []:=⟨by simp,by simp,by simp⟩
theorem zmy {tg : Tag} {l : List Pst} {p : Pst} (h : vld tg l) (hl : l.length < 65536) (g : gdP p) (hno : p.no = l.length) (hprev : p.prev = digT tg l) (hm : ∀ q,l.getLast? = some q -> q.minute <= p.minute) : vld tg (l ++ [p]):=by
 refine ⟨by simp; omega,fun q hq=>?_,fun i q hi=>?_⟩
 ·rcases List.mem_append.1 hq with hq | hq
  ·exact h.2.1 q hq
  ·simp at hq; subst hq; exact g
 ·rw [List.getElem?_append] at hi
  split at hi
  ·rename_i hlt
   obtain ⟨a,b,c⟩:=h.2.2 i q hi
   refine ⟨a,?_,fun j r hj hr=>c j r hj ?_⟩
   ·rw [List.take_append_of_le_length (by omega)]; exact b
   ·rw [List.getElem?_append_left (by omega)] at hr; exact hr
  ·rename_i hge
   have hi0 : i = l.length:=by
    have:=(List.getElem?_eq_some_iff.1 hi).1
    simp at this; omega
   subst hi0
   simp at hi; subst hi
   refine ⟨hno,?_,fun j r hj hr=>hm r ?_⟩
   ·rw [List.take_append_of_le_length (Nat.le_refl _),List.take_length]; exact hprev
   ·rw [List.getElem?_append_left (by omega)] at hr
    rw [List.getLast?_eq_getElem?,<- hr]
    congr 1; omega

structure Stp where
 minute : Int
 corrects : Int
 ents : List Ent
def newP (tg : Tag) (l : List Pst) (s : Stp) : Pst:=⟨l.length,s.minute,s.corrects,s.ents,digT tg l⟩
open Classical in
noncomputable def postE (tg : Tag) (l : List Pst) (s : Stp) : Int:=
 if rdE tg l ≠ 0 then rdE tg l else if l.length = 65536 then 2 else if ∃ q,l.getLast? = some q /\ s.minute < q.minute then 410 else pchk (newP tg l s)
theorem z4p {tg : Tag} {l : List Pst} {s : Stp} (h : postE tg l s = 0) : vld tg l /\ l.length < 65536 /\ vld tg (l ++ [newP tg l s]) /\ (∀ q,l.getLast? = some q -> q.minute <= s.minute) /\ gdP (newP tg l s):=by
 unfold postE at h
 split at h
 ·rename_i h1; exact absurd h h1
 ·rename_i h1
  have v:=z1k.1 (Decidable.not_not.1 h1)
  split at h
  ·simp at h
  ·rename_i h2
   have hl : l.length < 65536:=by have:=v.1; omega
   split at h
   ·simp at h
   ·rename_i h3
    have hm : ∀ q,l.getLast? = some q -> q.minute <= s.minute:=fun q hq=>by
     rcases Int.lt_or_le s.minute q.minute with h4 | h4
     ·exact absurd ⟨q,hq,h4⟩ h3
     ·exact h4
    have g:=z2i.1 h
    exact ⟨v,hl,zmy v hl g rfl rfl hm,hm,g⟩
theorem z3m {tg : Tag} {l : List Pst} {s : Stp} (v : vld tg l) (hl : l.length < 65536) (hm : ∀ q,l.getLast? = some q -> q.minute <= s.minute) : postE tg l s = pchk (newP tg l s):=by
 unfold postE
 rw [if_neg (by simp [z1k.2 v]),if_neg (by omega),if_neg]
 rintro ⟨q,h1,h2⟩
 have:=hm q h1
 omega

open Classical in
noncomputable def postS (tg : Tag) (l : List Pst) (s : Stp) : List Pst:=if postE tg l s = 0 then l ++ [newP tg l s] else l
noncomputable def postL (tg : Tag) (ss : List Stp) : List Pst:=ss.foldl (postS tg) []
theorem zk4 {tg : Tag} {l : List Pst} {s : Stp} (v : vld tg l) : vld tg (postS tg l s):=by
 unfold postS
 split
 ·rename_i h; exact (z4p h).2.2.1
 ·exact v
theorem zk5 {tg : Tag} {l : List Pst} {s : Stp} : (postS tg l s).length <= l.length + 1:=by
 unfold postS; split <;> simp
def amtOf (k i : Int) : List Ent -> Int
 | []=>0
 | x :: l=>(if x.kind = k /\ x.idx = i then x.amt else 0) + amtOf k i l
def balP (k i m : Int) : List Pst -> Int
 | []=>0
 | p :: l=>(if p.minute <= m then amtOf k i p.ents else 0) + balP k i m l
theorem zf6 {k i m : Int} (a b : List Pst) : balP k i m (a ++ b) = balP k i m a + balP k i m b:=by
 induction a with
 | nil=>simp [balP]
 | cons x a ih=>simp only [List.cons_append,balP,ih]; omega

end Dv

namespace Dv

def accs (l : List Pst) : List (Int × Int):=l.flatMap fun p=>p.ents.map fun x=>(x.kind,x.idx)

end Dv

namespace Dv
attribute [local simp] List.replicate depth dCell dUse dInts dChoice dVar dProb tStart addO Ret
attribute [local congr] z38 z3d z2j z1u z1h z2k z1e


abbrev xI (n : Int) : D:=.agg [dI 1,dI n,.str [],.imm .exact []]
theorem zor {n : Int} : dV (cI n) = .agg [dI 1,dI n,.str [],.imm .none []]:=by unfold cI; rw [z37]; rfl
theorem ztz {hp : List Obj} {k : Nat} {n : Int} : frz hp (k + 2) (xI n) = some (dV (cI n)):=by rw [zor]; rfl
def is4 (x : D) : Prop:=x.storable = true /\ x.cellsL.length = 4
theorem z9o {l new : List D} (h : l.length + new.length <= 1000000) (hl : ∀ x,x ∈ l -> is4 x) : appOk E 55 l new:=by
 refine ⟨?_,?_,?_,?_⟩
 all_goals simp [maxBytes]
 ·omega
 ·unfold fitsE
  rw [List.all_eq_true]
  intro x hx
  obtain ⟨h1,h2⟩:=hl x hx
  simp [h1,h2]
def Lx (vs : List Int) (i : Nat) : List D:=(vs.take i).map xI
theorem zsy {vs : List Int} : Lx vs 0 = []:=rfl
theorem zue {vs : List Int} : Lx vs vs.length = vs.map xI:=by unfold Lx; rw [List.take_length]
theorem zud {vs : List Int} {i : Nat} (h : i <= vs.length) : (Lx vs i).length = i:=by unfold Lx; rw [List.length_map,List.length_take]; omega
theorem Lx_s {vs : List Int} {i : Nat} (h : i < vs.length) : Lx vs (i + 1) = Lx vs i ++ [xI vs[i]]:=by unfold Lx; rw [List.take_succ_eq_append_getElem h,List.map_append]; rfl
theorem zpz {l : List Int} : ∀ x,x ∈ l.map xI -> is4 x:=by
 intro x hx
 obtain ⟨n,_,rfl⟩:=List.mem_map.1 hx
 exact ⟨rfl,rfl⟩

def LstI (hp : List Obj) (vs : List Int) (d : D) (hp' : List Obj) : Prop:=
 ∃ sp,d = .agg [dI 3,dI 0,.str [],.imm sp (vs.map xI)] /\ Room hp.length hp' sp vs.length 4 /\ Keep hp.length hp.length hp hp' /\ hp.length <= hp'.length

theorem s366 (vs : List Int) (sp0 : Spare) (hp : List Obj) (hv : vs.length <= 100000) : ∃ d hp',runS E (dL E) 366 [.imm sp0 (vs.map dI)] hp = some (d,hp') /\ LstI hp vs d hp':=by
 refine z2z c366 (args:=[.imm sp0 (vs.map dI)]) (hp:=hp) (R:=LstI hp vs) (by simp) ?_
 conv in t366=>reduce; dsimp [Int.negSucc_eq]
 simp [t366,n366]
 refine z1l vs.length (fun i env h=>∃ (x3 x7 x8 : D) (sp : Spare),env = [.imm sp0 (vs.map dI),.loc hp.length 0,.loc (hp.length + 1) 0,x3,.imm sp0 (vs.map dI),dI vs.length,dI i,x7,x8] /\
  At h hp.length (.cells [dI 0,dI 0,.str [],.imm .exact []]) /\ At h (hp.length + 1) (.cells [dI 3,dI 0,.str [],.imm sp (Lx vs i)]) /\ Room (hp.length + 2) h sp i 4 /\ Keep hp.length hp.length hp h /\ hp.length + 2 <= h.length) 0 (by omega) ?_ ?_
 ·rw [zsy]
  exact ⟨_,_,_,.exact,rfl,by simp [At],by simp [At],.inl rfl,Keep.app,by simp⟩
 rintro i env h hi ⟨x3,x7,x8,sp,rfl,a1,a2,R,k,hlen⟩
 have hL : (Lx vs i).length = i:=zud hi
 by_cases hlt : i < vs.length
 ·have hup:=zl hlt (by omega)
  have hap : ∀ x : D,appOk E 55 (Lx vs i) [x]:=fun x=>z9o (by rw [hL]; simp; omega) zpz
  have hsp:=Lx_s hlt
  have h1 : hp.length + 1 < h.length:=by omega
  rcases R with rfl | ⟨q,rfl,hq,hq2⟩
  ·simp [hlt,hup,a2.eq,a2.appE,zi,z1a,hap,hL]
   refine ⟨a1.app.ne (by omega),.tok h.length,by rw [hsp]; exact At.self (by simp; omega),.inr ⟨h.length,rfl,by omega,?_⟩,(k.trans Keep.app).trans (Keep.set (.inr (by omega))),by omega⟩
   exact At.ne (by simp [At]) (by omega)
  ·have hq3:=hq2.eq
   have a2':=a2.ne (j:=q) (x:=Obj.dead) (by omega)
   have a1':=a1.ne (j:=q) (x:=Obj.dead) (by omega)
   simp [hlt,hup,a2.eq,a2'.appE,zi,z1o,hap,hL,hq3]
   refine ⟨a1'.app.ne (by omega),.tok h.length,by rw [hsp]; exact At.self (by simp; omega),.inr ⟨h.length,rfl,by omega,?_⟩,((k.trans (Keep.set (.inr (by omega)))).trans Keep.app).trans (Keep.set (.inr (by omega))),by omega⟩
   exact At.ne (by simp [At]) (by omega)
 ·have : i = vs.length:=by omega
  subst this
  rw [zue] at a2
  have h0 : hp.length < h.length:=by omega
  have a3 : ∀ o,(h.set hp.length o)[hp.length]? = some o:=fun o=>At.self h0
  simp [a1.eq,a2.eq,a3]
  refine ⟨sp,rfl,?_,k.trans (Keep.set (.inr (by omega))),by simp; omega⟩
  rcases R with rfl | ⟨q,rfl,hq,hq2⟩
  ·exact .inl rfl
  ·exact .inr ⟨q,rfl,by omega,hq2.ne (by omega)⟩

theorem zg3 {A : Type} {f : D -> Option D} {g g' : A -> D} : ∀ {l : List A},(∀ x,x ∈ l -> f (g x) = some (g' x)) -> frzL f (l.map g) = some (l.map g')
 | [],_=>rfl
 | x :: l,h=>by
  rw [List.map_cons,List.map_cons,z3f,h x (by simp),zg3 fun y hy=>h y (by simp [hy])]; rfl
theorem zsf {vs : List Int} : dV (cL (vs.map cI)) = .agg [dI 3,dI 0,.str [],.imm .none (vs.map fun n=>dV (cI n))]:=by
 unfold cL; rw [z37,List.map_map]; rfl
theorem r366 (vs : List Int) (hv : vs.length <= 100000) : runP E (dL E) 366 [.imm .none (vs.map dI)] = some (dV (cL (vs.map cI))):=by
 obtain ⟨d,hp',e,sp,rfl,_⟩:=s366 vs .none [] hv
 unfold runP
 have hk : E.keep 366 = false:=rfl
 have hz : frz hp' depth (.agg [dI 3,dI 0,.str [],.imm sp (vs.map xI)]) = some (dV (cL (vs.map cI))):=by
  have : frzL (frz hp' 10) (vs.map xI) = some (vs.map fun n=>dV (cI n)):=zg3 fun n _=>ztz
  rw [zsf]
  show frz hp' 12 _ = _
  have hs : frz hp' 11 (.str []) = some (.str []):=rfl
  simp [this,hs]
 simp [e,hk]
 exact hz

def cmpE (a b : Ent) : Int:=orI [cmpI a.kind b.kind,cmpI a.idx b.idx]
theorem r362 (a b : Ent) : runP E (dL E) 362 [dAcc a.kind a.idx,dAcc b.kind b.idx] = some (dI (cmpE a b)):=by
 have h1:=r74 a.kind b.kind
 have h2:=r74 a.idx b.idx
 have h3:=r105 [cmpI a.kind b.kind,cmpI a.idx b.idx] (by simp)
 simp only [dInts,List.map_cons,List.map_nil] at h3
 refine zx c362 (by simp) ?_
 conv in t362=>reduce; dsimp [Int.negSucc_eq]
 simp [t362,n362,h1,h2,h3]
 try rfl
theorem zm1 {a b : Ent} : cmpE a b < 0 ↔ ltA a b:=by
 unfold cmpE ltA cmpI
 simp only [orI]
 repeat' split
 all_goals omega

theorem ztw {P : Prop} [Decidable P] {b : Bool} : (if P then some (D.bool true) else some (D.bool b)) = some (D.bool (decide P || b)):=by
 by_cases h : P <;> simp [h]
theorem zkt {a b : Bool} : iteD (.bool a) (some (.bool true)) (some (.bool b)) = some (.bool (a || b)):=by
 cases a <;> rfl

def okTo (l : List Ent) (i : Nat) : Prop:=(∀ j,∀ h : j < l.length,j < i -> okEnt l[j]) /\ ∀ j,∀ h : j + 1 < l.length,j + 1 < i -> ltA l[j] l[j + 1]
theorem zk8 {l : List Ent} : okTo l 0:=⟨fun _ _ h=>absurd h (by omega),fun _ _ h=>absurd h (by omega)⟩
theorem zni {l : List Ent} (h : okTo l l.length) : (∀ x,x ∈ l -> okEnt x) /\ ordE l:=by
 refine ⟨fun x hx=>?_,fun j hj=>h.2 j hj hj⟩
 obtain ⟨j,hj,rfl⟩:=List.mem_iff_getElem.1 hx
 exact h.1 j hj hj
theorem zpy {l : List Ent} {i : Nat} (hi : i < l.length) (h : okTo l i) (hx : okEnt l[i]) (ho : ∀ h : 0 < i,ltA (l[i - 1]'(by omega)) l[i]) : okTo l (i + 1):=by
 constructor
 ·intro j hj hji
  by_cases e : j = i
  ·subst e; exact hx
  ·exact h.1 j hj (by omega)
 ·intro j hj hji
  by_cases e : j + 1 = i
  ·subst e
   exact ho (by omega)
  ·exact h.2 j hj (by omega)
theorem zpr {l : List Ent} {i : Nat} (h : i < l.length) : sumE (l.take (i + 1)) = sumE (l.take i) + l[i].amt:=by
 rw [List.take_succ_eq_append_getElem h,zdv]; simp [sumE]
theorem zra {l : List Ent} {i : Nat} (h : okTo l i) : i <= l.length -> -(i * 1099511627776 : Int) <= sumE (l.take i) /\ sumE (l.take i) <= (i * 1099511627776 : Int):=by
 induction i with
 | zero=>intro _; simp [sumE]
 | succ i ih=>
  intro hi
  have h1:=ih ⟨fun j hj hji=>h.1 j hj (by omega),fun j hj hji=>h.2 j hj (by omega)⟩ (by omega)
  have h2:=h.1 i hi (by omega)
  rw [zpr hi]
  obtain ⟨_,_,_,h3,h4⟩:=h2
  push_cast
  omega
theorem zbd {p : Pst} (h : ¬ fmP p) : pchk p = 410:=by unfold pchk; rw [if_neg h]

theorem r355 (p : Pst) (h32 : p.prev.length = 32) (hl : p.ents.length <= 1000000) : runP E (dL E) 355 [dPst p] = some (dI (pchk p)):=by
 refine zx c355 (by simp) ?_
 conv in t355=>reduce; dsimp [Int.negSucc_eq]
 obtain ⟨no,minute,corrects,ents,prev⟩:=p
 simp only at h32 hl
 simp [t355,n355,h32,ztw,zkt]
 split
 ·rename_i hb
  rw [zbd]
  rintro ⟨h1,h2,h3,⟨h4,h5,h6,h7⟩⟩
  simp only at h1 h2 h3 h4 h5
  omega
 rename_i hg
 refine z1l ents.length (fun i env h=>∃ (x0 x2 x4 x5 x6 x10 x11 x12 x13 x14 : D) ,env = [x0,.iptr (dI no :: dI minute :: dI corrects :: .imm .none (ents.map dEnt) :: prev.map byteD),x2,dI (sumE (ents.take i)),x4,x5,x6,.imm .none (ents.map dEnt),dI ents.length,dI i,x10,x11,x12,x13,x14] /\ okTo ents i) 0 (by omega) ?_ ?_
 ·exact ⟨_,_,_,_,_,_,_,_,_,_,rfl,zk8⟩
 rintro i env h hi ⟨x0,x2,x4,x5,x6,x10,x11,x12,x13,x14,rfl,ok⟩
 by_cases hlt : i < ents.length
 ·have hup:=zl hlt (by omega)
  have hbad : ¬ okEnt ents[i] -> pchk { no:=no,minute:=minute,corrects:=corrects,ents:=ents,prev:=prev } = 410:=fun hx=>zbd fun f=>hx (f.ents.ok _ (List.getElem_mem hlt))
  have hs:=zpr hlt
  have hsb:=zra ok hi
  simp [hlt,hup,ztw,zkt]
  split
  ·rename_i hb
   refine (hbad fun hx=>?_).symm
   obtain ⟨h1,h2,h3,h4,h5⟩:=hx
   omega
  rename_i hb
  have hx : okEnt ents[i]:=⟨by omega,by omega,by omega,by omega,by omega⟩
  have hsw : Go.IntKind.i64.wrap (sumE (ents.take i) + ents[i].amt) = sumE (ents.take (i + 1)):=by
   rw [hs]
   refine za ⟨?_,?_⟩ <;> omega
  by_cases h0 : i = 0
  ·have ok':=zpy hlt ok hx (fun h=>absurd h (by omega))
   subst h0
   simp at hsw
   have h1 : Go.IntKind.i64.wrap 1 = 1:=by decide
   simp [hsw,h1,hlt]
   exact ok'
  ·have hw : Go.IntKind.i64.wrap ((i : Int) - 1) = ((i - 1 : Nat) : Int):=by rw [za ⟨by omega,by omega⟩]; omega
   have hlt' : i - 1 < ents.length:=by omega
   have h0' : 0 < i:=by omega
   have hc:=r362 ents[i - 1] ents[i]
   by_cases hq : ltA ents[i - 1] ents[i]
   ·have ok':=zpy hlt ok hx (fun _=>hq)
    have hn : ¬ 0 <= cmpE ents[i - 1] ents[i]:=by have:=zm1.2 hq; omega
    simp [h0',hw,hlt',hc,hn,hsw,hup]
    exact ok'
   ·have hn : 0 <= cmpE ents[i - 1] ents[i]:=by
     by_cases h : cmpE ents[i - 1] ents[i] < 0
     ·exact absurd (zm1.1 h) hq
     ·omega
    simp [h0',hw,hlt',hc,hn]
    refine (zbd fun f=>hq ?_).symm
    have:=f.ents.ord (i - 1) (by simp only; omega)
    simp only [show i - 1 + 1 = i from by omega] at this
    exact this
 ·have : i = ents.length:=by omega
  subst this
  rw [List.take_length]
  obtain ⟨o1,o2⟩:=zni ok
  have hf : fmP { no:=no,minute:=minute,corrects:=corrects,ents:=ents,prev:=prev }:=⟨by simp only; omega,by simp only; omega,by simp only; omega,by simp only; omega,by simp only; omega,o1,o2⟩
  unfold pchk
  rw [if_pos hf]
  by_cases h0 : sumE ents = 0 <;> simp [h0]

def Le (l : List Ent) (i : Nat) : List D:=(l.take i).map fun x=>dV (entV x)
theorem zsz {l : List Ent} : Le l 0 = []:=rfl
theorem zug {l : List Ent} : Le l l.length = l.map fun x=>dV (entV x):=by unfold Le; rw [List.take_length]
theorem zuf {l : List Ent} {i : Nat} (h : i <= l.length) : (Le l i).length = i:=by unfold Le; rw [List.length_map,List.length_take]; omega
theorem Le_s {l : List Ent} {i : Nat} (h : i < l.length) : Le l (i + 1) = Le l i ++ [dV (entV l[i])]:=by unfold Le; rw [List.take_succ_eq_append_getElem h,List.map_append]; rfl
theorem Le_4 {l : List Ent} {i : Nat} : ∀ x,x ∈ Le l i -> is4 x:=by
 intro x hx
 obtain ⟨e,_,rfl⟩:=List.mem_map.1 hx
 constructor
 ·rw [entV,cL,z37]; rfl
 ·rw [entV,cL,z37]; rfl

theorem At.dif {hp : List Obj} {i j : Nat} {a b : Obj} (h : At hp i a) (h' : At hp j b) (hn : a ≠ b) : i ≠ j:=by
 rintro rfl
 unfold At at h h'
 rw [h] at h'
 exact hn (Option.some.inj h')
theorem zu1 {hp : List Obj} {n : Nat} {l : List Ent} (h : ∀ x,x ∈ l -> i64 x.kind /\ i64 x.idx /\ i64 x.amt) : frzL (frz hp (n + 4)) (Le l l.length) = some (l.map fun x=>dV (entV x)):=by
 rw [zug]
 exact z13 fun x hx=>zq2 1 (entV x) (zlg (h x hx)) (by rw [zlu]; omega) (n + 4) (by omega)
theorem zu5 {p : Pst} : dV (pstV p) = .agg [dI 3,dI 0,.str [],.imm .none [dV (cI p.no),dV (cI p.minute),dV (cI p.corrects),.agg [dI 3,dI 0,.str [],.imm .none (p.ents.map fun x=>dV (entV x))],.agg [dI 2,dI 0,.str p.prev,.imm .none []]]]:=by
 unfold pstV cL cT
 rw [z37]
 simp only [List.map_cons,List.map_nil,z37,List.map_map]
 rfl
theorem zlh {p : Pst} (h : i64P p) (hl : p.ents.length <= 1000000) (h32 : p.prev.length = 32) : fmdOk (pstV p):=by
 have:=zgc h hl (by omega)
 unfold encP at this
 exact ⟨zs7 h,by have:=zse (p:=p); omega,by omega⟩
theorem z88 {l : List UInt8} (h : l.length = 32) : sliceD E 73 (.iptr (l.map byteD)) none none none = some (.imm .none (l.map byteD)):=by
 unfold sliceD
 simp [h,bnd]
 rw [List.take_of_length_le (by simp [h])]

noncomputable def encR (p : Pst) : D:=if pchk p = 0 then .tup [dBy (encP p),dI 0] else .tup [.imm .none [],dI (pchk p)]

theorem z1s : ∀ (n k : Nat) (cs : List D),cs.length = k + n -> takeC cs k n = some (cs.drop k)
 | 0,k,cs,h=>by rw [takeC,List.drop_of_length_le (by omega)]
 | n + 1,k,cs,h=>by
  have hk : k < cs.length:=by omega
  rw [takeC,z1s n (k + 1) cs (by omega),List.getElem?_eq_getElem hk,List.drop_eq_getElem_cons hk]
theorem zky {p : Pst} (h32 : p.prev.length = 32) : iloadD E 71 (.iptr (dI p.no :: dI p.minute :: dI p.corrects :: .imm .none (p.ents.map dEnt) :: p.prev.map byteD)) = some (dPst p):=by
 rw [z1r]
 have e:=z1s 36 0 (dI p.no :: dI p.minute :: dI p.corrects :: .imm .none (p.ents.map dEnt) :: p.prev.map byteD) (by simp [h32])
 rw [show (E.ty 71).size = 36 from rfl,e]
 rfl
theorem zc {hp : List Obj} {n : Nat} {l : List UInt8} : frzL (frz hp (n + 1)) (l.map byteD) = some (l.map byteD):=z13 fun x _=>rfl
theorem zm {hp : List Obj} {n : Nat} {l : List Ent} : frzL (frz hp (n + 2)) (l.map dEnt) = some (l.map dEnt):=z13 fun x _=>rfl
theorem zs5 {hp : List Obj} {n : Nat} {p : Pst} : frz hp (n + 5) (dPst p) = some (dPst p):=by
 show frz hp (n + 5) (.agg _) = _
 rw [z6p]
 simp only [z3f,z5c,z4i,zm,Option.map_some,z7,zc]

theorem zsd {hp r : List Obj} {k : Nat} {o : Obj} (h : At r k o) (hk : hp.length <= k) : At (hp ++ r.drop hp.length) k o:=by
 unfold At at h ⊢
 rw [List.getElem?_append_right hk,List.getElem?_drop]
 rw [show hp.length + (k - hp.length) = k from by omega]
 exact h
theorem mk366 (vs : List Int) (sp0 : Spare) (hp : List Obj) (hv : vs.length <= 100000) : ∃ d sp r,makD (runS E (dL E)) 366 [.imm sp0 (vs.map dI)] hp = some (d,hp ++ r) /\ d = .agg [dI 3,dI 0,.str [],.imm sp (vs.map xI)] /\ Room hp.length (hp ++ r) sp vs.length 4:=by
 obtain ⟨d,h',e,sp,rfl,R,k,hl⟩:=s366 vs sp0 (List.replicate hp.length .dead) hv
 rw [List.length_replicate] at R k hl
 refine ⟨_,sp,h'.drop hp.length,?_,rfl,?_⟩
 ·unfold makD
  rw [e]
  rfl
 ·rcases R with rfl | ⟨q,rfl,hq,hq2⟩
  ·exact .inl rfl
  ·exact .inr ⟨q,rfl,hq,zsd hq2 hq⟩

theorem r334 (p : Pst) (h32 : p.prev.length = 32) (hl : p.ents.length <= 1000000) : runP E (dL E) 334 [dPst p] = some (encR p):=by
 refine zx c334 (by simp) ?_
 conv in t334=>reduce; dsimp [Int.negSucc_eq]
 have h355:=r355 p h32 hl
 unfold encR
 obtain ⟨no,minute,corrects,ents,prev⟩:=p
 simp only at h32 hl
 have hil:=zky (p:={ no:=no,minute:=minute,corrects:=corrects,ents:=ents,prev:=prev }) h32
 simp only at hil
 by_cases hg : pchk { no:=no,minute:=minute,corrects:=corrects,ents:=ents,prev:=prev } = 0
 ·rw [if_pos hg]
  rw [hg] at h355
  obtain ⟨d1,sp1,r1,e1,rfl,R1⟩:=mk366 [no,minute,corrects] .none [] (by simp)
  obtain ⟨d2,sp2,r2,e2,rfl,R2⟩:=mk366 [] .none r1 (by simp)
  have g1:=(z2i.1 hg).fm
  have hln : ents.length <= 4096:=g1.ents.most
  rw [List.nil_append] at e1 R1
  have S1 : ∃ G : List Obj,G = r1 ++ r2 /\ ∀ k,sp1 = .tok k -> At G k (.tok 12 4) /\ k < r1.length:=⟨_,rfl,fun k hk=>by
   rcases R1 with rfl | ⟨q,rfl,_,hq⟩
   ·cases hk
   ·cases hk
    exact ⟨At.app hq,At.lt hq⟩⟩
  have R1' : sp1 = .exact \/ ∃ k,sp1 = .tok k:=by
   rcases R1 with h | ⟨q,h,_⟩
   ·exact .inl h
   ·exact .inr ⟨q,h⟩
  obtain ⟨G,hG,T⟩:=S1
  rw [<- hG] at e2 R2
  have hG1 : r1.length <= G.length:=by rw [hG]; simp
  clear hG R1
  simp at e1 e2 R2
  have w1 : ∀ x y : Obj,(G ++ [x,y])[G.length + 1]? = some y:=fun x y=>by simp
  have w2 : ∀ x y z : Obj,(G ++ [x,y]).set (G.length + 1) z = G ++ [x,z]:=fun x y z=>by simp
  simp [t334,n334,h32,h355,z5o,↓hil,zm,zc,e1,e2,↓w1,↓w2]
  refine z1l ents.length (fun i env h=>∃ (x0 x2 x3 x4 x7 x8 x9 x10 x14 x15 x16 x17 x18 : D) (sp : Spare),env = [x0,.iptr (dI no :: dI minute :: dI corrects :: .imm .none (ents.map dEnt) :: prev.map byteD),x2,x3,x4,.loc G.length 0,.loc (G.length + 1) 0,x7,x8,x9,x10,.imm .none (ents.map dEnt),dI ents.length,dI i,x14,x15,x16,x17,x18] /\
   At h G.length (.cells [dI 3,dI 0,.str [],.imm sp1 [xI no,xI minute,xI corrects]]) /\ At h (G.length + 1) (.cells [dI 3,dI 0,.str [],.imm sp (Le ents i)]) /\ (∀ k,sp1 = .tok k -> At h k (.tok 12 4)) /\ Room r1.length h sp i 4 /\ G.length + 2 <= h.length) 0 (by omega) ?_ ?_
  ·refine ⟨_,_,_,_,_,_,_,_,_,_,_,_,_,sp2,rfl,by simp [At],by simp [At,zsz],fun k hk=>(T k hk).1.app,?_,by simp⟩
   rcases R2 with h | ⟨q,h,hq,hq2⟩
   ·exact .inl h
   ·exact .inr ⟨q,h,hq,hq2.app⟩
  rintro i env h hi ⟨x0,x2,x3,x4,x7,x8,x9,x10,x14,x15,x16,x17,x18,sp,rfl,a1,a2,T1,T3,hlen⟩
  have hL : (Le ents i).length = i:=zuf hi
  by_cases hlt : i < ents.length
  ·have hup:=zl hlt (by omega)
   have e4:=r366 [ents[i].kind,ents[i].idx,ents[i].amt] (by simp)
   simp only [List.map_cons,List.map_nil] at e4
   have hap : ∀ x : D,appOk E 55 (Le ents i) [x]:=fun x=>z9o (by rw [hL]; simp; omega) Le_4
   have hv : dV (cL [cI ents[i].kind,cI ents[i].idx,cI ents[i].amt]) = dV (entV ents[i]):=rfl
   have h4 : is4 (dV (entV ents[i])):=Le_4 (l:=ents) (i:=i + 1) _ (by rw [Le_s hlt]; simp)
   have hsp:=Le_s hlt
   have nt : ∀ (i : Nat) (l : List D) (a b : Nat),Obj.tok a b ≠ .cells l:=fun _ _ _ _ e=>by cases e
   have T2 : ∀ k,sp1 = .tok k -> k < r1.length:=fun k hk=>(T k hk).2
   have T4 : ∀ k,sp1 = .tok k -> k < h.length /\ k ≠ G.length /\ k ≠ G.length + 1:=fun k hk=>⟨(T1 k hk).lt,(T1 k hk).dif a1 (nt 0 _ _ _),(T1 k hk).dif a2 (nt 0 _ _ _)⟩
   rcases T3 with rfl | ⟨q,rfl,hq,hq2⟩
   ·have a3 : ∀ X o,((h ++ X).set (h.length + 1 + 13) o)[G.length + 1]? = some (.cells [dI 3,dI 0,.str [],.imm .exact (Le ents i)]):=fun X o=>(a2.app (r:=X)).ne (by omega)
    simp [hlt,hup,a2.appE,zi,z1a,hap,hL,e4,hv,h4.1,h4.2,↓a3]
    refine ⟨((a1.app).ne (by omega)).ne (by omega),.tok (h.length + 1 + 13),by rw [hsp]; exact At.self (by simp; omega),fun k hk=>?_,.inr ⟨_,rfl,by omega,?_⟩,by omega⟩
    ·obtain ⟨k1,k2,k3⟩:=T4 k hk
     exact (((T1 k hk).app).ne (by omega)).ne (by omega)
    ·exact (At.self (by simp)).ne (by omega)
   ·have q1 : q ≠ G.length:=hq2.dif a1 (nt 0 _ _ _)
    have q2 : q ≠ G.length + 1:=hq2.dif a2 (nt 0 _ _ _)
    have hq3 : ∀ X,(h ++ X)[q]? = some (.tok (i * 4) 4):=fun X=>hq2.app (r:=X)
    have hql:=hq2.lt
    have a2' : At (h.set q .dead) (G.length + 1) (.cells [dI 3,dI 0,.str [],.imm (.tok q) (Le ents i)]):=a2.ne (by omega)
    have a1':=a1.ne (j:=q) (x:=.dead) (by omega)
    have a3 : ∀ X o,((h.set q .dead ++ X).set (h.length + 1 + 13) o)[G.length + 1]? = some (.cells [dI 3,dI 0,.str [],.imm (.tok q) (Le ents i)]):=fun X o=>(a2'.app (r:=X)).ne (by omega)
    have hs : ∀ X o,(h ++ X).set q o = h.set q o ++ X:=fun X o=>z1y hql
    simp [hlt,hup,a2.appE,zi,z1o,hap,hL,e4,hv,h4.1,h4.2,↓a3,hq3,↓hs]
    refine ⟨((a1'.app).ne (by omega)).ne (by omega),.tok (h.length + 1 + 13),by rw [hsp]; exact At.self (by simp; omega),fun k hk=>?_,.inr ⟨_,rfl,by omega,?_⟩,by omega⟩
    ·obtain ⟨k1,k2,k3⟩:=T4 k hk
     have:=T2 k hk
     exact ((((T1 k hk).ne (by omega)).app).ne (by omega)).ne (by omega)
    ·exact (At.self (by simp)).ne (by omega)
  ·have : i = ents.length:=by omega
   subst this
   have hap : ∀ x y : D,appOk E 55 [xI no,xI minute,xI corrects] [x,y]:=fun x y=>z9o (by simp) fun z hz=>zpz (l:=[no,minute,corrects]) z hz
   have hsl:=z88 h32
   have hi64:=zl1 g1
   have hz:=zu1 (hp:=[]) (n:=4) hi64.ents
   have hst : ∀ n s,frz [] (n + 1) (.str s) = some (.str s):=fun _ _=>rfl
   have e64:=r264 (zlh hi64 hl h32)
   rw [zu5,zor,zor,zor] at e64
   simp only at hz e64
   have hGl : G.length < h.length:=by omega
   have hr : ∀ (X : List Obj) (o : Obj),((h ++ X).set G.length o)[G.length]? = some o:=fun X o=>At.self (by simp; omega)
   rcases R1' with rfl | ⟨k1,rfl⟩
   ·simp [a1.appE,a2.appE,hsl,zbz,zi,z1a,hap,↓hr,hz,hst,e64,zc]
    rfl
   ·have hk:=(T1 k1 rfl)
    have hk1 : k1 ≠ G.length:=hk.dif a1 (fun e=>by cases e)
    have hkl:=hk.lt
    have hk2 : ∀ X : List Obj,(h ++ X)[k1]? = some (.tok 12 4):=fun X=>hk.app (r:=X)
    have hs : ∀ (X : List Obj) (o : Obj),(h ++ X).set k1 o = h.set k1 o ++ X:=fun X o=>z1y hkl
    have a1':=a1.ne (j:=k1) (x:=.dead) (by omega)
    have hw : ∀ X : List Obj,(h.set k1 .dead ++ X)[G.length]? = some (.cells [dI 3,dI 0,.str [],.imm (.tok k1) [xI no,xI minute,xI corrects]]):=fun X=>a1'.app (r:=X)
    have hr' : ∀ (X : List Obj) (o : Obj),((h.set k1 .dead ++ X).set G.length o)[G.length]? = some o:=fun X o=>At.self (by simp; omega)
    simp [a1.appE,a2.appE,hsl,zbz,zi,z1o,hap,↓hk2,↓hs,hw,↓hr',hz,hst,e64,zc]
    rfl
 ·rw [if_neg hg]
  simp [t334,n334,h32,h355,hg,↓hil,zm,zc]

abbrev Wd:=BitVec 32
abbrev dW (w : Wd) : D:=.int .u32 (w.toNat : Int)
theorem z4m (m : Int) : Go.IntKind.u32.wrap m = m % 4294967296:=by simp [Go.IntKind.wrap,Go.IntKind.bits,Go.IntKind.signed]
theorem zby : Go.IntKind.u32.bits = 32:=rfl
theorem zha {w : Wd} : BitVec.ofInt 32 (w.toNat : Int) = w:=by simp
theorem zqp {a b : Wd} : Go.IntKind.u32.wrap ((a.toNat : Int) + b.toNat) = ((a + b).toNat : Nat):=by
 rw [z4m,BitVec.toNat_add]; omega
theorem w_lt {w : Wd} : w.toNat < 4294967296:=w.isLt
theorem zqo {w : Wd} : ((w.toNat : Nat) : Int) % 4294967296 = w.toNat:=by have:=w_lt (w:=w); omega
theorem zqm {a b : Wd} : xorI .u32 (a.toNat : Int) b.toNat = ((a ^^^ b).toNat : Nat):=by
 unfold xorI
 rw [z4m,show Go.IntKind.u32.bits = 32 from rfl,zha,zha,zqo]
theorem w_and {a b : Wd} : andI .u32 (a.toNat : Int) b.toNat = ((a &&& b).toNat : Nat):=by
 unfold andI
 rw [z4m,show Go.IntKind.u32.bits = 32 from rfl,zha,zha,zqo]
theorem w_or {a b : Wd} : iorI .u32 (a.toNat : Int) b.toNat = ((a ||| b).toNat : Nat):=by
 unfold iorI
 rw [z4m,show Go.IntKind.u32.bits = 32 from rfl,zha,zha,zqo]
theorem zt9 {a : Wd} {n : Nat} (h : n <= 32) : Go.IntKind.u32.wrap ((a.toNat : Int) * 2 ^ (min n 32)) = ((a <<< n).toNat : Nat):=by
 rw [z4m,BitVec.toNat_shiftLeft,Nat.shiftLeft_eq,Nat.min_eq_left h]
 have e : (a.toNat : Int) * 2 ^ n = ((a.toNat * 2 ^ n : Nat) : Int):=by rw [Int.natCast_mul,Int.natCast_pow]; rfl
 rw [e,show (2 : Nat) ^ 32 = 4294967296 from rfl]
 omega
theorem zqn {a : Wd} {n : Nat} (h : n <= 32) : (a.toNat : Int).fdiv (2 ^ (min n 32)) = ((a >>> n).toNat : Nat):=by
 rw [BitVec.toNat_ushiftRight,Nat.shiftRight_eq_div_pow,Nat.min_eq_left h,Int.fdiv_eq_ediv_of_nonneg _ (Int.pow_nonneg (by decide)),Int.natCast_ediv,Int.natCast_pow]
 rfl

def rotW (x : Wd) (s : Nat) : Wd:=(x <<< s) ||| (x >>> (32 - s))
theorem ztf (k : Int) : andI .u64 (Go.IntKind.u64.wrap k) 31 = k % 32:=by
 unfold andI
 rw [z21,z21,show Go.IntKind.u64.bits = 64 from rfl]
 have : (BitVec.ofInt 64 (k % 18446744073709551616) &&& BitVec.ofInt 64 31).toNat = (k % 18446744073709551616).toNat % 32:=by
  rw [BitVec.toNat_and]
  have h1 : (BitVec.ofInt 64 31).toNat = 31:=by decide
  rw [h1]
  have h2 : (BitVec.ofInt 64 (k % 18446744073709551616)).toNat = (k % 18446744073709551616).toNat:=by
   rw [BitVec.toNat_ofInt]
   show ((k % 18446744073709551616) % 18446744073709551616).toNat = _
   omega
  rw [h2]
  exact Nat.and_two_pow_sub_one_eq_mod _ 5
 rw [this]
 omega

theorem r406 (x : Wd) (k : Int) (h : i64 k) : runP E (dL E) 406 [dW x,dI k] = some (dW (rotW x (k % 32).toNat)):=by
 refine zx c406 (by simp) ?_
 conv in t406=>reduce; dsimp [Int.negSucc_eq]
 have e:=ztf k
 obtain ⟨s,hs⟩ : ∃ s : Nat,k % 32 = s:=⟨(k % 32).toNat,by omega⟩
 have hs32 : s < 32:=by omega
 rw [hs] at e ⊢
 have hw : Go.IntKind.u64.wrap (32 - (s : Int)) = ((32 - s : Nat) : Int):=by rw [z21]; omega
 have e1:=zt9 (a:=x) (n:=s) (by omega)
 have e2:=zqn (a:=x) (n:=32 - s) (by omega)
 have e3:=w_or (a:=x <<< s) (b:=x >>> (32 - s))
 rw [Nat.min_eq_left (by omega)] at e1 e2
 have m1 : min s 32 = s:=Nat.min_eq_left (by omega)
 have m2 : min (32 - s) 32 = 32 - s:=Nat.min_eq_left (by omega)
 simp [t406,n406,convD,zby,e,hw,m1,m2,e1,e2,e3,-BitVec.toNat_shiftLeft,-BitVec.toNat_ushiftRight,-BitVec.toNat_or]
 rfl

theorem r407 (x : Wd) (a b c : Int) (ha : 0 <= a /\ a <= 100) (hb : 0 <= b /\ b <= 100) (hc : 0 <= c /\ c <= 100) :
  runP E (dL E) 407 [dW x,dI a,dI b,dI c] = some (dW (rotW x (-a % 32).toNat ^^^ rotW x (-b % 32).toNat ^^^ rotW x (-c % 32).toNat)):=by
 refine zx c407 (by simp) ?_
 conv in t407=>reduce; dsimp [Int.negSucc_eq]
 have e1:=r406 x (-a) ⟨by omega,by omega⟩
 have e2:=r406 x (-b) ⟨by omega,by omega⟩
 have e3:=r406 x (-c) ⟨by omega,by omega⟩
 have h1 : Go.IntKind.i64.wrap (-a) = -a:=za ⟨by omega,by omega⟩
 have h2 : Go.IntKind.i64.wrap (-b) = -b:=za ⟨by omega,by omega⟩
 have h3 : Go.IntKind.i64.wrap (-c) = -c:=za ⟨by omega,by omega⟩
 simp [t407,n407,e1,e2,e3,h1,h2,h3,zqm,-BitVec.toNat_xor]

def wrdB (b : List UInt8) (n : Nat) : Wd:=(b.take n).foldl (fun w c=>(w <<< 8) ||| BitVec.ofNat 32 c.toNat) 0
theorem zt5 {b : List UInt8} {n : Nat} (h : n < b.length) : wrdB b (n + 1) = (wrdB b n <<< 8) ||| BitVec.ofNat 32 b[n].toNat:=by
 unfold wrdB
 rw [List.take_succ_eq_append_getElem h,List.foldl_append]; rfl

theorem zfy {l : List UInt8} : headFits 1 (l.map byteD) = true:=by cases l <;> rfl
theorem zfh {b : List UInt8} {i : Nat} (h : i <= b.length) : sliceD E 30 (.imm .none (b.map byteD)) none (some (dI i)) none = some (.imm .none ((b.take i).map byteD)):=by
 unfold sliceD
 simp [bnd]
 exact ⟨⟨h,zfy⟩,by unfold sliceSpare; simp⟩
theorem z1w {E : Env} {cP : Nat -> List D -> Option D} {env : List D} {hp : List Obj} {a t : Nat} {d : D} {x : Xp} : xv E cP env hp (.n (.slice t (.t a) none (some (.c d)) none) (.cons a x .nil)) = ob (xv E cP env hp x) fun u=>sliceD E t u none (some d) none:=by
 simp only [xv,xvs]
 cases xv E cP env hp x <;> try rfl
 simp only [pureOp,gOf,kv,if_true,z7]
 exact zu

theorem r405 (b : List UInt8) (h : 4 <= b.length) : runP E (dL E) 405 [.imm .none (b.map byteD)] = some (dW (wrdB b 4)):=by
 refine zx c405 (by simp) ?_
 conv in t405=>reduce; dsimp [Int.negSucc_eq]
 have e:=zfh h
 have hl : ((b.take 4).map byteD).length = 4:=by simp; omega
 have e : sliceD E 30 (.imm .none (b.map byteD)) none (some (.int .i64 4)) none = some (.imm .none ((b.take 4).map byteD)):=e
 simp [t405,n405,e,z1w]
 rw [Nat.min_eq_left h]
 refine z1l 4 (fun i env h=>∃ (x0 x2 x6 : D) ,env = [x0,dW (wrdB b i),x2,.imm .none ((b.map byteD).take 4),dI 4,dI i,x6]) 0 (by omega) ?_ ?_
 ·exact ⟨_,_,_,rfl⟩
 rintro i env hp hi ⟨x0,x2,x6,rfl⟩
 by_cases hlt : i < 4
 ·have hup:=zl hlt (by omega)
  have hib : i < b.length:=by omega
  have hs:=zt5 hib
  have e1:=zt9 (a:=wrdB b i) (n:=8) (by omega)
  have hc : b[i].toNat < 256:=b[i].toNat_lt
  have e2 : Go.IntKind.u32.wrap (b[i].toNat : Int) = ((BitVec.ofNat 32 b[i].toNat).toNat : Nat):=by
   rw [z4m,BitVec.toNat_ofNat]; omega
  have e3:=w_or (a:=wrdB b i <<< 8) (b:=BitVec.ofNat 32 b[i].toNat)
  have hi4 : (i : Int) < 4:=by omega
  rw [Nat.min_eq_left (by omega)] at e1
  have e1 : Go.IntKind.u32.wrap (((wrdB b i).toNat : Int) * 256) = ((wrdB b i <<< 8).toNat : Nat):=e1
  simp [hi4,hlt,hup,convD,zby,e1,e2,e3,hs,hib,-BitVec.toNat_shiftLeft,-BitVec.toNat_or,-BitVec.toNat_ofNat]
 ·have : i = 4:=by omega
  subst this
  simp

def putK (m : List UInt8) (off n v : Nat) : Nat -> List UInt8
 | 0=>m
 | i + 1=>(putK m off n v i).set (off + (n - 1 - i)) (UInt8.ofNat (v / 2 ^ (8 * i)))
theorem z4o {m : List UInt8} {off n v : Nat} : ∀ {i : Nat},(putK m off n v i).length = m.length
 | 0=>rfl
 | i + 1=>by rw [putK,List.length_set,z4o]
theorem zjg (m : Int) : Go.IntKind.u8.wrap m = m % 256:=by simp [Go.IntKind.wrap,Go.IntKind.bits,Go.IntKind.signed]
theorem zne {v i : Nat} (h : i < 8) : Go.IntKind.u8.wrap ((v : Int).fdiv (2 ^ (min (8 * i) 64))) = ((UInt8.ofNat (v / 2 ^ (8 * i))).toNat : Nat):=by
 rw [zjg,Nat.min_eq_left (by omega),Int.fdiv_eq_ediv_of_nonneg _ (Int.pow_nonneg (by decide)),UInt8.toNat_ofNat']
 have e : (v : Int) / 2 ^ (8 * i) = ((v / 2 ^ (8 * i) : Nat) : Int):=by rw [Int.natCast_ediv,Int.natCast_pow]; rfl
 rw [e]
 omega

theorem z5p {hp : List Obj} {id : Nat} {o : Obj} (h : At hp id o) : hp.set id o = hp:=by
 apply List.ext_getElem?
 intro j
 by_cases hj : j = id
 ·subst hj
  rw [List.getElem?_set_self h.lt]
  exact h.symm
 ·rw [List.getElem?_set_ne (by omega)]

def Bys (hp : List Obj) (id : Nat) (m : List UInt8) : Prop:=At hp id (.cells (m.map byteD))

theorem s383 {hp : List Obj} {id off n : Nat} {gr : Bool} {m : List UInt8} (v : Nat) (hv : v < 18446744073709551616) (hn : n <= 8) (ho : off + n <= m.length) (B : Bys hp id m) :
  ∃ d hp',runS E (dL E) 383 [.sl id off n 1 false gr,.int .u64 v] hp = some (d,hp') /\ (d = .tup [] /\ hp' = hp.set id (.cells ((putK m off n v n).map byteD))):=by
 refine z2z c383 (args:=[.sl id off n 1 false gr,.int .u64 v]) (hp:=hp) (R:=fun d hp'=>d = .tup [] /\ hp' = hp.set id (.cells ((putK m off n v n).map byteD))) (by simp) ?_
 conv in t383=>reduce; dsimp [Int.negSucc_eq]
 have hid:=At.lt B
 simp [t383,n383]
 refine z1l n (fun i env h=>∃ (x2 x5 : D) ,env = [.sl id off n 1 false gr,.int .u64 v,x2,dI n,dI i,x5] /\ h = hp.set id (.cells ((putK m off n v i).map byteD))) 0 (by omega) ?_ ?_
 ·refine ⟨_,_,rfl,?_⟩
  rw [putK]
  exact (z5p B).symm
 rintro i env h hi ⟨x2,x5,rfl,rfl⟩
 have hset : ∀ o : Obj,(hp.set id o)[id]? = some o:=fun o=>At.self hid
 by_cases hlt : i < n
 ·have hup:=zl hlt (by omega)
  have hb:=zne (v:=v) (i:=i) (by omega)
  have h1 : Go.IntKind.i64.wrap ((n : Int) - 1) = (n : Int) - 1:=za ⟨by omega,by omega⟩
  have h2 : Go.IntKind.i64.wrap ((n : Int) - 1 - i) = ((n - 1 - i : Nat) : Int):=by rw [za ⟨by omega,by omega⟩]; omega
  have h3 : Go.IntKind.i64.wrap (8 * (i : Int)) = ((8 * i : Nat) : Int):=by rw [za ⟨by omega,by omega⟩]; omega
  have h4 : (n - 1 - i : Nat) < n:=by omega
  have h5 : off + (n - 1 - i) + 1 <= m.length:=by omega
  have h0 : (8 * (i : Int)).toNat = 8 * i:=by omega
  have h6 : off + (n - 1 - i) < (putK m off n v i).length:=by rw [z4o]; omega
  have h8 : (0 : Int) <= 8 * (i : Int):=by omega
  simp [hlt,hup,hset,z3h,convD,h1,h2,h3,h4,h5,hb,h0,h8,z4o,putK]
  have hbe : byteD (UInt8.ofNat (v / 2 ^ (8 * i))) = .int .u8 ((v : Int) / 2 ^ (8 * i) % 256):=by
   show D.int .u8 ((UInt8.ofNat (v / 2 ^ (8 * i))).toNat : Int) = _
   rw [<- hb,zjg,Nat.min_eq_left (by omega),Int.fdiv_eq_ediv_of_nonneg _ (Int.pow_nonneg (by decide))]
  rw [hbe]
 ·have : i = n:=by omega
  subst this
  simp

def wd16 (b : List UInt8) : Nat -> List Wd
 | 0=>List.replicate 64 0
 | i + 1=>(wd16 b i).set i (wrdB (b.drop (4 * i)) 4)
theorem z7l {b : List UInt8} : ∀ {i : Nat},(wd16 b i).length = 64
 | 0=>by simp [wd16]
 | i + 1=>by rw [wd16,List.length_set,z7l]
def sg0 (x : Wd) : Wd:=rotW x 25 ^^^ rotW x 14 ^^^ (x >>> 3)
def sg1 (x : Wd) : Wd:=rotW x 15 ^^^ rotW x 13 ^^^ (x >>> 10)
def wd64 (b : List UInt8) : Nat -> List Wd
 | 0=>wd16 b 16
 | k + 1=>(wd64 b k).set (k + 16) ((wd64 b k).getD k 0 + sg0 ((wd64 b k).getD (k + 1) 0) + (wd64 b k).getD (k + 9) 0 + sg1 ((wd64 b k).getD (k + 14) 0))
theorem z5k {b : List UInt8} : ∀ {i : Nat},(wd64 b i).length = 64
 | 0=>z7l
 | i + 1=>by rw [wd64,List.length_set,z5k]

def Wds (hp : List Obj) (id : Nat) (m : List Wd) : Prop:=At hp id (.cells (m.map dW))

def kTab : List Wd:=[1116352408,1899447441,3049323471,3921009573,961987163,1508970993,2453635748,2870763221,3624381080,310598401,607225278,1426881987,1925078388,2162078206,2614888103,3248222580,3835390401,4022224774,264347078,604807628,770255983,1249150122,1555081692,1996064986,2554220882,2821834349,2952996808,3210313671,3336571891,3584528711,113926993,338241895,666307205,773529912,1294757372,1396182291,1695183700,1986661051,2177026350,2456956037,2730485921,2820302411,3259730800,3345764771,3516065817,3600352804,4094571909,275423344,430227734,506948616,659060556,883997877,958139571,1322822218,1537002063,1747873779,1955562222,2024104815,2227730452,2361852424,2428436474,2756734187,3204031479,3329325298]
theorem zfv : kTab.length = 64:=rfl
theorem zdq {E : Env} {cP : Nat -> List D -> Option D} {env : List D} {hp : List Obj} {b t : Nat} {d : D} {x : Xp} : xv E cP env hp (.n (.iaddr t (.c d) (.t b)) (.cons b x .nil)) = ob (xv E cP env hp x) fun u=>iaddrD E t d u:=by
 simp only [xv,xvs]
 cases xv E cP env hp x <;> try rfl
 simp only [pureOp,gOf,kv,if_true,z7]
 exact zu
def kRest (i : Nat) : List D:=(kTab.map dW).drop i
theorem kAddr {i : Nat} (h : i < 64) : iaddrD E 80 (.iptr [.int .u32 1116352408,.int .u32 1899447441,.int .u32 3049323471,.int .u32 3921009573,.int .u32 961987163,.int .u32 1508970993,.int .u32 2453635748,.int .u32 2870763221,.int .u32 3624381080,.int .u32 310598401,.int .u32 607225278,.int .u32 1426881987,.int .u32 1925078388,.int .u32 2162078206,.int .u32 2614888103,.int .u32 3248222580,.int .u32 3835390401,.int .u32 4022224774,.int .u32 264347078,.int .u32 604807628,.int .u32 770255983,.int .u32 1249150122,.int .u32 1555081692,.int .u32 1996064986,.int .u32 2554220882,.int .u32 2821834349,.int .u32 2952996808,.int .u32 3210313671,.int .u32 3336571891,.int .u32 3584528711,.int .u32 113926993,.int .u32 338241895,.int .u32 666307205,.int .u32 773529912,.int .u32 1294757372,.int .u32 1396182291,.int .u32 1695183700,.int .u32 1986661051,.int .u32 2177026350,.int .u32 2456956037,.int .u32 2730485921,.int .u32 2820302411,.int .u32 3259730800,.int .u32 3345764771,.int .u32 3516065817,.int .u32 3600352804,.int .u32 4094571909,.int .u32 275423344,.int .u32 430227734,.int .u32 506948616,.int .u32 659060556,.int .u32 883997877,.int .u32 958139571,.int .u32 1322822218,.int .u32 1537002063,.int .u32 1747873779,.int .u32 1955562222,.int .u32 2024104815,.int .u32 2227730452,.int .u32 2361852424,.int .u32 2428436474,.int .u32 2756734187,.int .u32 3204031479,.int .u32 3329325298]) (.int .i64 (i : Int)) = some (.iptr (kRest i)):=by
 have e : (kTab.map dW) = [.int .u32 1116352408,.int .u32 1899447441,.int .u32 3049323471,.int .u32 3921009573,.int .u32 961987163,.int .u32 1508970993,.int .u32 2453635748,.int .u32 2870763221,.int .u32 3624381080,.int .u32 310598401,.int .u32 607225278,.int .u32 1426881987,.int .u32 1925078388,.int .u32 2162078206,.int .u32 2614888103,.int .u32 3248222580,.int .u32 3835390401,.int .u32 4022224774,.int .u32 264347078,.int .u32 604807628,.int .u32 770255983,.int .u32 1249150122,.int .u32 1555081692,.int .u32 1996064986,.int .u32 2554220882,.int .u32 2821834349,.int .u32 2952996808,.int .u32 3210313671,.int .u32 3336571891,.int .u32 3584528711,.int .u32 113926993,.int .u32 338241895,.int .u32 666307205,.int .u32 773529912,.int .u32 1294757372,.int .u32 1396182291,.int .u32 1695183700,.int .u32 1986661051,.int .u32 2177026350,.int .u32 2456956037,.int .u32 2730485921,.int .u32 2820302411,.int .u32 3259730800,.int .u32 3345764771,.int .u32 3516065817,.int .u32 3600352804,.int .u32 4094571909,.int .u32 275423344,.int .u32 430227734,.int .u32 506948616,.int .u32 659060556,.int .u32 883997877,.int .u32 958139571,.int .u32 1322822218,.int .u32 1537002063,.int .u32 1747873779,.int .u32 1955562222,.int .u32 2024104815,.int .u32 2227730452,.int .u32 2361852424,.int .u32 2428436474,.int .u32 2756734187,.int .u32 3204031479,.int .u32 3329325298]:=rfl
 rw [<- e,zi0 (m:=64) (e:=78) rfl,if_pos ⟨by omega,by omega⟩]
 rw [show (E.ty 78).size = 1 from rfl,Nat.mul_one,Int.toNat_natCast]
 rfl
theorem kLoad {i : Nat} {h : List Obj} (hi : i < 64) : loadD E h 78 (.iptr (kRest i)) = some (dW (kTab.getD i 0)):=by
 have hl : i < (kTab.map dW).length:=by rw [List.length_map,zfv]; exact hi
 unfold kRest
 rw [List.drop_eq_getElem_cons hl,List.getElem_map,List.getD_eq_getElem?_getD,List.getElem?_eq_getElem (by rw [zfv]; exact hi)]
 rfl
theorem sl_1 {q : Nat} : sliceD E 77 (.loc q 0) (some (.int .i64 1)) none none = some (.sl q 1 7 1 false false):=rfl
theorem sl_7 {q : Nat} : sliceD E 77 (.loc q 0) none (some (.int .i64 7)) none = some (.sl q 0 7 1 false false):=rfl
theorem cp8 {H : List Obj} {q : Nat} {d0 d1 d2 d3 d4 d5 d6 d7 : Wd} (h : H[q]? = some (.cells [dW d0,dW d1,dW d2,dW d3,dW d4,dW d5,dW d6,dW d7])) : copyD E H 81 81 (.sl q 1 7 1 false false) (.sl q 0 7 1 false false) = some (.int .i64 7,H.set q (.cells [dW d0,dW d0,dW d1,dW d2,dW d3,dW d4,dW d5,dW d6])):=by
 unfold copyD
 simp [h,listOf,rowOf,chunk,takeC,ofCells]
 rfl
def rnd (w : List Wd) (i : Nat) (v : List Wd) : List Wd:=match v with
 | [a,b,c,d,e,f,g,h]=>
  let t:=h + (rotW e 26 ^^^ rotW e 21 ^^^ rotW e 7) + (g ^^^ (e &&& (f ^^^ g))) + kTab.getD i 0 + w.getD i 0
  [t + ((rotW a 30 ^^^ rotW a 19 ^^^ rotW a 10) + ((a &&& b) ||| (c &&& (a ||| b)))),a,b,c,d + t,e,f,g]
 | v=>v
def rnds (w : List Wd) (v : List Wd) : Nat -> List Wd
 | 0=>v
 | i + 1=>rnd w i (rnds w v i)
theorem len8 {l : List Wd} (h : l.length = 8) : ∃ a b c d e f g k,l = [a,b,c,d,e,f,g,k]:=by
 match l,h with
 | [a,b,c,d,e,f,g,k],_=>exact ⟨a,b,c,d,e,f,g,k,rfl⟩
theorem zrh {w : List Wd} {i : Nat} {v : List Wd} (h : v.length = 8) : (rnd w i v).length = 8:=by
 obtain ⟨a,b,c,d,e,f,g,k,rfl⟩:=len8 h
 rfl
theorem zbb {w v : List Wd} (h : v.length = 8) : ∀ {i : Nat},(rnds w v i).length = 8
 | 0=>h
 | i + 1=>zrh (zbb h)

theorem Keep.wk {i C : Nat} {hp hp' : List Obj} (h : Keep C C hp hp') : Keep i C hp hp':=fun J h1 h2 h3=>h J h1 (fun hp j o hj hk=>h2 hp j o hj (by rcases hk with rfl | hk; exact .inr (Nat.le_refl _); exact .inr hk)) h3
def Blk (st : Nat) (hp : List Obj) (x : D) (b : List UInt8) : Prop:=∀ i : Nat,i < 16 -> ∃ y,sliceD E 30 x (some (dI (4 * (i : Int)))) none none = some y /\ ∀ h,Keep st hp.length hp h -> frz h 12 y = some (dBy (b.drop (4 * i)))
theorem zs6 {l : List UInt8} {h : List Obj} : frz h 12 (dBy l) = some (dBy l):=by rw [z4i,zc]; rfl

def addK (s v : List Wd) : Nat -> List Wd
 | 0=>s
 | i + 1=>(addK s v i).set i ((addK s v i).getD i 0 + v.getD i 0)
theorem z7x {s v : List Wd} : ∀ {i : Nat},(addK s v i).length = s.length
 | 0=>rfl
 | i + 1=>by rw [addK,List.length_set,z7x]
def absorbB (s : List Wd) (b : List UInt8) : List Wd:=addK s (rnds (wd64 b 48) s 64) 8

theorem s404 {hp : List Obj} {st : Nat} {x : D} {b : List UInt8} {s : List Wd} (hs : s.length = 8) (hb : 64 <= b.length) (S : Wds hp st s) (hx : Blk st hp x b) :
  ∃ d hp',runS E (dL E) 404 [.loc st 0,x] hp = some (d,hp') /\ (d = .tup [] /\ Wds hp' st (absorbB s b) /\ Keep st hp.length hp hp' /\ hp.length <= hp'.length):=by
 refine z2z c404 (args:=[.loc st 0,x]) (hp:=hp) (R:=fun d hp'=>d = .tup [] /\ Wds hp' st (absorbB s b) /\ Keep st hp.length hp hp' /\ hp.length <= hp'.length) (by simp) ?_
 conv in t404=>reduce; dsimp [Int.negSucc_eq]
 have hid:=At.lt S
 simp [t404,n404]
 refine z1l 16 (fun i env h=>∃ (x3 x4 x5 x6 x7 x8 x9 x10 x11 x13 x14 x15 x16 x17 x18 x19 x20 x21 : D) ,env = [.loc st 0,x,.loc hp.length 0,x3,x4,x5,x6,x7,x8,x9,x10,x11,dI i,x13,x14,x15,x16,x17,x18,x19,x20,x21] /\ Wds h hp.length (wd16 b i) /\ Keep hp.length hp.length hp h) 0 (by omega) ?_ ?_
 ·refine ⟨_,_,_,_,_,_,_,_,_,_,_,_,_,_,_,_,_,_,rfl,?_,Keep.app⟩
  unfold Wds wd16
  simp [At]
 rintro i env h hi ⟨x3,x4,x5,x6,x7,x8,x9,x10,x11,x13,x14,x15,x16,x17,x18,x19,x20,x21,rfl,w1,w2⟩
 by_cases hlt : i < 16
 ·have hi16 : (i : Int) < 16:=by omega
  have hup:=zl hlt (by omega)
  obtain ⟨y,hy,hf⟩:=hx i hlt
  have hf:=hf h w2.wk
  have hw4 : Go.IntKind.i64.wrap (4 * (i : Int)) = 4 * (i : Int):=za ⟨by omega,by omega⟩
  have hy : sliceD E 30 x (some (.int .i64 (4 * (i : Int)))) none none = some y:=hy
  have e:=r405 (b.drop (4 * i)) (by simp; omega)
  have hi64 : (i : Int) < 64:=by omega
  have w1' : h[hp.length]? = some (.cells ((wd16 b i).map dW)):=w1
  have hl64 : i + 1 <= (wd16 b i).length:=by rw [z7l]; omega
  have hhl : hp.length < h.length:=w1.lt
  have hst : wd16 b (i + 1) = (wd16 b i).set i (wrdB (b.drop (4 * i)) 4):=rfl
  generalize hbb : b.drop (4 * i) = bb at hf e hst
  have hl63 : i < 64:=by omega
  have hl65 : i + 1 <= 64:=by omega
  simp [hi16,hup,hw4,hy,hf,e,hi64,w1',z7l,hl63,hl65]
  refine ⟨hlt,?_,w2.trans (Keep.set (.inr (Nat.le_refl _)))⟩
  unfold Wds
  rw [hst,List.map_set]
  exact At.self hhl
 have : i = 16:=by omega
 subst this
 simp
 refine z1l 48 (fun k env h=>∃ (x3 x5 x6 x7 x8 x9 x10 x11 x12 x13 x14 x15 x16 x17 x18 x19 x20 x21 : D) ,env = [.loc st 0,x,.loc hp.length 0,x3,dI ((k : Int) + 16),x5,x6,x7,x8,x9,x10,x11,x12,x13,x14,x15,x16,x17,x18,x19,x20,x21] /\ Wds h hp.length (wd64 b k) /\ Keep hp.length hp.length hp h) 0 (by omega) ?_ ?_
 ·exact ⟨_,_,_,_,_,_,_,_,_,_,_,_,_,_,_,_,_,_,rfl,w1,w2⟩
 clear hi hlt w1 w2 h
 rintro k env h hi ⟨x3,x5,x6,x7,x8,x9,x10,x11,x12,x13,x14,x15,x16,x17,x18,x19,x20,x21,rfl,w1,w2⟩
 have hhl : hp.length < h.length:=w1.lt
 have w1' : h[hp.length]? = some (.cells ((wd64 b k).map dW)):=w1
 by_cases hlt : k < 48
 ·have hk64 : (k : Int) + 16 < 64:=by omega
  have i15 : Go.IntKind.i64.wrap ((k : Int) + 16 - 15) = (k : Int) + 1:=by rw [za ⟨by omega,by omega⟩]; omega
  have i2 : Go.IntKind.i64.wrap ((k : Int) + 16 - 2) = (k : Int) + 14:=by rw [za ⟨by omega,by omega⟩]; omega
  have i16 : Go.IntKind.i64.wrap ((k : Int) + 16 - 16) = (k : Int):=by rw [za ⟨by omega,by omega⟩]; omega
  have i7 : Go.IntKind.i64.wrap ((k : Int) + 16 - 7) = (k : Int) + 9:=by rw [za ⟨by omega,by omega⟩]; omega
  have i1 : Go.IntKind.i64.wrap ((k : Int) + 16 + 1) = (k : Int) + 1 + 16:=by rw [za ⟨by omega,by omega⟩]; omega
  have hst : wd64 b (k + 1) = (wd64 b k).set (k + 16) ((wd64 b k).getD k 0 + sg0 ((wd64 b k).getD (k + 1) 0) + (wd64 b k).getD (k + 9) 0 + sg1 ((wd64 b k).getD (k + 14) 0)):=rfl
  have hgd : ∀ j,j < 64 -> (wd64 b k)[j]? = some ((wd64 b k).getD j 0):=fun j hj=>by rw [List.getD_eq_getElem?_getD,List.getElem?_eq_getElem (by rw [z5k]; exact hj)]; rfl
  have g0:=hgd k (by omega)
  have g1:=hgd (k + 1) (by omega)
  have g9:=hgd (k + 9) (by omega)
  have g14:=hgd (k + 14) (by omega)
  have hlen : (wd64 b k).length = 64:=z5k
  clear hgd
  generalize (wd64 b k).getD k 0 = v0 at g0 hst
  generalize (wd64 b k).getD (k + 1) 0 = v1 at g1 hst
  generalize (wd64 b k).getD (k + 9) 0 = v9 at g9 hst
  generalize (wd64 b k).getD (k + 14) 0 = v14 at g14 hst
  generalize wd64 b k = W at g0 g1 g9 g14 hst hlen w1 w1'
  have b1 : (0 : Int) <= (k : Int) + 1:=by omega
  have d1 : (k : Int) + 1 < 64:=by omega
  have t1 : ((k : Int) + 1).toNat = k + 1:=by omega
  have b14 : (0 : Int) <= (k : Int) + 14:=by omega
  have d14 : (k : Int) + 14 < 64:=by omega
  have t14 : ((k : Int) + 14).toNat = k + 14:=by omega
  have b9 : (0 : Int) <= (k : Int) + 9:=by omega
  have d9 : (k : Int) + 9 < 64:=by omega
  have t9 : ((k : Int) + 9).toNat = k + 9:=by omega
  have b16 : (0 : Int) <= (k : Int) + 16:=by omega
  have d16 : (k : Int) + 16 < 64:=by omega
  have t16 : ((k : Int) + 16).toNat = k + 16:=by omega
  have d0 : (k : Int) < 64:=by omega
  have n16 : k + 16 < 64:=by omega
  have n17 : k + 16 + 1 <= 64:=by omega
  have wA : ∀ r : List Obj,(h ++ r)[hp.length]? = some (.cells (W.map dW)):=fun r=>w1.app (r:=r)
  have r1:=r406 v1 (-7) ⟨by decide,by decide⟩
  have r2:=r406 v1 (-18) ⟨by decide,by decide⟩
  have r3:=r406 v14 (-17) ⟨by decide,by decide⟩
  have rw4:=r406 v14 (-19) ⟨by decide,by decide⟩
  have sh3 : ∀ x : Wd,(x.toNat : Int).fdiv 8 = ((x >>> 3).toNat : Nat):=fun x=>zqn (a:=x) (n:=3) (by omega)
  have sh10 : ∀ x : Wd,(x.toNat : Int).fdiv 1024 = ((x >>> 10).toNat : Nat):=fun x=>zqn (a:=x) (n:=10) (by omega)
  have i0 : Go.IntKind.i64.wrap (k : Int) = (k : Int):=za ⟨by omega,by omega⟩
  simp [hk64,i0,i15,i2,i16,i7,i1,w1',wA,g0,g1,g9,g14,hlen,r1,r2,r3,rw4,b1,d1,t1,b14,d14,t14,b9,d9,t9,b16,t16,d0,n16,n17,zby,sh3,sh10,zqm,zqp,-BitVec.toNat_xor,-BitVec.toNat_add,-BitVec.toNat_ushiftRight]
  refine ⟨hlt,?_,w2.trans (Keep.app.trans (Keep.set (.inr (Nat.le_refl _))))⟩
  unfold Wds
  rw [hst,List.map_set]
  exact At.self (by simp; omega)
 have : k = 48:=by omega
 subst this
 have S' : Wds h st s:=w2.at (by omega) hid S
 have S2 : h[st]? = some (.cells (s.map dW)):=S'
 obtain ⟨a0,a1,a2,a3,a4,a5,a6,a7,he⟩:=len8 hs
 rw [he] at S2
 simp at S2
 simp [S2]
 refine z1l 64 (fun i env h'=>∃ (x3 x4 x5 x6 x8 x9 x10 x11 x12 x13 x14 x15 x16 x18 x19 x20 x21 : D) ,env = [.loc st 0,x,.loc hp.length 0,x3,x4,x5,x6,.loc h.length 0,x8,x9,x10,x11,x12,x13,x14,x15,x16,dI i,x18,x19,x20,x21] /\ Wds h' hp.length (wd64 b 48) /\ Wds h' h.length (rnds (wd64 b 48) s i) /\ Keep hp.length hp.length hp h' /\ h.length < h'.length) 0 (by omega) ?_ ?_
 ·refine ⟨_,_,_,_,_,_,_,_,_,_,_,_,_,_,_,_,_,rfl,w1.app,?_,w2.trans Keep.app,by simp⟩
  simp [Wds,At,rnds,he]
 rintro i env h' hi ⟨x3,x4,x5,x6,x8,x9,x10,x11,x12,x13,x14,x15,x16,x18,x19,x20,x21,rfl,v1,v2,v3,v4⟩
 by_cases hlt' : i < 64
 ·have hi64 : (i : Int) < 64:=by omega
  have hup:=zl hlt' (by omega)
  obtain ⟨a,b',c,d,e,f,g,g',hr⟩:=len8 (zbb (w:=wd64 b 48) (v:=s) (i:=i) hs)
  have hst : rnds (wd64 b 48) s (i + 1) = rnd (wd64 b 48) i (rnds (wd64 b 48) s i):=rfl
  rw [hr] at v2 hst
  have v1' : ∀ r : List Obj,(h' ++ r)[hp.length]? = some (.cells ((wd64 b 48).map dW)):=fun r=>v1.app (r:=r)
  have v2' : ∀ r : List Obj,(h' ++ r)[h.length]? = some (.cells (([a,b',c,d,e,f,g,g'] : List Wd).map dW)):=fun r=>v2.app (r:=r)
  have hw : (wd64 b 48)[i]? = some ((wd64 b 48).getD i 0):=by rw [List.getD_eq_getElem?_getD,List.getElem?_eq_getElem (by rw [z5k]; exact hlt')]; rfl
  have k1:=kAddr hlt'
  have k2:=fun h : List Obj=>kLoad (h:=h) hlt'
  have hlen : (wd64 b 48).length = 64:=z5k
  generalize hW : (wd64 b 48).getD i 0 = wi at hw
  generalize hK : kTab.getD i 0 = ki at k2
  have q1:=r407 e 6 11 25 (by decide) (by decide) (by decide)
  have q2:=r407 a 2 13 22 (by decide) (by decide) (by decide)
  simp at v2'
  have hcp:=fun r : List Obj=>cp8 (v2' r)
  have hset : ∀ (r : List Obj) (o : Obj),((h' ++ r).set h.length o)[h.length]? = some o:=fun r o=>At.self (by simp; omega)
  simp [hi64,hup,v1',v2',hw,q1,q2,zdq,k1,k2,z1w,sl_1,sl_7,↓hcp,↓hset,hlen,zqm,zqp,w_and,w_or,-BitVec.toNat_xor,-BitVec.toNat_add,-BitVec.toNat_and,-BitVec.toNat_or]
  refine ⟨hlt',v1.app.ne (by omega),?_,v3.trans (Keep.app.trans (Keep.set (.inr (by omega)))),by omega⟩
  unfold Wds
  rw [hst]
  simp only [rnd,hK,hW]
  exact At.self (by simp; omega)
 have : i = 64:=by omega
 subst this
 simp
 have hvl : (rnds (wd64 b 48) s 64).length = 8:=zbb hs
 unfold absorbB at *
 generalize rnds (wd64 b 48) s 64 = V at v2 hvl ⊢
 have v5 : Wds h' st s:=v3.at (by omega) hid S
 refine z1l 8 (fun i env h2=>∃ (x1 x2 x3 x4 x5 x6 x8 x9 x10 x11 x12 x13 x14 x15 x16 x17 x18 x19 x21 : D) ,env = [.loc st 0,x1,x2,x3,x4,x5,x6,.loc h.length 0,x8,x9,x10,x11,x12,x13,x14,x15,x16,x17,x18,x19,dI i,x21] /\ Wds h2 h.length V /\ Wds h2 st (addK s V i) /\ Keep st hp.length hp h2 /\ hp.length <= h2.length) 0 (by omega) ?_ ?_
 ·exact ⟨_,_,_,_,_,_,_,_,_,_,_,_,_,_,_,_,_,_,_,rfl,v2,v5,v3.wk,by omega⟩
 clear hi hlt' v1 v2 v3 v5
 rintro i env h2 hi ⟨x1,x2,x3,x4,x5,x6,x8,x9,x10,x11,x12,x13,x14,x15,x16,x17,x18,x19,x21,rfl,v2,v5,v3,v6⟩
 by_cases hlt' : i < 8
 ·have hi8 : (i : Int) < 8:=by omega
  have hup:=zl hlt' (by omega)
  have g1 : (addK s V i)[i]? = some ((addK s V i).getD i 0):=by rw [List.getD_eq_getElem?_getD,List.getElem?_eq_getElem (by rw [z7x]; omega)]; rfl
  have g2 : V[i]? = some (V.getD i 0):=by rw [List.getD_eq_getElem?_getD,List.getElem?_eq_getElem (by omega)]; rfl
  have hst : addK s V (i + 1) = (addK s V i).set i ((addK s V i).getD i 0 + V.getD i 0):=rfl
  have v2' : ∀ r : List Obj,(h2 ++ r)[h.length]? = some (.cells (V.map dW)):=fun r=>v2.app (r:=r)
  have v5' : ∀ r : List Obj,(h2 ++ r)[st]? = some (.cells ((addK s V i).map dW)):=fun r=>v5.app (r:=r)
  have hal : (addK s V i).length = 8:=by rw [z7x]; exact hs
  have hi9 : i + 1 <= 8:=by omega
  have hi88 : i < 8:=hlt'
  have e1 : (addK s V i).getD i 0 = (addK s V i)[i]'(by omega):=by rw [List.getD_eq_getElem?_getD,List.getElem?_eq_getElem (by omega)]; rfl
  have e2 : V.getD i 0 = V[i]'(by omega):=by rw [List.getD_eq_getElem?_getD,List.getElem?_eq_getElem (by omega)]; rfl
  rw [e1,e2] at hst
  have v2l:=v2.lt
  have v5l:=v5.lt
  simp [hi8,hup,g1,g2,v2',v5',hal,hvl,hi9,hi88,zqp,-BitVec.toNat_add]
  refine ⟨v2.app.ne (by omega),?_,(v3.trans Keep.app).trans (Keep.set (.inl rfl)),by omega⟩
  unfold Wds
  rw [hst,List.map_set]
  exact At.self (by simp; omega)
 ·have : i = 8:=by omega
  subst this
  simp
  exact ⟨v5,v3,v6⟩

theorem zpu {b : List UInt8} {i : Nat} (h : i <= b.length) : sliceD E 30 (.imm .none (b.map byteD)) (some (dI i)) none none = some (.imm .none ((b.drop i).map byteD)):=by
 unfold sliceD
 simp [bnd]
 exact ⟨⟨h,zfy⟩,by unfold sliceSpare; simp,List.take_of_length_le (by simp)⟩
theorem zsl {st : Nat} {hp : List Obj} {b : List UInt8} (h : 64 <= b.length) : Blk st hp (.imm .none (b.map byteD)) b:=fun i hi=>⟨.imm .none ((b.drop (4 * i)).map byteD),by
 have:=zpu (b:=b) (i:=4 * i) (by omega)
 exact this,fun h _=>zs6⟩
theorem z5h : ∀ (n : Nat) (l : List UInt8),n <= l.length -> chunk 1 false n (l.map byteD) = some ((l.take n).map byteD)
 | 0,l,_=>by simp [chunk]
 | n + 1,[],h=>by simp at h
 | n + 1,c :: l,h=>by
  have e:=z5h n l (by simp at h; omega)
  simp [chunk,takeC,ofCells,e]
theorem zq8 {st id off n : Nat} {gr : Bool} {hp : List Obj} {m : List UInt8} (B : Bys hp id m) (hid : id ≠ st) (hn : 64 <= n) (ho : off + n <= m.length) : Blk st hp (.sl id off n 1 false gr) ((m.drop off).take n):=fun i hi=>⟨.sl id (off + 4 * i) (n - 4 * i) 1 false false,by
  unfold sliceD
  have h0 : (0 : Int) <= 4 * (i : Int):=by omega
  have h1 : (4 * (i : Int)).toNat = 4 * i:=by omega
  simp [bnd,h0,h1]
  omega,fun h k=>by
  have B' : Bys h id m:=k.at hid B.lt B
  have B2 : h[id]? = some (.cells (m.map byteD)):=B'
  rw [zq1]
  simp only [B2,readO]
  rw [z7,<- List.map_drop,z5h _ _ (by simp; omega),z7,zc,Option.map_some,List.drop_take,List.drop_drop]⟩

def sha0 : List Wd:=[1779033703,3144134277,1013904242,2773480762,1359893119,2600822924,528734635,1541459225]
def blks (b : List UInt8) : Nat -> List Wd -> List Wd
 | 0,s=>s
 | k + 1,s=>absorbB (blks b k s) ((b.drop (64 * k)).take 64)
theorem zfb {s : List Wd} {b : List UInt8} (h : s.length = 8) : (absorbB s b).length = 8:=by unfold absorbB; rw [z7x]; exact h
theorem z43 {b : List UInt8} {s : List Wd} (h : s.length = 8) : ∀ {k : Nat},(blks b k s).length = 8
 | 0=>h
 | k + 1=>zfb (z43 h)

theorem zj5 {E : Env} {cP : Nat -> List D -> Option D} {env : List D} {hp : List Obj} {t : Nat} {d : D} : xv E cP env hp (.n (.load t (.c d)) .nil) = loadD E hp t d:=by
 simp only [xv,xvs]
 simp only [pureOp,gOf]
 exact zu
theorem zrs {hp : List Obj} : loadD E hp 76 (.iptr [.int .u32 1779033703,.int .u32 3144134277,.int .u32 1013904242,.int .u32 2773480762,.int .u32 1359893119,.int .u32 2600822924,.int .u32 528734635,.int .u32 1541459225]) = some (.agg (sha0.map dW)):=rfl
theorem zrd {b : List UInt8} (h : 64 <= b.length) : sliceD E 30 (.imm .none (b.map byteD)) (some (.int .i64 64)) none none = some (.imm .none ((b.drop 64).map byteD)):=zpu (i:=64) h
theorem zre {b : List UInt8} (h : 64 <= b.length) : sliceD E 30 (.imm .none (b.map byteD)) none (some (.int .i64 64)) none = some (.imm .none ((b.take 64).map byteD)):=zfh (i:=64) h
def z32 : List UInt8:=List.replicate 32 0
def z128 : List UInt8:=List.replicate 128 0
def tl0 (r : List UInt8) : List UInt8:=r ++ List.replicate (128 - r.length) 0
theorem zjh {r : List UInt8} (h : r.length <= 128) : (tl0 r).length = 128:=by unfold tl0; rw [List.length_append,List.length_replicate]; omega
theorem zbq : ∀ (l : List UInt8),flat (l.map byteD) = l.map byteD
 | []=>rfl
 | c :: l=>by
  have:=zbq l
  simp only [List.map_cons,flat,List.flatMap_cons] at this ⊢
  rw [this]; rfl
theorem mk128 {h : List Obj} : mkcapD E h 30 (.int .i64 64) (.int .i64 128) = some (.sl h.length 0 64 1 false true,h ++ [.cells (z128.map byteD)]):=by
 have e:=zbq z128
 have e2 : z128.map byteD = List.replicate 128 (D.int .u8 0):=by unfold z128; rw [List.map_replicate]; rfl
 rw [e2] at e ⊢
 unfold mkcapD
 simp only [show (E.ty 30).k = .slice 13 from rfl,show zeroE E 13 = some (D.int .u8 0) from rfl,show (E.ty 13).size = 1 from rfl,show (E.ty 13).ag = false from rfl]
 rw [if_pos (by refine ⟨by decide,by decide,by decide⟩)]
 rw [show ((128 : Int)).toNat = 128 from rfl,e]
 rfl
theorem zpl {l : List UInt8} : (l.map byteD).all (fun d=>d.storable && d.cellsL.length == 1) = true:=z6s
theorem cp_tl {H : List Obj} {id : Nat} {r : List UInt8} (B : Bys H id z128) (h : r.length < 64) : copyD E H 30 30 (.sl id 0 64 1 false true) (.imm .none (r.map byteD)) = some (.int .i64 r.length,H.set id (.cells ((tl0 r).map byteD))):=by
 have B2 : H[id]? = some (.cells (z128.map byteD)):=B
 have hl : (z128.map byteD).length = 128:=rfl
 have hm : Nat.min r.length 64 = r.length:=Nat.min_eq_left (by omega)
 have hs : setCells (z128.map byteD) 0 (flat (r.map byteD)) = (tl0 r).map byteD:=by
  rw [zbq]
  have e : z128.map byteD = (List.replicate r.length (0 : UInt8)).map byteD ++ (List.replicate (128 - r.length) (0 : UInt8)).map byteD:=by
   rw [<- List.map_append,List.replicate_append_replicate]
   unfold z128
   congr 2; omega
  rw [e,z1m (by simp),ze (by simp)]
  unfold tl0
  rw [List.map_append]
 have hL : listOf H 1 false (.imm .none (r.map byteD)) = some (r.map byteD):=by
  unfold listOf
  simp only [zpl,if_true]
 unfold copyD
 simp only [show (E.ty 30).k = .slice 13 from rfl,B2,show (E.ty 13).size = 1 from rfl,show (E.ty 13).ag = false from rfl,hL,List.length_map,hm]
 rw [if_pos ⟨trivial,by simp [z128]⟩,List.take_of_length_le (by simp),hs]

def tl1 (r : List UInt8) : List UInt8:=(tl0 r).set r.length 128
theorem zdu {r : List UInt8} (h : r.length <= 128) : (tl1 r).length = 128:=by unfold tl1; rw [List.length_set,zjh h]
theorem rsl {h : List Obj} {r : List UInt8} (hr : r.length <= 128) : resliceD E (h ++ [.cells ((tl1 r).map byteD)]) 30 (.sl h.length 0 64 1 false true) (.int .i64 128) = some (.sl h.length 0 128 1 false true,h ++ [.cells ((tl1 r).map byteD)]):=by
 have e : (h ++ [Obj.cells ((tl1 r).map byteD)])[h.length]? = some (.cells ((tl1 r).map byteD)):=by simp
 unfold resliceD
 simp only [show (E.ty 30).k = .slice 13 from rfl,e,show (E.ty 13).size = 1 from rfl,List.length_map,zdu hr]
 rfl
theorem sl_56 {q : Nat} : sliceD E 30 (.sl q 0 64 1 false true) (some (.int .i64 56)) none none = some (.sl q 56 8 1 false false):=rfl
theorem ztn {q : Nat} : sliceD E 30 (.sl q 0 128 1 false true) (some (.int .i64 120)) none none = some (.sl q 120 8 1 false false):=rfl
theorem zpv {q o l : Nat} {gr : Bool} (h : 64 <= l) : sliceD E 30 (.sl q o l 1 false gr) none (some (.int .i64 64)) none = some (.sl q o 64 1 false false):=by
 unfold sliceD
 simp [bnd]
 omega
theorem zpt {q o l : Nat} {gr : Bool} (h : 64 <= l) : sliceD E 30 (.sl q o l 1 false gr) (some (.int .i64 64)) none none = some (.sl q (o + 64) (l - 64) 1 false false):=by
 unfold sliceD
 simp [bnd]
 omega
def rst (b : List UInt8) (k : Nat) : List UInt8:=b.drop (64 * k)
theorem rst_s {b : List UInt8} {k : Nat} : rst b (k + 1) = (rst b k).drop 64:=by unfold rst; rw [List.drop_drop]; rfl
theorem ze4 {b : List UInt8} {k : Nat} : (rst b k).length = b.length - 64 * k:=by unfold rst; rw [List.length_drop]

theorem z7y {E : Env} {cP : Nat -> List D -> Option D} {env : List D} {hp : List Obj} {t a b c : Nat} {x y z : Xp} (h1 : b ≠ a) (h2 : c ≠ a) (h3 : c ≠ b) : xv E cP env hp (.n (.slice t (.t a) (some (.t b)) (some (.t c)) none) (.cons a x (.cons b y (.cons c z .nil)))) = ob (xv E cP env hp x) fun u=>ob (xv E cP env hp y) fun v=>ob (xv E cP env hp z) fun w=>sliceD E t u (some v) (some w) none:=by
 simp only [xv,xvs]
 cases xv E cP env hp x <;> try rfl
 cases xv E cP env hp y <;> try rfl
 cases xv E cP env hp z <;> try rfl
 simp only [pureOp,Option.map_some,Option.map_none,gOf,kv,z7,if_true,if_neg h1,if_neg h2,if_neg h3]
 exact zu
def outK (v : List Wd) : Nat -> List UInt8
 | 0=>z32
 | i + 1=>putK (outK v i) (4 * i) 4 (v.getD i 0).toNat 4
theorem z3c {v : List Wd} : ∀ {i : Nat},(outK v i).length = 32
 | 0=>rfl
 | i + 1=>by rw [outK,z4o,z3c]
def shaB (b : List UInt8) : List UInt8:=
 if 55 < (rst b (b.length / 64)).length then outK (blks (putK (tl1 (rst b (b.length / 64))) 120 8 (b.length * 8) 8) 2 (blks b (b.length / 64) sha0)) 8
 else outK (blks (putK (tl1 (rst b (b.length / 64))) 56 8 (b.length * 8) 8) 1 (blks b (b.length / 64) sha0)) 8
theorem z51 {H : List Obj} {m : List UInt8} (B : Bys H 0 m) (h : m.length = 32) : loadD E H 73 (.loc 0 0) = some (.agg (m.map byteD)):=by
 have B2 : H[0]? = some (.cells (m.map byteD)):=B
 have e:=z1s 32 0 (m.map byteD) (by simp [h])
 unfold loadD
 simp only [rowOf,B2,show (E.ty 73).size = 32 from rfl,e]
 rfl
theorem zps {i : Nat} (h : i < 8) : sliceD E 73 (.loc 0 0) (some (.int .i64 (4 * (i : Int)))) (some (.int .i64 (4 * (i : Int) + 4))) none = some (.sl 0 (4 * i) 4 1 false false):=by
 have h0 : (0 : Int) <= 4 * (i : Int):=by omega
 have h1 : (4 * (i : Int)).toNat = 4 * i:=by omega
 have h2 : (0 : Int) <= 4 * (i : Int) + 4:=by omega
 have h3 : (4 * (i : Int) + 4).toNat = 4 * i + 4:=by omega
 unfold sliceD
 simp only [show (E.ty 73).k = .arr 32 13 from rfl,bnd,if_pos h0,if_pos h2,h1,h3,show (E.ty 13).size = 1 from rfl]
 rw [if_pos ⟨by omega,by omega⟩]
 simp

theorem r364 (b : List UInt8) (hb : b.length <= 1000000000) : runP E (dL E) 364 [dBy b] = some (dDig (shaB b)):=by
 refine zx c364 (by simp) ?_
 conv in t364=>reduce; dsimp [Int.negSucc_eq]
 have hz : ∀ x : List D,(D.agg (sha0.map dW)).cellsL = sha0.map dW:=fun _=>rfl
 simp [t364,n364,zj5,zrs]
 refine z1l (b.length / 64) (fun k env h=>∃ (x5 x6 x7 x8 x9 x10 x11 x12 x13 x14 x15 x16 x17 x18 x19 x20 x21 : D) ,env = [dBy b,.loc 0 0,.loc 1 0,.bfn 404 (.loc 1 0),.imm .none ((rst b k).map byteD),x5,x6,x7,x8,x9,x10,x11,x12,x13,x14,x15,x16,x17,x18,x19,x20,x21] /\ Bys h 0 z32 /\ Wds h 1 (blks b k sha0) /\ 2 <= h.length) 0 (by omega) ?_ ?_
 ·refine ⟨_,_,_,_,_,_,_,_,_,_,_,_,_,_,_,_,_,rfl,?_,?_,by simp⟩
  ·rfl
  ·rfl
 rintro k env h hi ⟨x5,x6,x7,x8,x9,x10,x11,x12,x13,x14,x15,x16,x17,x18,x19,x20,x21,rfl,B,W,hl⟩
 by_cases hlt : k < b.length / 64
 ·have hrl : 64 <= (rst b k).length:=by rw [ze4]; omega
  have h64 : (64 : Int) <= (rst b k).length:=by omega
  have e1:=zrd hrl
  have e2:=zre hrl
  obtain ⟨d,h2,e,rfl,w1,k1,l1⟩:=s404 (st:=1) (hp:=h) (x:=.imm .none (((rst b k).take 64).map byteD)) (b:=(rst b k).take 64) (s:=blks b k sha0) (z43 rfl) (by rw [List.length_take]; omega) W (zsl (by rw [List.length_take]; omega))
  have hs : rst b (k + 1) = (rst b k).drop 64:=rst_s
  have hst : blks b (k + 1) sha0 = absorbB (blks b k sha0) ((rst b k).take 64):=rfl
  have B2 : Bys h2 0 _:=k1.at (by omega) (by omega) B
  rw [<- hst] at w1
  generalize hT : (rst b k).take 64 = T at e2 e hst
  generalize hD : (rst b k).drop 64 = Dr at e1 hs
  simp [h64,e1,e2,e,z1w,hs]
  exact ⟨hlt,B2,w1,by omega⟩
 ·have : k = b.length / 64:=by omega
  subst this
  have h64 : ¬ (64 : Int) <= (rst b (b.length / 64)).length:=by rw [ze4]; omega
  have hr : (rst b (b.length / 64)).length < 64:=by rw [ze4]; omega
  have hs1 : 55 < (rst b (b.length / 64)).length -> shaB b = outK (blks (putK (tl1 (rst b (b.length / 64))) 120 8 (b.length * 8) 8) 2 (blks b (b.length / 64) sha0)) 8:=fun h=>by unfold shaB; rw [if_pos h]
  have hs2 : ¬ 55 < (rst b (b.length / 64)).length -> shaB b = outK (blks (putK (tl1 (rst b (b.length / 64))) 56 8 (b.length * 8) 8) 1 (blks b (b.length / 64) sha0)) 8:=fun h=>by unfold shaB; rw [if_neg h]
  generalize hR : rst b (b.length / 64) = r at hr h64 hs1 hs2
  have hS : (blks b (b.length / 64) sha0).length = 8:=z43 rfl
  generalize blks b (b.length / 64) sha0 = S at W hS hs1 hs2
  have c1:=cp_tl (H:=h ++ [Obj.cells (z128.map byteD)]) (id:=h.length) (r:=r) (by simp [Bys,At]) hr
  have c2 : ∀ o : Obj,(h ++ [Obj.cells (z128.map byteD)]).set h.length o = h ++ [o]:=fun o=>by simp
  rw [c2] at c1
  have c3 : ∀ o : Obj,(h ++ [o])[h.length]? = some o:=fun o=>by simp
  have c4 : ∀ o o' : Obj,(h ++ [o]).set h.length o' = h ++ [o']:=fun o o'=>by simp
  have hr' : (r.length : Int) < 64:=by omega
  have htl:=zjh (r:=r) (by omega)
  have hr1 : r.length + 1 <= 128:=by omega
  have c5 : (((tl0 r).map byteD).set r.length (D.int .u8 128)) = (tl1 r).map byteD:=by unfold tl1; rw [List.map_set]; rfl
  have c6:=fun (h : List Obj)=>rsl (h:=h) (r:=r) (by omega)
  have hL : Go.IntKind.u64.wrap (b.length : Int) = b.length:=by rw [z21]; omega
  have hL8 : Go.IntKind.u64.wrap ((b.length : Int) * 8) = ((b.length * 8 : Nat) : Int):=by rw [z21]; omega
  have hL9 : Go.IntKind.u64.wrap ((b.length : Int) * 8) = (b.length : Int) * 8:=by rw [z21]; omega
  have w56 : Go.IntKind.i64.wrap 56 = 56:=by decide
  have w120 : Go.IntKind.i64.wrap 120 = 120:=by decide
  simp [h64,mk128,c1,↓c3,↓c4,hr',htl,hr1,c5]
  have key : ∀ n : Nat,n = 64 \/ n = 128 -> True:=fun _ _=>trivial
  split
  ·rename_i h55
   obtain ⟨d,h3,e3,rfl,rfl⟩:=s383 (hp:=h ++ [Obj.cells ((tl1 r).map byteD)]) (id:=h.length) (off:=120) (n:=8) (gr:=false) (m:=tl1 r) (b.length * 8) (by omega) (by omega) (by unfold tl1; rw [List.length_set,htl]; omega) (by simp [Bys,At])
   rw [c4] at e3
   simp at e3
   simp [c6,ztn,hL,hL8,convD,e3,z3h,w120]
   have hM : (putK (tl1 r) 120 8 (b.length * 8) 8).length = 128:=by rw [z4o,zdu (by omega)]
   generalize putK (tl1 r) 120 8 (b.length * 8) 8 = M at *
   refine z1l 2 (fun j env h'=>∃ (x4 x6 x7 x8 x9 x10 x11 x12 x13 x14 x15 x16 x17 x18 x19 x20 x21 : D) (gr : Bool),env = [dBy b,.loc 0 0,.loc 1 0,.bfn 404 (.loc 1 0),x4,.sl h.length (64 * j) (128 - 64 * j) 1 false gr,x6,x7,x8,x9,x10,x11,x12,x13,x14,x15,x16,x17,x18,x19,x20,x21] /\ Bys h' 0 z32 /\ Wds h' 1 (blks M j S) /\ Bys h' h.length M /\ h.length < h'.length) 0 (by omega) ?_ ?_
   ·exact ⟨_,_,_,_,_,_,_,_,_,_,_,_,_,_,_,_,_,true,rfl,B.app,W.app,by simp [Bys,At],by simp⟩
   rintro j env h' hj ⟨x4,x6,x7,x8,x9,x10,x11,x12,x13,x14,x15,x16,x17,x18,x19,x20,x21,gr,rfl,B1,W1,B2,hl1⟩
   by_cases hlt : j < 2
   ·obtain ⟨o,ho⟩ : ∃ o,o = 64 * j:=⟨_,rfl⟩
    obtain ⟨l,hl⟩ : ∃ l,l = 128 - o:=⟨_,rfl⟩
    have hb : blks M (j + 1) S = absorbB (blks M j S) ((M.drop o).take 64):=by rw [ho]; rfl
    obtain ⟨d,h2,e,rfl,w1,k1,l1⟩:=s404 (st:=1) (hp:=h') (x:=.sl h.length o 64 1 false false) (b:=(M.drop o).take 64) (s:=blks M j S) (z43 hS) (by simp; omega) W1 (zq8 B2 (by omega) (by omega) (by omega))
    rw [<- hb] at w1
    have B1' : Bys h2 0 z32:=k1.at (by omega) (by omega) B1
    have B2' : Bys h2 h.length M:=k1.at (by omega) hl1 B2
    rw [<- ho,<- hl]
    have e1:=zpv (q:=h.length) (o:=o) (l:=l) (gr:=gr) (by omega)
    have e2:=zpt (q:=h.length) (o:=o) (l:=l) (gr:=gr) (by omega)
    have hpos : (0 : Int) < l:=by omega
    have o1 : 64 * (j + 1) = o + 64:=by omega
    have hpos' : 0 < l:=by omega
    simp [hpos,hpos',e1,e2,e,z1w]
    exact ⟨by omega,⟨by omega,by omega⟩,B1',w1,B2',by omega⟩
   ·have : j = 2:=by omega
    subst this
    have hSl : (blks M 2 S).length = 8:=z43 hS
    have hsh:=hs1 (by omega)
    generalize blks M 2 S = V at W1 hSl hsh
    obtain ⟨a0,a1,a2,a3,a4,a5,a6,a7,hV⟩:=len8 hSl
    have W2 : h'[1]? = some (.cells (V.map dW)):=W1
    rw [hV] at W2
    simp at W2
    simp [W2]
    rw [hsh]
    refine z1l 8 (fun i env h3=>∃ (x0 x2 x3 x4 x5 x6 x7 x8 x9 x10 x11 x12 x13 x14 x15 x16 x17 x20 x21 : D) ,env = [x0,.loc 0 0,x2,x3,x4,x5,x6,x7,x8,x9,x10,x11,x12,x13,x14,x15,x16,x17,.agg [dW a0,dW a1,dW a2,dW a3,dW a4,dW a5,dW a6,dW a7],dI i,x20,x21] /\ Bys h3 0 (outK V i)) 0 (by omega) ?_ ?_
    ·exact ⟨_,_,_,_,_,_,_,_,_,_,_,_,_,_,_,_,_,_,_,rfl,B1⟩
    rintro i env h3 hi ⟨x0,x2,x3,x4,x5,x6,x7,x8,x9,x10,x11,x12,x13,x14,x15,x16,x17,x20,x21,rfl,C⟩
    have hidx : ∀ i,i < 8 -> ([dW a0,dW a1,dW a2,dW a3,dW a4,dW a5,dW a6,dW a7] : List D)[i]? = some (dW (V.getD i 0)):=fun i hi=>by
     have e : ([dW a0,dW a1,dW a2,dW a3,dW a4,dW a5,dW a6,dW a7] : List D) = V.map dW:=by rw [hV]; rfl
     rw [e,List.getElem?_map,List.getD_eq_getElem?_getD,List.getElem?_eq_getElem (by omega)]; rfl
    by_cases hlt : i < 8
    ·have hi8 : (i : Int) < 8:=by omega
     have hup:=zl hlt (by omega)
     have q1 : Go.IntKind.i64.wrap (4 * (i : Int)) = 4 * (i : Int):=za ⟨by omega,by omega⟩
     have q2 : Go.IntKind.i64.wrap (4 * (i : Int) + 4) = 4 * (i : Int) + 4:=za ⟨by omega,by omega⟩
     have q3:=zps hlt
     have q4 : Go.IntKind.u64.wrap ((V.getD i 0).toNat : Int) = (V.getD i 0).toNat:=by have:=w_lt (w:=V.getD i 0); rw [z21]; omega
     obtain ⟨d,h4,e4,rfl,rfl⟩:=s383 (hp:=h3) (id:=0) (off:=4 * i) (n:=4) (gr:=false) (m:=outK V i) (V.getD i 0).toNat (by have:=w_lt (w:=V.getD i 0); omega) (by omega) (by rw [z3c]; omega) C
     have hid:=hidx i hlt
     have hst : outK V (i + 1) = putK (outK V i) (4 * i) 4 (V.getD i 0).toNat 4:=rfl
     have hc0 : 0 < h3.length:=At.lt C
     generalize V.getD i 0 = w at hid q4 e4 hst
     simp [hi8,hup,hid,q1,q2,q3,q4,e4,convD,z3h,z7y]
     refine ⟨hlt,?_⟩
     rw [hst]
     exact At.self hc0
    ·have : i = 8:=by omega
     subst this
     have l1:=z51 C z3c
     have hsc : setCells ((outK V 8).map byteD) 0 ((outK V 8).map byteD) = (outK V 8).map byteD:=ze rfl
     have hss : h3.set 0 (.cells ((outK V 8).map byteD)) = h3:=z5p C
     have C2 : h3[0]? = some (.cells ((outK V 8).map byteD)):=C
     have hol : (outK V 8).length = 32:=z3c
     simp [l1,zc,C2,hsc,hss,hol]
     try trace_state
  ·rename_i h55
   obtain ⟨d,h3,e3,rfl,rfl⟩:=s383 (hp:=h ++ [Obj.cells ((tl1 r).map byteD)]) (id:=h.length) (off:=56) (n:=8) (gr:=false) (m:=tl1 r) (b.length * 8) (by omega) (by omega) (by unfold tl1; rw [List.length_set,htl]; omega) (by simp [Bys,At])
   rw [c4] at e3
   simp at e3
   simp [sl_56,hL,hL8,convD,e3,z3h,w56]
   have hM : (putK (tl1 r) 56 8 (b.length * 8) 8).length = 128:=by rw [z4o,zdu (by omega)]
   generalize putK (tl1 r) 56 8 (b.length * 8) 8 = M at *
   refine z1l 1 (fun j env h'=>∃ (x4 x6 x7 x8 x9 x10 x11 x12 x13 x14 x15 x16 x17 x18 x19 x20 x21 : D) (gr : Bool),env = [dBy b,.loc 0 0,.loc 1 0,.bfn 404 (.loc 1 0),x4,.sl h.length (64 * j) (64 - 64 * j) 1 false gr,x6,x7,x8,x9,x10,x11,x12,x13,x14,x15,x16,x17,x18,x19,x20,x21] /\ Bys h' 0 z32 /\ Wds h' 1 (blks M j S) /\ Bys h' h.length M /\ h.length < h'.length) 0 (by omega) ?_ ?_
   ·exact ⟨_,_,_,_,_,_,_,_,_,_,_,_,_,_,_,_,_,true,rfl,B.app,W.app,by simp [Bys,At],by simp⟩
   rintro j env h' hj ⟨x4,x6,x7,x8,x9,x10,x11,x12,x13,x14,x15,x16,x17,x18,x19,x20,x21,gr,rfl,B1,W1,B2,hl1⟩
   by_cases hlt : j < 1
   ·obtain ⟨o,ho⟩ : ∃ o,o = 64 * j:=⟨_,rfl⟩
    obtain ⟨l,hl⟩ : ∃ l,l = 64 - o:=⟨_,rfl⟩
    have hb : blks M (j + 1) S = absorbB (blks M j S) ((M.drop o).take 64):=by rw [ho]; rfl
    obtain ⟨d,h2,e,rfl,w1,k1,l1⟩:=s404 (st:=1) (hp:=h') (x:=.sl h.length o 64 1 false false) (b:=(M.drop o).take 64) (s:=blks M j S) (z43 hS) (by simp; omega) W1 (zq8 B2 (by omega) (by omega) (by omega))
    rw [<- hb] at w1
    have B1' : Bys h2 0 z32:=k1.at (by omega) (by omega) B1
    have B2' : Bys h2 h.length M:=k1.at (by omega) hl1 B2
    rw [<- ho,<- hl]
    have e1:=zpv (q:=h.length) (o:=o) (l:=l) (gr:=gr) (by omega)
    have e2:=zpt (q:=h.length) (o:=o) (l:=l) (gr:=gr) (by omega)
    have hpos : (0 : Int) < l:=by omega
    have o1 : 64 * (j + 1) = o + 64:=by omega
    have hpos' : 0 < l:=by omega
    simp [hpos,hpos',e1,e2,e,z1w]
    exact ⟨by omega,⟨by omega,by omega⟩,B1',w1,B2',by omega⟩
   ·have : j = 1:=by omega
    subst this
    have hSl : (blks M 1 S).length = 8:=z43 hS
    have hsh:=hs2 (by omega)
    generalize blks M 1 S = V at W1 hSl hsh
    obtain ⟨a0,a1,a2,a3,a4,a5,a6,a7,hV⟩:=len8 hSl
    have W2 : h'[1]? = some (.cells (V.map dW)):=W1
    rw [hV] at W2
    simp at W2
    simp [W2]
    rw [hsh]
    refine z1l 8 (fun i env h3=>∃ (x0 x2 x3 x4 x5 x6 x7 x8 x9 x10 x11 x12 x13 x14 x15 x16 x17 x20 x21 : D) ,env = [x0,.loc 0 0,x2,x3,x4,x5,x6,x7,x8,x9,x10,x11,x12,x13,x14,x15,x16,x17,.agg [dW a0,dW a1,dW a2,dW a3,dW a4,dW a5,dW a6,dW a7],dI i,x20,x21] /\ Bys h3 0 (outK V i)) 0 (by omega) ?_ ?_
    ·exact ⟨_,_,_,_,_,_,_,_,_,_,_,_,_,_,_,_,_,_,_,rfl,B1⟩
    rintro i env h3 hi ⟨x0,x2,x3,x4,x5,x6,x7,x8,x9,x10,x11,x12,x13,x14,x15,x16,x17,x20,x21,rfl,C⟩
    have hidx : ∀ i,i < 8 -> ([dW a0,dW a1,dW a2,dW a3,dW a4,dW a5,dW a6,dW a7] : List D)[i]? = some (dW (V.getD i 0)):=fun i hi=>by
     have e : ([dW a0,dW a1,dW a2,dW a3,dW a4,dW a5,dW a6,dW a7] : List D) = V.map dW:=by rw [hV]; rfl
     rw [e,List.getElem?_map,List.getD_eq_getElem?_getD,List.getElem?_eq_getElem (by omega)]; rfl
    by_cases hlt : i < 8
    ·have hi8 : (i : Int) < 8:=by omega
     have hup:=zl hlt (by omega)
     have q1 : Go.IntKind.i64.wrap (4 * (i : Int)) = 4 * (i : Int):=za ⟨by omega,by omega⟩
     have q2 : Go.IntKind.i64.wrap (4 * (i : Int) + 4) = 4 * (i : Int) + 4:=za ⟨by omega,by omega⟩
     have q3:=zps hlt
     have q4 : Go.IntKind.u64.wrap ((V.getD i 0).toNat : Int) = (V.getD i 0).toNat:=by have:=w_lt (w:=V.getD i 0); rw [z21]; omega
     obtain ⟨d,h4,e4,rfl,rfl⟩:=s383 (hp:=h3) (id:=0) (off:=4 * i) (n:=4) (gr:=false) (m:=outK V i) (V.getD i 0).toNat (by have:=w_lt (w:=V.getD i 0); omega) (by omega) (by rw [z3c]; omega) C
     have hid:=hidx i hlt
     have hst : outK V (i + 1) = putK (outK V i) (4 * i) 4 (V.getD i 0).toNat 4:=rfl
     have hc0 : 0 < h3.length:=At.lt C
     generalize V.getD i 0 = w at hid q4 e4 hst
     simp [hi8,hup,hid,q1,q2,q3,q4,e4,convD,z3h,z7y]
     refine ⟨hlt,?_⟩
     rw [hst]
     exact At.self hc0
    ·have : i = 8:=by omega
     subst this
     have l1:=z51 C z3c
     have hsc : setCells ((outK V 8).map byteD) 0 ((outK V 8).map byteD) = (outK V 8).map byteD:=ze rfl
     have hss : h3.set 0 (.cells ((outK V 8).map byteD)) = h3:=z5p C
     have C2 : h3[0]? = some (.cells ((outK V 8).map byteD)):=C
     have hol : (outK V 8).length = 32:=z3c
     simp [l1,zc,C2,hsc,hss,hol]
     try trace_state

theorem s384 (n : Int) (h : 0 <= n) (h' : n <= 1000000000) (hp : List Obj) : runS E (dL E) (384) [.imm .exact [],dI n] hp = some (.imm (.tok hp.length) [],hp ++ [.tok 0 1]):=by
 have e : E.fn (384) = some f384:=rfl
 have e2 : E.mp 384 = false:=rfl
 have e3 : ¬ n < 0:=by omega
 have e4 : n * 2 <= maxBytes:=by unfold maxBytes; omega
 have e5 : fitsE 1 [] = true:=rfl
 unfold runS
 simp only [e,e2,f384,startF,z9b,z6d,zgf,z5f,z7h,finishQ]
 simp [stepOps,stepOp,wantedD,putO,DOp.fin,finOp,pureOp,getO,gOf,z7h,finishF,resD,appendG,appendM,appendI,appendB,lenD,binD,listOf,applyEf,addO,z5f,z9a,isMark,e3,e4,e5,h,intBin]

def catB (ls : List (List UInt8)) (i : Nat) : List UInt8:=(ls.take i).flatten
theorem zq7 {ls : List (List UInt8)} {i : Nat} (h : i < ls.length) : catB ls (i + 1) = catB ls i ++ ls[i]:=by
 unfold catB
 rw [List.take_succ_eq_append_getElem h,List.flatten_append]; simp
theorem zm6 {ls : List (List UInt8)} {i : Nat} : (catB ls i).length <= (catB ls ls.length).length:=by
 have h : ls.flatten = (ls.take i).flatten ++ (ls.drop i).flatten:=by rw [<- List.flatten_append,List.take_append_drop]
 unfold catB
 rw [List.take_length,h,List.length_append]; omega

theorem r365 (ls : List (List UInt8)) (h1 : (catB ls ls.length).length <= 1000000000) (h2 : ls.length <= 1000000000) : runP E (dL E) 365 [.imm .none (ls.map fun l=>.imm .none (l.map byteD))] = some (.imm .none ((catB ls ls.length).map byteD)):=by
 refine zx c365 (by simp) ?_
 conv in t365=>reduce; dsimp [Int.negSucc_eq]
 simp [t365,n365]
 refine z1l ls.length (fun i env h=>∃ (x1 x3 x4 x5 x9 x10 x11 x12 x13 x14 x15 x16 : D) (m : Nat),env = [.imm .none (ls.map fun l=>.imm .none (l.map byteD)),x1,dI m,x3,x4,x5,.imm .none (ls.map fun l=>.imm .none (l.map byteD)),dI ls.length,dI i,x9,x10,x11,x12,x13,x14,x15,x16] /\ h = [] /\ m = (catB ls i).length) 0 (by omega) ⟨_,_,_,_,_,_,_,_,_,_,_,_,0,rfl,rfl,rfl⟩ ?_
 rintro i env h hi ⟨x1,x3,x4,x5,x9,x10,x11,x12,x13,x14,x15,x16,m,rfl,rfl,hm⟩
 by_cases hlt : i < ls.length
 ·have hs:=zq7 hlt
  have hb:=zm6 (ls:=ls) (i:=i + 1)
  obtain ⟨W,hW⟩ : ∃ W,ls[i] = W:=⟨_,rfl⟩
  rw [hW] at hs
  rw [hs,List.length_append] at hb
  have w:=za (n:=(m : Int) + W.length) ⟨by omega,by omega⟩
  have hn : ¬ (m : Int) + W.length < 0:=by omega
  rw [hm] at w hn
  simp [hlt,hW,w,hn,zl hlt (by omega),hs,hm]
 ·have : i = ls.length:=by omega
  subst this
  have e:=s384 (m : Int) (by omega) (by omega) []
  have fb : ∀ l : List UInt8,((l.map byteD).all fun d=>d.storable && d.cellsL.length == 1) = true:=fun l=>z6s
  simp [e]
  refine z1l ls.length (fun i env h=>∃ (x1 x2 x3 x5 x6 x7 x8 x9 x10 x11 x15 x16 : D) (k : Nat),env = [.imm .none (ls.map fun l=>.imm .none (l.map byteD)),x1,x2,x3,.imm (.tok k) ((catB ls i).map byteD),x5,x6,x7,x8,x9,x10,x11,.imm .none (ls.map fun l=>.imm .none (l.map byteD)),dI ls.length,dI i,x15,x16] /\ At h k (.tok ((catB ls i).length * 1) 1)) 0 (by omega) ⟨_,_,_,_,_,_,_,_,_,_,_,_,0,rfl,rfl⟩ ?_
  clear hi hm e
  rintro i env h hi ⟨x1,x2,x3,x5,x6,x7,x8,x9,x10,x11,x15,x16,k,rfl,a1⟩
  by_cases hlt : i < ls.length
  ·have hs:=zq7 hlt
   have hb:=zm6 (ls:=ls) (i:=i + 1)
   obtain ⟨W,hW⟩ : ∃ W,ls[i] = W:=⟨_,rfl⟩
   obtain ⟨C,hC⟩ : ∃ C,catB ls i = C:=⟨_,rfl⟩
   obtain ⟨C',hC'⟩ : ∃ C,catB ls (i + 1) = C:=⟨_,rfl⟩
   rw [hW,hC,hC'] at hs
   rw [hC',hs,List.length_append] at hb
   have hap:=z1i (l:=C) (new:=W.map byteD) (by rw [List.length_map]; omega)
   rw [hC] at a1 ⊢
   have hcat : C.map byteD ++ W.map byteD = C'.map byteD:=by rw [hs]; simp
   have hlen : C'.length = C.length + W.length:=by rw [hs]; simp
   simp [hlt,hW,zi,z1o,a1.eq,hap,fb,zl hlt (by omega),↓hC']
   have hg:=z69 (hp:=h.set k Obj.dead) (r:=[Obj.tok (C.length + W.length) 1]) (k:=0)
   rw [List.length_set,Nat.add_zero] at hg
   repeat apply Exists.intro
   refine ⟨?_,hg.trans (by rw [hlen]; rfl)⟩
   and_intros <;> first | rfl | exact hcat
  ·have : i = ls.length:=by omega
   subst this
   simp [zc]



theorem r365' (a b : List UInt8) (h : a.length + b.length <= 1000000000) : runP E (dL E) 365 [.imm .none [dBy a,dBy b]] = some (dBy (a ++ b)):=by
 have e:=r365 [a,b] (by simp [catB]; omega) (by simp)
 rw [show catB [a,b] [a,b].length = a ++ b from by simp [catB]] at e
 exact e

theorem z3a {b : List UInt8} : (shaB b).length = 32:=by unfold shaB; split <;> exact z3c

def tgB : List UInt8 -> List UInt8 -> List UInt8:=fun t b=>shaB (shaB t ++ b)

theorem z8w {H : List Obj} {n : Nat} : ∀ (l : List UInt8),(l.map byteD).flatMap (ids H (n + 1)) = []
 | []=>rfl
 | c :: l=>by
  rw [List.map_cons,List.flatMap_cons,z8w l]; rfl
theorem zs0 {A : Obj} {T b : List UInt8} (hl : T.length = 32) : ids [A,.cells (T.map byteD)] 12 (.imm .exact [.sl 1 0 32 1 false false,dBy b]) = [1]:=by
 have h1 : ids [A,.cells (T.map byteD)] 11 (.sl 1 0 32 1 false false) = [1]:=by
  show 1 :: (((T.map byteD).drop 0).take (32 * 1)).flatMap (ids [A,.cells (T.map byteD)] 10) = [1]
  rw [List.drop_zero,List.take_of_length_le (by simp [hl]),z8w]
 have h2 : ids [A,.cells (T.map byteD)] 11 (dBy b) = []:=by
  show (b.map byteD).flatMap (ids [A,.cells (T.map byteD)] 10) = []
  exact z8w b
 show [D.sl 1 0 32 1 false false,dBy b].flatMap (ids [A,.cells (T.map byteD)] 11) = [1]
 rw [List.flatMap_cons,List.flatMap_cons,h1,h2]; rfl
theorem zoa {A : Obj} {cs : List D} : freezeAll [A,.cells cs] [1] = [A,.frozen cs]:=rfl

theorem r331 (t b : List UInt8) (ht : t.length <= 1000) (hb : b.length <= 900000000) : runP E (dL E) 331 [.str t,dBy b] = some (dDig (tgB t b)):=by
 have e1:=r364 t (by omega)
 have e2:=r365' (shaB t) b (by rw [z3a]; omega)
 have e3:=r364 (shaB t ++ b) (by rw [List.length_append,z3a]; omega)
 have hl:=z3a (b:=t)
 refine zx c331 (by simp) ?_
 conv in t331=>reduce; dsimp [Int.negSucc_eq]
 have hl3:=z3a (b:=shaB t ++ b)
 unfold tgB
 generalize shaB t = T at e1 e2 e3 hl hl3 ⊢
 generalize shaB (T ++ b) = U at e3 hl3 ⊢
 have hsl : sliceD E 73 (.loc 1 0) none none none = some (.sl 1 0 32 1 false false):=rfl
 have hsc : setCells (z32.map byteD) 0 (T.map byteD) = T.map byteD:=ze (by rw [List.length_map,List.length_map,hl]; rfl)
 have hz : z32.map byteD = List.replicate 32 (D.int .u8 0):=by unfold z32; rw [List.map_replicate]; rfl
 rw [hz] at hsc
 simp only [List.replicate] at hsc
 have hck : chunk 1 false 32 (T.map byteD) = some (T.map byteD):=by rw [z5h 32 T (by omega),List.take_of_length_le (by omega)]
 have hsc2 : setCells (z32.map byteD) 0 (U.map byteD) = U.map byteD:=ze (by rw [List.length_map,List.length_map,hl3]; rfl)
 rw [hz] at hsc2
 simp only [List.replicate] at hsc2
 have hfa : frzL (frz [] 11) (T.map byteD ++ b.map byteD) = some (T.map byteD ++ b.map byteD):=by rw [<- List.map_append]; exact zc
 have e3' : runP E (dL E) 364 [.imm .none (T.map byteD ++ b.map byteD)] = some (dDig U):=by rw [<- List.map_append]; exact e3
 have hid:=fun A : Obj=>zs0 (A:=A) (b:=b) hl
 have hld : ∀ A : Obj,loadD E [.cells (U.map byteD),A] 73 (.loc 0 0) = some (.agg (U.map byteD)):=fun A=>z51 rfl hl3
 simp [t331,n331,e1,e2,e3',zc,hl,hl3,hsl,↓hsc,↓hsc2,hck,hfa,↓hid,zoa,↓hld]

theorem r335 (a b : List UInt8) (ha : a.length = 32) (hb : b.length = 32) : runP E (dL E) 335 [dDig a,dDig b] = some (dDig (tgB [99,104,97,105,110] (a ++ b))):=by
 have e1:=r365' a b (by omega)
 have e2:=r331 [99,104,97,105,110] (a ++ b) (by simp) (by simp; omega)
 have hl : (tgB [99,104,97,105,110] (a ++ b)).length = 32:=z3a
 have s1:=z88 ha
 have s2:=z88 hb
 refine zx c335 (by simp) ?_
 conv in t335=>reduce; dsimp [Int.negSucc_eq]
 generalize tgB [99,104,97,105,110] (a ++ b) = U at e2 hl ⊢
 have e2' : runP E (dL E) 331 [.str [99,104,97,105,110],.imm .none (a.map byteD ++ b.map byteD)] = some (dDig U):=by rw [<- List.map_append]; exact e2
 have hfa : frzL (frz [] 11) (a.map byteD ++ b.map byteD) = some (a.map byteD ++ b.map byteD):=by rw [<- List.map_append]; exact zc
 have hsc2 : setCells (z32.map byteD) 0 (U.map byteD) = U.map byteD:=ze (by rw [List.length_map,List.length_map,hl]; rfl)
 have hz : z32.map byteD = List.replicate 32 (D.int .u8 0):=by unfold z32; rw [List.map_replicate]; rfl
 rw [hz] at hsc2
 simp only [List.replicate] at hsc2
 have hld : ∀ r : List Obj,loadD E (.cells (U.map byteD) :: r) 73 (.loc 0 0) = some (.agg (U.map byteD)):=fun r=>z51 rfl hl
 have hfz : frz [] 11 (.str [99,104,97,105,110]) = some (.str [99,104,97,105,110]):=rfl
 have hfz2 : frz [] 12 (.str [99,104,97,105,110]) = some (.str [99,104,97,105,110]):=rfl
 simp [t335,n335,e1,e2',zc,ha,hb,hl,s1,s2,↓hsc2,hfa,↓hld,hfz,hfz2]

abbrev pC (p : Pst) : List D:=dI p.no :: dI p.minute :: dI p.corrects :: .imm .none (p.ents.map dEnt) :: p.prev.map byteD
theorem zkl {h : List Obj} {p : Pst} (h32 : p.prev.length = 32) : loadD E h 71 (.iptr (pC p)) = some (dPst p):=zky h32
theorem zrt {h r : List Obj} {p : Pst} (h32 : p.prev.length = 32) : loadD E (h ++ .cells (pC p) :: r) 71 (.loc h.length 0) = some (dPst p):=by
 have e:=z1s 36 0 (pC p) (by simp [h32])
 have e2 : (h ++ Obj.cells (pC p) :: r)[h.length]? = some (.cells (pC p)):=by simp
 unfold loadD
 simp only [e2,show (E.ty 71).size = 36 from rfl,e]
 rfl
theorem stP {p : Pst} (h32 : p.prev.length = 32) : setCells (dI p.no :: dI p.minute :: dI p.corrects :: .imm .none (p.ents.map dEnt) :: List.replicate 32 (D.int .u8 0)) 4 (p.prev.map byteD) = pC p:=by
 have e:=zp (a:=[dI p.no,dI p.minute,dI p.corrects,.imm .none (p.ents.map dEnt)]) (b:=List.replicate 32 (D.int .u8 0)) (off:=0) (vs:=p.prev.map byteD)
 rw [ze (by simp [h32])] at e
 exact e

def OkPs (l : List Pst) : Prop:=l.length <= 1000000 /\ ∀ p,p ∈ l -> p.prev.length = 32 /\ p.ents.length <= 1000000
open Classical in
noncomputable def rdD (l : List Pst) : D:=.tup [dDig (if rdE tgB l = 0 then digT tgB l else z32),dI (rdE tgB l)]
theorem z6t : ∀ {a b : List Pst},firstE a = 0 -> firstE (a ++ b) = firstE b
 | [],b,_=>rfl
 | p :: a,b,h=>by
  simp only [firstE,List.cons_append] at h ⊢
  split at h
  ·rename_i hp
   rw [if_pos hp]; exact z6t h
  ·rename_i hp; exact absurd h hp
theorem zln {l : List Pst} {i : Nat} (h : i < l.length) (h0 : firstE (l.take i) = 0) (hp : pchk l[i] ≠ 0) : firstE l = pchk l[i]:=by
 have e : l = l.take i ++ l.drop i:=(List.take_append_drop i l).symm
 have e2 : firstE l = firstE (l.drop i):=by
  conv=>lhs; rw [e]
  exact z6t h0
 rw [e2,List.drop_eq_getElem_cons h,firstE,if_neg hp]
theorem zoe {l : List Pst} {i : Nat} (h : i < l.length) (h0 : firstE (l.take i) = 0) (hp : pchk l[i] = 0) : firstE (l.take (i + 1)) = 0:=by
 rw [List.take_succ_eq_append_getElem h,z6t h0,firstE,if_pos hp]; rfl

theorem zbk {H : List Obj} {q : Nat} {m : List UInt8} (B : Bys H q m) (h : m.length = 32) : loadD E H 73 (.loc q 0) = some (.agg (m.map byteD)):=by
 have B2 : H[q]? = some (.cells (m.map byteD)):=B
 have e:=z1s 32 0 (m.map byteD) (by simp [h])
 unfold loadD
 simp only [rowOf,B2,show (E.ty 73).size = 32 from rfl,e]
 rfl
theorem z97 : ∀ {a b : List UInt8},a.length = b.length -> eqL (a.map byteD) (b.map byteD) = some (decide (a = b))
 | [],[],_=>rfl
 | x :: a,y :: b,h=>by
  have ih:=z97 (a:=a) (b:=b) (by simpa using h)
  have e : atomEq (byteD x) (byteD y) = some (((x.toNat : Int)) == (y.toNat : Int)):=by unfold atomEq byteD; simp
  rw [List.map_cons,List.map_cons,eqL,e,ih]
  simp only [Option.some.injEq]
  by_cases hxy : x = y
  ·subst hxy; simp
  ·have : ¬ ((x.toNat : Int)) = (y.toNat : Int):=fun h=>hxy (UInt8.toNat_inj.1 (by omega))
   simp [hxy,this]
 | [],_ :: _,h=>by simp at h
 | _ :: _,[],h=>by simp at h
theorem z5b : ∀ {a : List UInt8},kindsL (a.map byteD) (List.replicate a.length (D.int .u8 0)) = true
 | []=>rfl
 | x :: a=>by
  rw [List.map_cons,List.length_cons,List.replicate_succ]
  simp only [kindsL,byteD,decide_true,Bool.true_and]
  exact z5b
theorem zrn {a b : List UInt8} (ha : a.length = 32) (hb : b.length = 32) : binD E .neq 73 (.agg (a.map byteD)) (.agg (b.map byteD)) = some (.bool (!decide (a = b))):=by
 have h1 : (E.ty 73).eqc = true:=rfl
 have h2 : (E.ty 73).zero = List.replicate a.length (D.int .u8 0):=by rw [ha]; rfl
 unfold binD
 simp only []
 rw [if_pos ⟨h1,by rw [h2]; exact z5b⟩,z97 (by rw [ha,hb])]
theorem ldP_4 {h r : List Obj} {p : Pst} (h32 : p.prev.length = 32) : loadD E (h ++ .cells (pC p) :: r) 73 (.loc h.length 4) = some (.agg (p.prev.map byteD)):=by
 have e:=z1s 32 4 (pC p) (by simp [h32])
 have e2 : (h ++ Obj.cells (pC p) :: r)[h.length]? = some (.cells (pC p)):=by simp
 unfold loadD
 simp only [e2,show (E.ty 73).size = 32 from rfl,e]
 rfl
theorem dig32 : ∀ {l : List Pst},(digT tgB l).length = 32:=by
 intro l
 unfold digT
 rcases List.eq_nil_or_concat l with e | ⟨a,b,e⟩
 ·rw [e]
  show (tgB bPostings []).length = 32
  exact z3a
 ·rw [e,List.concat_eq_append,List.foldl_append]; exact (show (shaB _).length = 32 from z3a)

theorem r354 (l : List Pst) (h : OkPs l) : runP E (dL E) 354 [dPsts l] = some (rdD l):=by
 refine zx c354 (by simp) ?_
 conv in t354=>reduce; dsimp [Int.negSucc_eq]
 obtain ⟨hl,hp⟩:=h
 by_cases hlen : 65536 < l.length
 ·have hE : rdE tgB l = 2:=by unfold rdE; rw [if_pos hlen]
  unfold rdD
  rw [hE,if_neg (by decide)]
  have hln : (65536 : Int) < l.length:=by omega
  simp [t354,n354,hln]
  rfl
 ·have hln : ¬ (65536 : Int) < l.length:=by omega
  simp [t354,n354,hln]
  refine z1l l.length (fun i env h=>∃ (x2 x3 x4 x5 x6 x7 x8 x9 x13 x14 x15 x16 x17 x18 x19 x20 x21 x22 x23 : D) ,env = [dPsts l,.loc 0 0,x2,x3,x4,x5,x6,x7,x8,x9,dPsts l,dI l.length,dI i,x13,x14,x15,x16,x17,x18,x19,x20,x21,x22,x23] /\ Bys h 0 z32 /\ firstE (l.take i) = 0) 0 (by omega) ?_ ?_
  ·exact ⟨_,_,_,_,_,_,_,_,_,_,_,_,_,_,_,_,_,_,_,rfl,rfl,rfl⟩
  rintro i env h hi ⟨x2,x3,x4,x5,x6,x7,x8,x9,x13,x14,x15,x16,x17,x18,x19,x20,x21,x22,x23,rfl,B,F⟩
  by_cases hlt : i < l.length
  ·obtain ⟨p,hpi⟩ : ∃ p,p = l[i]:=⟨_,rfl⟩
   have hp2:=hp p (by rw [hpi]; exact List.getElem_mem hlt)
   have h355:=r355 p hp2.1 hp2.2
   have hup:=zl hlt (by omega)
   have hli : l[i]? = some p:=by rw [hpi]; simp [hlt]
   have q1:=fun h : List Obj=>zkl (h:=h) hp2.1
   have q2:=fun h : List Obj=>zrt (h:=h) (r:=[]) hp2.1
   have q3:=stP hp2.1
   have z1 : ∀ r : List Obj,loadD E (h ++ r) 73 (.loc 0 0) = some (.agg (z32.map byteD)):=fun r=>z51 B.app rfl
   have z2 : ∀ r : List Obj,(h ++ r)[0]? = some (.cells (z32.map byteD)):=fun r=>B.app
   have z3 : setCells (z32.map byteD) 0 (z32.map byteD) = z32.map byteD:=ze rfl
   have z4 : ∀ r : List Obj,(h ++ r).set 0 (.cells (z32.map byteD)) = h ++ r:=fun r=>z5p B.app
   have z5 : z32.length = 32:=rfl
   simp only [List.replicate] at q3
   simp [hlt,hup,<- hpi,hp2.1,↓q1,↓q2,↓q3,zm,zc,h355,↓z1,↓z2,z3,↓z4,z5]
   by_cases hpc : pchk p = 0
   ·rw [if_pos hpc]
    exact ⟨B.app,zoe hlt F (by rw [<- hpi]; exact hpc)⟩
   ·rw [if_neg hpc]
    have hf:=zln hlt F (by rw [<- hpi]; exact hpc)
    rw [<- hpi] at hf
    have hE : rdE tgB l = pchk p:=by unfold rdE; rw [if_neg hlen,if_pos (by rw [hf]; exact hpc),hf]
    unfold rdD
    rw [hE,if_neg hpc]
  ·have : i = l.length:=by omega
   subst this
   rw [List.take_length] at F
   have z1 : ∀ r : List Obj,loadD E (h ++ r) 73 (.loc 0 0) = some (.agg (z32.map byteD)):=fun r=>z51 B.app rfl
   have e331:=r331 bPostings [] (by decide) (by simp)
   have hT : tgB bPostings [] = startT tgB:=rfl
   rw [hT] at e331
   have hTl : (startT tgB).length = 32:=dig32 (l:=[])
   have hd0 : startT tgB = digT tgB (l.take 0):=by rw [List.take_zero]; rfl
   have e331 : runP E (dL E) 331 [.str [112,111,115,116,105,110,103,115],.imm .none []] = some (dDig (startT tgB)):=e331
   generalize startT tgB = d0 at e331 hTl hd0
   have hsc2 : setCells (z32.map byteD) 0 (d0.map byteD) = d0.map byteD:=ze (by rw [List.length_map,List.length_map,hTl]; rfl)
   have hz : z32.map byteD = List.replicate 32 (D.int .u8 0):=by unfold z32; rw [List.map_replicate]; rfl
   rw [hz] at hsc2
   simp only [List.replicate] at hsc2
   have hst : ∀ n s,frz [] (n + 1) (.str s) = some (.str s):=fun _ _=>rfl
   simp [e331,hTl,↓hsc2,hst]
   obtain ⟨C,hC⟩ : ∃ C,C = h.length:=⟨_,rfl⟩
   have hC0 : 0 < C:=by rw [hC]; exact At.lt B
   refine z1l l.length (fun i env h'=>∃ (x2 x3 x4 x6 x7 x8 x9 x10 x11 x12 x13 x14 x15 x19 x20 x21 x22 x23 : D) ,env = [dPsts l,.loc 0 0,x2,x3,x4,.loc C 0,x6,x7,x8,x9,x10,x11,x12,x13,x14,x15,dPsts l,dI l.length,dI i,x19,x20,x21,x22,x23] /\ Bys h' 0 z32 /\ Bys h' C (digT tgB (l.take i)) /\ ∀ j p,j < i -> l[j]? = some p -> atP tgB l j p) 0 (by omega) ?_ ?_
   ·rw [<- hC]
    exact ⟨_,_,_,_,_,_,_,_,_,_,_,_,_,_,_,_,_,_,rfl,B.app,by rw [<- hd0,hC]; simp [Bys,At],fun j p hj=>absurd hj (by omega)⟩
   rintro i env h' hi ⟨x2,x3,x4,x6,x7,x8,x9,x10,x11,x12,x13,x14,x15,x19,x20,x21,x22,x23,rfl,B0,BC,V⟩
   by_cases hlt : i < l.length
   ·obtain ⟨p,hpi⟩ : ∃ p,p = l[i]:=⟨_,rfl⟩
    have hp2:=hp p (by rw [hpi]; exact List.getElem_mem hlt)
    have h334:=r334 p hp2.1 hp2.2
    have hgp : gdP p:=z36.1 F p (by rw [hpi]; exact List.getElem_mem hlt)
    unfold encR at h334
    rw [if_pos (z2i.2 hgp)] at h334
    have hup:=zl hlt (by omega)
    have hli : l[i]? = some p:=by rw [hpi]; simp [hlt]
    have q1:=fun h : List Obj=>zkl (h:=h) hp2.1
    have q2:=fun r : List Obj=>zrt (h:=h') (r:=r) hp2.1
    have q3:=stP hp2.1
    have q4:=fun r : List Obj=>ldP_4 (h:=h') (r:=r) hp2.1
    have z1 : ∀ r : List Obj,loadD E (h' ++ r) 73 (.loc 0 0) = some (.agg (z32.map byteD)):=fun r=>z51 B0.app rfl
    have z2 : ∀ r : List Obj,(h' ++ r)[0]? = some (.cells (z32.map byteD)):=fun r=>B0.app
    have z3 : setCells (z32.map byteD) 0 (z32.map byteD) = z32.map byteD:=ze rfl
    have z4 : ∀ r : List Obj,(h' ++ r).set 0 (.cells (z32.map byteD)) = h' ++ r:=fun r=>z5p B0.app
    have z5 : z32.length = 32:=rfl
    obtain ⟨Z,hZ⟩ : ∃ Z,Z = digT tgB (l.take i):=⟨_,rfl⟩
    rw [<- hZ] at BC
    have hZ32 : Z.length = 32:=by rw [hZ]; exact dig32
    have y1 : ∀ r : List Obj,loadD E (h' ++ r) 73 (.loc C 0) = some (.agg (Z.map byteD)):=fun r=>zbk BC.app hZ32
    have y2 : ∀ r : List Obj,(h' ++ r)[C]? = some (.cells (Z.map byteD)):=fun r=>BC.app
    have y3:=zrn hp2.1 hZ32
    have y1' : ∀ r r2 : List Obj,loadD E (h' ++ r ++ r2) 73 (.loc C 0) = some (.agg (Z.map byteD)):=fun r r2=>by rw [List.append_assoc]; exact y1 _
    have q4' : ∀ r : List Obj,loadD E (h' ++ [.cells (pC p)] ++ r) 73 (.loc h'.length 4) = some (.agg (p.prev.map byteD)):=fun r=>by rw [List.append_assoc]; exact q4 _
    have q2' : ∀ r : List Obj,loadD E (h' ++ [.cells (pC p)] ++ r) 71 (.loc h'.length 0) = some (dPst p):=fun r=>by rw [List.append_assoc]; exact q2 _
    simp only [List.replicate] at q3
    have hen : (encP p).length <= 900000000:=by
     have:=zgc (zl1 hgp.fm) hp2.2 (by omega)
     omega
    have e331p:=r331 bPosting (encP p) (by decide) hen
    have hT32 : (tgB bPosting (encP p)).length = 32:=z3a
    have e335:=r335 Z (tgB bPosting (encP p)) hZ32 hT32
    have hN : tgB [99,104,97,105,110] (Z ++ tgB bPosting (encP p)) = digT tgB (l.take (i + 1)):=by rw [zls hlt,<- hZ,<- hpi]; rfl
    rw [hN] at e335
    have e331p : runP E (dL E) 331 [.str [112,111,115,116,105,110,103],dBy (encP p)] = some (dDig (tgB bPosting (encP p))):=e331p
    generalize tgB bPosting (encP p) = Tp at e331p e335 hT32 hN
    clear hN
    have hN32:=dig32 (l:=l.take (i + 1))
    obtain ⟨N,hNe⟩ : ∃ N,N = digT tgB (l.take (i + 1)):=⟨_,rfl⟩
    rw [<- hNe] at e335 hN32
    have y5 : setCells (Z.map byteD) 0 (N.map byteD) = N.map byteD:=ze (by rw [List.length_map,List.length_map,hZ32,hN32])
    have y6 : ∀ r : List Obj,(h' ++ r).set C (.cells (N.map byteD)) = h'.set C (.cells (N.map byteD)) ++ r:=fun r=>z1y (At.lt BC)
    have fin : ∀ r : List Obj,Bys (h'.set C (.cells (N.map byteD)) ++ r) 0 z32 /\ Bys (h'.set C (.cells (N.map byteD)) ++ r) C (digT tgB (l.take (i + 1))) /\ (p.no = i -> p.prev = Z -> (∀ q,0 < i -> l[i - 1]? = some q -> q.minute <= p.minute) -> ∀ j p,j < i + 1 -> l[j]? = some p -> atP tgB l j p):=by
     intro r
     refine ⟨(At.ne B0 (by omega)).app,by rw [<- hNe]; exact (At.self (At.lt BC)).app,fun h1 h2 h3 j p' hj hp'=>?_⟩
     by_cases hji : j < i
     ·exact V j p' hji hp'
     ·have : j = i:=by omega
      subst this
      rw [hli] at hp'
      cases hp'
      exact ⟨h1,by rw [h2,hZ],fun k q hk hq=>h3 q (by omega) (by rw [show j - 1 = k from by omega]; exact hq)⟩
    have bad : (¬ p.no = i \/ (∃ q,l[i - 1]? = some q /\ 0 < i /\ p.minute < q.minute) \/ ¬ p.prev = Z) -> rdD l = .tup [dDig z32,dI 410]:=by
     intro hb
     have hv : ¬ vld tgB l:=by
      intro v
      have a:=v.2.2 i p hli
      rcases hb with h1 | ⟨q,h1,h2,h3⟩ | h1
      ·exact h1 a.no
      ·have:=a.minute (i - 1) q (by omega) h1
       omega
      ·exact h1 (by rw [hZ]; exact a.prev)
     have hE : rdE tgB l = 410:=by unfold rdE; rw [if_neg hlen,if_neg (by simp [F]),if_neg hv]
     unfold rdD
     rw [hE,if_neg (by decide)]
    by_cases hno : p.no = (i : Int)
    ·have hno':=eq_true hno
     have hst2 : (0 < i /\ ∃ q,l[i - 1]? = some q /\ q.prev.length = 32) \/ i = 0:=by
      rcases Nat.eq_zero_or_pos i with h0 | h0
      ·exact .inr h0
      ·exact .inl ⟨h0,l[i - 1],List.getElem?_eq_getElem (by omega),(hp _ (List.getElem_mem _)).1⟩
     have hw1 : 0 < i -> Go.IntKind.i64.wrap ((i : Int) - 1) = ((i - 1 : Nat) : Int):=fun h0=>by
      rw [za ⟨by omega,by omega⟩]; omega
     by_cases hpv : p.prev = Z
     ·have hpv':=eq_true hpv
      rcases hst2 with ⟨h0,q,hq,hq32⟩ | h0
      ·by_cases hm : p.minute < q.minute
       ·rw [bad (.inr (.inl ⟨q,hq,h0,hm⟩))]
        simp [hlt,<- hpi,hp2.1,↓q1,↓q3,↓q4,↓q4',↓q2,↓q2',↓y1,↓y1',y3,hno',h0,hw1 h0,hq,hq32,hm,↓z1,↓z2,z3,↓z4,z5,zc]
       ·simp [hlt,<- hpi,hp2.1,↓q1,↓q3,↓q4,↓q4',↓q2,↓q2',↓y1,↓y1',y3,hno',h0,hw1 h0,hq,hq32,hm,hpv',hup,h334,zm,zc,hst,e331p,e335,hT32,hZ32,hN32,y5,↓y2,↓y6]
        exact ⟨(fin _).1,(fin _).2.1,(fin []).2.2 hno hpv fun q' _ hq'=>by rw [hq] at hq'; cases hq'; omega⟩
      ·have h0' : ¬ 0 < i:=by omega
       simp [h0',hlt,<- hpi,hp2.1,↓q1,↓q3,↓q4,↓q4',↓q2,↓q2',↓y1,↓y1',y3,hno',hpv',hup,h334,zm,zc,hst,e331p,e335,hT32,hZ32,hN32,y5,↓y2,↓y6]
       exact ⟨(fin _).1,(fin _).2.1,(fin []).2.2 hno hpv fun q' h0 _=>absurd h0 h0'⟩
     ·rw [bad (.inr (.inr hpv))]
      rcases hst2 with ⟨h0,q,hq,hq32⟩ | h0
      ·by_cases hm : p.minute < q.minute
       ·simp [hlt,<- hpi,hp2.1,↓q1,↓q3,↓q4,↓q4',↓q2,↓q2',↓y1,↓y1',y3,hno',h0,hw1 h0,hq,hq32,hm,↓z1,↓z2,z3,↓z4,z5,zc]
       ·simp [hlt,<- hpi,hp2.1,↓q1,↓q3,↓q4,↓q4',↓q2,↓q2',↓y1,↓y1',y3,hno',h0,hw1 h0,hq,hq32,hm,hpv,↓z1,↓z2,z3,↓z4,z5,zc]
      ·have h0' : ¬ 0 < i:=by omega
       simp [h0',hlt,<- hpi,hp2.1,↓q1,↓q3,↓q4,↓q4',↓q2,↓q2',↓y1,↓y1',y3,hno',hpv,↓z1,↓z2,z3,↓z4,z5,zc]
    ·rw [bad (.inl hno)]
     simp [hlt,<- hpi,hp2.1,↓q1,↓q3,↓q4,↓q4',↓q2,↓q2',↓y1,↓y1',y3,hno,↓z1,↓z2,z3,↓z4,z5,zc]
   ·have : i = l.length:=by omega
    subst this
    rw [List.take_length] at BC
    have hv : vld tgB l:=⟨by omega,fun p hp=>z36.1 F p hp,fun i p hi=>V i p (List.getElem?_eq_some_iff.1 hi).1 hi⟩
    have hE : rdE tgB l = 0:=z1k.2 hv
    have y1:=zbk BC dig32
    have z2 : h'[0]? = some (.cells (z32.map byteD)):=B0
    have y4 : setCells (z32.map byteD) 0 ((digT tgB l).map byteD) = (digT tgB l).map byteD:=ze (by rw [List.length_map,List.length_map,dig32]; rfl)
    have hl0 : 0 < h'.length:=At.lt B0
    have y5 : Bys (h'.set 0 (.cells ((digT tgB l).map byteD))) 0 (digT tgB l):=At.self hl0
    have y6:=z51 y5 dig32
    have hD : rdD l = .tup [dDig (digT tgB l),dI 0]:=by unfold rdD; rw [hE,if_pos rfl]
    have d32:=dig32 (l:=l)
    rw [hD]
    have z5 : z32.length = 32:=rfl
    simp [y1,z2,y4,↓y6,d32,z5,zc]

end Dv

namespace Dv

def cmpct : List (Int × Int) -> List (Int × Int)
 | []=>[]
 | [x]=>[x]
 | x :: y :: r=>if x = y then cmpct (y :: r) else x :: cmpct (y :: r)

theorem zm0 : ∀ {l : List (Int × Int)} {a : Int × Int},a ∈ cmpct l ↔ a ∈ l
 | [],a=>by simp [cmpct]
 | [x],a=>by simp [cmpct]
 | x :: y :: r,a=>by
  have ih:=zm0 (l:=y :: r) (a:=a)
  unfold cmpct
  split
  ·rename_i e
   rw [ih]
   subst e
   simp
  ·rw [List.mem_cons,ih]
   simp
theorem zgg : ∀ {l : List (Int × Int)},l ≠ [] -> cmpct l ≠ []
 | [],h=>absurd rfl h
 | [x],_=>by simp [cmpct]
 | x :: y :: r,_=>by
  unfold cmpct
  split
  ·exact zgg (by simp)
  ·simp
theorem zii : ∀ {l : List (Int × Int)},(cmpct l).getLast? = l.getLast?
 | []=>rfl
 | [x]=>rfl
 | x :: y :: r=>by
  have ih:=zii (l:=y :: r)
  unfold cmpct
  split
  ·rw [ih]; simp
  ·have hne:=zgg (l:=y :: r) (by simp)
   obtain ⟨z,zs,hz⟩:=List.exists_cons_of_ne_nil hne
   rw [hz] at ih ⊢
   rw [List.getLast?_cons_cons,ih]
   simp
theorem zaq : ∀ {l : List (Int × Int)} {a : Int × Int},cmpct (l ++ [a]) = if l.getLast? = some a then cmpct l else cmpct l ++ [a]
 | [],a=>by simp [cmpct]
 | [x],a=>by
  simp only [List.cons_append,List.nil_append,cmpct,List.getLast?_singleton,Option.some.injEq]
  split
  ·rename_i e; rw [e]
  ·rfl
 | x :: y :: r,a=>by
  have ih:=zaq (l:=y :: r) (a:=a)
  have e : (x :: y :: r).getLast? = (y :: r).getLast?:=List.getLast?_cons_cons
  rw [e]
  simp only [List.cons_append] at ih ⊢
  conv=>lhs; unfold cmpct
  conv=>rhs; unfold cmpct
  rw [ih]
  split
  ·rfl
  ·split <;> rfl
theorem z6f : ∀ {l : List (Int × Int)},(cmpct l).length <= l.length
 | []=>by simp [cmpct]
 | [x]=>by simp [cmpct]
 | x :: y :: r=>by
  have ih:=z6f (l:=y :: r)
  unfold cmpct
  split
  ·simp at ih ⊢; omega
  ·simp at ih ⊢; omega

theorem zk6 {x y : Int × Int} (h : pltB y x = false) : x = y \/ pltB x y = true:=by
 unfold pltB at *
 simp at *
 by_cases e : x = y
 ·exact .inl e
 ·right
  have : ¬ (x.1 = y.1 /\ x.2 = y.2):=fun h=>e (Prod.ext h.1 h.2)
  omega

theorem za6 (l : List (Int × Int)) : (psort l).Perm l:=List.mergeSort_perm l _
theorem z7b (l : List (Int × Int)) : (psort l).length = l.length:=(za6 l).length_eq
theorem zcr (l : List (Int × Int)) : (psort l).Pairwise fun x y=>pltB y x = false:=by
 have h:=List.pairwise_mergeSort (le:=fun x y : Int × Int=>!pltB y x) (fun a b c h1 h2=>by
  unfold pltB at *; simp at *; omega) (fun a b=>by
  unfold pltB; simp; omega) l
 exact h.imp fun h=>by simpa using h

def accL (l : List Pst) : List (Int × Int):=cmpct (psort (accs l))
theorem zc0 : ∀ {l : List Ent} {k i : Int},(∀ x,x ∈ l -> okEnt x) -> -(1099511627776 * l.length : Int) <= amtOf k i l /\ amtOf k i l <= 1099511627776 * l.length
 | [],k,i,_=>by simp [amtOf]
 | x :: l,k,i,h=>by
  have ih:=zc0 (l:=l) (k:=k) (i:=i) fun y hy=>h y (by simp [hy])
  have hx:=(h x (by simp)).2.2.2
  simp only [amtOf,List.length_cons]
  split <;> omega
def entN : List Pst -> Nat
 | []=>0
 | p :: l=>p.ents.length + entN l
theorem zgm : ∀ (l : List Pst),(accs l).length = entN l
 | []=>rfl
 | p :: l=>by
  have:=zgm l
  simp only [accs,List.flatMap_cons,List.length_append,List.length_map,entN] at this ⊢
  omega
theorem zme : ∀ {l : List Pst} {k i m : Int},(∀ p,p ∈ l -> ∀ x,x ∈ p.ents -> okEnt x) -> -(1099511627776 * entN l : Int) <= balP k i m l /\ balP k i m l <= 1099511627776 * entN l
 | [],k,i,m,_=>by simp [balP,entN]
 | p :: l,k,i,m,h=>by
  have ih:=zme (l:=l) (k:=k) (i:=i) (m:=m) fun q hq=>h q (by simp [hq])
  have hp:=zc0 (k:=k) (i:=i) (h p (by simp))
  simp only [balP,entN]
  split <;> omega

end Dv

namespace Dv
attribute [local simp] List.replicate depth dCell dUse dInts dChoice dVar dProb tStart addO Ret
attribute [local congr] z38 z3d z2j z1u z1h z2k z1e


theorem z5m : ∀ (a b : List D) (k : Nat) (pre : List D),pre.length = k -> takeC (pre ++ a ++ b) k a.length = some a
 | [],b,k,pre,h=>rfl
 | x :: a,b,k,pre,h=>by
  have ih:=z5m a b (k + 1) (pre ++ [x]) (by simp [h])
  have hx : (pre ++ (x :: a) ++ b)[k]? = some x:=by
   rw [List.append_assoc,List.getElem?_append_right (by omega),h,Nat.sub_self]; rfl
  rw [List.length_cons,takeC,hx]
  have e : pre ++ [x] ++ a ++ b = pre ++ x :: a ++ b:=by simp
  rw [e] at ih
  rw [ih]
theorem zar {sz : Nat} : ∀ (els : List D),(∀ x,x ∈ els -> x.cellsL.length = sz /\ ofCells true x.cellsL = some x) -> chunk sz true els.length (flat els) = some els
 | [],_=>rfl
 | x :: els,h=>by
  obtain ⟨h1,h2⟩:=h x (by simp)
  have ih:=zar els fun y hy=>h y (by simp [hy])
  have ht:=z5m x.cellsL (flat els) 0 [] rfl
  rw [List.nil_append,h1] at ht
  rw [List.length_cons,chunk,z15,ht]
  simp only [h2]
  rw [show (x.cellsL ++ flat els).drop sz = flat els from by rw [<- h1]; simp,ih]

theorem zcw {p : Pst} (h : p.prev.length = 32) : (pC p).length = 36:=by simp [h]
theorem pC_at {p : Pst} : ∀ d,d ∈ pC p -> d.atom = true:=by
 intro d hd
 simp only [pC,List.mem_cons,List.mem_map] at hd
 rcases hd with rfl | rfl | rfl | rfl | ⟨b,_,rfl⟩ <;> rfl
theorem ztm {p : Pst} : (dPst p).storable = true:=by
 show (pC p).all D.atom = true
 rw [List.all_eq_true]; exact pC_at
theorem zdb {l : List Pst} (h : ∀ p,p ∈ l -> p.prev.length = 32) : fitsE 36 (l.map dPst) = true:=by
 unfold fitsE
 rw [List.all_eq_true]
 intro x hx
 obtain ⟨p,hp,rfl⟩:=List.mem_map.1 hx
 have h1 : ((dPst p).cellsL.length == 36) = true:=by
  show ((pC p).length == 36) = true
  rw [zcw (h p hp)]; rfl
 rw [ztm,h1]; rfl
theorem z8r {hp : List Obj} {sp : Spare} {l : List Pst} (h : ∀ p,p ∈ l -> p.prev.length = 32) : listOf hp 36 true (.imm sp (l.map dPst)) = some (l.map dPst):=by
 have:=zdb h
 unfold fitsE at this
 simp only [listOf]
 rw [if_pos this]
def pCs (l : List Pst) : List D:=flat (l.map dPst)
theorem zrm {l : List Pst} (h : ∀ p,p ∈ l -> p.prev.length = 32) : (pCs l).length = l.length * 36:=by
 have:=zam (zdb h)
 unfold pCs
 rw [this,List.length_map]
theorem znh {l : List Pst} {p : Pst} : pCs l ++ flat [dPst p] = pCs (l ++ [p]):=by unfold pCs; rw [List.map_append,z1g]; rfl
theorem zin {l : List Pst} (h : ∀ p,p ∈ l -> p.prev.length = 32) : chunk 36 true l.length (pCs l) = some (l.map dPst):=by
 have:=zar (sz:=36) (l.map dPst) fun x hx=>by
  obtain ⟨p,hp,rfl⟩:=List.mem_map.1 hx
  exact ⟨zcw (h p hp),rfl⟩
 rw [List.length_map] at this
 exact this
theorem zk {hp : List Obj} {n : Nat} {l : List Pst} : frzL (frz hp (n + 5)) (l.map dPst) = some (l.map dPst):=z13 fun _ _=>zs5
theorem e70 : (E.ty 70).k = .slice 71:=rfl
theorem zmi {hp : List Obj} {id : Nat} {sp : Spare} {l : List Pst} (h : ∀ p,p ∈ l -> p.prev.length = 32) (hl : l.length <= 1000000) (h0 : l ≠ []) :
  appendM E hp id 70 70 (.imm .exact []) (.imm sp (l.map dPst)) = some ⟨.sl id 0 l.length 36 true true,some (.cells (pCs l)),none⟩:=by
 have h4 : ¬ l.length = 0:=fun h=>h0 (List.eq_nil_of_length_eq_zero h)
 have h5 : (0 + l.length) * (80 + 1) <= 211106232532992 /\ 80 <= 65536 /\ (zeroE E 71).isSome = true /\ fitsE 36 ([] : List D) = true:=⟨by simp [maxBytes]; omega,by decide,rfl,rfl⟩
 unfold appendM
 simp only [e70]
 rw [show listOf hp (E.ty 71).size (E.ty 71).ag (.imm sp (l.map dPst)) = some (l.map dPst) from z8r h]
 simp only [List.length_map,List.length_nil]
 rw [if_neg h4,show (E.ty 71).bytes = 80 from rfl,show (E.ty 71).size = 36 from rfl,if_pos h5]
 simp only [Nat.zero_add,pCs,flat,List.flatMap_nil,List.nil_append]
 rfl

def cpy (n : Nat) (l : List Pst) : D:=if l = [] then .imm .exact [] else .sl n 0 l.length 36 true true
def cpyO (l : List Pst) : List Obj:=if l = [] then [] else [.cells (pCs l)]
theorem s356 (l : List Pst) (h : ∀ p,p ∈ l -> p.prev.length = 32) (hl : l.length <= 1000000) (hp : List Obj) : runS E (dL E) 356 [dPsts l] hp = some (cpy hp.length l,hp ++ cpyO l):=by
 have : ∃ d hp',runS E (dL E) 356 [dPsts l] hp = some (d,hp') /\ (d = cpy hp.length l /\ hp' = hp ++ cpyO l):=by
  refine z2z c356 (args:=[dPsts l]) (hp:=hp) (R:=fun d hp'=>d = cpy hp.length l /\ hp' = hp ++ cpyO l) (by simp) ?_
  conv in t356=>reduce; dsimp [Int.negSucc_eq]
  by_cases h0 : l = []
  ·subst h0
   simp [t356,n356,cpy,cpyO,appendM,listOf,applyEf]
  ·have ap:=fun hp id=>zmi (hp:=hp) (id:=id) (sp:=.none) h hl h0
   simp [t356,n356,cpy,cpyO,ap,applyEf,h0]
 obtain ⟨d,hp',e,rfl,rfl⟩:=this
 exact e
theorem mk356 (l : List Pst) (h : ∀ p,p ∈ l -> p.prev.length = 32) (hl : l.length <= 1000000) (hp : List Obj) : makD (runS E (dL E)) 356 [dPsts l] hp = some (cpy hp.length l,hp ++ cpyO l):=by
 unfold makD
 rw [s356 l h hl,List.length_replicate]
 have hm : isMark (cpy hp.length l) = false:=by unfold cpy; split <;> rfl
 simp only [noMark,hm,Bool.false_eq_true,if_false,Option.map_some,Option.some.injEq,Prod.mk.injEq,true_and]
 rw [List.drop_append_of_le_length (by simp),List.drop_of_length_le (by simp),List.nil_append]

theorem r324 (l : List Pst) (h : OkPs l) : runP E (dL E) 324 [dPsts l] = some (dI (rdE tgB l)):=by
 refine zx c324 (by simp) ?_
 conv in t324=>reduce; dsimp [Int.negSucc_eq]
 have e:=r354 l h
 unfold rdD at e
 simp [t324,n324,e,zk]
theorem r329 (l : List Pst) (h : OkPs l) : runP E (dL E) 329 [dPsts l] = some (rdD l):=by
 refine zx c329 (by simp) ?_
 conv in t329=>reduce; dsimp [Int.negSucc_eq]
 have e:=r354 l h
 unfold rdD at e ⊢
 obtain ⟨d,hd⟩ : ∃ d,d = (if rdE tgB l = 0 then digT tgB l else z32):=⟨_,rfl⟩
 have h32 : d.length = 32:=by rw [hd]; split; exact dig32; rfl
 rw [<- hd] at e ⊢
 have hsc:=ze (a:=List.replicate 32 (D.int .u8 0)) (vs:=d.map byteD) (by simp [h32])
 have hld : ∀ r : List Obj,loadD E (.cells (d.map byteD) :: r) 73 (.loc 0 0) = some (.agg (d.map byteD)):=fun r=>z51 (m:=d) (by simp [Bys,At]) h32
 simp only [List.replicate] at hsc
 simp [t329,n329,e,zk,h32,hsc,↓hld,zc]

theorem zaf {hp : List Obj} {sp : Spare} {p : Pst} (h : p.prev.length = 32) : listOf hp 36 true (.imm sp [dPst p]) = some [dPst p]:=z8r (l:=[p]) (by simp [h])
theorem zph {pre : List Obj} {l : List Pst} {p : Pst} {sp : Spare} (h : ∀ p,p ∈ l -> p.prev.length = 32) (hp : p.prev.length = 32) (hl : l.length <= 1000000) :
  ∃ m X,appendG E (pre ++ cpyO l) 70 70 (cpy pre.length l) (.imm sp [dPst p]) = some (.sl m 0 (l.length + 1) 36 true true,X) /\ At X m (.cells (pCs (l ++ [p]))):=by
 by_cases h0 : l = []
 ·subst h0
  refine ⟨pre.length,pre ++ [.cells (pCs [p])],?_,by simp [At]⟩
  have h5 : (0 + 1) * (80 + 1) <= 211106232532992 /\ 80 <= 65536 /\ (zeroE E 71).isSome = true /\ fitsE 36 ([] : List D) = true:=⟨by simp [maxBytes],by decide,rfl,rfl⟩
  unfold appendG cpy cpyO
  simp only [if_true,List.append_nil,e70]
  rw [show listOf pre (E.ty 71).size (E.ty 71).ag (.imm sp [dPst p]) = some [dPst p] from zaf hp]
  simp only [List.length_cons,List.length_nil]
  rw [if_neg (by simp),show (E.ty 71).bytes = 80 from rfl,show (E.ty 71).size = 36 from rfl,if_pos h5]
  rfl
 ·have hg : (pre ++ cpyO l)[pre.length]? = some (.cells (pCs l)):=by unfold cpyO; rw [if_neg h0]; simp
  refine ⟨(pre ++ cpyO l).length,(pre ++ cpyO l).set pre.length .dead ++ [.cells (pCs (l ++ [p]))],?_,by simp [At]⟩
  have h5 : (l.length + 1) * (80 + 1) <= 211106232532992 /\ 80 <= 65536 /\ (zeroE E 71).isSome = true /\ (36 : Nat) = 36 /\ (pCs l).length = l.length * 36:=⟨by simp [maxBytes]; omega,by decide,rfl,rfl,zrm h⟩
  unfold appendG cpy
  simp only [if_neg h0,e70]
  rw [show listOf (pre ++ cpyO l) (E.ty 71).size (E.ty 71).ag (.imm sp [dPst p]) = some [dPst p] from zaf hp,hg]
  simp only [List.length_cons,List.length_nil]
  rw [if_neg (by simp),show (E.ty 71).bytes = 80 from rfl,show (E.ty 71).size = 36 from rfl,if_pos h5,znh]
  rfl
theorem zo1 {X : List Obj} {m n : Nat} {L : List Pst} {gr : Bool} (h : At X m (.cells (pCs L))) (h32 : ∀ p,p ∈ L -> p.prev.length = 32) : frz X (n + 6) (.sl m 0 L.length 36 true gr) = some (dPsts L):=by
 have hr : rowOf X m = some (pCs L):=by unfold rowOf; rw [h.eq]
 show (match rowOf X m with | some cs=>(match chunk 36 true L.length (cs.drop 0) with | some els=>(frzL (frz X (n + 5)) els).map (D.imm .none) | none=>none) | none=>none) = _
 rw [hr]
 simp only [List.drop_zero]
 rw [zin h32]
 simp only []
 rw [zk]
 rfl

open Classical in
noncomputable def poD (l : List Pst) (s : Stp) : D:=.tup [dPsts (if postE tgB l s = 0 then l ++ [newP tgB l s] else []),dI (postE tgB l s)]

theorem r316 (l : List Pst) (s : Stp) (h : OkPs l) (hs : s.ents.length <= 1000000) : runP E (dL E) 316 [dPsts l,dI s.minute,dI s.corrects,.imm .none (s.ents.map dEnt)] = some (poD l s):=by
 refine zx c316 (by simp) ?_
 conv in t316=>reduce; dsimp [Int.negSucc_eq]
 have e354:=r354 l h
 unfold rdD at e354
 obtain ⟨d,hd⟩ : ∃ d,d = (if rdE tgB l = 0 then digT tgB l else z32):=⟨_,rfl⟩
 have h32 : d.length = 32:=by rw [hd]; split; exact dig32; rfl
 rw [<- hd] at e354
 have hsc:=ze (a:=List.replicate 32 (D.int .u8 0)) (vs:=d.map byteD) (by simp [h32])
 simp only [List.replicate] at hsc
 by_cases h0 : rdE tgB l = 0
 ·have v:=z1k.1 h0
  have h0' : rdE tgB l = 0:=h0
  rw [if_pos h0] at hd
  have hl : l.length <= 65536:=v.1
  rw [h0] at e354
  by_cases hmax : l.length = 65536
  ·have hm : ((l.length : Nat) : Int) = 65536:=by omega
   have hE : postE tgB l s = 2:=by unfold postE; rw [if_neg (by simp [h0]),if_pos hmax]
   unfold poD
   rw [hE,if_neg (by decide)]
   simp [t316,n316,e354,zk,h32,hsc,hm]
  ·have hm : ¬ ((l.length : Nat) : Int) = 65536:=by omega
   have hlast : (0 < l.length /\ ∃ q,l[l.length - 1]? = some q /\ q.prev.length = 32 /\ l.getLast? = some q) \/ ¬ 0 < l.length:=by
    rcases Nat.eq_zero_or_pos l.length with h1 | h1
    ·exact .inr (by omega)
    ·exact .inl ⟨h1,l[l.length - 1],List.getElem?_eq_getElem (by omega),(h.2 _ (List.getElem_mem _)).1,by rw [List.getLast?_eq_getElem?,List.getElem?_eq_getElem (by omega)]⟩
   have hw1 : 0 < l.length -> Go.IntKind.i64.wrap ((l.length : Int) - 1) = ((l.length - 1 : Nat) : Int):=fun h0=>by
    rw [za ⟨by omega,by omega⟩]; omega
   obtain ⟨p,hp⟩ : ∃ p : Pst,p = newP tgB l s:=⟨_,rfl⟩
   have hp2 : p = ⟨l.length,s.minute,s.corrects,s.ents,d⟩:=by rw [hp,hd]; rfl
   have p32 : p.prev.length = 32:=by rw [hp2]; exact h32
   have hpE : (∀ q,l.getLast? = some q -> ¬ s.minute < q.minute) -> postE tgB l s = pchk p:=fun hq=>by
    rw [hp]; exact z3m v (by omega) fun q h=>by have:=hq q h; omega
   have q4 : setCells (dI (l.length : Int) :: dI s.minute :: dI s.corrects :: .imm .none (s.ents.map dEnt) :: List.replicate 32 (D.int .u8 0)) 4 (d.map byteD) = pC p:=by
    rw [hp2]; exact stP (p:=⟨l.length,s.minute,s.corrects,s.ents,d⟩) h32
   have q2 : ∀ (x : Obj) (r : List Obj),loadD E (x :: .cells (pC p) :: r) 71 (.loc 1 0) = some (dPst p):=fun x r=>zrt (h:=[x]) (r:=r) p32
   have q2' : ∀ (x : Obj) (r r2 : List Obj),loadD E (x :: .cells (pC p) :: r ++ r2) 71 (.loc 1 0) = some (dPst p):=fun x r r2=>q2 x (r ++ r2)
   have q3:=stP p32
   simp only [List.replicate] at q3 q4
   have hld : ∀ r : List Obj,loadD E (.cells (d.map byteD) :: r) 73 (.loc 0 0) = some (.agg (d.map byteD)):=fun r=>z51 (m:=d) (by simp [Bys,At]) h32
   have h355:=r355 p p32 (by rw [hp2]; exact hs)
   have m356:=mk356 l (fun p hp=>(h.2 p hp).1) h.1
   have hst : (pC p).length = 36:=zcw p32
   obtain ⟨m,X,hG,hX⟩:=zph (pre:=[.cells (d.map byteD),.cells (pC p),.dead,.dead,.dead,.dead,.dead,.dead,.dead]) (sp:=.exact) (fun p hp=>(h.2 p hp).1) p32 h.1
   have hL32 : ∀ q,q ∈ l ++ [p] -> q.prev.length = 32:=fun q hq=>by
    rcases List.mem_append.1 hq with hq | hq
    ·exact (h.2 q hq).1
    ·simp at hq; rw [hq]; exact p32
   have hfz:=zo1 (n:=5) (gr:=true) hX hL32
   have hll : (l ++ [p]).length = l.length + 1:=by simp
   rw [hll] at hfz
   simp only [List.cons_append,List.nil_append,List.length_cons,List.length_nil] at hG
   rcases hlast with ⟨h1,q,hq,hq32,hql⟩ | h1
   ·by_cases hmn : s.minute < q.minute
    ·have hE : postE tgB l s = 410:=by unfold postE; rw [if_neg (by simp [h0]),if_neg hmax,if_pos ⟨q,hql,hmn⟩]
     unfold poD
     rw [hE,if_neg (by decide)]
     simp [t316,n316,e354,zk,h32,hsc,hm,h1,hw1 h1,hq,hq32,hmn]
    ·have hE:=hpE fun q' h=>by rw [hql] at h; cases h; exact hmn
     simp [t316,n316,e354,zk,h32,hsc,hm,h1,hw1 h1,hq,hq32,hmn,-zy,hld,↓q4,p32,q2,↓q3,zm,zc,h355,m356,hG,hfz]
     unfold poD
     rw [hE,<- hp]
     by_cases hc : pchk p = 0
     ·simp [hc]
     ·simp [hc]
   ·have hE:=hpE fun q' h=>by
     have : l = []:=List.eq_nil_of_length_eq_zero (by omega)
     subst this; simp at h
    simp [t316,n316,e354,zk,h32,hsc,hm,h1,-zy,hld,↓q4,p32,q2,↓q3,zm,zc,h355,m356,hG,hfz]
    unfold poD
    rw [hE,<- hp]
    by_cases hc : pchk p = 0
    ·simp [hc]
    ·simp [hc]
 ·have hE : postE tgB l s = rdE tgB l:=by unfold postE; rw [if_pos h0]
  have hne : ¬ rdE tgB l = 0:=h0
  unfold poD
  rw [hE,if_neg h0]
  simp [t316,n316,e354,zk,h32,hsc,hne]

theorem r359 (l : List Pst) : runP E (dL E) 359 [dPsts l] = some (.fn 380 [.iptr [dPsts l]]):=by
 refine zx c359 (by simp) ?_
 conv in t359=>reduce; dsimp [Int.negSucc_eq]
 simp [t359,n359,zk]

def itemsL (l : List Pst) : List (Int × Ent):=l.flatMap fun p=>p.ents.map fun x=>(p.minute,x)
theorem zhn : itemsL [] = []:=rfl
theorem z41 {p : Pst} {l : List Pst} : itemsL (p :: l) = (p.ents.map fun x=>(p.minute,x)) ++ itemsL l:=rfl

theorem ld66 {H : List Obj} {q : Nat} {p : Pst} (B : At H q (.cells (pC p))) : loadD E H 66 (.loc q 3) = some (.imm .none (p.ents.map dEnt)):=by
 unfold loadD
 simp only [B.eq,show (E.ty 66).size = 1 from rfl]
 rfl
theorem ld2 {H : List Obj} {q : Nat} {p : Pst} (B : At H q (.cells (pC p))) : loadD E H 2 (.loc q 1) = some (dI p.minute):=by
 unfold loadD
 simp only [B.eq,show (E.ty 2).size = 1 from rfl]
 rfl

theorem i380 (l : List Pst) (ok : OkPs l) (L : Nat) (J : Nat -> List (Int × Ent) -> List Obj -> Prop) (Fin : List Obj -> Prop)
  (hext : ∀ f rem hp r,J f rem hp -> J f rem (hp ++ r))
  (hown : ∀ f rem hp r,J f rem hp -> J hp.length rem (hp ++ r))
  (hy : ∀ f x rem hp o,J f (x :: rem) hp -> At hp f o -> ∃ t hp',runY (dL E) L [dI x.1,dEnt x.2] hp = some (.bool t,hp') /\ (t = true -> J f rem hp' /\ At hp' f o) /\ (t = false -> Fin hp'))
  {hp : List Obj} {f0 : Nat} (h0 : J f0 (itemsL l) hp) :
  ∃ d hp',runS E (dL E) 380 [.yld L,.iptr [dPsts l]] hp = some (d,hp') /\ ((∃ f,J f [] hp') \/ Fin hp'):=by
 refine z2z c380 (R:=fun _ hp'=>(∃ f,J f [] hp') \/ Fin hp') (by simp) ?_
 conv in t380=>reduce; dsimp [Int.negSucc_eq]
 have hl:=ok.1
 simp [t380,n380]
 refine z1l l.length (fun i env hp=>∃ (x2 x3 x7 x8 x9 x10 x11 x12 x13 x14 x15 : D) ,env = [.yld L,.iptr [dPsts l],x2,x3,dPsts l,dI l.length,dI i,x7,x8,x9,x10,x11,x12,x13,x14,x15] /\
  ∃ f,J f (itemsL (l.drop i)) hp) 0 (by omega) ⟨_,_,_,_,_,_,_,_,_,_,_,rfl,f0,by simpa using h0⟩ ?_
 rintro i env hp hi ⟨x2,x3,x7,x8,x9,x10,x11,x12,x13,x14,x15,rfl,f,hJ⟩
 by_cases hlt : i < l.length
 rotate_left
 ·have : i = l.length:=by omega
  subst this
  rw [List.drop_length,zhn] at hJ
  simp
  exact .inl ⟨f,hJ⟩
 obtain ⟨p,hpi⟩ : ∃ p,p = l[i]:=⟨_,rfl⟩
 have hp2:=ok.2 p (by rw [hpi]; exact List.getElem_mem hlt)
 have hup:=zl hlt (by omega)
 rw [z6c hlt,<- hpi,z41] at hJ
 obtain ⟨rest,hrest⟩ : ∃ rest,rest = itemsL (l.drop (i + 1)):=⟨_,rfl⟩
 rw [<- hrest] at hJ
 have q1:=fun h : List Obj=>zkl (h:=h) hp2.1
 have q3:=stP hp2.1
 simp only [List.replicate] at q3
 have hJ1:=hown _ _ _ [.cells (pC p)] hJ
 have hA1 : At (hp ++ [.cells (pC p)]) hp.length (.cells (pC p)):=by simp [At]
 have y1:=ld66 hA1
 simp [hlt,<- hpi,hp2.1,-zy,q1,↓q3,y1]
 generalize hp ++ [Obj.cells (pC p)] = H0 at hJ1 hA1
 generalize hp.length = C at hJ1 hA1
 have hel:=hp2.2
 refine z1l p.ents.length (fun j env h=>∃ (x3 x7 x8 x12 x13 x14 x15 : D) ,env = [.yld L,.iptr [dPsts l],.loc C 0,x3,dPsts l,dI l.length,dI i,x7,x8,.imm .none (p.ents.map dEnt),dI p.ents.length,dI j,x12,x13,x14,x15] /\
  J C ((p.ents.drop j).map (fun x=>(p.minute,x)) ++ rest) h /\ At h C (.cells (pC p))) 0 (by omega) ⟨_,_,_,_,_,_,_,rfl,by simpa using hJ1,hA1⟩ ?_
 rintro j env h hj ⟨x3,x7,x8,x12,x13,x14,x15,rfl,hJ2,hA2⟩
 by_cases hlt2 : j < p.ents.length
 rotate_left
 ·have : j = p.ents.length:=by omega
  subst this
  simp only [List.drop_length,List.map_nil,List.nil_append] at hJ2
  rw [hrest] at hJ2
  simp [hlt,hup]
  exact ⟨C,hJ2⟩
 have hup2:=zl hlt2 (by omega)
 obtain ⟨x,hx⟩ : ∃ x,x = p.ents[j]:=⟨_,rfl⟩
 rw [z6c hlt2,List.map_cons,List.cons_append,<- hx] at hJ2
 have y2:=fun r : List Obj=>ld2 (hA2.app (r:=r))
 have y3 : loadD E (h ++ [.cells [dI x.kind,dI x.idx,dI x.amt]]) 72 (.loc h.length 0) = some (dEnt x):=by
  unfold loadD
  simp only [List.getElem?_concat_length]
  rfl
 obtain ⟨t,hp2,e1,e2,e3⟩:=hy C (p.minute,x) _ _ _ (hext _ _ _ [.cells [dI x.kind,dI x.idx,dI x.amt]] hJ2) (hA2.app)
 simp only at e1
 cases t with
 | true=>
  obtain ⟨hJ3,hA3⟩:=e2 rfl
  rw [List.map_drop] at hJ3
  simp [hlt2,<- hx,-zy,y2,y3,e1,hup2]
  exact ⟨hJ3,hA3⟩
 | false=>
  have hF:=e3 rfl
  simp [hlt2,<- hx,-zy,y2,y3,e1,hF]

def sumIt (k i m : Int) : List (Int × Ent) -> Int
 | []=>0
 | x :: l=>(if x.1 <= m /\ x.2.kind = k /\ x.2.idx = i then x.2.amt else 0) + sumIt k i m l
theorem z6y {k i m : Int} : ∀ (a b : List (Int × Ent)),sumIt k i m (a ++ b) = sumIt k i m a + sumIt k i m b
 | [],b=>by simp [sumIt]
 | x :: a,b=>by simp only [List.cons_append,sumIt,z6y a b]; omega
theorem z9y {k i m n : Int} : ∀ (l : List Ent),sumIt k i m (l.map fun x=>(n,x)) = if n <= m then amtOf k i l else 0
 | []=>by simp [sumIt,amtOf]
 | x :: l=>by
  have ih:=z9y (k:=k) (i:=i) (m:=m) (n:=n) l
  simp only [List.map_cons,sumIt,ih,amtOf]
  by_cases h1 : n <= m
  ·simp [h1]
  ·simp [h1]
theorem z84 {k i m : Int} : ∀ (l : List Pst),sumIt k i m (itemsL l) = balP k i m l
 | []=>rfl
 | p :: l=>by rw [z41,z6y,z9y,z84 l]; rfl
theorem zah : ∀ (l : List Pst),(itemsL l).length = entN l
 | []=>rfl
 | p :: l=>by rw [z41,List.length_append,List.length_map,zah l]; rfl
theorem zho {l : List Pst} {x : Int × Ent} (h : x ∈ itemsL l) : ∃ p,p ∈ l /\ x.2 ∈ p.ents:=by
 obtain ⟨p,hp,hx⟩:=List.mem_flatMap.1 h
 obtain ⟨y,hy,rfl⟩:=List.mem_map.1 hx
 exact ⟨p,hp,hy⟩

open Classical in
noncomputable def blD (l : List Pst) (k i m : Int) : D:=.tup [dI (if rdE tgB l = 0 then balP k i m l else 0),dI (rdE tgB l)]

theorem r318 (l : List Pst) (ok : OkPs l) (hN : entN l <= 1000000) (k i m : Int) : runP E (dL E) 318 [dPsts l,dAcc k i,dI m] = some (blD l k i m):=by
 have e324:=r324 l ok
 have e359:=r359 l
 refine zx c318 (by simp) ?_
 conv in t318=>reduce; dsimp [Int.negSucc_eq]
 unfold blD
 by_cases h0 : rdE tgB l = 0
 ·have v:=z1k.1 h0
  rw [h0] at e324 ⊢
  rw [if_pos rfl]
  obtain ⟨B,hB⟩ : ∃ B,B = balP k i m l:=⟨_,rfl⟩
  rw [<- hB]
  simp [t318,n318,zk,e324,e359]
  refine ⟨380,_,rfl,?_⟩
  intro L hL hcb
  obtain ⟨J,hJ⟩ : ∃ J : Nat -> List (Int × Ent) -> List Obj -> Prop,J = fun f rem hp'=>2 <= f /\ ∃ (c : Int),At hp' 0 (.cells [dI c]) /\ At hp' 1 (L false none) /\ c + sumIt k i m rem = B /\ rem.length <= 1000000 /\ -(1099511627776 * (1000000 - rem.length) : Int) <= c /\ c <= 1099511627776 * (1000000 - rem.length) /\ ∀ x,x ∈ rem -> okEnt x.2:=⟨_,rfl⟩
  have key:=i380 l ok 1 J (fun _=>False) (by
    rw [hJ]
    rintro f rem hp' r ⟨hf,c,a1,a2,a3⟩
    exact ⟨hf,c,a1.app,a2.app,a3⟩) (by
    rw [hJ]
    rintro f rem hp' r ⟨hf,c,a1,a2,a3⟩
    exact ⟨by have:=a2.lt; omega,c,a1.app,a2.app,a3⟩) (by
    intro f x rem hp1 o hj ho
    rw [hJ] at hj
    obtain ⟨hf,c,a1,a2,a3,a4,a5,a6,a7⟩:=hj
    have l1:=a2.lt
    have ⟨ok1,ok2,ok3,ok4,ok5⟩:=a7 x (by simp)
    obtain ⟨mi,⟨kd,ix,am⟩⟩:=x
    simp only at ok1 ok2 ok3 ok4 ok5
    simp only [List.length_cons] at a4 a5 a6
    simp only [sumIt] at a3
    obtain ⟨H1,hH1⟩ : ∃ H1,H1 = hp1.set 1 (L true none):=⟨_,rfl⟩
    have b0 : At H1 0 (.cells [dI c]):=by rw [hH1]; exact a1.ne (by omega)
    have b1 : At H1 1 (L true none):=by rw [hH1]; exact At.self l1
    have bf : At H1 f o:=by rw [hH1]; exact ho.ne (by omega)
    have hw : Go.IntKind.i64.wrap (c + am) = c + am:=za ⟨by omega,by omega⟩
    have l0:=b0.lt
    obtain ⟨t,hp2,e1,e2⟩:=hcb [dI mi,dEnt ⟨kd,ix,am⟩] hp1 (fun t hp'=>t = true /\ J f rem hp' /\ At hp' f o) rfl a2 (by
     rw [show [Obj.cells [D.int Go.IntKind.i64 0]].length = 1 from rfl]
     have y2 : ∀ r : List Obj,(hp1 ++ r)[1]? = some (L false none):=fun r=>a2.app
     have y6 : ∀ r : List Obj,(hp1 ++ r).set 1 (L true none) = H1 ++ r:=fun r=>by rw [z1y l1,hH1]
     have y7 : hp1.length = H1.length:=by rw [hH1,List.length_set]
     have y0 : ∀ r : List Obj,(H1 ++ r)[0]? = some (.cells [dI c]):=fun r=>b0.app
     have y8 : ∀ (o : Obj) (r : List Obj),(H1 ++ r).set 0 o = H1.set 0 o ++ r:=fun o r=>z1y l0
     have y9 : ∀ (o : Obj) (r : List Obj),(H1.set 0 o ++ r)[1]? = some (L true none):=fun o r=>(b1.ne (by omega)).app
     have y10 : ∀ r : List Obj,(H1 ++ r)[1]? = some (L true none):=fun r=>b1.app
     have fin : ∀ (c' : Int) (G : List Obj),At G 0 (.cells [dI c']) -> 1 < G.length -> At G f o -> c' + sumIt k i m rem = B -> -(1099511627776 * (1000000 - rem.length) : Int) <= c' -> c' <= 1099511627776 * (1000000 - rem.length) -> ∀ r : List Obj,J f rem ((G ++ r).set 1 (L false none)) /\ At ((G ++ r).set 1 (L false none)) f o:=by
      intro c' G g0 gl gf g3 g4 g5 r
      have e : (G ++ r).set 1 (L false none) = G.set 1 (L false none) ++ r:=z1y gl
      rw [e,hJ]
      exact ⟨⟨hf,c',(g0.ne (by omega)).app,(At.self gl).app,g3,by omega,g4,g5,fun x hx=>a7 x (by simp [hx])⟩,(gf.ne (by omega)).app⟩
     by_cases hh : mi <= m /\ kd = k /\ ix = i
     ·obtain ⟨g1,g2,g3⟩:=hh
      subst g2 g3
      simp [setAll,↓y2,↓y6,y7,↓y0,↓y8,↓y9,↓y10,g1,hw]
      rw [if_pos ⟨g1,rfl,rfl⟩] at a3
      exact fin (c + am) _ (At.self l0) (by rw [List.length_set]; omega) (bf.ne (by omega)) (by omega) (by omega) (by omega) _
     ·rw [if_neg hh] at a3
      have hF:=fin c H1 b0 (by omega) bf (by omega) (by omega) (by omega)
      by_cases g1 : mi <= m
      ·have hbf : (kd == k && ix == i) = false:=by
        rw [Bool.and_eq_false_iff]
        by_cases g2 : kd = k
        ·right
         have : ¬ ix = i:=fun g3=>hh ⟨g1,g2,g3⟩
         simpa using this
        ·left; simpa using g2
       simp [setAll,↓y2,↓y6,y7,↓y10,g1,hbf]
       exact hF _
      ·simp [setAll,↓y2,↓y6,y7,↓y10,g1]
       exact hF _)
    exact ⟨t,hp2,e1,fun _=>e2.2,fun h=>by rw [e2.1] at h; cases h⟩) (hp:=[.cells [dI 0],L false none]) (f0:=2) (by
    rw [hJ]
    have hlen:=zah l
    refine ⟨Nat.le_refl _,0,rfl,rfl,by rw [z84,Int.zero_add]; exact hB.symm,by omega,by omega,by omega,fun x hx=>?_⟩
    obtain ⟨p,hp,hx2⟩:=zho hx
    exact (v.2.1 p hp).fm.ents.ok _ hx2)
  obtain ⟨d,hp',h1,h2⟩:=key
  rcases h2 with ⟨f,h2⟩ | h2
  ·rw [hJ] at h2
   obtain ⟨_,c,a1,a2,a3,_⟩:=h2
   simp only [sumIt,Int.add_zero] at a3
   subst a3
   refine ⟨d,hp',h1,.inl ⟨a2,?_⟩⟩
   have l0:=a1.lt
   have c0 : ∀ o,((hp'.set 1 .dead).set 0 o)[0]? = some o:=fun o=>At.self (by simpa using l0)
   simp [a1.eq,↓c0]
  ·exact h2.elim
 ·rw [if_neg h0]
  simp [t318,n318,zk,e324,h0]

theorem z4l (p : Int × Int) (l : List (Int × Int)) : unpairs (p :: l) = dI p.1 :: dI p.2 :: unpairs l:=rfl
theorem z3p : ∀ (l : List (Int × Int)),(unpairs l).length = l.length * 2
 | []=>rfl
 | p :: l=>by rw [z4l,List.length_cons,List.length_cons,z3p l,List.length_cons]; omega
theorem z82 (a b : List (Int × Int)) : unpairs (a ++ b) = unpairs a ++ unpairs b:=List.flatMap_append
theorem zcv : ∀ (l : List (Int × Int)),pairsOf (unpairs l) = some l
 | []=>rfl
 | p :: l=>by rw [z4l]; simp only [pairsOf,zcv l]
theorem zb2 : ∀ (l : List (Int × Int)) (k : Nat),(unpairs l).take (k * 2) = unpairs (l.take k)
 | [],k=>by simp [unpairs]
 | p :: l,0=>rfl
 | p :: l,k + 1=>by
  rw [z4l,show (k + 1) * 2 = k * 2 + 1 + 1 from by omega,List.take_succ_cons,List.take_succ_cons,zb2 l k]; rfl
theorem zqv {l : List (Int × Int)} {k : Nat} (h : k < l.length) : takeC (unpairs l) (k * 2) 2 = some [dI l[k].1,dI l[k].2]:=by
 have e : unpairs l = unpairs (l.take k) ++ [dI l[k].1,dI l[k].2] ++ unpairs (l.drop (k + 1)):=by
  conv=>lhs; rw [<- List.take_append_drop k l,List.drop_eq_getElem_cons h,z82,z4l]
  simp
 rw [e]
 exact z5m [dI l[k].1,dI l[k].2] _ _ _ (by rw [z3p,List.length_take]; omega)
theorem zqw {l : List (Int × Int)} {k : Nat} {a : Int × Int} (h : k < l.length) : setCells (unpairs l) (k * 2) [dI a.1,dI a.2] = unpairs (l.set k a):=by
 have e : unpairs l = unpairs (l.take k) ++ (dI l[k].1 :: dI l[k].2 :: unpairs (l.drop (k + 1))):=by
  conv=>lhs; rw [<- List.take_append_drop k l,List.drop_eq_getElem_cons h,z82,z4l]
 have hl : (unpairs (l.take k)).length = k * 2:=by rw [z3p,List.length_take]; omega
 have e2:=zp (a:=unpairs (l.take k)) (b:=dI l[k].1 :: dI l[k].2 :: unpairs (l.drop (k + 1))) (off:=0) (vs:=[dI a.1,dI a.2])
 have e3 : k * 2 + 0 = k * 2:=rfl
 rw [hl,e3] at e2
 rw [e,e2,List.set_eq_take_append_cons_drop,if_pos h,z82,z4l]
 rfl
theorem ld65 {H : List Obj} {q k : Nat} {l : List (Int × Int)} (A : At H q (.cells (unpairs l))) (h : k < l.length) : loadD E H 65 (.loc q (k * 2)) = some (dAcc l[k].1 l[k].2):=by
 unfold loadD
 simp only [A.eq,show (E.ty 65).size = 2 from rfl,zqv h]
 rfl
theorem st65 {H : List Obj} {q k : Nat} {l : List (Int × Int)} {a : Int × Int} (A : At H q (.cells (unpairs l))) (h : k < l.length) : storeD E H 65 (.loc q (k * 2)) (dAcc a.1 a.2) = some (H.set q (.cells (unpairs (l.set k a)))):=by
 unfold storeD
 simp only [A.eq]
 rw [if_pos ⟨rfl,rfl,by rw [z3p,show (E.ty 65).size = 2 from rfl]; omega⟩]
 rw [<- zqw h]
 rfl

theorem s361 {hp : List Obj} {q : Nat} {xs : List (Int × Int)} {gr ag : Bool} {k : Nat} (hk : k = 362 \/ k = 386) (A : At hp q (.cells (unpairs xs))) (hl : xs.length <= 1000000) :
  runS E (dL E) (361) [.sl q 0 xs.length 2 ag gr,.fn k []] hp = some (.tup [],hp.set q (.cells (unpairs (psort xs)))):=by
 have e : E.fn (361) = some f361:=rfl
 have e2 : E.mp 361 = false:=rfl
 have e3 : [362,386].contains k = true:=by rcases hk with rfl | rfl <;> rfl
 have e4 : E.prim 0 = sortD [362,386]:=rfl
 have e5 : sortD [362,386] [.sl q 0 xs.length 2 ag gr,.fn k []] hp = some (.tup [],hp.set q (.cells (unpairs (psort xs)))):=by
  unfold sortD
  simp only [e3,if_true,A.eq]
  rw [if_pos ⟨z3p xs,by omega⟩,zcv]
 unfold runS
 simp only [e,e2,f361,startF,z9b,z6d,zgf,z5f,z7h,finishQ]
 simp [stepOps,stepOp,wantedD,putO,DOp.fin,finOp,pureOp,getO,gOf,z7h,finishF,resD,applyEf,addO,z5f,z9a,isMark,e4,e5,oneRes]
theorem s361n {hp : List Obj} {k : Nat} (hk : k = 362 \/ k = 386) : runS E (dL E) (361) [.imm .exact [],.fn k []] hp = some (.tup [],hp):=by
 have e : E.fn (361) = some f361:=rfl
 have e2 : E.mp 361 = false:=rfl
 have e3 : [362,386].contains k = true:=by rcases hk with rfl | rfl <;> rfl
 have e4 : E.prim 0 = sortD [362,386]:=rfl
 have e5 : sortD [362,386] [.imm .exact [],.fn k []] hp = some (.tup [],hp):=by
  unfold sortD
  simp only [e3,if_true]
 unfold runS
 simp only [e,e2,f361,startF,z9b,z6d,zgf,z5f,z7h,finishQ]
 simp [stepOps,stepOp,wantedD,putO,DOp.fin,finOp,pureOp,getO,gOf,z7h,finishF,resD,applyEf,addO,z5f,z9a,isMark,e4,e5,oneRes]

def zrow (xs : List (Int × Int)) (m : Nat) : List (Int × Int):=cmpct (xs.take m) ++ xs.drop (cmpct (xs.take m)).length
theorem zlen {xs : List (Int × Int)} {m : Nat} : (cmpct (xs.take m)).length <= m:=Nat.le_trans z6f (by rw [List.length_take]; omega)
theorem z7k {xs : List (Int × Int)} {m : Nat} (h : m <= xs.length) : (zrow xs m).length = xs.length:=by
 have:=zlen (xs:=xs) (m:=m)
 unfold zrow
 rw [List.length_append,List.length_drop]; omega
theorem zfc {xs : List (Int × Int)} {m j : Nat} (hj : (cmpct (xs.take m)).length <= j) (h : j < xs.length) (hm : m <= xs.length) : (zrow xs m)[j]'(by rw [z7k hm]; exact h) = xs[j]:=by
 have : (zrow xs m)[j]? = some xs[j]:=by
  unfold zrow
  rw [List.getElem?_append_right hj,List.getElem?_drop,show (cmpct (xs.take m)).length + (j - (cmpct (xs.take m)).length) = j from by omega,List.getElem?_eq_getElem h]
 rw [List.getElem?_eq_getElem (by rw [z7k hm]; exact h)] at this
 exact Option.some.inj this
theorem zkm {xs : List (Int × Int)} {m : Nat} (h0 : 0 < m) (h : m <= xs.length) : (xs.take m).getLast? = some (xs[m - 1]'(by omega)):=by
 rw [List.getLast?_eq_getElem?,List.length_take,Nat.min_eq_left h,List.getElem?_take,if_pos (by omega),List.getElem?_eq_getElem]
theorem zcm {xs : List (Int × Int)} {m : Nat} (h0 : 0 < m) (h : m < xs.length) : cmpct (xs.take (m + 1)) = if xs[m - 1]'(by omega) = xs[m] then cmpct (xs.take m) else cmpct (xs.take m) ++ [xs[m]]:=by
 rw [List.take_succ_eq_append_getElem h,zaq,zkm h0 (by omega)]
 simp
theorem zqa {xs : List (Int × Int)} {m : Nat} (h0 : 0 < m) (h : m < xs.length) (he : xs[m - 1]'(by omega) = xs[m]) : zrow xs (m + 1) = zrow xs m:=by
 unfold zrow; rw [zcm h0 h,if_pos he]
theorem zq9 {xs : List (Int × Int)} {m : Nat} (h0 : 0 < m) (h : m < xs.length) (he : ¬ xs[m - 1]'(by omega) = xs[m]) : zrow xs (m + 1) = (zrow xs m).set (cmpct (xs.take m)).length xs[m]:=by
 have hz:=zlen (xs:=xs) (m:=m)
 unfold zrow
 rw [zcm h0 h,if_neg he]
 rw [List.set_append_right _ _ (Nat.le_refl _),Nat.sub_self]
 generalize hc : (cmpct (xs.take m)).length = c at hz
 rw [List.length_append,hc,List.drop_eq_getElem_cons (show c < xs.length by omega),List.set_cons_zero]
 simp only [List.append_assoc,List.cons_append,List.nil_append]
 rfl

def KeepQ (q : Nat) (h h' : List Obj) : Prop:=h.length <= h'.length /\ ∀ j o,j ≠ q -> At h j o -> At h' j o
theorem KeepQ.refl {q : Nat} {h : List Obj} : KeepQ q h h:=⟨Nat.le_refl _,fun _ _ _ a=>a⟩
theorem KeepQ.app {q : Nat} {h h' r : List Obj} (k : KeepQ q h h') : KeepQ q h (h' ++ r):=⟨by rw [List.length_append]; have:=k.1; omega,fun j o hj a=>(k.2 j o hj a).app⟩
theorem KeepQ.set {q : Nat} {h h' : List Obj} {o : Obj} (k : KeepQ q h h') : KeepQ q h (h'.set q o):=⟨by rw [List.length_set]; exact k.1,fun j o hj a=>(k.2 j o hj a).ne (Ne.symm hj)⟩

theorem z5g {xs : List (Int × Int)} (h : xs.length < 2) : cmpct xs = xs:=by
 match xs,h with
 | [],_=>rfl
 | [x],_=>rfl
def Cp (q : Nat) (hp : List Obj) (xs : List (Int × Int)) (d : D) (hp' : List Obj) : Prop:=
 ∃ cs,d = .sl q 0 (cmpct xs).length 2 true true /\ At hp' q (.cells cs) /\ cs.take ((cmpct xs).length * 2) = unpairs (cmpct xs) /\ KeepQ q hp hp'

theorem zq4 {a b : Int × Int} : binD E .eql 65 (dAcc a.1 a.2) (dAcc b.1 b.2) = some (.bool (decide (a = b))):=by
 obtain ⟨a1,a2⟩:=a
 obtain ⟨b1,b2⟩:=b
 have : binD E .eql 65 (dAcc a1 a2) (dAcc b1 b2) = some (.bool ((a1 == b1) && ((a2 == b2) && true))):=rfl
 rw [this]
 simp only [Option.some.injEq,D.bool.injEq,Prod.mk.injEq,Bool.and_true]
 by_cases h1 : a1 = b1 <;> by_cases h2 : a2 = b2 <;> simp [h1,h2]
theorem ztr {a b : Int × Int} : binD E .neq 65 (dAcc a.1 a.2) (dAcc b.1 b.2) = some (.bool (!decide (a = b))):=by
 obtain ⟨a1,a2⟩:=a
 obtain ⟨b1,b2⟩:=b
 have : binD E .neq 65 (dAcc a1 a2) (dAcc b1 b2) = some (.bool (!((a1 == b1) && ((a2 == b2) && true)))):=rfl
 rw [this]
 simp only [Option.some.injEq,D.bool.injEq,Prod.mk.injEq,Bool.and_true]
 by_cases h1 : a1 = b1 <;> by_cases h2 : a2 = b2 <;> simp [h1,h2]

theorem sl67 {q n k : Nat} {gr : Bool} (h : k <= n) : sliceD E 67 (.sl q 0 n 2 true gr) (some (dI k)) none none = some (.sl q (k * 2) (n - k) 2 true false):=by
 have hk : (E.ty 67).k = .slice 65:=rfl
 unfold sliceD
 simp only [hk,bnd,Int.natCast_nonneg,if_true,Int.toNat_natCast]
 rw [if_pos ⟨h,Nat.le_refl _,rfl⟩,Nat.zero_add]
theorem sl67h {H : List Obj} {q n k : Nat} {cs : List D} (A : At H q (.cells cs)) (h : k * 2 <= cs.length) : resliceD E H 67 (.sl q 0 n 2 true true) (dI k) = some (.sl q 0 k 2 true true,H):=by
 have hk : (E.ty 67).k = .slice 65:=rfl
 have hz : (E.ty 65).size = 2:=rfl
 unfold resliceD
 simp only [hk,hz,A.eq,Int.natCast_nonneg,true_and,Int.toNat_natCast]
 rw [if_pos ⟨h,by decide⟩]
theorem clr67 {H : List Obj} {q kk : Nat} {zs : List (Int × Int)} {gr : Bool} (A : At H q (.cells (unpairs zs))) (h : kk <= zs.length) :
  ∃ cs,clrD E H 67 (.sl q (kk * 2) (zs.length - kk) 2 true gr) = some (.undef,H.set q (.cells cs)) /\ cs.take (kk * 2) = unpairs (zs.take kk):=by
 have hk : (E.ty 67).k = .slice 65:=rfl
 have hz : zeroE E 65 = some (dAcc 0 0):=rfl
 refine ⟨setCells (unpairs zs) (kk * 2) (flat (List.replicate (zs.length - kk) (dAcc 0 0))),?_,?_⟩
 ·unfold clrD
  simp only [hk,hz,A.eq]
  rw [if_pos ⟨rfl,by rw [z3p]; omega⟩]
 ·have hl : (unpairs (zs.take kk)).length = kk * 2:=by rw [z3p,List.length_take]; omega
  have e : unpairs zs = unpairs (zs.take kk) ++ unpairs (zs.drop kk):=by rw [<- z82,List.take_append_drop]
  have e2:=zp (a:=unpairs (zs.take kk)) (b:=unpairs (zs.drop kk)) (off:=0) (vs:=flat (List.replicate (zs.length - kk) (dAcc 0 0)))
  rw [hl] at e2
  have e3 : kk * 2 + 0 = kk * 2:=rfl
  rw [e3] at e2
  rw [e,e2,List.take_append_of_le_length (by omega),List.take_of_length_le (by omega)]

theorem s363 {hp : List Obj} {q : Nat} {xs : List (Int × Int)} (A : At hp q (.cells (unpairs xs))) (hl : xs.length <= 1000000) :
  ∃ d hp',runS E (dL E) 363 [.sl q 0 xs.length 2 true true] hp = some (d,hp') /\ Cp q hp xs d hp':=by
 refine z2z c363 (args:=[.sl q 0 xs.length 2 true true]) (hp:=hp) (R:=Cp q hp xs) (by simp) ?_
 conv in t363=>reduce; dsimp [Int.negSucc_eq]
 by_cases h2 : xs.length < 2
 ·have h2' : (xs.length : Int) < 2:=by omega
  simp [t363,n363,h2']
  exact ⟨_,by rw [z5g h2],A,by rw [z5g h2,zb2,List.take_length],KeepQ.refl⟩
 have h2' : ¬ (xs.length : Int) < 2:=by omega
 simp [t363,n363,h2']
 refine z1l xs.length (fun k env h=>∃ (x3 x4 x5 x6 x7 x8 x9 x10 : D) ,env = [.sl q 0 xs.length 2 true true,.imm .exact [],dI k,x3,x4,x5,x6,x7,x8,x9,x10] /\ 1 <= k /\ At h q (.cells (unpairs xs)) /\ KeepQ q hp h /\ cmpct (xs.take k) = xs.take k) 1 (by omega) ⟨_,_,_,_,_,_,_,_,rfl,Nat.le_refl _,A,KeepQ.refl,z5g (by rw [List.length_take]; omega)⟩ ?_
 rintro k env h hk ⟨x3,x4,x5,x6,x7,x8,x9,x10,rfl,hk1,B,K,hc⟩
 by_cases hlt : k < xs.length
 rotate_left
 ·have : k = xs.length:=by omega
  subst this
  rw [List.take_length] at hc
  simp
  exact ⟨_,by rw [hc],B,by rw [hc,zb2,List.take_length],K⟩
 have hup:=zl hlt (by omega)
 have hw1 : Go.IntKind.i64.wrap ((k : Int) - 1) = ((k - 1 : Nat) : Int):=by
  rw [za ⟨by omega,by omega⟩]; omega
 have y1 : ∀ r : List Obj,loadD E (h ++ r) 65 (.loc q (k * 2)) = some (dAcc xs[k].1 xs[k].2):=fun r=>ld65 B.app hlt
 have y2 : ∀ r : List Obj,loadD E (h ++ r) 65 (.loc q ((k - 1) * 2)) = some (dAcc (xs[k - 1]'(by omega)).1 (xs[k - 1]'(by omega)).2):=fun r=>ld65 B.app (by omega)
 have hk1' : (k - 1 : Nat) < xs.length:=by omega
 have ez:=zq4 (a:=xs[k]) (b:=xs[k - 1]'(by omega))
 by_cases he : xs[k - 1]'(by omega) = xs[k]
 ·have he':=he.symm
  have hs:=sl67 (q:=q) (gr:=true) (show k <= xs.length by omega)
  have hc1 : cmpct (xs.take (k + 1)) = xs.take k:=by rw [zcm hk1 hlt,if_pos he,hc]
  have hz1 : zrow xs (k + 1) = xs:=by
   unfold zrow
   rw [hc1,List.length_take,Nat.min_eq_left (by omega),List.take_append_drop]
  have hl1 : (cmpct (xs.take (k + 1))).length = k:=by rw [hc1,List.length_take]; omega
  simp [hlt,hup,hw1,hk1',-zy,y1,y2,ez,he',hs]
  refine z1l (xs.length - k) (fun j env h=>∃ (x5 x6 x7 x8 x9 x10 : D) ,env = [.sl q 0 xs.length 2 true true,.imm .exact [],dI (cmpct (xs.take (k + j))).length,.sl q (k * 2) (xs.length - k) 2 true false,dI j,x5,x6,x7,x8,x9,x10] /\
   1 <= j /\ (cmpct (xs.take (k + j))).length + 1 <= k + j /\ At h q (.cells (unpairs (zrow xs (k + j)))) /\ KeepQ q hp h) 1 (by omega) ⟨_,_,_,_,_,_,by rw [hl1]; rfl,Nat.le_refl _,by rw [hl1]; omega,by rw [hz1]; exact B.app,K.app⟩ ?_
  rintro j env h3 hj ⟨x5,x6,x7,x8,x9,x10,rfl,hj1,hkk,B3,K3⟩
  by_cases hlt2 : j < xs.length - k
  rotate_left
  ·have : j = xs.length - k:=by omega
   subst this
   have hkn : k + (xs.length - k) = xs.length:=by omega
   rw [hkn] at hkk B3 ⊢
   rw [List.take_length] at hkk ⊢
   have hzl:=z7k (xs:=xs) (Nat.le_refl _)
   have hzt : (zrow xs xs.length).take (cmpct xs).length = cmpct xs:=by unfold zrow; rw [List.take_length]; simp
   obtain ⟨cs,h4,h5⟩:=clr67 (gr:=false) B3 (kk:=(cmpct xs).length) (by omega)
   rw [hzl] at h4
   rw [hzt] at h5
   have hs2:=sl67 (q:=q) (gr:=true) (show (cmpct xs).length <= xs.length from z6f)
   have hs3:=sl67h (n:=xs.length) (k:=(cmpct xs).length) (At.self (o:=.cells cs) B3.lt) (by have:=congrArg List.length h5; rw [z3p,List.length_take] at this; have:=z6f (l:=xs); omega)
   simp [hs2,hs3,h4]
   exact ⟨cs,rfl,At.self B3.lt,h5,K3.set⟩
  have hm : k + j < xs.length:=by omega
  have hnx : k + (j + 1) = k + j + 1:=by omega
  have hzl:=z7k (xs:=xs) (m:=k + j) (by omega)
  have g1:=zfc (xs:=xs) (m:=k + j) (j:=k + j) (by omega) hm (by omega)
  have g2:=zfc (xs:=xs) (m:=k + j) (j:=k + j - 1) (by omega) (by omega) (by omega)
  have hup2:=zl hlt2 (by omega)
  have hwj : Go.IntKind.i64.wrap ((j : Int) - 1) = ((j - 1 : Nat) : Int):=by
   rw [za ⟨by omega,by omega⟩]; omega
  have hj1' : j - 1 < xs.length - k:=by omega
  have z1 : ∀ r : List Obj,loadD E (h3 ++ r) 65 (.loc q (k * 2 + j * 2)) = some (dAcc xs[k + j].1 xs[k + j].2):=fun r=>by
   have:=ld65 (k:=k + j) (B3.app (r:=r)) (by omega)
   rw [g1,Nat.add_mul] at this
   exact this
  have z2 : ∀ r : List Obj,loadD E (h3 ++ r) 65 (.loc q (k * 2 + (j - 1) * 2)) = some (dAcc (xs[k + j - 1]'(by omega)).1 (xs[k + j - 1]'(by omega)).2):=fun r=>by
   have:=ld65 (k:=k + j - 1) (B3.app (r:=r)) (by omega)
   rw [g2,show (k + j - 1) * 2 = k * 2 + (j - 1) * 2 from by omega] at this
   exact this
  have zn:=ztr (a:=xs[k + j]) (b:=xs[k + j - 1]'(by omega))
  by_cases he2 : xs[k + j - 1]'(by omega) = xs[k + j]
  ·have hz2:=zqa (by omega) hm he2
   have hcm:=zcm (by omega) hm
   rw [if_pos he2] at hcm
   simp [hlt2,-zy,z1,z2,zn,he2.symm,hwj,hj1',hup2]
   rw [hnx,hcm,hz2]
   exact ⟨rfl,by omega,B3.app,K3.app⟩
  ·have hz2:=zq9 (by omega) hm he2
   have hcm:=zcm (by omega) hm
   rw [if_neg he2] at hcm
   have he3 : ¬ xs[k + j] = xs[k + j - 1]'(by omega):=fun h=>he2 h.symm
   obtain ⟨kk,hkke⟩ : ∃ kk,kk = (cmpct (xs.take (k + j))).length:=⟨_,rfl⟩
   have hcl : (cmpct (xs.take (k + (j + 1)))).length = kk + 1:=by rw [hnx,hcm,List.length_append,hkke]; rfl
   rw [<- hkke] at hz2 hkk
   have hst : ∀ r : List Obj,storeD E (h3 ++ r) 65 (.loc q (kk * 2)) (dAcc xs[k + j].1 xs[k + j].2) = some ((h3 ++ r).set q (.cells (unpairs ((zrow xs (k + j)).set kk xs[k + j])))):=fun r=>st65 B3.app (by omega)
   have hkn : kk < xs.length:=by omega
   have hup3:=zl hkn (by omega)
   simp [hlt2,-zy,z1,z2,zn,he3,hwj,hj1',hup2,<- hkke,hst,hkn,hup3,hcl]
   exact ⟨by omega,by rw [hnx,hz2]; exact At.self (At.lt B3.app),K3.app.set⟩
 ·have he' : ¬ xs[k] = xs[k - 1]'(by omega):=fun h=>he h.symm
  simp [hlt,hup,hw1,hk1',-zy,y1,y2,ez,he']
  exact ⟨B.app,K.app,by rw [zcm hk1 hlt,if_neg he,hc,<- List.take_succ_eq_append_getElem hlt]⟩

def pAcc (p : Int × Int) : D:=dAcc p.1 p.2
abbrev dAccs (l : List (Int × Int)) : D:=.imm .none (l.map pAcc)
theorem z9e {sz : Nat} {rest : List D} : ∀ (els : List D),(∀ x,x ∈ els -> x.cellsL.length = sz /\ ofCells true x.cellsL = some x) -> chunk sz true els.length (flat els ++ rest) = some els
 | [],_=>rfl
 | x :: els,h=>by
  obtain ⟨h1,h2⟩:=h x (by simp)
  have ih:=z9e (rest:=rest) els fun y hy=>h y (by simp [hy])
  have ht:=z5m x.cellsL (flat els ++ rest) 0 [] rfl
  rw [List.nil_append,h1] at ht
  rw [List.length_cons,chunk,z15,List.append_assoc,ht]
  simp only [h2]
  rw [show (x.cellsL ++ (flat els ++ rest)).drop sz = flat els ++ rest from by rw [<- h1]; simp,ih]
theorem zd9 : ∀ (l : List (Int × Int)),flat (l.map pAcc) = unpairs l
 | []=>rfl
 | p :: l=>by rw [List.map_cons,z15,zd9 l]; rfl
theorem zo5 {X : List Obj} {q n : Nat} {L : List (Int × Int)} {gr : Bool} {cs : List D} (h : At X q (.cells cs)) (hc : cs.take (L.length * 2) = unpairs L) : frz X (n + 3) (.sl q 0 L.length 2 true gr) = some (dAccs L):=by
 have hr : rowOf X q = some cs:=by unfold rowOf; rw [h.eq]
 have hcs : cs = flat (L.map pAcc) ++ cs.drop (L.length * 2):=by rw [zd9,<- hc,List.take_append_drop]
 have hch:=z9e (sz:=2) (rest:=cs.drop (L.length * 2)) (L.map pAcc) (fun x hx=>by obtain ⟨p,_,rfl⟩:=List.mem_map.1 hx; exact ⟨rfl,rfl⟩)
 rw [<- hcs,List.length_map] at hch
 show (match rowOf X q with | some cs=>(match chunk 2 true L.length (cs.drop 0) with | some els=>(frzL (frz X (n + 2)) els).map (D.imm .none) | none=>none) | none=>none) = _
 rw [hr]
 simp only [List.drop_zero]
 rw [hch]
 simp only []
 rw [show frzL (frz X (n + 2)) (L.map pAcc) = some (L.map pAcc) from z13 fun _ _=>rfl]
 rfl

theorem s363n (hp : List Obj) : runS E (dL E) 363 [.imm .exact []] hp = some (.imm .exact [],hp):=by
 have : ∃ d hp',runS E (dL E) 363 [.imm .exact []] hp = some (d,hp') /\ (d = .imm .exact [] /\ hp' = hp):=by
  refine z2z c363 (args:=[.imm .exact []]) (hp:=hp) (R:=fun d hp'=>d = .imm .exact [] /\ hp' = hp) (by simp) ?_
  conv in t363=>reduce; dsimp [Int.negSucc_eq]
  simp [t363,n363]
 obtain ⟨d,hp',e,rfl,rfl⟩:=this
 exact e

def AccAt (f : Nat) (H : List Obj) (acc : List (Int × Int)) (d : D) : Prop:=
 (acc = [] /\ d = .imm .exact []) \/ ∃ k,d = .sl k 0 acc.length 2 true true /\ 2 <= k /\ k ≠ f /\ At H k (.cells (unpairs acc))
theorem AccAt.app {f : Nat} {H r : List Obj} {acc : List (Int × Int)} {d : D} (h : AccAt f H acc d) : AccAt f (H ++ r) acc d:=by
 rcases h with h | ⟨k,h1,h2,h3,h4⟩
 ·exact .inl h
 ·exact .inr ⟨k,h1,h2,h3,h4.app⟩
theorem AccAt.set {f j : Nat} {H : List Obj} {o : Obj} {acc : List (Int × Int)} {d : D} (h : AccAt f H acc d) (hj : j < 2) : AccAt f (H.set j o) acc d:=by
 rcases h with h | ⟨k,h1,h2,h3,h4⟩
 ·exact .inl h
 ·exact .inr ⟨k,h1,h2,h3,h4.ne (by omega)⟩
theorem AccAt.own {f : Nat} {H r : List Obj} {acc : List (Int × Int)} {d : D} (h : AccAt f H acc d) : AccAt H.length (H ++ r) acc d:=by
 rcases h with h | ⟨k,h1,h2,h3,h4⟩
 ·exact .inl h
 ·exact .inr ⟨k,h1,h2,by have:=h4.lt; omega,h4.app⟩

theorem zpi {f : Nat} {H : List Obj} {acc : List (Int × Int)} {d : D} {a b : Int} (h : AccAt f H acc d) (hl : acc.length <= 1000000) (hf : f < H.length) (h2 : 2 <= H.length) :
  ∃ d' H',appendG E H 67 67 d (.imm .exact [dAcc a b]) = some (d',H') /\ AccAt f H' (acc ++ [(a,b)]) d' /\ d'.storable = true /\ d'.cellsL = [d'] /\ ∀ j o,j < 2 \/ j = f -> At H j o -> At H' j o:=by
 have hlo : listOf H 2 true (.imm .exact [dAcc a b]) = some [dAcc a b]:=rfl
 have e67 : (E.ty 67).k = .slice 65:=rfl
 rcases h with ⟨rfl,rfl⟩ | ⟨k,rfl,hk,hkf,hA⟩
 ·refine ⟨.sl H.length 0 1 2 true true,H ++ [.cells (unpairs [(a,b)])],?_,.inr ⟨H.length,rfl,by omega,by omega,by simp [At]⟩,rfl,rfl,fun j o _ a=>a.app⟩
  have h5 : (0 + 1) * ((E.ty 65).bytes + 1) <= 211106232532992 /\ (E.ty 65).bytes <= 65536 /\ (zeroE E 65).isSome = true /\ fitsE (E.ty 65).size ([] : List D) = true:=⟨by decide,by decide,rfl,rfl⟩
  unfold appendG
  simp only [e67]
  rw [show listOf H (E.ty 65).size (E.ty 65).ag (.imm .exact [dAcc a b]) = some [dAcc a b] from hlo]
  simp only [List.length_cons,List.length_nil]
  rw [if_neg (by simp),if_pos h5]
  rfl
 ·have hb : (E.ty 65).bytes = 16:=rfl
  refine ⟨.sl H.length 0 (acc.length + 1) 2 true true,H.set k .dead ++ [.cells (unpairs (acc ++ [(a,b)]))],?_,.inr ⟨H.length,by rw [List.length_append]; rfl,by omega,by omega,by simp [At]⟩,rfl,rfl,fun j o hj a=>(a.ne (by omega)).app⟩
  have h5 : (acc.length + 1) * ((E.ty 65).bytes + 1) <= 211106232532992 /\ (E.ty 65).bytes <= 65536 /\ (zeroE E 65).isSome = true /\ 2 = (E.ty 65).size /\ (unpairs acc).length = acc.length * 2:=⟨by rw [hb]; simp [maxBytes]; omega,by decide,rfl,rfl,z3p acc⟩
  unfold appendG
  simp only [e67]
  rw [show listOf H (E.ty 65).size (E.ty 65).ag (.imm .exact [dAcc a b]) = some [dAcc a b] from hlo,hA.eq]
  simp only [List.length_cons,List.length_nil]
  rw [if_neg (by simp),if_pos h5,z82]
  rfl

def accOf (x : Int × Ent) : Int × Int:=(x.2.kind,x.2.idx)
theorem zaw : ∀ (l : List Pst),(itemsL l).map accOf = accs l
 | []=>rfl
 | p :: l=>by
  have ih:=zaw l
  rw [z41,List.map_append,ih,List.map_map]
  rfl

def AccRow (H : List Obj) (A : List (Int × Int)) (d : D) : Prop:=
 (A = [] /\ d = .imm .exact []) \/ ∃ k cs,d = .sl k 0 A.length 2 true true /\ At H k (.cells cs) /\ cs.take (A.length * 2) = unpairs A

theorem s325 (l : List Pst) (ok : OkPs l) (hN : entN l <= 1000000) : ∃ d hp',runS E (dL E) 325 [dPsts l] [] = some (d,hp') /\ AccRow hp' (accL l) d:=by
 have e359:=r359 l
 refine z2z c325 (R:=fun d hp'=>AccRow hp' (accL l) d) (by simp) ?_
 conv in t325=>reduce; dsimp [Int.negSucc_eq]
 obtain ⟨AS,hAS⟩ : ∃ AS,AS = accs l:=⟨_,rfl⟩
 have hasl : AS.length = entN l:=by rw [hAS]; exact zgm l
 have hLs : accL l = cmpct (psort AS):=by rw [hAS]; rfl
 rw [hLs]
 simp [t325,n325,zk,e359]
 refine ⟨380,_,rfl,?_⟩
 intro L hL hcb
 obtain ⟨J,hJ⟩ : ∃ J : Nat -> List (Int × Ent) -> List Obj -> Prop,J = fun f rem hp'=>2 <= f /\ ∃ acc d,At hp' 0 (.cells [d]) /\ At hp' 1 (L false none) /\ acc ++ rem.map accOf = AS /\ AccAt f hp' acc d:=⟨_,rfl⟩
 have key:=i380 l ok 1 J (fun _=>False) (by
   rw [hJ]
   rintro f rem hp' r ⟨hf,acc,d,a1,a2,a3,a4⟩
   exact ⟨hf,acc,d,a1.app,a2.app,a3,a4.app⟩) (by
   rw [hJ]
   rintro f rem hp' r ⟨hf,acc,d,a1,a2,a3,a4⟩
   exact ⟨by have:=a2.lt; omega,acc,d,a1.app,a2.app,a3,a4.own⟩) (by
   intro f x rem hp1 o hj ho
   rw [hJ] at hj
   obtain ⟨hf,acc,d,a1,a2,a3,a4⟩:=hj
   have l1:=a2.lt
   obtain ⟨mi,⟨kd,ix,am⟩⟩:=x
   have hal : acc.length <= 1000000:=by
    have:=congrArg List.length a3
    rw [List.length_append] at this
    omega
   obtain ⟨H1,hH1⟩ : ∃ H1,H1 = hp1.set 1 (L true none):=⟨_,rfl⟩
   have b0 : At H1 0 (.cells [d]):=by rw [hH1]; exact a1.ne (by omega)
   have b1 : At H1 1 (L true none):=by rw [hH1]; exact At.self l1
   have bf : At H1 f o:=by rw [hH1]; exact ho.ne (by omega)
   have b4 : AccAt f H1 acc d:=by rw [hH1]; exact a4.set (by omega)
   have l0:=b0.lt
   have lf:=bf.lt
   obtain ⟨t,hp2,e1,e2⟩:=hcb [dI mi,dEnt ⟨kd,ix,am⟩] hp1 (fun t hp'=>t = true /\ J f rem hp' /\ At hp' f o) rfl a2 (by
    rw [show [Obj.cells [D.imm Spare.exact []]].length = 1 from rfl]
    have y2 : ∀ r : List Obj,(hp1 ++ r)[1]? = some (L false none):=fun r=>a2.app
    have y6 : ∀ r : List Obj,(hp1 ++ r).set 1 (L true none) = H1 ++ r:=fun r=>by rw [z1y l1,hH1]
    have y7 : hp1.length = H1.length:=by rw [hH1,List.length_set]
    have y0 : ∀ r : List Obj,(H1 ++ r)[0]? = some (.cells [d]):=fun r=>b0.app
    have hda : d.atom = true:=by rcases a4 with ⟨_,rfl⟩ | ⟨k,rfl,_⟩ <;> rfl
    obtain ⟨d',H',g1,g2,g3,g4,g5⟩:=zpi (a:=kd) (b:=ix) (b4.app (r:=[.cells [dI kd,dI ix,dI am]])) hal (by rw [List.length_append]; omega) (by rw [List.length_append]; omega)
    have c0 : At H' 0 (.cells [d]):=g5 0 _ (.inl (by omega)) b0.app
    have c1 : At H' 1 (L true none):=g5 1 _ (.inl (by omega)) b1.app
    have cf : At H' f o:=g5 f _ (.inr rfl) bf.app
    have c10 : ∀ o,(H'.set 0 o)[1]? = some (L true none):=fun o=>c1.ne (by omega)
    have fin : J f rem ((H'.set 0 (.cells [d'])).set 1 (L false none)) /\ At ((H'.set 0 (.cells [d'])).set 1 (L false none)) f o:=by
     have k0:=c0.lt
     have k1:=c1.lt
     rw [hJ]
     refine ⟨⟨hf,acc ++ [(kd,ix)],d',(At.self k0).ne (by omega),At.self (by rw [List.length_set]; exact k1),by rw [<- a3]; simp [accOf],(g2.set (by omega)).set (by omega)⟩,(cf.ne (by omega)).ne (by omega)⟩
    simp [setAll,↓y2,↓y6,y7,↓y0,hda,g1,g3,g4,c0.eq,↓c10]
    exact fin)
   exact ⟨t,hp2,e1,fun _=>e2.2,fun h=>by rw [e2.1] at h; cases h⟩) (hp:=[.cells [.imm .exact []],L false none]) (f0:=2) (by
   rw [hJ]
   exact ⟨Nat.le_refl _,[],.imm .exact [],rfl,rfl,by rw [zaw,hAS]; rfl,.inl ⟨rfl,rfl⟩⟩)
 obtain ⟨d,hp',h1,h2⟩:=key
 rcases h2 with ⟨f,h2⟩ | h2
 ·rw [hJ] at h2
  obtain ⟨_,acc,dd,a1,a2,a3,a4⟩:=h2
  rw [List.map_nil,List.append_nil] at a3
  subst a3
  refine ⟨d,hp',h1,.inl ⟨a2,?_⟩⟩
  have hal : acc.length <= 1000000:=by omega
  obtain ⟨H2,hH2⟩ : ∃ H2,H2 = hp'.set 1 Obj.dead:=⟨_,rfl⟩
  have b0 : At H2 0 (.cells [dd]):=by rw [hH2]; exact a1.ne (by omega)
  have b4 : AccAt f H2 acc dd:=by rw [hH2]; exact a4.set (by omega)
  have l0:=b0.lt
  rcases b4 with ⟨rfl,rfl⟩ | ⟨k,rfl,hk2,hkf,b4⟩
  ·have e1:=s361n (hp:=H2) (k:=362) (.inl rfl)
   have e2:=s363n H2
   have c0 : ∀ o,(H2.set 0 o)[0]? = some o:=fun o=>At.self l0
   simp [<- hH2,b0.eq,e1,e2,noMark,↓c0]
   exact .inl ⟨by simp [psort,cmpct],rfl⟩
  ·have e1:=s361 (k:=362) (gr:=true) (ag:=true) (.inl rfl) b4 hal
   obtain ⟨H3,hH3⟩ : ∃ H3,H3 = H2.set k (.cells (unpairs (psort acc))):=⟨_,rfl⟩
   have g0 : At H3 0 (.cells [.sl k 0 acc.length 2 true true]):=by rw [hH3]; exact b0.ne (by omega)
   have g4 : At H3 k (.cells (unpairs (psort acc))):=by rw [hH3]; exact At.self b4.lt
   obtain ⟨d',H4,e2,cs,rfl,f4,f5,K⟩:=s363 g4 (by rw [z7b]; exact hal)
   rw [z7b] at e2
   have f0:=K.2 0 _ (by omega) g0
   have c0 : ∀ o,(H4.set 0 o)[0]? = some o:=fun o=>At.self f0.lt
   simp [<- hH2,b0.eq,e1,<- hH3,g0.eq,e2,f0.eq,noMark,↓c0]
   exact .inr ⟨k,cs,rfl,f4.ne (by omega),f5⟩
 ·exact h2.elim


theorem r325 (l : List Pst) (ok : OkPs l) (hN : entN l <= 1000000) : runP E (dL E) 325 [dPsts l] = some (dAccs (accL l)):=by
 obtain ⟨d,hp',e,h⟩:=s325 l ok hN
 have hk : E.keep 325 = false:=rfl
 unfold runP
 simp only [e,hk]
 show frz hp' 12 d = _
 rcases h with ⟨h1,rfl⟩ | ⟨k,cs,rfl,h2,h3⟩
 ·rw [h1]; rfl
 ·exact zo5 (n:=9) h2 h3

end Dv

namespace Dv

def negE (x : Ent) : Ent:=⟨x.kind,x.idx,-x.amt⟩
def negL (l : List Ent) : List Ent:=l.map negE
theorem z3x (l : List Ent) : (negL l).length = l.length:=List.length_map _
theorem zfg : ∀ (l : List Ent),sumE (negL l) = -sumE l
 | []=>rfl
 | x :: l=>by
  have:=zfg l
  simp only [negL,List.map_cons,sumE] at this ⊢
  rw [this]; simp [negE]; omega
theorem zdl {k i : Int} : ∀ (l : List Ent),amtOf k i (negL l) = -amtOf k i l
 | []=>rfl
 | x :: l=>by
  have:=zdl (k:=k) (i:=i) l
  simp only [negL,List.map_cons,amtOf] at this ⊢
  rw [this]
  simp only [negE]
  split <;> omega
theorem zs8 {l : List Ent} (h : fmE l) : fmE (negL l):=by
 refine ⟨by rw [z3x]; exact h.two,by rw [z3x]; exact h.most,fun x hx=>?_,fun i hi=>?_⟩
 ·obtain ⟨y,hy,rfl⟩:=List.mem_map.1 hx
  obtain ⟨a,b,c,d⟩:=h.ok y hy
  refine ⟨a,b,?_,?_⟩ <;> simp only [negE] <;> omega
 ·have hi' : i + 1 < l.length:=by rw [z3x] at hi; exact hi
  have:=h.ord i hi'
  simp only [negL,List.getElem_map]
  exact this
theorem zqx {tg : Tag} {l : List Pst} {s : Stp} (h : postE tg l s = 0) (hl : l.length + 1 < 65536) : postE tg (l ++ [newP tg l s]) ⟨s.minute,l.length,negL s.ents⟩ = 0:=by
 obtain ⟨_,_,v,_,g⟩:=z4p h
 rw [z3m v (by simp; omega) (fun q hq=>by
  simp only [List.getLast?_append,List.getLast?_singleton,Option.some_or,Option.some.injEq] at hq
  subst hq
  exact Int.le_refl _)]
 refine z2i.2 ⟨⟨?_,g.fm.minute,?_,zs8 g.fm.ents⟩,?_⟩
 ·simp only [newP,List.length_append,List.length_cons,List.length_nil]; omega
 ·simp only [newP,List.length_append,List.length_cons,List.length_nil]; omega
 ·show sumE (negL s.ents) = 0
  rw [zfg]
  have:=g.sum
  simp only [newP] at this
  omega
theorem zdj {k i m : Int} {l : List Pst} {p : Pst} : balP k i m (l ++ [p]) = balP k i m l + (if p.minute <= m then amtOf k i p.ents else 0):=by
 rw [zf6]; simp [balP]

end Dv

namespace Dv
attribute [local simp] List.replicate depth dCell dUse dInts dChoice dVar dProb tStart addO Ret
attribute [local congr] z38 z3d z2j z1u z1h z2k z1e


abbrev dStp (s : Stp) : D:=.agg [dI s.minute,dI s.corrects,.imm .none (s.ents.map dEnt)]
abbrev dStps (l : List Stp) : D:=.imm .none (l.map dStp)
theorem zs4 {hp : List Obj} {n : Nat} {s : Stp} : frz hp (n + 4) (dStp s) = some (dStp s):=by
 show frz hp (n + 4) (.agg _) = _
 rw [z6p]
 simp only [z3f,z5c,z4i,zm,Option.map_some,z7,z6a]
theorem z90 {hp : List Obj} {n : Nat} {l : List Stp} : frzL (frz hp (n + 4)) (l.map dStp) = some (l.map dStp):=z13 fun _ _=>zs4

def fewS (l : List Stp) : Bool:=l.all (fun s=>decide (s.ents.length <= 12)) && decide (l.length <= 12)

theorem r322 (l : List Stp) (hl : l.length <= 9223372036854775807) : runP E (dL E) 322 [dStps l] = some (.bool (fewS l)):=by
 refine zx c322 (by simp) ?_
 conv in t322=>reduce; dsimp [Int.negSucc_eq]
 obtain ⟨B,hB⟩ : ∃ B,B = fewS l:=⟨_,rfl⟩
 rw [<- hB]
 simp [t322,n322]
 refine z1l l.length (fun i env h=>∃ (x1 x2 x6 x7 x8 : D) ,env = [dStps l,x1,x2,dStps l,dI l.length,dI i,x6,x7,x8] /\ ∀ s,s ∈ l.take i -> s.ents.length <= 12) 0 (by omega) ⟨_,_,_,_,_,rfl,by simp⟩ ?_
 rintro i env h hi ⟨x1,x2,x6,x7,x8,rfl,F⟩
 by_cases hlt : i < l.length
 rotate_left
 ·have : i = l.length:=by omega
  subst this
  rw [List.take_length] at F
  have hB2 : B = decide (l.length <= 12):=by
   have F2 : l.all (fun s=>decide (s.ents.length <= 12)) = true:=by rw [List.all_eq_true]; intro s hs; simpa using F s hs
   rw [hB]; unfold fewS; rw [F2]; rfl
  rw [hB2]
  simp
  omega
 have hup : Go.IntKind.i64.wrap ((i : Int) + 1) = (i : Int) + 1:=za ⟨by omega,by omega⟩
 obtain ⟨s,hs⟩ : ∃ s,s = l[i]:=⟨_,rfl⟩
 have hsm : s ∈ l:=by rw [hs]; exact List.getElem_mem hlt
 by_cases h12 : s.ents.length <= 12
 ·have h12' : ¬ (12 : Int) < s.ents.length:=by omega
  simp [hlt,<- hs,hup,h12']
  rw [List.take_succ_eq_append_getElem hlt,<- hs]
  intro t ht
  rcases List.mem_append.1 ht with ht | ht
  ·exact F t ht
  ·simp at ht; rw [ht]; exact h12
 ·have h12' : (12 : Int) < s.ents.length:=by omega
  have hB2 : B = false:=by
   rw [hB]; unfold fewS
   have : l.all (fun s=>decide (s.ents.length <= 12)) = false:=by
    rw [List.all_eq_false]; exact ⟨s,hsm,by simp [h12]⟩
   rw [this]; rfl
  rw [hB2]
  simp [hlt,<- hs,h12']

theorem zex {l : List Stp} (h : fewS l = true) : l.length <= 12 /\ ∀ s,s ∈ l -> s.ents.length <= 12:=by
 unfold fewS at h
 simp only [Bool.and_eq_true,decide_eq_true_eq,List.all_eq_true] at h
 exact ⟨h.2,h.1⟩

structure MadeP (n : Nat) (l : List Pst) : Prop where
 v : vld tgB l
 len : l.length <= n
 ents : ∀ p,p ∈ l -> p.prev.length = 32 /\ p.ents.length <= 12
theorem MadeP.ok {n : Nat} {l : List Pst} (h : MadeP n l) (hn : n <= 1000) : OkPs l:=⟨by have:=h.len; omega,fun p hp=>⟨(h.ents p hp).1,by have:=(h.ents p hp).2; omega⟩⟩
theorem zez : ∀ {l : List Pst},(∀ p,p ∈ l -> p.ents.length <= 12) -> entN l <= 12 * l.length
 | [],_=>by simp [entN]
 | p :: l,h=>by
  have:=zez (l:=l) fun q hq=>h q (by simp [hq])
  have:=h p (by simp)
  simp only [entN,List.length_cons]; omega
theorem MadeP.entN {n : Nat} {l : List Pst} (h : MadeP n l) (hn : n <= 1000) : Dv.entN l <= 1000000:=by
 have:=zez fun p hp=>(h.ents p hp).2
 have:=h.len
 omega
theorem zbi {n : Nat} : MadeP n []:=⟨z81,by simp,by simp⟩
theorem zkh {n : Nat} {l : List Pst} {s : Stp} (h : MadeP n l) (hs : s.ents.length <= 12) : MadeP (n + 1) (postS tgB l s):=by
 refine ⟨zk4 h.v,by have:=zk5 (tg:=tgB) (l:=l) (s:=s); have:=h.len; omega,fun p hp=>?_⟩
 unfold postS at hp
 split at hp
 ·rcases List.mem_append.1 hp with hp | hp
  ·exact h.ents p hp
  ·simp at hp; subst hp; exact ⟨dig32,hs⟩
 ·exact h.ents p hp
theorem zfr : ∀ (ss : List Stp) {n : Nat} {l : List Pst},MadeP n l -> (∀ s,s ∈ ss -> s.ents.length <= 12) -> MadeP (n + ss.length) (ss.foldl (postS tgB) l)
 | [],n,l,h,_=>h
 | s :: ss,n,l,h,hs=>by
  have:=zfr ss (zkh h (hs s (by simp))) fun t ht=>hs t (by simp [ht])
  rw [List.length_cons,List.foldl_cons,show n + (ss.length + 1) = n + 1 + ss.length from by omega]
  exact this
theorem made {ss : List Stp} (h : fewS ss = true) : MadeP 12 (postL tgB ss):=by
 obtain ⟨h1,h2⟩:=zex h
 have:=zfr ss (n:=0) zbi h2
 exact ⟨this.v,by have:=this.len; unfold postL; omega,this.ents⟩

theorem r323 (ss : List Stp) (h : fewS ss = true) : runP E (dL E) 323 [dStps ss] = some (dPsts (postL tgB ss)):=by
 obtain ⟨h1,h2⟩:=zex h
 refine zx c323 (by simp) ?_
 conv in t323=>reduce; dsimp [Int.negSucc_eq]
 simp [t323,n323]
 refine z1l ss.length (fun i env h=>∃ (x2 x3 x4 x8 x9 x10 x11 : D) (sp : Spare),env = [dStps ss,.imm sp ((postL tgB (ss.take i)).map dPst),x2,x3,x4,dStps ss,dI ss.length,dI i,x8,x9,x10,x11]) 0 (by omega) ⟨_,_,_,_,_,_,_,.exact,rfl⟩ ?_
 rintro i env h hi ⟨x2,x3,x4,x8,x9,x10,x11,sp,rfl⟩
 by_cases hlt : i < ss.length
 rotate_left
 ·have : i = ss.length:=by omega
  subst this
  rw [List.take_length]
  simp [zk]
 have hup:=zl hlt (by omega)
 obtain ⟨s,hs⟩ : ∃ s,s = ss[i]:=⟨_,rfl⟩
 have hsm : s ∈ ss:=by rw [hs]; exact List.getElem_mem hlt
 obtain ⟨l,hl⟩ : ∃ l,l = postL tgB (ss.take i):=⟨_,rfl⟩
 have hM : MadeP 12 l:=by
  have:=zfr (ss.take i) (n:=0) zbi fun t ht=>h2 t (List.mem_of_mem_take ht)
  rw [hl]
  exact ⟨this.v,by have:=this.len; rw [List.length_take] at this; unfold postL; omega,this.ents⟩
 have hn : postL tgB (ss.take (i + 1)) = postS tgB l s:=by rw [List.take_succ_eq_append_getElem hlt,<- hs,hl]; unfold postL; rw [List.foldl_append]; rfl
 have e316:=r316 l s (hM.ok (by omega)) (by have:=h2 s hsm; omega)
 unfold poD at e316
 rw [<- hl]
 by_cases hE : postE tgB l s = 0
 ·rw [if_pos hE,hE] at e316
  have hn2 : postL tgB (ss.take (i + 1)) = l ++ [newP tgB l s]:=by rw [hn]; unfold postS; rw [if_pos hE]
  simp [hlt,<- hs,hup,zk,zm,e316,hn2]
 ·rw [if_neg hE] at e316
  have hn2 : postL tgB (ss.take (i + 1)) = l:=by rw [hn]; unfold postS; rw [if_neg hE]
  simp [hlt,<- hs,hup,zk,zm,e316,hn2,hE]

end Dv

namespace Dv

def pr (n : Int) : List Ent:=[⟨1,3,n⟩,⟨4,0,-n⟩]
theorem zli {a b : Ent} (ha : okEnt a) (hb : okEnt b) (h : ltA a b) : fmE [a,b]:=by
 refine ⟨by simp,by simp,fun x hx=>?_,fun i hi=>?_⟩
 ·simp only [List.mem_cons,List.not_mem_nil,or_false] at hx
  rcases hx with rfl | rfl
  ·exact ha
  ·exact hb
 ·have : i = 0:=by simp at hi; omega
  subst this
  exact h
theorem zto {n : Int} (h0 : n ≠ 0) (h1 : -1099511627776 <= n /\ n <= 1099511627776) : fmE (pr n):=by
 refine zli ⟨by simp,by simp,h0,h1⟩ ⟨by simp,by simp,?_,?_⟩ (.inl (by simp))
 ·simp only []; omega
 ·simp only []; omega
theorem zpx {n : Int} : sumE (pr n) = 0:=by simp [pr,sumE]; omega

def sx0 : Stp:=⟨5,-1,pr 7⟩
def sx1 : Stp:=⟨9,0,pr (-2)⟩
def px0 : Pst:=newP tgB [] sx0
def px1 : Pst:=newP tgB [px0] sx1
theorem zpw : postE tgB [] sx0 = 0:=by
 rw [z3m z81 (by simp) (by simp)]
 exact z2i.2 ⟨⟨by simp [newP],by simp [newP,sx0],by simp [newP,sx0],zto (by decide) (by decide)⟩,zpx⟩
theorem vx0 : vld tgB [px0]:=(z4p zpw).2.2.1
theorem zfi : postE tgB [px0] sx1 = 0:=by
 rw [z3m vx0 (by simp) (by simp [px0,newP,sx0,sx1])]
 exact z2i.2 ⟨⟨by simp [newP],by simp [newP,sx1],by simp [newP,sx1],zto (by decide) (by decide)⟩,zpx⟩
theorem vx1 : vld tgB [px0,px1]:=(z4p zfi).2.2.1
theorem ztl : postE tgB [] ⟨5,0,pr 7⟩ = 410:=by
 rw [z3m z81 (by simp) (by simp)]
 unfold pchk
 rw [if_neg fun h=>by have:=h.corrects.2; simp [newP] at this]
theorem ztk : postE tgB [] ⟨5,-1,[⟨1,3,3⟩,⟨4,0,-2⟩]⟩ = 411:=by
 rw [z3m z81 (by simp) (by simp)]
 unfold pchk
 rw [if_pos ⟨by simp [newP],by simp [newP],by simp [newP],zli ⟨by simp,by simp,by simp,by simp⟩ ⟨by simp,by simp,by simp,by simp⟩ (.inl (by simp))⟩,if_neg (by simp [newP,sumE])]
theorem zn0 : postE tgB [px0] ⟨4,0,pr 1⟩ = 410:=by
 unfold postE
 rw [if_neg (by simp [z1k.2 vx0]),if_neg (by simp),if_pos ⟨px0,rfl,by simp [px0,newP,sx0]⟩]
theorem zr8 : balP 1 3 8 [px0,px1] = 7:=by
 simp [balP,px0,px1,newP,sx0,sx1,pr,amtOf]
theorem zr7 : balP 1 3 9 [px0,px1] = 5:=by
 simp [balP,px0,px1,newP,sx0,sx1,pr,amtOf]
theorem zr6 : rdE tgB [px1] = 410:=by
 have h1:=zfi
 have hg:=(z4p zfi).2.2.2.2
 have hf : firstE [px1] = 0:=z36.2 fun p hp=>by simp at hp; rw [hp]; exact hg
 unfold rdE
 rw [if_neg (by simp),if_neg (by simp [hf]),if_neg fun v=>by
  have:=(v.2.2 0 px1 rfl).no
  simp [px1,newP] at this]
theorem zr5 : pchk ⟨0,0,0,[],z32⟩ = 410:=by
 unfold pchk
 rw [if_neg fun h=>by have:=h.ents.two; simp at this]
theorem zcl : ∀ {a b : List (Int × Int)},a.Perm b -> a.Pairwise (fun x y=>pltB y x = false) -> b.Pairwise (fun x y=>pltB y x = false) -> a = b
 | [],b,hp,_,_=>by rw [List.nil_perm.1 hp]
 | x :: a,[],hp,_,_=>by simp at hp
 | x :: a,y :: b,hp,ha,hb=>by
  obtain ⟨a1,a2⟩:=List.pairwise_cons.1 ha
  obtain ⟨b1,b2⟩:=List.pairwise_cons.1 hb
  have hxy : x = y:=by
   have h1 : x ∈ y :: b:=hp.mem_iff.1 (by simp)
   have h2 : y ∈ x :: a:=hp.mem_iff.2 (by simp)
   rcases List.mem_cons.1 h1 with h1 | h1
   ·exact h1
   ·rcases List.mem_cons.1 h2 with h2 | h2
    ·exact h2.symm
    ·have c1:=b1 x h1
     have c2:=a1 y h2
     rcases zk6 c2 with h | h
     ·exact h
     ·rw [h] at c1; simp at c1
  subst hxy
  rw [zcl ((List.perm_cons x).1 hp) a2 b2]
theorem zr9 : accL [px0,px1] = [(1,3),(4,0)]:=by
 have e : accs [px0,px1] = [(1,3),(4,0),(1,3),(4,0)]:=rfl
 have es : psort [(1,3),(4,0),(1,3),(4,0)] = [(1,3),(1,3),(4,0),(4,0)]:=by
  refine zcl ((za6 _).trans ?_) (zcr _) (by decide)
  exact (List.Perm.refl [((1 : Int),(3 : Int))]).append (List.Perm.swap (1,3) (4,0) [(4,0)])
 unfold accL
 rw [e,es]
 decide

end Dv
