/- Texts that a proof of this claim uses, joined: Lw.W1, Lw.W190, Lw.W2, Lw.W3, Lw.W4, Lw.W5. -/
import Derived.Test.YticmiacfglmbeaaGreatLwa
import Derived.Test.YticmiacfglmbeaaGreatTc
set_option linter.all false
open Nat renaming lt_succ_iff_lt_or_eq->ie,zero_le->cx
namespace Dv
attribute [simp] zpj wK zrm zpk wR wRp zrl wC zmd zq1 zq3 zq2 zmu zmv zsn zom zlu zoa zc4 zem zi6 zi4 zhu zl5 znj zhs zht zl0 znn z7 zf6 zp1 zqw xv_v xv_c zrf zit ziu ziv ziw zp9 zir zpc zre zm8 zm7 zdd zde zdb zdc zbn zil zim zin zii zij zik zag zah zai zbm zpe zis bsliceV zm9 buildV zpb zeroE fillE buildD fillD zp8 zm5 zo9 zb5 z1n z18 z8 zkt zso zni z1f z19 z95 zky zfk z94 z96 znl zl3 znq zg0 zg3 zob zog zol zof zoh zoi zoj zok zoe zod zpp zpq zn8 zn6 zdm zcg zk7 zh6 zhn zhm zhz zeg zhx zep zj7 zlx zia zmm zoq zi7 zmj zon zib zmn zor zlm zpv zr4 zi9 zml zop zeo zj6 zlw zi8 zmk zoo zln zpw zr5 zic zmo zd6 zgc zih zen zj5 zlv zpt zpu zgy zds zrc zsy zsv zow zm3 zsz zsx zsw zrb gOf_t gOf_c gOf_f zqb zjn zjo zgw zgv zcl zhr znf zng zk1 znu zrg zge zc6 zbx zbo zgb zca zao zby zan zc5 zdi zdj zn5 zki zha ze4 zqm zeq zal zk zg zp zgx zh7 ze7 zhg zhe zhh zkm zkn zhf zcv zhd zhi ze6 ze8 zkl znb zqe zqc zqf zqg zsl zqd zsk zn2 zk4 z3i wI zpl zc3 zc2 zjy zgz zpa zio ziq zk2 zk3 zrh zpd zm6 iboxV ze9 z84 zbk zoc zpo zlt zls zdh zbz z9j zgd zam isByte ty_0 ty_1 ty_2 ty_3 ty_4 ty_6 ty_7 ty_9 ty_10 ty_11 ty_12 ty_13 ty_14 ty_15 ty_16 ty_17 ty_18 ty_19 ty_20 ty_21 ty_22 ty_23 ty_24 ty_25 ty_26 ty_27 ty_29 ty_30 ty_31 ty_32 ty_44 ty_47 ty_48 ty_49 ty_50 ty_51 ty_52 ty_53 ty_55 ty_56 ty_57 ty_58 ty_59 ty_60 ty_61 ty_62 ty_63 ty_64 zsf zse zsd zsc zsb zsa zs9 zs8 zs7 zs6 zs5 zs4 zs3 zs2 zs1 zs0 zrz zry
attribute [local simp] List.replicate depth dCell dUse dInts dChoice dVar dProb tStart addO Ret
attribute [local congr] z45 z4f z3g z2n z23 z3m z21


def ltC (a b:Cell):Bool:=if a.airport ≠ b.airport then b.airport else if a.index ≠ b.index then decide (a.index<b.index) else decide (a.minute<b.minute)

section
variable {E:Env} {Q:Ex->List D->List Obj->Prop} {env:List D} {hp:List Obj}

theorem wT_chk {a:TC} (n:Nat) (P:Nat->Prop) (I:Nat->List D->List Obj->Prop) (h0:I 0 env hp)
  (good:∀ i env hp,i<n->I i env hp->P i->(∀ j,j<i->P j)->wT E a (fun ex env' hp'=>match ex with
   | .normal=>I (i+1) env' hp'
   | _=>False) env hp)
  (bad:∀ i env hp,i<n->I i env hp -> ¬ P i->wT E a (fun ex env' hp'=>match ex with
   | .normal=>False
   | ex=>Q ex env' hp') env hp)
  (last:∀ env hp,I n env hp->(∀ j,j<n->P j)->wT E a (fun ex env' hp'=>match ex with
   | .normal=>False
   | ex=>Q ex env' hp') env hp):wT E (.loop a) Q env hp:=by
 refine z2x n (fun i env hp=>I i env hp /\ ∀ j,j<i->P j) 0 (cx _) ⟨h0,fun j hj=>by omega⟩ ?_
 rintro i env hp hi ⟨hI,hP⟩
 by_cases hlt:i<n
 ·by_cases hp':P i
  ·refine z6m ?_ (good i env hp hlt hI hp' hP)
   intro ex env' hp'' h
   cases ex with
   | normal=>
    refine ⟨hlt,h,fun j hj=>?_⟩
    rcases ie.1 hj with h1 | rfl
    ·exact hP j h1
    ·exact hp'
   | exit _=>exact h.elim
   | ret=>exact h.elim
  ·refine z6m ?_ (bad i env hp hlt hI hp')
   intro ex env' hp'' h
   cases ex with
   | normal=>exact h.elim
   | exit _=>exact h
   | ret=>exact h
 ·have:i=n:=by omega
  subst this
  refine z6m ?_ (last env hp hI hP)
  intro ex env' hp'' h
  cases ex with
  | normal=>exact h.elim
  | exit _=>exact h
  | ret=>exact h

theorem zj1 {a:TC} (n:Nat) (P:Nat->Prop) (I:Nat->List D->List Obj->Prop) (h0:I 0 env hp)
  (step:∀ i env hp,i<n->I i env hp->(∀ j,j<i->P j)->wT E a (fun ex env' hp'=>match ex with
   | .normal=>P i/\I (i+1) env' hp'
   | ex=>Q ex env' hp') env hp)
  (last:∀ env hp,I n env hp->(∀ j,j<n->P j)->wT E a (fun ex env' hp'=>match ex with
   | .normal=>False
   | ex=>Q ex env' hp') env hp):wT E (.loop a) Q env hp:=by
 refine z2x n (fun i env hp=>I i env hp /\ ∀ j,j<i->P j) 0 (cx _) ⟨h0,fun j hj=>by omega⟩ ?_
 rintro i env hp hi ⟨hI,hP⟩
 by_cases hlt:i<n
 ·refine z6m ?_ (step i env hp hlt hI hP)
  intro ex env' hp'' h
  cases ex with
  | normal=>
   refine ⟨hlt,h.2,fun j hj=>?_⟩
   rcases ie.1 hj with h1 | rfl
   ·exact hP j h1
   ·exact h.1
  | exit _=>exact h
  | ret=>exact h
 ·have:i=n:=by omega
  subst this
  refine z6m ?_ (last env hp hI hP)
  intro ex env' hp'' h
  cases ex with
  | normal=>exact h.elim
  | exit _=>exact h
  | ret=>exact h
end

def wi (n lo hi:Int):Prop:=lo<=n/\n<=hi
instance {n lo hi:Int}:Decidable (wi n lo hi):=inferInstanceAs (Decidable (_/\_))

structure OkUse (p:Prob) (u:Use):Prop where
 known:u.cell ∈ p.cells
 places:wi u.places 1 8

structure OkChoice (p:Prob) (c:Choice):Prop where
 delay:wi c.delay 0 1048576
 cost:wi c.cost 0 1048576
 changes:wi c.changes 0 1048576
 uses:∀ u,u ∈ c.uses->OkUse p u
 incr:∀ (i:Nat) (h:i+1<c.uses.length),ltC c.uses[i].cell c.uses[i+1].cell=true

structure OkVar (p:Prob) (v:Var):Prop where
 some:1<=v.leaves.length
 one:1<=v.choices.length
 most:v.choices.length<=96
 leaves:∀ n,n ∈ v.leaves->wi n 0 (p.capacity.length - 1)
 incr:∀ (i:Nat) (h:i+1<v.leaves.length),v.leaves[i]<v.leaves[i+1]
 choices:∀ c,c ∈ v.choices->OkChoice p c

end Dv
