/- Texts that a proof of this claim uses, joined: Lw.W1, Lw.W190. -/
import Derived.Test.YtfagnjchgplecaaDoorLwa
import Derived.Test.YtfagnjchgplecaaDoorTc
set_option linter.all false
namespace Dv
attribute [simp] zql wK zt5 zqn wR wRp zt4 wC zms zrd zrf zre zn6 zn7 zu4 zp4 zsj zot zch zf3 zio zim zie zlk zo1 zic zid zld zo6 z8 znf ztx zsb xv_v xv_c zsw zjc zjd zje zjf zq7 zja zqa zsv zmn zmm zdm zdn zdk zdl zc4 zj6 zj7 zj8 zj3 zj4 zj5 zb2 zb3 zb4 zc3 zqc zjb bsliceV zmo buildV zq9 zeroE fillE buildD fillD zq6 zmj zor znz z5i z4l z6p zrx zu6 zny z6c z3e zev zlb zg7 zla z9b zo3 zli zo8 zgl zp5 zou zoy zp3 zox zoz zp0 zp1 zp2 z1o z18 zqu zqv znn zrl znl z8n z78 zl z2t zi4 zkz zi3 zij zez zi1 zf6 zjo zmd ziv zmz zp9 zis zmw zp6 ziw zn0 zpa zlz zr5 zsl ziu zmy zp8 zf5 zjn zmc zit zmx zp7 zm0 zr6 zsm zix zn1 zdh zgw zj0 zf4 zjm zmb zqx zqy zhh ze9 zsq zuj zug zpg zmg zuk zui zuh zsp gOf_t gOf_c gOf_f zro zk0 zk1 zhe zhd zcy zib znu znv zkf zoc zsx zgy zck zcb zc5 zgv zcp zbb zcc zb9 zcj zci zdw zdx zba znj zkr zhq zeo zhr zs2 zoe zf7 zj1 zl7 zfi zw z1m z21 zhf zho zer zhx zhv zhy zkw zkx zhw zd4 zeq zes zkv znp zrr zrp zrs zrt ztz zrq zty zng zqo zcg zkc zhi zq8 zkg zkh zsy zsu zmk zqb zml iboxV z1g zc1 zn4 zow zov zqt zm8 zm7 zdv z5u zcd za1 zgx zb8 isByte ty_0 ty_2 ty_3 ty_6 ty_7 ty_9 ty_10 ty_12 ty_13 ty_14 ty_15 ty_16 ty_17 ty_18 ty_19 ty_20 ty_21 ty_30 ty_36 ty_37 ty_53 ty_54 ty_55 ty_56 ty_57 ty_58 ty_59 ty_60 ty_62 ty_63 ty_64 ty_65 ty_66 ty_67 ty_68 ty_69 ty_70 ty_71 ty_72 ty_73 ty_74 ty_75 ty_76 ty_77 ty_78 ty_79 ty_80 ty_81 ty_82 ztt zts ztr ztq ztp
attribute [local simp] List.replicate depth dCell dUse dInts dChoice dVar dProb tStart addO Ret
attribute [local congr] z4o z4t z3m z2u z2d z3n z29


theorem r107 (n : Int) : runP E (dL E) 107 [dI n] = some (.bool false):=by
 refine zp c107 (by simp) ?_
 simp [t107,n107]

def cmpI (a b : Int) : Int:=if a < b then -1 else if b < a then 1 else 0

theorem r74 (a b : Int) : runP E (dL E) 74 [dI a,dI b] = some (dI (cmpI a b)):=by
 refine zp c74 (by simp) ?_
 unfold cmpI
 by_cases h1 : a < b
 ·simp [t74,n74,r107,h1]
 ·by_cases h2 : b < a <;> simp [t74,n74,r107,h1,h2]

def orI : List Int -> Int
 | []=>0
 | x :: r=>if x ≠ 0 then x else orI r

theorem r105 (l : List Int) (hl : l.length <= 1000000) : runP E (dL E) 105 [dInts l] = some (dI (orI l)):=by
 refine zp c105 (by simp) ?_
 simp [t105,n105]
 refine z1s l.length (fun i env hp=>∃ c3 c7 c8 : D,env = [dInts l,dI 0,dI 0,c3,dInts l,dI l.length,dI i,c7,c8] /\ orI (l.drop i) = orI l) 0 (Nat.zero_le _) ⟨_,_,_,rfl,rfl⟩ ?_
 rintro i env hp hi ⟨c3,c7,c8,rfl,hm⟩
 by_cases hlt : i < l.length
 ·rw [z9j hlt] at hm
  by_cases h0 : l[i] = 0
  ·simp [orI,h0] at hm
   simp [hlt,h0,zo hlt (by omega),hm]
  ·simp [orI,h0] at hm
   have h0' : ¬ orI l = 0:=hm ▸ h0
   simp [hlt,hm,h0']
 ·have : i = l.length:=by omega
  subst this
  simp [orI] at hm
  simp [<- hm]

abbrev dAcc (k i : Int) : D:=.agg [dI k,dI i]
theorem r362a (a b c d : Int) : runP E (dL E) 362 [dAcc a b,dAcc c d] = some (dI (orI [cmpI a c,cmpI b d])):=by
 have h1:=r74 a c
 have h2:=r74 b d
 have h3:=r105 [cmpI a c,cmpI b d] (by simp)
 simp only [dInts,List.map_cons,List.map_nil] at h3
 refine zp c362 (by simp) ?_
 simp [t362,n362,h1,h2,h3]
 try rfl
theorem r386a (a b c d : Int) : runP E (dL E) 386 [dAcc a b,dAcc c d] = some (dI (orI [cmpI a c,cmpI b d])):=by
 have h1:=r74 a c
 have h2:=r74 b d
 have h3:=r105 [cmpI a c,cmpI b d] (by simp)
 simp only [dInts,List.map_cons,List.map_nil] at h3
 refine zp c386 (by simp) ?_
 simp [t386,n386,h1,h2,h3]
 try rfl

end Dv
