/- Texts that a proof of this claim uses, joined: Lw.W1, Lw.W190. -/
import Derived.Test.YtfagnjchgplecaaDoorLwa
import Derived.Test.YtfagnjchgplecaaDoorTc
set_option linter.all false
namespace Dv
attribute [simp] zq8 wK zss zqa wR wRp zsr wC zmb zr1 zr3 zr2 zmq zmr ztq zor zs6 zof zc6 zep zi1 zhz zhs zl2 znm zhq zhr zkv znr z7 zmz ztj zry xv_v xv_c zsj zio ziq zir zis zpu zim zpx zsi zm6 zm5 zdb zdc zd9 zda zbs zii zij zik zie zif zih zas zat zau zbr zpz zin bsliceV zm7 buildV zpw zeroE fillE buildD fillD zpt zm2 zod znk z4j z4k z5e zrl zts znj z67 z1l zeh zkt zfp zks z95 zno zl0 znt zg3 zos zog zol zoq zok zom zon zoo zop zoj zd6 z9n zqh zqi zn6 zr9 zn4 z8h z73 zp za9 zhi zkg zhh zhw zel zhf zes zj2 zlw zi7 zmj zow zi4 zmg zot zi8 zmk zox zll zqt zs8 zi6 zmi zov zer zj1 zlv zi5 zmh zou zlm zqu zs9 zi9 zml zd5 zgb zic zeq zj0 zlu zql zqm zgv zdx zse zu6 zu3 zp5 zm0 zu7 zu5 zu4 zsd gOf_t gOf_c gOf_f zrc zje zjf zgs zgr zcn zhp znf zng zjv znx zsk zgd zc9 zc0 zbt z3f zcd zb1 zc1 zay zc8 zc7 zdk zdl zaz zn3 zk7 zh4 zeb zh5 zrp znz zet zid zko zf4 zr z1i z1x zgt zh2 zee zhb zh9 zhc zkc zkd zha zct zed zef zkb zn9 zrf zrd zrg zrh ztl zre ztk zn0 zqb zc5 zjp zgw zpv zjw zjx zsl zsh zm3 zpy zm4 iboxV z8z zbq zmo zoi zoh zqg zlt zls zdj z5o zc2 z9t zgc zax isByte ty_0 ty_2 ty_3 ty_6 ty_7 ty_9 ty_10 ty_12 ty_13 ty_14 ty_15 ty_16 ty_17 ty_18 ty_19 ty_20 ty_21 ty_30 ty_36 ty_37 ty_53 ty_54 ty_55 ty_56 ty_57 ty_58 ty_59 ty_60 ty_62 ty_63 ty_64 ty_65 ty_66 ty_67 ty_68 ty_69 ty_70 ty_71 ty_72 ty_73 ty_74 ty_75 ty_76 ty_77 ty_78 ty_79 ty_80 ty_81 ty_82 ztg ztf zte ztd ztc
attribute [local simp] List.replicate depth dCell dUse dInts dChoice dVar dProb tStart addO Ret
attribute [local congr] z3k z3t z2w z29 z1o z31 z1n


theorem r107 (n : Int) : runP E (dL E) 107 [dI n] = some (.bool false):=by
 refine zx c107 (by simp) ?_
 simp [t107,n107]

def cmpI (a b : Int) : Int:=if a < b then -1 else if b < a then 1 else 0

theorem r74 (a b : Int) : runP E (dL E) 74 [dI a,dI b] = some (dI (cmpI a b)):=by
 refine zx c74 (by simp) ?_
 unfold cmpI
 by_cases h1 : a < b
 ·simp [t74,n74,r107,h1]
 ·by_cases h2 : b < a <;> simp [t74,n74,r107,h1,h2]

def orI : List Int -> Int
 | []=>0
 | x :: r=>if x ≠ 0 then x else orI r

theorem r105 (l : List Int) (hl : l.length <= 1000000) : runP E (dL E) 105 [dInts l] = some (dI (orI l)):=by
 refine zx c105 (by simp) ?_
 simp [t105,n105]
 refine z1z l.length (fun i env hp=>∃ c3 c7 c8 : D,env = [dInts l,dI 0,dI 0,c3,dInts l,dI l.length,dI i,c7,c8] /\ orI (l.drop i) = orI l) 0 (Nat.zero_le _) ⟨_,_,_,rfl,rfl⟩ ?_
 rintro i env hp hi ⟨c3,c7,c8,rfl,hm⟩
 by_cases hlt : i < l.length
 ·rw [z9d hlt] at hm
  by_cases h0 : l[i] = 0
  ·simp [orI,h0] at hm
   simp [hlt,h0,zw hlt (by omega),hm]
  ·simp [orI,h0] at hm
   have h0' : ¬ orI l = 0:=hm ▸ h0
   simp [hlt,hm,h0']
 ·have : i = l.length:=by omega
  subst this
  simp [orI] at hm
  simp [<- hm]

abbrev dAcc (k i : Int) : D:=.agg [dI k,dI i]
theorem r362a (a b c d : Int) : runP E (dL E) 362 [dAcc a b,dAcc c d] = some (dI (orI [cmpI a c,cmpI b d])):=by
 have h1:=r74 a c
 have h2:=r74 b d
 have h3:=r105 [cmpI a c,cmpI b d] (by simp)
 simp only [dInts,List.map_cons,List.map_nil] at h3
 refine zx c362 (by simp) ?_
 simp [t362,n362,h1,h2,h3]
 try rfl
theorem r386a (a b c d : Int) : runP E (dL E) 386 [dAcc a b,dAcc c d] = some (dI (orI [cmpI a c,cmpI b d])):=by
 have h1:=r74 a c
 have h2:=r74 b d
 have h3:=r105 [cmpI a c,cmpI b d] (by simp)
 simp only [dInts,List.map_cons,List.map_nil] at h3
 refine zx c386 (by simp) ?_
 simp [t386,n386,h1,h2,h3]
 try rfl

end Dv
