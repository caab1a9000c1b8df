/- Texts that a proof of this claim uses, joined: Lw.W1, Lw.W190. -/
import Derived.Test.YtfagnjchgplecaaDoorLwa
import Derived.Test.YtfagnjchgplecaaDoorTc
set_option linter.all false
namespace Dv
attribute [simp] zpm wK zs7 zpo wR wRp zs6 wC zlv zqd zqf zqe zma zmb zt2 zo8 zrm znw zbv zed zhp zhn zhg zkk zn4 zhe zhf zkd zn9 z7 zmi zsv zre xv_v xv_c zry zib zic zid zie zp8 zi9 zpb zrx zlq zlp zd0 zd1 zcy zcz zbj zi5 zi6 zi7 zi2 zi3 zi4 zak zal zam zbi zpd zia bsliceV zlr buildV zpa zeroE fillE buildD fillD zp7 zlm znu zn2 z58 z4g z6g zqz zt4 zn1 z60 z38 ze7 zkb zfe zka z8x zn6 zki znb zfq zo9 znx zo2 zo7 zo1 zo3 zo4 zo5 zo6 zo0 zld zlc zpu zpv zmp zqm zmn z89 z6v z13 z6d zh6 zjy zh5 zhk zea zh3 zeg zir zlh zhv zm3 zod zhs zm0 zoa zhw zm4 zoe zl3 zq6 zro zhu zm2 zoc zef ziq zlg zht zm1 zob zl4 zq7 zrp zhx zm5 zcv zfz zi0 zee zio zlf zpy zpz zgj zdn zrt zth zte zok zlk zti ztg ztf zrs gOf_t gOf_c gOf_f zqq ziz zj0 zgg zgf zcd zhd zmx zmy zjd znf zrz zg1 zby zbp zbk zfy zc2 zas zbq zaq zbx zbw zd9 zda zar zmm zjp zgs ze1 zgt zr5 znh zei zi1 zk7 zes zp z1g z1v zgh zgq ze4 zgz zgx zh0 zju zjv zgy zci ze3 ze5 zjt zmr zqt zqr zqu zqv zsx zqs zsw zmj zpp zbu zja zgk zp9 zje zjf zs0 zrw zln zpc zlo iboxV z8q zbh zm8 znz zny zpt zlb zla zd8 z5j zbr z9j zg0 zap isByte ty_0 ty_2 ty_3 ty_6 ty_7 ty_9 ty_10 ty_12 ty_13 ty_14 ty_15 ty_16 ty_17 ty_18 ty_19 ty_20 ty_21 ty_30 ty_36 ty_37 ty_53 ty_54 ty_55 ty_56 ty_57 ty_58 ty_59 ty_60 ty_62 ty_63 ty_64 ty_65 ty_66 ty_67 ty_68 ty_69 ty_70 ty_71 ty_72 ty_73 ty_74 ty_75 ty_76 ty_77 ty_78 ty_79 ty_80 ty_81 ty_82 zss zsr zsq zsp zso
attribute [local simp] List.replicate depth dCell dUse dInts dChoice dVar dProb tStart addO Ret
attribute [local congr] z3j z3s z2u z26 z1m z2z z1l


theorem r107 (n : Int) : runP E (dL E) 107 [dI n] = some (.bool false):=by
 refine zu c107 (by simp) ?_
 simp [t107,n107]

def cmpI (a b : Int) : Int:=if a < b then -1 else if b < a then 1 else 0

theorem r74 (a b : Int) : runP E (dL E) 74 [dI a,dI b] = some (dI (cmpI a b)):=by
 refine zu c74 (by simp) ?_
 unfold cmpI
 by_cases h1 : a < b
 ·simp [t74,n74,r107,h1]
 ·by_cases h2 : b < a <;> simp [t74,n74,r107,h1,h2]

def orI : List Int -> Int
 | []=>0
 | x :: r=>if x ≠ 0 then x else orI r

theorem r105 (l : List Int) (hl : l.length <= 1000000) : runP E (dL E) 105 [dInts l] = some (dI (orI l)):=by
 refine zu c105 (by simp) ?_
 simp [t105,n105]
 refine z1x l.length (fun i env hp=>∃ c3 c7 c8 : D,env = [dInts l,dI 0,dI 0,c3,dInts l,dI l.length,dI i,c7,c8] /\ orI (l.drop i) = orI l) 0 (Nat.zero_le _) ⟨_,_,_,rfl,rfl⟩ ?_
 rintro i env hp hi ⟨c3,c7,c8,rfl,hm⟩
 by_cases hlt : i < l.length
 ·rw [z95 hlt] at hm
  by_cases h0 : l[i] = 0
  ·simp [orI,h0] at hm
   simp [hlt,h0,zt hlt (by omega),hm]
  ·simp [orI,h0] at hm
   have h0' : ¬ orI l = 0:=hm ▸ h0
   simp [hlt,hm,h0']
 ·have : i = l.length:=by omega
  subst this
  simp [orI] at hm
  simp [<- hm]

abbrev dAcc (k i : Int) : D:=.agg [dI k,dI i]
theorem r362a (a b c d : Int) : runP E (dL E) 362 [dAcc a b,dAcc c d] = some (dI (orI [cmpI a c,cmpI b d])):=by
 have h1:=r74 a c
 have h2:=r74 b d
 have h3:=r105 [cmpI a c,cmpI b d] (by simp)
 simp only [dInts,List.map_cons,List.map_nil] at h3
 refine zu c362 (by simp) ?_
 simp [t362,n362,h1,h2,h3]
 try rfl
theorem r386a (a b c d : Int) : runP E (dL E) 386 [dAcc a b,dAcc c d] = some (dI (orI [cmpI a c,cmpI b d])):=by
 have h1:=r74 a c
 have h2:=r74 b d
 have h3:=r105 [cmpI a c,cmpI b d] (by simp)
 simp only [dInts,List.map_cons,List.map_nil] at h3
 refine zu c386 (by simp) ?_
 simp [t386,n386,h1,h2,h3]
 try rfl

end Dv
