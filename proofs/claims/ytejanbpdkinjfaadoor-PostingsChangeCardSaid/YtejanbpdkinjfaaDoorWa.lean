/- Texts that a proof of this claim uses, joined: Lw.W1, Lw.W190. -/
import Derived.Test.YtejanbpdkinjfaaDoorLwa
import Derived.Test.YtejanbpdkinjfaaDoorTc
set_option linter.all false
set_option maxRecDepth 100000
namespace Dv
attribute [simp] zqq wK ztb zqs wR wRp zta wC zmw zri zrk zrj znb znc zty zp8 zsm zox zcf zf2 zil zij zi9 zlm zo6 zi7 zi8 zlf zob z7 znj ztt zsh xv_v xv_c zt2 zj8 zj9 zja zjb zqc zj6 zqf zt1 zmr zmq zdo zdp zdm zdn zc2 zj2 zj3 zj4 ziz zj0 zj1 zay zaz zb0 zc1 zqh zj7 bsliceV zms buildV zqe zeroE fillE buildD fillD zqb zmn zov zo4 z5c z4i z6p zs3 zu0 zo3 z6a z3f zeu zld zg2 zlc z91 zo8 zlk zod zgh zp9 zoy zp2 zp7 zp1 zp3 zp4 zp5 zp6 z9j z9i zqz zr0 znq zrr zno z8e z79 zy z4t zhz zl0 zhy zid zey zhw zf5 zjm zmh zis zn4 zpd zio zn1 zpa zit zn5 zpe zm4 zrb zso zir zn3 zpc zf4 zjl zmg ziq zn2 zpb zm5 zrc zsp ziu zn6 zdi zgq zix zf3 zjk zmf zr3 zr4 zhb zea zsx zub zu8 zpm zml zuc zua zu9 zsw gOf_t gOf_c gOf_f zru zjz zk0 zh8 zh7 zcx zi6 znz zo0 zke zoh zt3 zgs zci zc9 zc3 zgp zcn zb8 zca zb5 zch zcg zdx zdy zb6 znn zkr zhl zen zhm zsa zoj zf7 ziy zq1 zb3 zi z1a z1o zh9 zhj zeq zhs zhq zht zkw zkx zhr zd5 zep zer zkv znt zrx zrv zry zrz ztv zrw ztu znk zqt zce zka zhc zqd zkf zkg zt4 zt0 zmo zqg zmp iboxV z1r zbz zn9 zp0 zoz zqy zmd zmc zdw z5o zcb z9r zgr zb4 isByte ty_2 ty_3 ty_6 ty_7 ty_12 ty_13 ty_30 ty_53 ty_55 ty_56 ty_57 ty_58 ty_59 ty_62 ty_63 ty_64 ty_65 ty_66 ty_67 ty_68 ty_69 ty_70 ty_71 ty_72 ty_73 ty_74 ty_76 ty_77 ty_78 ty_79 ty_80 ty_81 ty_82
attribute [local simp] List.replicate depth dCell dUse dInts dChoice dVar dProb tStart addO Ret
attribute [local congr] z38 z3d z2j z1u z1h z2k z1e


theorem r107 (n : Int) : runP E (dL E) 107 [dI n] = some (.bool false):=by
 refine zx c107 (by simp) ?_
 conv in t107=>reduce; dsimp [Int.negSucc_eq]
 simp [t107,n107]

def cmpI (a b : Int) : Int:=if a < b then -1 else if b < a then 1 else 0

theorem r74 (a b : Int) : runP E (dL E) 74 [dI a,dI b] = some (dI (cmpI a b)):=by
 refine zx c74 (by simp) ?_
 conv in t74=>reduce; dsimp [Int.negSucc_eq]
 unfold cmpI
 by_cases h1 : a < b
 ·simp [t74,n74,r107,h1]
 ·by_cases h2 : b < a <;> simp [t74,n74,r107,h1,h2]

def orI : List Int -> Int
 | []=>0
 | x :: r=>if x ≠ 0 then x else orI r

theorem r105 (l : List Int) (hl : l.length <= 1000000) : runP E (dL E) 105 [dInts l] = some (dI (orI l)):=by
 refine zx c105 (by simp) ?_
 conv in t105=>reduce; dsimp [Int.negSucc_eq]
 simp [t105,n105]
 refine z1l l.length (fun i env hp=>∃ c3 c7 c8 : D,env = [dInts l,dI 0,dI 0,c3,dInts l,dI l.length,dI i,c7,c8] /\ orI (l.drop i) = orI l) 0 (Nat.zero_le _) ⟨_,_,_,rfl,rfl⟩ ?_
 rintro i env hp hi ⟨c3,c7,c8,rfl,hm⟩
 by_cases hlt : i < l.length
 ·rw [z6c hlt] at hm
  by_cases h0 : l[i] = 0
  ·simp [orI,h0] at hm
   simp [hlt,h0,zl hlt (by omega),hm]
  ·simp [orI,h0] at hm
   have h0' : ¬ orI l = 0:=hm ▸ h0
   simp [hlt,hm,h0']
 ·have : i = l.length:=by omega
  subst this
  simp [orI] at hm
  simp [<- hm]

abbrev dAcc (k i : Int) : D:=.agg [dI k,dI i]
theorem r362a (a b c d : Int) : runP E (dL E) 362 [dAcc a b,dAcc c d] = some (dI (orI [cmpI a c,cmpI b d])):=by
 have h1:=r74 a c
 have h2:=r74 b d
 have h3:=r105 [cmpI a c,cmpI b d] (by simp)
 simp only [dInts,List.map_cons,List.map_nil] at h3
 refine zx c362 (by simp) ?_
 conv in t362=>reduce; dsimp [Int.negSucc_eq]
 simp [t362,n362,h1,h2,h3]
 try rfl

end Dv
