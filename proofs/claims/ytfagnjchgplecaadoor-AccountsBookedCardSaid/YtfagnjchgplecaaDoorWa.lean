/- Texts that a proof of this claim uses, joined: Lw.W1, Lw.W190. -/
import Derived.Test.YtfagnjchgplecaaDoorLwa
import Derived.Test.YtfagnjchgplecaaDoorTc
set_option linter.all false
namespace Dv
attribute [simp] zun wK zxb zuo wR wRp zxa wC zqf zvd zvf zve zqw zqx zy6 zt2 zwm zsr ze9 zhe zlq zlo zle zov zrw zlc zld zop zs1 z8 zr7 zxz zwd xv_v xv_c zx2 zmd zme zmf zmg zu9 zmb zuc zx1 zqa zq9 zfr zfs zfp zfq zdv zm7 zm8 zm9 zm4 zm5 zm6 zca zcb zcc zdu zue zmc bsliceV zqb buildV zub zeroE fillE buildD fillD zu8 zq6 zso zru z7t z6a zae zvz zy8 zrt z8w z4l zh3 zon zit zom zaf zry zot zs3 zj8 zt3 zss zsw zt1 zsv zsx zsy zsz zt0 zpt zat zas zuv zuw zrf zvn zrd z9n z8b zp zr zl4 zf5 zl3 zli zh8 zl1 zhh zmt zpx zlw zqo zt7 zlt zql zt4 zlx zqp zt8 zph zv5 zwp zlv zqn zt6 zhg zms zpw zlu zqm zt5 zpi zv6 zwq zly zqq zfk zjm zm1 zhf zmr zpv zv1 zv2 zka zgg zwx zyp zym ztg zq4 zyq zyo zyn zww gOf_t gOf_c gOf_f zvq zn7 zn8 zk7 zk6 zew zlb zro zrp zno zs7 zx3 zjo zec ze3 zdw zjl zeh zcp ze4 zcl zeb zea zg2 zg3 zd2 z1k z2p zo2 zko zgv zkp zw4 zs9 zhj zm2 ztu zch zy z1f z1u zk8 zkk zgy zkx zkv zky zo7 zo8 zkw zf4 zgx zgz zo6 zrj zvt zvr zvu zvv zy1 zvs zy0 zr8 zup ze8 znj zkb zua znp znq zx4 zx0 zq7 zud zq8 iboxV za9 zdr zqu zsu zst zuu zps zpr zg1 z6l ze5 zb2 zjn zck isByte ty_0 ty_2 ty_3 ty_6 ty_7 ty_9 ty_10 ty_12 ty_13 ty_14 ty_15 ty_16 ty_17 ty_18 ty_19 ty_20 ty_21 ty_30 ty_36 ty_37 ty_53 ty_54 ty_55 ty_56 ty_57 ty_58 ty_59 ty_60 ty_62 ty_63 ty_64 ty_65 ty_66 ty_67 ty_68 ty_69 ty_70 ty_71 ty_72 ty_73 ty_74 ty_75 ty_76 ty_77 ty_78 ty_79 ty_80 ty_81 ty_82 zxx zxw zxv zxu zxt
attribute [local simp] List.replicate depth dCell dUse dInts dChoice dVar dProb tStart addO Ret
attribute [local congr] z5j z5o z41 z2z z2e z42 z2a


theorem r67 (n lo hi:Int):runP E (dL E) 67 [dI n,dI lo,dI hi]=some (.bool (decide (lo<=n/\n<=hi))):=by
 refine zj c67 (by simp) ?_
 by_cases h:lo<=n <;> simp [t67,n67,h]

theorem r107 (n:Int):runP E (dL E) 107 [dI n]=some (.bool false):=by
 refine zj c107 (by simp) ?_
 simp [t107,n107]

def cmpI (a b:Int):Int:=if a<b then -1 else if b<a then 1 else 0

theorem r74 (a b:Int):runP E (dL E) 74 [dI a,dI b]=some (dI (cmpI a b)):=by
 refine zj c74 (by simp) ?_
 unfold cmpI
 by_cases h1:a<b
 ·simp [t74,n74,r107,h1]
 ·by_cases h2:b<a <;> simp [t74,n74,r107,h1,h2]

def orI:List Int->Int
 | []=>0
 | x::r=>if x ≠ 0 then x else orI r

theorem r105 (l:List Int) (hl:l.length<=1000000):runP E (dL E) 105 [dInts l]=some (dI (orI l)):=by
 refine zj c105 (by simp) ?_
 simp [t105,n105]
 refine z10 l.length (fun i env hp=>∃ c3 c7 c8:D,env=[dInts l,dI 0,dI 0,c3,dInts l,dI l.length,dI i,c7,c8]/\orI (l.drop i)=orI l) 0 (Nat.zero_le _) ⟨_,_,_,rfl,rfl⟩ ?_
 rintro i env hp hi ⟨c3,c7,c8,rfl,hm⟩
 by_cases hlt:i<l.length
 ·rw [zw hlt] at hm
  by_cases h0:l[i]=0
  ·simp [orI,h0] at hm
   simp [hlt,h0,zg hlt (by omega),hm]
  ·simp [orI,h0] at hm
   have h0' : ¬ orI l=0:=hm ▸ h0
   simp [hlt,hm,h0']
 ·have:i=l.length:=by omega
  subst this
  simp [orI] at hm
  simp [<- hm]

def cmpC (a b:Cell):Int:=if a.airport ≠ b.airport then (if b.airport then -1 else 1) else orI [cmpI a.index b.index,cmpI a.minute b.minute]

theorem r70 (a b:Cell):runP E (dL E) 70 [dCell a,dCell b]=some (dI (cmpC a b)):=by
 refine zj c70 (by simp) ?_
 unfold cmpC
 by_cases h:a.airport=b.airport
 ·have h105:=r105 [cmpI a.index b.index,cmpI a.minute b.minute] (by simp)
  simp [t70,n70,h,r74]
  simp at h105
  simp [h105]
 ·cases hb:b.airport <;> simp [t70,n70,h,hb] <;> simp [hb] at h <;> simp [h]

theorem r76 (a b:Use):runP E (dL E) 76 [dUse a,dUse b]=some (dI (cmpC a.cell b.cell)):=by
 refine zj c76 (by simp) ?_
 have:=r70 a.cell b.cell
 skip
 simp [t76,n76,this]

theorem r72 (n:Int):runP E (dL E) 72 [dI n]=some (.bool (!decide (0<=n/\n<=4096))):=by
 refine zj c72 (by simp) ?_
 simp [t72,n72,r67]

def ltC (a b:Cell):Bool:=if a.airport ≠ b.airport then b.airport else if a.index ≠ b.index then decide (a.index<b.index) else decide (a.minute<b.minute)

theorem zd3 (a b:Cell):(cmpC a b<0)=(ltC a b=true):=by
 unfold cmpC ltC
 by_cases h:a.airport=b.airport
 ·by_cases h2:a.index=b.index
  ·simp only [h,h2,cmpI,orI]
   simp
   (repeat' split) <;> simp_all <;> omega
  ·simp only [h,cmpI,orI]
   simp [h2]
   (repeat' split) <;> simp_all <;> omega
 ·cases hb:b.airport <;> simp [h,hb] <;> simp [hb] at h <;> simp [h]

abbrev dAcc (k i:Int):D:=.agg [dI k,dI i]
theorem r362a (a b c d:Int):runP E (dL E) 362 [dAcc a b,dAcc c d]=some (dI (orI [cmpI a c,cmpI b d])):=by
 have h1:=r74 a c
 have h2:=r74 b d
 have h3:=r105 [cmpI a c,cmpI b d] (by simp)
 simp only [dInts,List.map_cons,List.map_nil] at h3
 refine zj c362 (by simp) ?_
 simp [t362,n362,h1,h2,h3]
 try rfl
theorem r386a (a b c d:Int):runP E (dL E) 386 [dAcc a b,dAcc c d]=some (dI (orI [cmpI a c,cmpI b d])):=by
 have h1:=r74 a c
 have h2:=r74 b d
 have h3:=r105 [cmpI a c,cmpI b d] (by simp)
 simp only [dInts,List.map_cons,List.map_nil] at h3
 refine zj c386 (by simp) ?_
 simp [t386,n386,h1,h2,h3]
 try rfl

end Dv
