/- Texts that a proof of this claim uses, joined: Lw.W1, Lw.W190. -/
import Derived.Test.YtfagnjchgplecaaDoorLwa
import Derived.Test.YtfagnjchgplecaaDoorTc
set_option linter.all false
namespace Dv
attribute [simp] zub wK zx4 zuc wR wRp zx3 wC zpz zv2 zv4 zv3 zqf zqg zxz zsr zwc zsg zdz zh1 zl8 zl6 zkw zoi zrj zku zkv zoc zro z8 zqr zxs zw2 xv_v xv_c zwv zlu zlv zlw zlx ztx zls zu0 zwu zpu zpt zfh zfi zff zfg zdn zlo zlp zlq zll zlm zln zcc zcd zce zdm zu2 zlt y81 zpv y9o ztz y20 y67 y7j y5o ztw zpq zsd zrh z7w z6d zai zvo zy1 zrf z90 z4q zgs zo9 zib zo8 zaj zrl zog zrq zio zss zsh zsl zsq zsk zsm zsn zso zsp zpf zaw zav zui zuj zr0 zvc zqy z9r z8f z10 z12 zkm znv zkl zl0 zgw zkj zh4 zma zpi zle zq7 zsw zlb zq4 zst zlf zq8 zsx zp5 zuu zwf zld zq6 zsv zh3 zm9 zph zlc zq5 zsu zp6 zuv zwg zlg zq9 zf9 zj2 zlj zh2 zm8 zpg zur zus zjr zg5 zwn zyh zye zt5 zpo zyi zyg zyf zwm yfd yff yfe zvf zmn zmo zjo zjn zem zkt zra zrb zn8 zn7 zrv zww zj4 ze2 zdt zdo zbd ze9 zcl zdu zck ze1 ze0 zfr zfs zcz z1l z2s znm zk6 zgk zk7 zvt zrx zh6 zlk zo5 zch zx z1g z1u zjp zk1 zgn zkf zkd zkg znr zns zke zeu zgm zgo znq zr4 zvi zvg zvj zvk zxu zvh zxt zqs zud zdy zn1 zjs zty zn9 zna zwx zwt zpr zu1 zps ybe zad zdj zqd zsj zsi zuh zpe zpd zfq z6o zdv zb4 zj3 zcj y5k ty_0 ty_2 ty_3 ty_6 ty_7 ty_9 yeh yeg yef yee yed yec yeb yea ye9 ye8 ye7 ye6 ye5 ye4 ye3 ye2 ye1 ye0 ydz ydy ydx ydw ydv ydu ydt yds ydr ydq ydp ydo ydn ydm ydl ydk ydj ydi ydh ydg ydf yde ydd ydc ydb zxq zxp zxo zxn zxm
attribute [local simp] List.replicate depth y2c y6l y2k y2g y4y y19 y3t y2b Ret
attribute [local congr] z48 z4j z3b z2h z1x z3h z1w


theorem r67(n lo hi:Int):y17 E (dL E) 67 [dI n,dI lo,dI hi]=some (.bool (decide (lo<=n/\n<=hi))):=by
 refine zg c67 (by simp) ?_
 by_cases h:lo<=n <;> simp[t67,n67,h]

theorem r79(n lo hi:Int):y17 E (dL E) 79 [dI n,dI lo,dI hi]=some (.bool (decide (lo<=n/\n<=hi))):=by
 refine zg c79 (by simp) ?_
 by_cases h:lo<=n <;> simp[t79,n79,h]

theorem r107(n:Int):y17 E (dL E) 107 [dI n]=some (.bool false):=by
 refine zg c107 (by simp) ?_
 simp[t107,n107]

def y4p(a b:Int):Int:=if a<b then -1 else if b<a then 1 else 0

theorem r74(a b:Int):y17 E (dL E) 74 [dI a,dI b]=some (dI (y4p a b)):=by
 refine zg c74 (by simp) ?_
 unfold y4p
 by_cases h1:a<b
 ·simp[t74,n74,r107,h1]
 ·by_cases h2:b<a <;> simp[t74,n74,r107,h1,h2]

def orI:List Int->Int
 |[]=>0
 |x::r=>if x ≠ 0 then x else orI r

theorem yd0(l:List Int)(hl:l.length<=1000000):y17 E (dL E) 105 [y2k l]=some (dI (orI l)):=by
 refine zg c105 (by simp) ?_
 simp[t105,n105]
 refine zr l.length (fun i env hp=>∃ c3 c7 c8:D,env=[y2k l,dI 0,dI 0,c3,y2k l,dI l.length,dI i,c7,c8]/\orI (l.drop i)=orI l) 0 (Nat.zero_le _) ⟨_,_,_,rfl,rfl⟩ ?_
 rintro i env hp hi ⟨c3,c7,c8,rfl,hm⟩
 by_cases hlt:i<l.length
 ·rw[zm hlt] at hm
  by_cases h0:l[i]=0
  ·simp[orI,h0] at hm
   simp[hlt,h0,zb hlt (by omega),hm]
  ·simp[orI,h0] at hm
   have h0' : ¬ orI l=0:=hm ▸ h0
   simp[hlt,hm,h0']
 ·have:i=l.length:=by omega
  subst this
  simp[orI] at hm
  simp[<- hm]

def y9n(a b:Cell):Int:=if a.airport ≠ b.airport then(if b.airport then -1 else 1) else orI [y4p a.index b.index,y4p a.minute b.minute]

theorem r70(a b:Cell):y17 E (dL E) 70 [y2c a,y2c b]=some (dI (y9n a b)):=by
 refine zg c70 (by simp) ?_
 unfold y9n
 by_cases h:a.airport=b.airport
 ·have h105:=yd0 [y4p a.index b.index,y4p a.minute b.minute] (by simp)
  simp[t70,n70,h,r74]
  simp at h105
  simp[h105]
 ·cases hb:b.airport <;> simp[t70,n70,h,hb] <;> simp[hb] at h <;> simp[h]

theorem r76(a b:Use):y17 E (dL E) 76 [y6l a,y6l b]=some (dI (y9n a.cell b.cell)):=by
 refine zg c76 (by simp) ?_
 have:=r70 a.cell b.cell
 skip
 simp[t76,n76,this]

theorem r72(n:Int):y17 E (dL E) 72 [dI n]=some (.bool (!decide (0<=n/\n<=4096))):=by
 refine zg c72 (by simp) ?_
 simp[t72,n72,r67]

def ltC(a b:Cell):Bool:=if a.airport ≠ b.airport then b.airport else if a.index ≠ b.index then decide (a.index<b.index) else decide (a.minute<b.minute)

theorem r81(a b:Cell):y17 E (dL E) 81 [y2c a,y2c b]=some (.bool (ltC a b)):=by
 refine zg c81 (by simp) ?_
 unfold ltC
 by_cases h:a.airport=b.airport
 ·by_cases h2:a.index=b.index <;> simp[t81,n81,h,h2]
 ·have h':(a.airport == b.airport)=false:=by simpa using h
  simp[t81,n81,h]

theorem zd0(a b:Cell):(y9n a b<0)=(ltC a b=true):=by
 unfold y9n ltC
 by_cases h:a.airport=b.airport
 ·by_cases h2:a.index=b.index
  ·simp only[h,h2,y4p,orI]
   simp
   (repeat' split) <;> simp_all <;> omega
  ·simp only[h,y4p,orI]
   simp[h2]
   (repeat' split) <;> simp_all <;> omega
 ·cases hb:b.airport <;> simp[h,hb] <;> simp[hb] at h <;> simp[h]

abbrev y2v(k i:Int):D:=.agg [dI k,dI i]
theorem yeu(a b c d:Int):y17 E (dL E) 362 [y2v a b,y2v c d]=some (dI (orI [y4p a c,y4p b d])):=by
 have h1:=r74 a c
 have h2:=r74 b d
 have h3:=yd0 [y4p a c,y4p b d] (by simp)
 simp only[y2k,List.map_cons,List.map_nil] at h3
 refine zg c362 (by simp) ?_
 simp[t362,n362,h1,h2,h3]
 try rfl
theorem yet(a b c d:Int):y17 E (dL E) 386 [y2v a b,y2v c d]=some (dI (orI [y4p a c,y4p b d])):=by
 have h1:=r74 a c
 have h2:=r74 b d
 have h3:=yd0 [y4p a c,y4p b d] (by simp)
 simp only[y2k,List.map_cons,List.map_nil] at h3
 refine zg c386 (by simp) ?_
 simp[t386,n386,h1,h2,h3]
 try rfl

end Dv
