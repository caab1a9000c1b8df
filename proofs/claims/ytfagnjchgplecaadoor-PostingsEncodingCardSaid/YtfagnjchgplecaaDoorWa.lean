/- Texts that a proof of this claim uses, joined: Lw.W1, Lw.W190. -/
import Derived.Test.YtfagnjchgplecaaDoorLwa
import Derived.Test.YtfagnjchgplecaaDoorTc
set_option linter.all false
open Int renaming negSucc_eq->aA
open List renaming map_cons->av,map_nil->aO
set_option maxRecDepth 100000
namespace Dv
attribute [simp] zrv wK zuf zrx wR wRp zue wC znv zsm zso zsn zob zoc zvb zqa znb zq0 zd6 zfw zjg zje zj5 zmh zp8 zj3 zj4 zma zpd z7 zom zv4 ztk xv_v xv_c zu6 zk3 zk4 zk5 zk6 zrh zk1 zrk zu5 znq znp zei zej zeg zeh zct zjw zjx zjy zjt zju zjv zbh zbi zbj zcs zrm zk2 y6x znr y8h zrj y1s y4u y6k y50 zrg znm zpz zp6 z79 z47 z9l zt8 zvd zp5 z8a z48 zfo zm8 zgv zm7 z9m zpa zmf zpf zh8 zqb zq1 zq4 zq9 zq3 zq5 zq6 zq7 zq8 znc znd za0 zs3 zs4 zot zsv zor z8x z7p z16 z56 ziv zlv ziu zb6 zfs zis zfz zkj zng zjm zo4 zqf zjj zo1 zqc zjn zo5 zqg zn1 zsf zts zjl zo3 zqe zfy zki znf zjk zo2 zqd zn2 zsg ztt zjo zo6 zed zhh zjr zfx zkh zne zs7 zs8 zi2 zf4 ztz zvq zvn zqn znk zvr zvp zvo zty ye5 ye7 ye6 zsz zkz zl0 zhz zhy zdq zj2 zp1 zp2 zla zpj zu7 zhj zd9 zd0 zcu zai zdd zbq zd1 zbo zd8 zd7 zer zes zbp zc4 zdu zds zln zie zfh zif ztc zpl zg0 zjs zr5 zg8 zl z1b z1o zi0 zia zfk zim zik zin zls zlt zil zdy zio zfj zfl zlr zov zt2 zt0 zt3 zt4 zv6 zt1 zv5 zon zc3 wI zry zd5 zl7 zi3 zri zjz zlb zlc zu8 zu4 znn zrl zno ya4 z1q z6t zo9 zha zq2 zs2 zna zn9 zeq z60 zd2 za6 zhi zbn y4w ty_0 ty_2 ty_3 ty_6 ty_7 ty_9 ydc ydb yda yd9 yd8 yd7 yd6 yd5 yd4 yd3 yd2 yd1 yd0 ycz ycy ycx ycw ycv ycu yct ycs ycr ycq ycp yco ycn ycm ycl yck ycj yci ych ycg ycf yce ycd ycc ycb yca yc9 yc8 yc7 yc6 zv2 zv1 zv0 zuz zuy
attribute [local simp] List.replicate depth y63 y97 y3s y3b y96 y7o y3g y2g Ret
attribute [local congr] z4v z51 z3n z2u z2c z3o z28


theorem r107(n:Int):y1i E (dL E) 107 [dI n]=some (.bool false):=by
 refine zx c107 (by simp) ?_
 conv in t107=>reduce;dsimp[aA]
 simp[t107,n107]

def y66(a b:Int):Int:=if a<b then -1 else if b<a then 1 else 0

theorem r74(a b:Int):y1i E (dL E) 74 [dI a,dI b]=some (dI (y66 a b)):=by
 refine zx c74 (by simp) ?_
 conv in t74=>reduce;dsimp[aA]
 unfold y66
 by_cases h1:a<b
 ·simp[t74,n74,r107,h1]
 ·by_cases h2:b<a <;> simp[t74,n74,r107,h1,h2]

def orI:List Int->Int
 |[]=>0
 |x::r=>if x ≠ 0 then x else orI r

theorem ydu(l:List Int)(hl:l.length<=1000000):y1i E (dL E) 105 [y3s l]=some (dI (orI l)):=by
 refine zx c105 (by simp) ?_
 conv in t105=>reduce;dsimp[aA]
 simp[t105,n105]
 refine z21 l.length (fun i env hp=>∃ c3 c7 c8:D,env=[y3s l,dI 0,dI 0,c3,y3s l,dI l.length,dI i,c7,c8]/\orI (l.drop i)=orI l) 0 (Nat.zero_le _) ⟨_,_,_,rfl,rfl⟩ ?_
 rintro i env hp hi ⟨c3,c7,c8,rfl,hm⟩
 by_cases hlt:i<l.length
 ·rw[z9s hlt] at hm
  by_cases h0:l[i]=0
  ·simp[orI,h0] at hm
   simp[hlt,h0,zq hlt (by omega),hm]
  ·simp[orI,h0] at hm
   have h0' : ¬ orI l=0:=hm ▸ h0
   simp[hlt,hm,h0']
 ·have:i=l.length:=by omega
  subst this
  simp[orI] at hm
  simp[<- hm]

abbrev y3q(k i:Int):D:=.agg [dI k,dI i]
theorem ydp(a b c d:Int):y1i E (dL E) 362 [y3q a b,y3q c d]=some (dI (orI [y66 a c,y66 b d])):=by
 have h1:=r74 a c
 have h2:=r74 b d
 have h3:=ydu [y66 a c,y66 b d] (by simp)
 simp only[y3s,av,aO] at h3
 refine zx c362 (by simp) ?_
 conv in t362=>reduce;dsimp[aA]
 simp[t362,n362,h1,h2,h3]
 try rfl
theorem ydo(a b c d:Int):y1i E (dL E) 386 [y3q a b,y3q c d]=some (dI (orI [y66 a c,y66 b d])):=by
 have h1:=r74 a c
 have h2:=r74 b d
 have h3:=ydu [y66 a c,y66 b d] (by simp)
 simp only[y3s,av,aO] at h3
 refine zx c386 (by simp) ?_
 conv in t386=>reduce;dsimp[aA]
 simp[t386,n386,h1,h2,h3]
 try rfl

end Dv
