/- Texts that a proof of this claim uses, joined: Lw.W1, Lw.W190. -/
import Derived.Test.YthcmaiplkbbioaaGreatDoorLwa
import Derived.Test.YthcmaiplkbbioaaGreatDoorTc
set_option linter.all false
open Int renaming negSucc_eq->ai
open List renaming map_cons->al,map_nil->aO
set_option maxRecDepth 100000
namespace Dv
attribute [simp] yd1 wK yh6 yd3 wR wRp yh5 wC zv8 ydz ye1 ye0 zvp zvq yic zyh yfv zy6 zg7 zju zou zos zoi zt2 zwy zog zoh zsv zx4 zc zw3 yi6 yfm xv_v xv_c ygu zpi zpj zpk zpl yck zpg ycn ygt zv3 zv2 zi2 zi3 zi0 zi1 zfo zpc zpd zpe zp9 zpa zpb zdz ze0 ze1 zfn ycp zph y9a zv4 yb4 ycm y28 y7c y8n y6p ycj zuz zy1 zww z4b z3u z5b yf6 yie zwv z3d z1k z5x zst zlm z83 zbk zx0 zjm zx6 za3 zyi zy7 zyb zyg zya zyc zyd zye zyf zue zug zuf ydb ydc zwe yel zwc z6y z99 z1c z8i zo9 zsc zo8 zom zjp zo6 zjz zqa zun zp0 zvh zyo zox zve zyl zp1 zvi zyp zty ydm yfz zoz zvg zyn zjy zq9 zum zoy zvf zym ztz ydn yg0 z2e zvj zhq zmo zp4 zjx zq8 zul ydg ydh zne ziu ygb yj7 yj4 zyy zuw yj8 yj6 yj5 yga yme ymg ymf yeo zqu zqv zna zn9 zgv zof zwp zwq zrg zrf zxd ygv zmq zga zg1 zfp zmn zgh zeh zg2 zee zg9 zg8 zia zib zcb zev z1y z31 zs0 znt zjb znu yfc zxf zk3 zp5 zlk z65 zq zz z14 yf8 znb z2q zjf zo2 zo0 zo3 zs6 zs7 zo1 zh7 zje zjg zs5 zwj yey yew yez yf0 yi9 yex yi8 zw4 yd4 zg6 zr8 znf ycl zrh zri ygw ygs zv0 yco zv1 yf4 zbf zfk zvn zy9 zy8 yda zud zuc zi9 z7g zg3 zca zmp zed y6l ty_0 ty_1 ty_2 ty_3 ty_4 ty_6 ty_7 ty_9 ylg ylf yle ylc ylb yla yl9 yl8 yl7 yl6 yl5 yl4 yl3 yl2 yl1 yl0 ykz yky ykx ykw ykv yku ykt yks ykr ykq ykp yko ykn ykm ykl ykk ykj yki ykh ykg ykf yke ykd ykc ykb yka yk9 yk8 yk7 yk6 yk5 yk4 yk3 yk2 yk1
attribute [local simp] List.replicate depth y1z y51 ya y15 y4p ye y2p y2e Ret
attribute [local congr] z1f z1g z16 z12 zx z17 zw
theorem r67(n lo hi:Int):yu E (dL E) 67 [dI n,dI lo,dI hi]=some (.bool (decide (lo<=n/\n<=hi))):=by
 refine zg c67 (by simp) ?_
 conv in t67=>reduce;dsimp[ai]
 by_cases h:lo<=n <;> simp[t67,n67,h]
theorem r107(n:Int):yu E (dL E) 107 [dI n]=some (.bool false):=by
 refine zg c107 (by simp) ?_
 conv in t107=>reduce;dsimp[ai]
 simp[t107,n107]
def y3r(a b:Int):Int:=if a<b then -1 else if b<a then 1 else 0
theorem r74(a b:Int):yu E (dL E) 74 [dI a,dI b]=some (dI (y3r a b)):=by
 refine zg c74 (by simp) ?_
 conv in t74=>reduce;dsimp[ai]
 unfold y3r
 by_cases h1:a<b
 ·simp[t74,n74,r107,h1]
 ·by_cases h2:b<a <;> simp[t74,n74,r107,h1,h2]
def orI:List Int->Int
 |[]=>0
 |x::r=>if x ≠ 0 then x else orI r
theorem yjo(l:List Int)(hl:l.length<=1000000):yu E (dL E) 105 [ya l]=some (dI (orI l)):=by
 refine zg c105 (by simp) ?_
 conv in t105=>reduce;dsimp[ai]
 simp[t105,n105];refine zo l.length (fun i env hp=>∃ c3 c7 c8:D,env=[ya l,dI 0,dI 0,c3,ya l,dI l.length,dI i,c7,c8]/\orI (l.drop i)=orI l) 0 (Nat.zero_le _) ⟨_,_,_,rfl,rfl⟩ ?_
 rintro i env hp hi ⟨c3,c7,c8,rfl,hm⟩
 by_cases hlt:i<l.length
 ·rw[zh hlt]at hm
  by_cases h0:l[i]=0
  ·simp[orI,h0]at hm;simp[hlt,h0,ze hlt (by omega),hm]
  ·simp[orI,h0]at hm;have h0' : ¬ orI l=0:=hm ▸ h0;simp[hlt,hm,h0']
 ·have:i=l.length:=by omega
  subst this;simp[orI]at hm;simp[<- hm]
def yb3(a b:Cell):Int:=if a.airport ≠ b.airport then(if b.airport then -1 else 1)else orI [y3r a.index b.index,y3r a.minute b.minute]
theorem r70(a b:Cell):yu E (dL E) 70 [y1z a,y1z b]=some (dI (yb3 a b)):=by
 refine zg c70 (by simp) ?_
 conv in t70=>reduce;dsimp[ai]
 unfold yb3
 by_cases h:a.airport=b.airport
 ·have h105:=yjo [y3r a.index b.index,y3r a.minute b.minute] (by simp)
  simp[t70,n70,h,r74];simp at h105;simp[h105]
 ·cases hb:b.airport <;> simp[t70,n70,h,hb] <;> simp[hb]at h <;> simp[h]
theorem r76(a b:Use):yu E (dL E) 76 [y51 a,y51 b]=some (dI (yb3 a.cell b.cell)):=by
 refine zg c76 (by simp) ?_
 conv in t76=>reduce;dsimp[ai]
 have:=r70 a.cell b.cell
 skip
 simp[t76,n76,this]
theorem r72(n:Int):yu E (dL E) 72 [dI n]=some (.bool (!decide (0<=n/\n<=4096))):=by
 refine zg c72 (by simp) ?_
 conv in t72=>reduce;dsimp[ai]
 simp[t72,n72,r67]
def ltC(a b:Cell):Bool:=if a.airport ≠ b.airport then b.airport else if a.index ≠ b.index then decide (a.index<b.index)else decide (a.minute<b.minute)
theorem zew(a b:Cell):(yb3 a b<0)=(ltC a b=true):=by
 unfold yb3 ltC
 by_cases h:a.airport=b.airport
 ·by_cases h2:a.index=b.index
  ·simp only[h,h2,y3r,orI];simp
   (repeat' split) <;> simp_all <;> omega
  ·simp only[h,y3r,orI];simp[h2]
   (repeat' split) <;> simp_all <;> omega
 ·cases hb:b.airport <;> simp[h,hb] <;> simp[hb]at h <;> simp[h]
abbrev y3g(k i:Int):D:=.agg [dI k,dI i]
theorem ylt(a b c d:Int):yu E (dL E) 362 [y3g a b,y3g c d]=some (dI (orI [y3r a c,y3r b d])):=by
 have h1:=r74 a c;have h2:=r74 b d;have h3:=yjo [y3r a c,y3r b d] (by simp)
 simp only[ya,al,aO]at h3;refine zg c362 (by simp) ?_
 conv in t362=>reduce;dsimp[ai]
 simp[t362,n362,h1,h2,h3]
 try rfl
theorem yls(a b c d:Int):yu E (dL E) 386 [y3g a b,y3g c d]=some (dI (orI [y3r a c,y3r b d])):=by
 have h1:=r74 a c;have h2:=r74 b d;have h3:=yjo [y3r a c,y3r b d] (by simp)
 simp only[ya,al,aO]at h3;refine zg c386 (by simp) ?_
 conv in t386=>reduce;dsimp[ai]
 simp[t386,n386,h1,h2,h3]
 try rfl
end Dv
