/- Texts that a proof of this claim uses, joined: Lw.W1, Lw.W190. -/
import Derived.Test.YthcmaiplkbbioaaGreatDoorLwa
import Derived.Test.YthcmaiplkbbioaaGreatDoorTc
set_option linter.all false
open Int renaming negSucc_eq->ai
open List renaming map_cons->av,map_nil->aN
set_option maxRecDepth 100000
namespace Dv
attribute [simp] zzs wK ygc zzu wR wRp ygb wC zuh yd0 yd2 yd1 zuy zuz yhh zxr yey zxf zg0 zjh zoc zoa zo0 zsi zw8 zny znz zsb zwe zc zvd yhb yem xv_v xv_c yg0 zoz zp0 zp1 zp2 zzd zox zzg yfz zuc zub zhp zhq zhn zho zfk zot zou zov zoq zor zos zdw zdx zdy zfj zzi zoy y96 zud yaz zzf y26 y78 y8j y6k zzc zu8 zxb zw6 z4c z3v z59 ye5 yhj zw5 z3f z1l z5u zs9 zl8 z84 zbi zwa zj9 zwg za0 zxs zxg zxl zxq zxk zxm zxn zxo zxp zxj zts zc0 zbz ycd yce zvo ydm zvm z6y z99 z1c z1f znr zrt znq zo4 zjc zno zjm zpr zty zoi zuq zxx zof zun zxu zoj zur zxy ztc yco yf3 zoh zup zxw zjl zpq ztx zog zuo zxv ztd ycp yf4 z2e zus zhh zm6 zom zjk zpp ztw yck ycl zmw zih yfe yia yi7 zy8 zu6 yib yi9 yi8 yfd ylh ylj yli ydp zqb zqc zms zmr zgo znx zvz zw0 zr1 zr0 zwn yg1 zm8 zg3 zfu zfl zm5 zga zed zfv zea zg2 zg1 zhy zhz zc9 zep z1z z33 zri znb ziz znc yed zwp zjo zon zl6 z64 zo zz z14 ye7 zmt z2r zj2 znk zni znl zro zrp znj zgz zj1 zj3 zrn zvt ydx ydv ydy ydz yhe ydw yhd zve zzv zfz zqt zmx zze zr2 zr3 yg2 yfy zu9 zzh zua ye3 zbd zff zuw zxi zxh ycc ztr ztq zhx z7h zfw zc8 zm7 ze9 y6g ty_0 ty_1 ty_2 ty_3 ty_4 ty_6 ty_7 ty_9 ykh ykg ykf yke ykd ykc ykb yka yk9 yk8 yk7 yk6 yk5 yk4 yk3 yk2 yk1 yk0 yjz yjy yjx yjw yjv yju yjt yjs yjr yjq yjp yjo yjn yjm yjl yjk yjj yji yjh yjg yjf yje yjd yjc yjb yja yj9 yj8 yj7 yj6 yj5 yj4 yj3
attribute [local simp] List.replicate depth y22 y4y ya y16 y4t ye y2q y2f Ret
attribute [local congr] z1j z1k z19 z12 zw z1a zu
theorem r67(n lo hi:Int):yu E (dL E) 67 [dI n,dI lo,dI hi]=some (.bool (decide (lo<=n/\n<=hi))):=by
 refine zg c67 (by simp) ?_
 conv in t67=>reduce;dsimp[ai]
 by_cases h:lo<=n <;> simp[t67,n67,h]
theorem r107(n:Int):yu E (dL E) 107 [dI n]=some (.bool false):=by
 refine zg c107 (by simp) ?_
 conv in t107=>reduce;dsimp[ai]
 simp[t107,n107]
def y3q(a b:Int):Int:=if a<b then -1 else if b<a then 1 else 0
theorem r74(a b:Int):yu E (dL E) 74 [dI a,dI b]=some (dI (y3q a b)):=by
 refine zg c74 (by simp) ?_
 conv in t74=>reduce;dsimp[ai]
 unfold y3q
 by_cases h1:a<b
 ·simp[t74,n74,r107,h1]
 ·by_cases h2:b<a <;> simp[t74,n74,r107,h1,h2]
def orI:List Int->Int
 |[]=>0
 |x::r=>if x ≠ 0 then x else orI r
theorem yiq(l:List Int)(hl:l.length<=1000000):yu E (dL E) 105 [ya l]=some (dI (orI l)):=by
 refine zg c105 (by simp) ?_
 conv in t105=>reduce;dsimp[ai]
 simp[t105,n105];refine zl l.length (fun i env hp=>∃ c3 c7 c8:D,env=[ya l,dI 0,dI 0,c3,ya l,dI l.length,dI i,c7,c8]/\orI (l.drop i)=orI l) 0 (Nat.zero_le _) ⟨_,_,_,rfl,rfl⟩ ?_
 rintro i env hp hi ⟨c3,c7,c8,rfl,hm⟩
 by_cases hlt:i<l.length
 ·rw[zh hlt]at hm
  by_cases h0:l[i]=0
  ·simp[orI,h0]at hm;simp[hlt,h0,ze hlt (by omega),hm]
  ·simp[orI,h0]at hm;have h0' : ¬ orI l=0:=hm ▸ h0;simp[hlt,hm,h0']
 ·have:i=l.length:=by omega
  subst this;simp[orI]at hm;simp[<- hm]
def yay(a b:Cell):Int:=if a.airport ≠ b.airport then(if b.airport then -1 else 1)else orI [y3q a.index b.index,y3q a.minute b.minute]
theorem r70(a b:Cell):yu E (dL E) 70 [y22 a,y22 b]=some (dI (yay a b)):=by
 refine zg c70 (by simp) ?_
 conv in t70=>reduce;dsimp[ai]
 unfold yay
 by_cases h:a.airport=b.airport
 ·have h105:=yiq [y3q a.index b.index,y3q a.minute b.minute] (by simp)
  simp[t70,n70,h,r74];simp at h105;simp[h105]
 ·cases hb:b.airport <;> simp[t70,n70,h,hb] <;> simp[hb]at h <;> simp[h]
theorem r76(a b:Use):yu E (dL E) 76 [y4y a,y4y b]=some (dI (yay a.cell b.cell)):=by
 refine zg c76 (by simp) ?_
 conv in t76=>reduce;dsimp[ai]
 have:=r70 a.cell b.cell
 skip
 simp[t76,n76,this]
theorem r72(n:Int):yu E (dL E) 72 [dI n]=some (.bool (!decide (0<=n/\n<=4096))):=by
 refine zg c72 (by simp) ?_
 conv in t72=>reduce;dsimp[ai]
 simp[t72,n72,r67]
def ltC(a b:Cell):Bool:=if a.airport ≠ b.airport then b.airport else if a.index ≠ b.index then decide (a.index<b.index)else decide (a.minute<b.minute)
theorem zeq(a b:Cell):(yay a b<0)=(ltC a b=true):=by
 unfold yay ltC
 by_cases h:a.airport=b.airport
 ·by_cases h2:a.index=b.index
  ·simp only[h,h2,y3q,orI];simp
   (repeat' split) <;> simp_all <;> omega
  ·simp only[h,y3q,orI];simp[h2]
   (repeat' split) <;> simp_all <;> omega
 ·cases hb:b.airport <;> simp[h,hb] <;> simp[hb]at h <;> simp[h]
abbrev y3g(k i:Int):D:=.agg [dI k,dI i]
theorem yku(a b c d:Int):yu E (dL E) 362 [y3g a b,y3g c d]=some (dI (orI [y3q a c,y3q b d])):=by
 have h1:=r74 a c;have h2:=r74 b d;have h3:=yiq [y3q a c,y3q b d] (by simp)
 simp only[ya,av,aN]at h3;refine zg c362 (by simp) ?_
 conv in t362=>reduce;dsimp[ai]
 simp[t362,n362,h1,h2,h3]
 try rfl
theorem ykt(a b c d:Int):yu E (dL E) 386 [y3g a b,y3g c d]=some (dI (orI [y3q a c,y3q b d])):=by
 have h1:=r74 a c;have h2:=r74 b d;have h3:=yiq [y3q a c,y3q b d] (by simp)
 simp only[ya,av,aN]at h3;refine zg c386 (by simp) ?_
 conv in t386=>reduce;dsimp[ai]
 simp[t386,n386,h1,h2,h3]
 try rfl
end Dv
