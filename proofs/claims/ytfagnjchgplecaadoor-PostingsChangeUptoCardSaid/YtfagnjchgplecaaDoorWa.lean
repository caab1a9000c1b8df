/- Texts that a proof of this claim uses, joined: Lw.W1, Lw.W190. -/
import Derived.Test.YtfagnjchgplecaaDoorLwa
import Derived.Test.YtfagnjchgplecaaDoorTc
set_option linter.all false
open Int renaming negSucc_eq->aD
open List renaming map_cons->av,map_nil->aO
set_option maxRecDepth 100000
namespace Dv
attribute [simp] zrr wK zui zrt wR wRp zuh wC znp zsj zsl zsk zo4 zo5 zvc zq6 ztr zpv zcw zfo zjd zjb zj2 zmd zp0 zj0 zj1 zm6 zp5 z7 zoe zv5 ztk xv_v xv_c zu9 zk0 zk1 zk2 zk3 zrd zjy zrg zu8 znk znj ze8 ze9 ze6 ze7 zci zju zjv zjw zjr zjs zjt zbb zbc zbd zch zri zjz y75 znl y8s zrf y1u y52 y6s y58 zrc zng zps zoy z5l z4q z73 zt4 zve zox z6j z3h zff zm4 zgq zm3 z9h zp2 zmb zp7 zh5 zq7 zpw zq0 zq5 zpz zq1 zq2 zq3 zq4 z9w z9v zs0 zs1 zok zss zoi z8s z7m zy z52 zis zlr zir zj6 zfk zio zfr zke zn9 zjj znx zqb zjg znu zq8 zjk zny zqc zmw zsc ztt zji znw zqa zfq zkd zn8 zjh znv zq9 zmx zsd ztu zjl znz ze2 zhe zjp zfp zkc zn7 zs4 zs5 zi0 zev zu2 zvq zvn zqk zne zvr zvp zvo zu1 ydy ye0 ydz zsv zkq zkr zhx zhw zdf ziz zot zou zl4 zpb zua zhg zcz zcq zcj zhd zd3 zbl zcr zbi zcy zcx zeh zei zbj zbw zdj zdh zli zic zf8 zid ztb zpd zft zjq zr1 zbg zj z1d z1r zhy zi8 zfb zik zii zil zln zlo zij zdp zfa zfc zlm zon zsy zsw zsz zt0 zv7 zsx zv6 zof zru zcv zl0 zi1 zre zl5 zl6 zub zu7 znh zrh zni yab z1t zcf zo2 zpy zpx zrz zn5 zn4 zeg z5y zcs za4 zhf zbh y54 ty_0 ty_2 ty_3 ty_6 ty_7 ty_9 yd9 yd8 yd7 yd6 yd5 yd4 yd3 yd2 yd1 yd0 ycz ycy ycx ycw ycv ycu yct ycs ycr ycq ycp yco ycn ycm ycl yck ycj yci ych ycg ycf yce ycd ycc ycb yca yc9 yc8 yc7 yc6 yc5 yc4 yc3 zv3 zv2 zv1 zv0 zuz
attribute [local simp] List.replicate depth y53 y89 y3c y2q y88 y6c y34 y23 Ret
attribute [local congr] z2o z2s z24 z1n z18 z26 z16


theorem r107(n:Int):y1l E (dL E) 107 [dI n]=some (.bool false):=by
 refine zu c107 (by simp) ?_
 conv in t107=>reduce;dsimp[aD]
 simp[t107,n107]

def y6g(a b:Int):Int:=if a<b then -1 else if b<a then 1 else 0

theorem r74(a b:Int):y1l E (dL E) 74 [dI a,dI b]=some (dI (y6g a b)):=by
 refine zu c74 (by simp) ?_
 conv in t74=>reduce;dsimp[aD]
 unfold y6g
 by_cases h1:a<b
 ·simp[t74,n74,r107,h1]
 ·by_cases h2:b<a <;> simp[t74,n74,r107,h1,h2]

def orI:List Int->Int
 |[]=>0
 |x::r=>if x ≠ 0 then x else orI r

theorem ydn(l:List Int)(hl:l.length<=1000000):y1l E (dL E) 105 [y3c l]=some (dI (orI l)):=by
 refine zu c105 (by simp) ?_
 conv in t105=>reduce;dsimp[aD]
 simp[t105,n105]
 refine z1o l.length (fun i env hp=>∃ c3 c7 c8:D,env=[y3c l,dI 0,dI 0,c3,y3c l,dI l.length,dI i,c7,c8]/\orI (l.drop i)=orI l) 0 (Nat.zero_le _) ⟨_,_,_,rfl,rfl⟩ ?_
 rintro i env hp hi ⟨c3,c7,c8,rfl,hm⟩
 by_cases hlt:i<l.length
 ·rw[z6l hlt] at hm
  by_cases h0:l[i]=0
  ·simp[orI,h0] at hm
   simp[hlt,h0,zm hlt (by omega),hm]
  ·simp[orI,h0] at hm
   have h0' : ¬ orI l=0:=hm ▸ h0
   simp[hlt,hm,h0']
 ·have:i=l.length:=by omega
  subst this
  simp[orI] at hm
  simp[<- hm]

abbrev y3j(k i:Int):D:=.agg [dI k,dI i]
theorem ydj(a b c d:Int):y1l E (dL E) 362 [y3j a b,y3j c d]=some (dI (orI [y6g a c,y6g b d])):=by
 have h1:=r74 a c
 have h2:=r74 b d
 have h3:=ydn [y6g a c,y6g b d] (by simp)
 simp only[y3c,av,aO] at h3
 refine zu c362 (by simp) ?_
 conv in t362=>reduce;dsimp[aD]
 simp[t362,n362,h1,h2,h3]
 try rfl
theorem ydi(a b c d:Int):y1l E (dL E) 386 [y3j a b,y3j c d]=some (dI (orI [y6g a c,y6g b d])):=by
 have h1:=r74 a c
 have h2:=r74 b d
 have h3:=ydn [y6g a c,y6g b d] (by simp)
 simp only[y3c,av,aO] at h3
 refine zu c386 (by simp) ?_
 conv in t386=>reduce;dsimp[aD]
 simp[t386,n386,h1,h2,h3]
 try rfl

end Dv
