/- Texts that a proof of this claim uses, joined: Lw.W1, Lw.W190. -/
import Derived.Test.YtfagnjchgplecaaGreatDoorLwa
import Derived.Test.YtfagnjchgplecaaGreatDoorTc
set_option linter.all false
open Int renaming negSucc_eq->ah
open List renaming map_cons->av,map_nil->aQ
set_option maxRecDepth 100000
namespace Dv
attribute [simp] zvu wK zym zvv wR wRp zyl wC zrl zwl zwn zwm zs0 zs1 zzm zu9 zxv ztw zf0 zi3 zmr zmp zmf zq0 zt5 zmd zme zpu zta zf zsd zz9 zxo xv_v xv_c zyd zne znf zng znh zvi znc zvl zyc zrg zrf zgm zgn zgk zgl zel zn8 zn9 zna zn5 zn6 zn7 zd2 zd3 zd4 zek zvn znd y86 zrh y9o zvk y22 y6j y6u y5z zvh zrc ztu zt3 z84 z6p zb2 zxc zzo zt1 z96 z4z zht zps zjj zpr zb3 zt7 zpy ztc zk0 zua ztx zu3 zu8 zu2 zu4 zu5 zu6 zu7 zu1 zu0 zbi zqw z3x zbj zw2 zw3 zsl zwy zsj za7 z8n zl zz zm5 zpf zm4 zmj zhx zm2 zi6 znu zr1 zmx zrt zue zmu zrq zub zmy zru zuf zqk zwc zxx zmw zrs zud zi5 znt zr0 zmv zrr zuc zql zwd zxy zmz zrv zge zkl zn2 zi4 zns zqz zw8 zw9 zlb zh8 zy5 ycp ycm zum zr8 ycq yco ycn zy4 yfu yfw yfv zx1 zo9 zoa zl8 zl7 zfl zmc zsx zsy zot ztf zye zkn zf3 zeu zem z5u zf8 zde zev zdc zf2 zf1 zgv zgw zdt z1v z33 zp6 zlp zhl zlq zxh zth zi9 zn3 zpo zd8 z13 zu z14 zl9 zlk zho zly zlw zlz zpb zpc zlx zfv zhn zhp zpa zsq zx5 zx3 zx6 zx7 zzb zx4 zza zse zvw zez zop zlc zvj zou zov zyf zyb zrd zvm zre yb9 z6o z9d zry ztz zty zw1 zqv zqu zgu z6z zew zbs zkm zdb y5v ty_0 ty_1 ty_2 ty_3 ty_4 ty_6 ty_7 ty_9 yev yeu yet yer yeq yep yeo yen yem yel yek yej yei yeh yeg yef yee yed yec yeb yea ye9 ye8 ye7 ye6 ye5 ye4 ye3 ye2 ye1 ye0 ydz ydy ydx ydw ydv ydu ydt yds ydr ydq ydp ydo ydn ydm ydl ydk ydj ydi ydh ydg
attribute [local simp] List.replicate depth y2x y6l y31 y2f y6k y3b y3p y1y Ret
attribute [local congr] z2r z2v z20 z1l z1d z24 z1c


theorem r67(n lo hi:Int):yu E (dL E) 67 [dI n,dI lo,dI hi]=some (.bool (decide (lo<=n/\n<=hi))):=by
 refine ze c67 (by simp) ?_
 conv in t67=>reduce;dsimp[ah]
 by_cases h:lo<=n <;> simp[t67,n67,h]

theorem r107(n:Int):yu E (dL E) 107 [dI n]=some (.bool false):=by
 refine ze c107 (by simp) ?_
 conv in t107=>reduce;dsimp[ah]
 simp[t107,n107]

def y54(a b:Int):Int:=if a<b then -1 else if b<a then 1 else 0

theorem r74(a b:Int):yu E (dL E) 74 [dI a,dI b]=some (dI (y54 a b)):=by
 refine ze c74 (by simp) ?_
 conv in t74=>reduce;dsimp[ah]
 unfold y54
 by_cases h1:a<b
 ·simp[t74,n74,r107,h1]
 ·by_cases h2:b<a <;> simp[t74,n74,r107,h1,h2]

def orI:List Int->Int
 |[]=>0
 |x::r=>if x ≠ 0 then x else orI r

theorem yd4(l:List Int)(hl:l.length<=1000000):yu E (dL E) 105 [y31 l]=some (dI (orI l)):=by
 refine ze c105 (by simp) ?_
 conv in t105=>reduce;dsimp[ah]
 simp[t105,n105]
 refine zr l.length (fun i env hp=>∃ c3 c7 c8:D,env=[y31 l,dI 0,dI 0,c3,y31 l,dI l.length,dI i,c7,c8]/\orI (l.drop i)=orI l) 0 (Nat.zero_le _) ⟨_,_,_,rfl,rfl⟩ ?_
 rintro i env hp hi ⟨c3,c7,c8,rfl,hm⟩
 by_cases hlt:i<l.length
 ·rw[zk hlt] at hm
  by_cases h0:l[i]=0
  ·simp[orI,h0] at hm
   simp[hlt,h0,zg hlt (by omega),hm]
  ·simp[orI,h0] at hm
   have h0' : ¬ orI l=0:=hm ▸ h0
   simp[hlt,hm,h0']
 ·have:i=l.length:=by omega
  subst this
  simp[orI] at hm
  simp[<- hm]

def y9n(a b:Cell):Int:=if a.airport ≠ b.airport then(if b.airport then -1 else 1) else orI [y54 a.index b.index,y54 a.minute b.minute]

theorem r70(a b:Cell):yu E (dL E) 70 [y2x a,y2x b]=some (dI (y9n a b)):=by
 refine ze c70 (by simp) ?_
 conv in t70=>reduce;dsimp[ah]
 unfold y9n
 by_cases h:a.airport=b.airport
 ·have h105:=yd4 [y54 a.index b.index,y54 a.minute b.minute] (by simp)
  simp[t70,n70,h,r74]
  simp at h105
  simp[h105]
 ·cases hb:b.airport <;> simp[t70,n70,h,hb] <;> simp[hb] at h <;> simp[h]

theorem r76(a b:Use):yu E (dL E) 76 [y6l a,y6l b]=some (dI (y9n a.cell b.cell)):=by
 refine ze c76 (by simp) ?_
 conv in t76=>reduce;dsimp[ah]
 have:=r70 a.cell b.cell
 skip
 simp[t76,n76,this]

theorem r72(n:Int):yu E (dL E) 72 [dI n]=some (.bool (!decide (0<=n/\n<=4096))):=by
 refine ze c72 (by simp) ?_
 conv in t72=>reduce;dsimp[ah]
 simp[t72,n72,r67]

def ltC(a b:Cell):Bool:=if a.airport ≠ b.airport then b.airport else if a.index ≠ b.index then decide (a.index<b.index) else decide (a.minute<b.minute)

theorem zdu(a b:Cell):(y9n a b<0)=(ltC a b=true):=by
 unfold y9n ltC
 by_cases h:a.airport=b.airport
 ·by_cases h2:a.index=b.index
  ·simp only[h,h2,y54,orI]
   simp
   (repeat' split) <;> simp_all <;> omega
  ·simp only[h,y54,orI]
   simp[h2]
   (repeat' split) <;> simp_all <;> omega
 ·cases hb:b.airport <;> simp[h,hb] <;> simp[hb] at h <;> simp[h]

abbrev y2j(k i:Int):D:=.agg [dI k,dI i]
theorem yfa(a b c d:Int):yu E (dL E) 362 [y2j a b,y2j c d]=some (dI (orI [y54 a c,y54 b d])):=by
 have h1:=r74 a c
 have h2:=r74 b d
 have h3:=yd4 [y54 a c,y54 b d] (by simp)
 simp only[y31,av,aQ] at h3
 refine ze c362 (by simp) ?_
 conv in t362=>reduce;dsimp[ah]
 simp[t362,n362,h1,h2,h3]
 try rfl
theorem yf9(a b c d:Int):yu E (dL E) 386 [y2j a b,y2j c d]=some (dI (orI [y54 a c,y54 b d])):=by
 have h1:=r74 a c
 have h2:=r74 b d
 have h3:=yd4 [y54 a c,y54 b d] (by simp)
 simp only[y31,av,aQ] at h3
 refine ze c386 (by simp) ?_
 conv in t386=>reduce;dsimp[ah]
 simp[t386,n386,h1,h2,h3]
 try rfl

end Dv
