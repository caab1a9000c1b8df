/- Texts that a proof of this claim uses, joined: Lw.W1, Lw.W190. -/
import Derived.Test.YtfagnjchgplecaaDoorLwa
import Derived.Test.YtfagnjchgplecaaDoorTc
set_option linter.all false
namespace Dv
attribute [simp] zs9 wK zv3 zsb wR wRp zv2 wC zo6 zt5 zt7 zt6 zol zom zwb zqn zue zqa zdh zg8 zjt zjr zji zmt zpi zjg zjh zmm zpn za zow zvw zu7 xv_v xv_c zuu zkf zkg zkh zki zrx zkd zs0 zut zo1 zo0 zew zex zeu zev zd4 zk9 zka zkb zk6 zk7 zk8 zbr zbs zbt zd3 zs2 zke y7e zo2 y8u zrz y1u y53 y64 y5d zrw znx zq8 zpg z7d z5v z9v ztt zwd zpf z8e z4j zg1 zmk zh3 zmi z9w zpk zmr zpp zhg zqo zqb zqh zqm zqg zqi zqj zqk zql zqf zqe zac zab zsi zsj zp2 ztf zp0 z94 z7t zp z5d zj8 zm7 zj7 zjm zg5 zj5 zgb zks znp zjz zoe zqs zjw zob zqp zk0 zof zqt znc zsx zug zjy zod zqr zga zkr zno zjx zoc zqq znd zsy zuh zk1 zog zes zhs zk4 zg9 zkq znn zso zsp zif zfi zun zwp zwm zqz znv zwq zwo zwn zum ye4 ye6 ye5 zti zl4 zl5 zic zib ze1 zjf zpb zpc zll zps zuv zhu zdk zdb zd5 z72 zdo zc3 zdc zc0 zdj zdi zf4 zf5 zc1 zcg ze6 ze4 zlz ziu zfu ziv zty zpu zgc zk5 zrj zby zy zt z12 zid zio zfx zj1 ziz zj2 zm4 zm5 zj0 zeb zfw zfy zm3 zp5 ztm ztk ztn zto zvy ztl zvx zox zsc zdg zlh zih zry zlm zln zuw zus zny zs1 znz yab z1r z8k zoj zqd zqc zsh znl znk zf3 z68 zdd zaj zht zbz y59 ty_0 ty_2 ty_3 ty_6 ty_7 ty_9 yd9 yd8 yd7 yd6 yd5 yd4 yd3 yd2 yd1 yd0 ycz ycy ycx ycw ycv ycu yct ycs ycr ycq ycp yco ycn ycm ycl yck ycj yci ych ycg ycf yce ycd ycc ycb yca yc9 yc8 yc7 yc6 yc5 yc4 yc3 zvt zvs zvr zvq zvp
attribute [local simp] List.replicate depth y4s y82 y3l y2r y81 y5v y3a y23 Ret
attribute [local congr] z2n z2r z1y z1j z18 z1z z17


theorem r107(n:Int):y14 E (dL E) 107 [dI n]=some (.bool false):=by
 refine zh c107 (by simp) ?_
 simp[t107,n107]

def y6k(a b:Int):Int:=if a<b then -1 else if b<a then 1 else 0

theorem r74(a b:Int):y14 E (dL E) 74 [dI a,dI b]=some (dI (y6k a b)):=by
 refine zh c74 (by simp) ?_
 unfold y6k
 by_cases h1:a<b
 ·simp[t74,n74,r107,h1]
 ·by_cases h2:b<a <;> simp[t74,n74,r107,h1,h2]

def orI:List Int->Int
 |[]=>0
 |x::r=>if x ≠ 0 then x else orI r

theorem ydu(l:List Int)(hl:l.length<=1000000):y14 E (dL E) 105 [y3l l]=some (dI (orI l)):=by
 refine zh c105 (by simp) ?_
 simp[t105,n105]
 refine z13 l.length (fun i env hp=>∃ c3 c7 c8:D,env=[y3l l,dI 0,dI 0,c3,y3l l,dI l.length,dI i,c7,c8]/\orI (l.drop i)=orI l) 0 (Nat.zero_le _) ⟨_,_,_,rfl,rfl⟩ ?_
 rintro i env hp hi ⟨c3,c7,c8,rfl,hm⟩
 by_cases hlt:i<l.length
 ·rw[z3k hlt] at hm
  by_cases h0:l[i]=0
  ·simp[orI,h0] at hm
   simp[hlt,h0,zl hlt (by omega),hm]
  ·simp[orI,h0] at hm
   have h0' : ¬ orI l=0:=hm ▸ h0
   simp[hlt,hm,h0']
 ·have:i=l.length:=by omega
  subst this
  simp[orI] at hm
  simp[<- hm]

abbrev y3k(k i:Int):D:=.agg [dI k,dI i]
theorem ydn(a b c d:Int):y14 E (dL E) 362 [y3k a b,y3k c d]=some (dI (orI [y6k a c,y6k b d])):=by
 have h1:=r74 a c
 have h2:=r74 b d
 have h3:=ydu [y6k a c,y6k b d] (by simp)
 simp only[y3l,List.map_cons,List.map_nil] at h3
 refine zh c362 (by simp) ?_
 simp[t362,n362,h1,h2,h3]
 try rfl
theorem ydm(a b c d:Int):y14 E (dL E) 386 [y3k a b,y3k c d]=some (dI (orI [y6k a c,y6k b d])):=by
 have h1:=r74 a c
 have h2:=r74 b d
 have h3:=ydu [y6k a c,y6k b d] (by simp)
 simp only[y3l,List.map_cons,List.map_nil] at h3
 refine zh c386 (by simp) ?_
 simp[t386,n386,h1,h2,h3]
 try rfl

end Dv
