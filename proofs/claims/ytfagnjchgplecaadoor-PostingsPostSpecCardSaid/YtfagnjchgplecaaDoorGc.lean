/- Texts that a proof of this claim uses, joined: Lw.W5, Lw.W6, Lw.W7, Lw.W247, Lw.W248, Lw.W249, Lw.W280. -/
import Derived.Test.YtfagnjchgplecaaDoorGb
set_option linter.all false
open Go.IntKind renaming i64->av,u8->fh
open List renaming length_cons->aC,length_map->au,mem_append->aS,take_succ_cons->cN,take_zero->fE
open List.cons renaming injEq->bm
open UInt8 renaming ofNat->aY
set_option maxHeartbeats 16000000
namespace Dv
attribute [local simp] List.replicate depth y4s y82 y3l y2r y81 y5v y3a y23 Ret
attribute [local congr] z2n z2r z1y z1j z18 z1z z17


section
variable{E:Env}{Q:Ex->List D->List Obj->Prop}{env:List D}{hp:List Obj}

end

def wi(n lo hi:Int):Prop:=lo<=n/\n<=hi
instance{n lo hi:Int}:Decidable (wi n lo hi):=inferInstanceAs (Decidable (_/\_))

def nd(c:List Int)(i:Int):Int:=(c[i.toNat]?).getD 0

theorem zsm{ds:List D}(h:DTc E 13 ds):∃ u:UInt8,ds=[ya u]:=by
 cases h with
 |int h' hw=>
  rename_i k n
  have hk:(E.ty 13).k=.int .u8:=rfl
  rw[hk] at h';cases h'
  simp[Go.Lit.wf] at hw
  obtain⟨a1,a2⟩:=hw
  have e1:fh.min=0:=by decide
  have e2:fh.max=255:=by decide
  have b1:0<=n:=by first | exact a1 | (rw[e1] at a1;exact a1)
  have b2:n<=255:=by first | exact a2 | (rw[e2] at a2;exact a2)
  refine⟨aY n.toNat,?_⟩
  have:(aY n.toNat).toNat=n.toNat:=by simp;omega
  simp only[bm,D.int.injEq,and_true,true_and,this]
  omega
 |bool h'=>cases h'
 |str h'=>cases h'
 |slice h' _ _ _=>cases h'
 |struct h' _ _=>cases h'
 |arr h' _ _=>cases h'
theorem zva{ds:List D}(h:DTc E 73 ds):∃ d:List UInt8,ds=d.map ya/\d.length=32:=by
 obtain⟨hl,hf⟩:=zvb h (n:=32) (e:=13) rfl
 have hl:ds.length=32:=hl
 have hx:∀ x,x ∈ ds->∃ u,x=ya u/\True:=by
  intro x hx
  obtain⟨i,hi,rfl⟩:=List.mem_iff_getElem.1 hx
  obtain⟨u,hu⟩:=zsm (hf i (by omega))
  have e1:(E.ty 13).size=1:=rfl
  rw[e1,Nat.mul_one,List.drop_eq_getElem_cons hi] at hu
  simp only[cN,fE,bm,and_true] at hu
  exact⟨u,hu,trivial⟩
 obtain⟨d,rfl,_⟩:=z9k (f:=ya) (R:=fun _=>True) hx
 exact⟨d,rfl,by simpa using hl⟩
theorem zv9{x:D}(h:y55 E 71 x):∃ p,x=y2p p/\p.prev.length=32:=by
 obtain⟨ds,rfl,h1⟩:=z8u h rfl
 obtain⟨hl,hf⟩:=z63 h1 (fs:=[(0,2),(1,2),(2,2),(3,66),(4,73)]) rfl
 have hl:ds.length=36:=hl
 match ds,hl with
 |a::b::c::d::r,hl=>
  obtain⟨n1,g1,_⟩:=z64 (hf 0 _ rfl) rfl
  obtain⟨n2,g2,_⟩:=z64 (hf 1 _ rfl) rfl
  obtain⟨n3,g3,_⟩:=z64 (hf 2 _ rfl) rfl
  obtain⟨els,g4,hlen,g6⟩:=zbx (hf 3 _ rfl) (e:=72) rfl
  obtain⟨dg,g5,h32⟩:=zva (hf 4 _ rfl)
  obtain⟨l,rfl,_⟩:=z9k (f:=y3n) (R:=okE) (els:=els) fun x hx=>zr2 (g6 x hx)
  have e1:(E.ty 2).size=1:=rfl
  have e2:(E.ty 66).size=1:=rfl
  have e3:(E.ty 73).size=32:=rfl
  simp only[List.drop_zero,List.drop_succ_cons,e1,e2,e3,cN,fE,bm,and_true] at g1 g2 g3 g4 g5
  simp only[aC] at hl
  rw[List.take_of_length_le (by omega)] at g5
  subst g1 g2 g3 g4 g5
  exact⟨⟨n1,n2,n3,l,dg⟩,rfl,h32⟩
theorem zsk{x:D}(h:y55 E 70 x):∃ l,x=y1m l/\(∀ p,p ∈ l->p.prev.length=32)/\l.length<=9223372036854775807:=by
 obtain⟨els,h5,hlen,h6⟩:=zbx (z8t h rfl) (e:=71) rfl
 simp only[bm,and_true] at h5
 subst h5
 obtain⟨l,rfl,o⟩:=z9k (f:=y2p) (R:=fun p=>p.prev.length=32) (els:=els) fun x hx=>zv9 (h6 x hx)
 exact⟨l,rfl,o,by rw[au] at hlen;exact hlen⟩
theorem zsl{x:D}(h:y55 E 66 x):∃ l:List Ent,x=.imm .none (l.map y3n)/\(∀ e,e ∈ l->okE e)/\l.length<=9223372036854775807:=by
 obtain⟨els,h5,hlen,h6⟩:=zbx (z8t h rfl) (e:=72) rfl
 simp only[bm,and_true] at h5
 subst h5
 obtain⟨l,rfl,o⟩:=z9k (f:=y3n) (R:=okE) (els:=els) fun x hx=>zr2 (h6 x hx)
 exact⟨l,rfl,o,by rw[au] at hlen;exact hlen⟩

def y6v(l:List Pst):Bool:=l.all (fun p=>decide (p.ents.length<=20)) && decide (l.length<=30)
theorem zmu{l:List Pst}:y6v l=true ↔ (∀ p,p ∈ l->p.ents.length<=20)/\l.length<=30:=by unfold y6v;simp
theorem zmv:∀{l:List Pst},(∀ p,p ∈ l->p.ents.length<=20)->entN l<=20*l.length
 |[],_=>by simp[entN]
 |p::l,h=>by
  have h1:=h p (by simp)
  have h2:=zmv (l:=l) fun q hq=>h q (by simp[hq])
  simp only[entN,aC];omega

theorem r315(l:List Pst)(hl:l.length<=9223372036854775807)(h32:∀ p,p ∈ l->p.prev.length=32):y14 E (dL E) 315 [y1m l]=some (.bool (y6v l)):=by
 refine zh c315 (by simp) ?_
 obtain⟨B,hB⟩:∃ B,B=y6v l:=⟨_,rfl⟩
 rw[<- hB]
 simp[t315,n315]
 refine z13 l.length (fun i env h=>∃(x3 x4:D) ,env=[y1m l,.bool false,dI i,x3,x4] /\ ∀ p,p ∈ l.take i->p.ents.length<=20) 0 (by omega) ⟨_,_,rfl,by simp⟩ ?_
 rintro i env h hi ⟨x3,x4,rfl,F⟩
 by_cases hlt:i<l.length
 rotate_left
 ·have:i=l.length:=by omega
  subst this
  rw[List.take_length] at F
  have hB2:B=decide (l.length<=30):=by
   have F2:l.all (fun p=>decide (p.ents.length<=20))=true:=by rw[List.all_eq_true];intro s hs;simpa using F s hs
   rw[hB];unfold y6v;rw[F2];rfl
  rw[hB2]
  simp
  omega
 have hup:av.wrap ((i:Int)+1)=(i:Int)+1:=zc ⟨by omega,by omega⟩
 obtain⟨p,hp⟩:∃ p,p=l[i]:=⟨_,rfl⟩
 have hpm:p ∈ l:=by rw[hp];exact List.getElem_mem hlt
 have p32:=h32 p hpm
 by_cases h20:p.ents.length<=20
 ·have h20' : ¬ (20:Int)<p.ents.length:=by omega
  simp[hlt,<- hp,p32,hup,h20']
  rw[List.take_succ_eq_append_getElem hlt,<- hp]
  intro t ht
  rcases aS.1 ht with ht | ht
  ·exact F t ht
  ·simp at ht;rw[ht];exact h20
 ·have h20':(20:Int)<p.ents.length:=by omega
  have hB2:B=false:=by
   rw[hB];unfold y6v
   have:l.all (fun p=>decide (p.ents.length<=20))=false:=by
    rw[List.all_eq_false];exact⟨p,hpm,by simp[h20]⟩
   rw[this];rfl
  rw[hB2]
  simp[hlt,<- hp,p32,h20']

theorem yb7(l:List Pst)(hl:l.length<=9223372036854775807)(h32:∀ p,p ∈ l->p.prev.length=32)(m c:Int)(t:List Ent)(k i:Int):y14 E (dL E) 313 [y1m l,dI m,dI c,.imm .none (t.map y3n),y3k k i]=some (.bool true):=by
 have s0:=r314
 have e315:=r315 l hl h32
 refine zh c313 (by simp) ?_
 by_cases hf:y6v l=true
 rotate_left
 ·have hf:y6v l=false:=by simpa using hf
  rw[hf] at e315
  simp[t313,n313,s0,e315,zj]
 rw[hf] at e315
 by_cases h30:t.length<=30
 rotate_left
 ·have h31:(30:Int)<t.length:=by omega
  simp[t313,n313,s0,e315,zj,h31]
 have h31 : ¬ (30:Int)<t.length:=by omega
 obtain⟨f1,f2⟩:=zmu.1 hf
 have hN:=zmv f1
 have ok:y6f l:=⟨by omega,fun p hp=>⟨h32 p hp,by have:=f1 p hp;omega⟩⟩
 have e1:=yar l ⟨m,c,t⟩ ok (by simp only;omega)
 have e2:=r317 l ⟨m,c,t⟩ ok (by simp only;omega) (by omega)
 have e3:=ybp l ok (by omega) k i m
 have e4:=r319 l ok (by omega) k i m
 unfold poD at e1 e2
 unfold blD at e3 e4
 have okL:y6f (if y2j tgB l ⟨m,c,t⟩=0 then l++[y4f tgB l ⟨m,c,t⟩] else[]):=by
  split
  ·refine⟨by simp;omega,fun p hp=>?_⟩
   rcases aS.1 hp with hp | hp
   ·exact ok.2 p hp
   ·simp at hp;subst hp
    exact⟨y2m,by show t.length<=1000000;omega⟩
  ·exact⟨by simp,by simp⟩
 generalize (if y2j tgB l ⟨m,c,t⟩=0 then l++[y4f tgB l ⟨m,c,t⟩] else[])=L at *
 generalize y2j tgB l ⟨m,c,t⟩=X at *
 generalize (if rdE tgB l=0 then y76 k i m l else 0)=B at *
 generalize rdE tgB l=Y at *
 have e320:=r320 L L okL okL
 rw[decide_eq_true rfl] at e320
 simp only at e1 e2
 simp[t313,n313,s0,e315,zj,zmj,h31,e1,e2,e3,e4,e320]

theorem postingsPostSpec:∀ xs,y7q E [70,2,2,66,65] xs->∃ n,y14 E (dC E n) 313 xs=some (.bool true):=by
 intro xs h
 match xs,h with
 |[x,y,z,w,u],⟨t1,t2,t3,t4,t5,_⟩=>
  obtain⟨l,rfl,h32,hl⟩:=zsk t1
  obtain⟨m,rfl,_⟩:=zr1 t2 rfl
  obtain⟨c,rfl,_⟩:=zr1 t3 rfl
  obtain⟨t,rfl,_⟩:=zsl t4
  obtain⟨k,i,rfl,_⟩:=zvc t5
  exact z74 (yb7 l hl h32 m c t k i)
 |[],h=>exact h.elim
 |[_],h=>exact h.2.elim
 |[_,_],h=>exact h.2.2.elim
 |[_,_,_],h=>exact h.2.2.2.elim
 |[_,_,_,_],h=>exact h.2.2.2.2.elim
 |_::_::_::_::_::_::_,h=>exact h.2.2.2.2.2.elim

end Dv
