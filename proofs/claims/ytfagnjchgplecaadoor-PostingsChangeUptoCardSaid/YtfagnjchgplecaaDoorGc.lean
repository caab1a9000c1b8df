/- Texts that a proof of this claim uses, joined: Lw.W250, Lw.W233, Lw.W234. -/
import Derived.Test.YtfagnjchgplecaaDoorGb
set_option linter.all false
open Exists renaming intro->iy
open Go.IntKind renaming i64->aB
open List renaming getElem_mem->bj,length_append->aw,length_map->aA,map_append->bN,mem_map->aT,take_succ_eq_append_getElem->aU
set_option maxRecDepth 100000
set_option maxHeartbeats 16000000
namespace Dv
attribute [local simp] List.replicate depth y53 y89 y3c y2q y88 y6c y34 y23 Ret
attribute [local congr] z2o z2s z24 z1n z18 z26 z16


theorem zgy{l:List (Int × Int)}:∀ x,x ∈ l.map y5i->x.storable=true/\x.cellsL.length=2:=fun x hx=>by
 obtain⟨s,_,rfl⟩:=aT.1 hx
 exact⟨rfl,rfl⟩
theorem zu0{hp:List Obj}{id:Nat}{sp sp':y1a}{l m:List (Int × Int)}(hl:l.length+m.length<=10000000)(R:y5d hp sp l.length 2) :
  y7i E hp id 67 67 (.imm sp (l.map y5i)) (.imm sp' (m.map y5i))=some (.imm (.tok id) (l.map y5i++m.map y5i),y23 (y4o sp hp) id (.tok ((l.length+m.length)*2) 2)):=by
 have:=za2 (hp:=hp) (id:=id) (t:=67) (e:=65) (sz:=2) (sp:=sp) (sp':=sp') (els:=l.map y5i) (new:=m.map y5i) rfl rfl (z6x zgy) ⟨by
  rw[aA,aA,show(E.ty 65).bytes=16 from rfl];simp[yi];omega,by decide,rfl,zc6 zgy⟩ (by rw[aA];exact R)
 rw[aA,aA] at this
 exact this

theorem zgw{l:List Stp}:∀ x,x ∈ l.map y4h->x.storable=true/\x.cellsL.length=3:=fun x hx=>by
 obtain⟨s,_,rfl⟩:=aT.1 hx
 exact⟨rfl,rfl⟩
theorem znc{hp:List Obj}{id:Nat}{sp sp':y1a}{l m:List Stp}(hl:l.length+m.length<=10000000)(R:y5d hp sp l.length 3) :
  y7i E hp id 69 69 (.imm sp (l.map y4h)) (.imm sp' (m.map y4h))=some (.imm (.tok id) (l.map y4h++m.map y4h),y23 (y4o sp hp) id (.tok ((l.length+m.length)*3) 3)):=by
 have:=za2 (hp:=hp) (id:=id) (t:=69) (e:=68) (sz:=3) (sp:=sp) (sp':=sp') (els:=l.map y4h) (new:=m.map y4h) rfl rfl (z6x zgw) ⟨by
  rw[aA,aA,show(E.ty 68).bytes=40 from rfl];simp[yi];omega,by decide,rfl,zc6 zgw⟩ (by rw[aA];exact R)
 rw[aA,aA] at this
 exact this
theorem zl1(l:List Ent){j:Nat}(h:j<l.length):y5j (l.take (j+1))=y5j (l.take j)++[ya3 l[j]]:=by
 unfold y5j;rw[aU h,bN];rfl
def fA(x:Ent):Int × Int:=(x.kind,x.idx)
def asL(k i:Int)(l:List Ent):List (Int × Int):=(k,i)::l.map fA
theorem zqe(k i:Int)(l:List Ent){j:Nat}(h:j<l.length):asL k i (l.take (j+1))=asL k i (l.take j)++[fA l[j]]:=by
 unfold asL;rw[aU h,bN];rfl
theorem yb9(ss:List Stp)(hl:ss.length<=1048576)(s:Stp)(k i m:Int)(hm:i64 m):y1l E (dL E) 326 [y5a ss,y4h s,y3j k i,dI m]=some (.bool true):=by
 have s0:=r314
 have e322:=r322 (ss++[s]) (by simp;omega)
 have hst:(ss++[s]).map y4h=ss.map y4h++[y4h s]:=by simp
 unfold y5a at e322
 rw[hst] at e322
 refine zu c326 (by simp) ?_
 conv in t326=>reduce;dsimp[Int.negSucc_eq]
 have apA:∀ hp id,y7i E hp id 69 69 (.imm .exact []) (y5a ss)=some (.imm (.tok id) (ss.map y4h),y23 hp id (.tok (ss.length*3) 3)):=fun hp id=>by
  have:=znc (hp:=hp) (id:=id) (sp:=.exact) (sp':=.none) (l:=[]) (m:=ss) (by simp;omega) (.inl rfl)
  simpa[y4o] using this
 have apB:∀ hp id k,hp[k]? = some (.tok (ss.length*3) 3)->y7i E hp id 69 69 (.imm (.tok k) (ss.map y4h)) (.imm .exact [y4h s])=some (.imm (.tok id) (ss.map y4h++[y4h s]),y23 (hp.set k .dead) id (.tok ((ss.length+1)*3) 3)):=fun hp id k h=>by
  have:=znc (hp:=hp) (id:=id) (sp:=.tok k) (sp':=.exact) (l:=ss) (m:=[s]) (by simp;omega) (.inr ⟨k,rfl,h⟩)
  simpa[y4o] using this
 have fzs:y1o (frz [] 11) (ss.map y4h++[y4h s])=some (ss.map y4h++[y4h s]):=by rw[<- hst];exact z9g
 by_cases hf:y87 (ss++[s])=true
 rotate_left
 ·have hf':y87 (ss++[s])=false:=by simpa using hf
  rw[hf'] at e322
  simp[t326,n326,s0,zj,apA,apB,fzs,e322]
 rw[hf] at e322
 obtain⟨f1,f2⟩:=zfj hf
 rw[aw] at f1
 simp only[List.length_cons,List.length_nil] at f1
 have f3:y87 ss=true:=by
  unfold y87
  simp only[Bool.and_eq_true,decide_eq_true_eq,List.all_eq_true]
  exact⟨fun t ht=>f2 t (by simp[ht]),by omega⟩
 have s12:=f2 s (by simp)
 have e323:=r323 ss f3
 have M:y3w 12 (y49 tgB ss):=made f3
 have Ml:(y49 tgB ss).length<=11:=by
  have:=(zgf ss (n:=0) zbx fun t ht=>f2 t (by simp[ht])).len
  unfold y49
  omega
 obtain⟨l,hL⟩:∃ l,l=y49 tgB ss:=⟨_,rfl⟩
 rw[<- hL] at e323 M Ml
 have e316:=y9i l s (M.ok (by decide)) (by omega)
 unfold poD at e316
 by_cases hE:y2y tgB l s=0
 rotate_left
 ·rw[if_neg hE] at e316
  have hE':=eq_false hE
  simp[t326,n326,s0,zj,apA,apB,fzs,e322,z9g,zl,zo,e323,e316,hE']
 rw[if_pos hE,hE] at e316
 obtain⟨v1,v2,v3,v4,g⟩:=z4w hE
 obtain⟨r,hr⟩:∃ r,r=l++[y3r tgB l s]:=⟨_,rfl⟩
 have R:y3w 13 r:=by
  have:=zl7 M s12
  unfold y4l at this
  rw[if_pos hE,<- hr] at this
  exact this
 have hrl:r.length=l.length+1:=by rw[hr];simp
 rw[<- hr] at e316
 have hsl:=sl70 (l:=r) (k:=l.length) (by omega) fun p hp=>(R.ents p hp).1
 rw[show r.take l.length=l by rw[hr];simp] at hsl
 have e320:=r320 l l (M.ok (by decide)) (M.ok (by decide))
 rw[decide_eq_true rfl] at e320
 have e324:=yb1 r (R.ok (by decide))
 rw[z1m.2 R.v] at e324
 have e327:=r327 s.ents s.ents (by omega) (by omega)
 rw[decide_eq_true rfl] at e327
 obtain⟨np,hnp⟩:∃ np,np=y3r tgB l s:=⟨_,rfl⟩
 have hrn:r[l.length]'(by omega)=np:=by subst hr;rw[hnp];simp
 have hlw:aB.wrap ((l.length:Int)+1)=(l.length:Int)+1:=zc ⟨by omega,by omega⟩
 have n32:np.prev.length=32:=by rw[hnp];exact y3s
 have nents:np.ents=s.ents:=by rw[hnp];rfl
 simp[t326,n326,s0,zj,apA,apB,fzs,e322,z9g,zl,zo,e323,e316,hsl,e320,e324,e327,hrl,hlw,hrn,n32,nents]
 refine z1o s.ents.length (fun j env h=>∃(x13 x14 x15 x16 x17 x18 x19 x20 x21 x22 x23 x24 x25 x26 x27 x28 x29 x30 x31 x32 x33 x37 x38 x39 x40 x41 x42 x43 x44 x45 x46 x47 x48 x49 x50 x51 x52 x53 x54 x55 x56 x57 x58 x59 x60 x61 x62:D) (sp1 sp2:y1a),env=[y5a ss,y4h s,y3j k i,dI m,.iptr [dI s.minute,dI s.corrects,.imm .none (s.ents.map y2z)],.iptr [dI k,dI i],.bool false,y1p l,y1p r,dI 0,dI l.length,.imm sp1 ((y5j (s.ents.take j)).map y2z),.imm sp2 ((asL k i (s.ents.take j)).map y5i),x13,x14,x15,x16,x17,x18,x19,x20,x21,x22,x23,x24,x25,x26,x27,x28,x29,x30,x31,x32,x33,.imm .none (s.ents.map y2z),dI s.ents.length,dI j,x37,x38,x39,x40,x41,x42,x43,x44,x45,x46,x47,x48,x49,x50,x51,x52,x53,x54,x55,x56,x57,x58,x59,x60,x61,x62]/\y5d h sp1 j 3/\y5d h sp2 (j+1) 2) 0 (by omega) ?_ ?_
 ·exact⟨_,_,_,_,_,_,_,_,_,_,_,_,_,_,_,_,_,_,_,_,_,_,_,_,_,_,_,_,_,_,_,_,_,_,_,_,_,_,_,_,_,_,_,_,_,_,_,.exact,.exact,rfl,.inl rfl,.inl rfl⟩
 rintro j env h hj ⟨x13,x14,x15,x16,x17,x18,x19,x20,x21,x22,x23,x24,x25,x26,x27,x28,x29,x30,x31,x32,x33,x37,x38,x39,x40,x41,x42,x43,x44,x45,x46,x47,x48,x49,x50,x51,x52,x53,x54,x55,x56,x57,x58,x59,x60,x61,x62,sp1,sp2,rfl,R1,R2⟩
 by_cases hlt:j<s.ents.length
 ·have hup:=zm hlt (by omega)
  obtain⟨x,hx⟩:∃ x,x=s.ents[j]:=⟨_,rfl⟩
  have hxm:x ∈ s.ents:=by rw[hx];exact bj hlt
  have okx:=g.fm.ents.ok x hxm
  have hng:aB.wrap (-x.amt) = -x.amt:=zc ⟨by have:=okx.2.2.2;omega,by have:=okx.2.2.2;omega⟩
  have n1:=zl1 s.ents hlt
  have n2:=zqe k i s.ents hlt
  rw[<- hx] at n1 n2
  rw[n1,n2]
  have nl:(y5j (s.ents.take j)).length=j:=by rw[z43,List.length_take];omega
  have al:(asL k i (s.ents.take j)).length=j+1:=by unfold asL;simp;omega
  generalize y5j (s.ents.take j)=I at nl ⊢
  generalize asL k i (s.ents.take j)=A at al ⊢
  have dif:∀ q q',sp2=.tok q->sp1=.tok q'->q ≠ q':=fun q q' h1 h2=>by
   rcases R1 with e | ⟨w,e,a1⟩
   ·rw[e] at h2;cases h2
   ·rcases R2 with e2 | ⟨w2,e2,a2⟩
    ·rw[e2] at h1;cases h1
    ·rw[e] at h2;cases h2
     rw[e2] at h1;cases h1
     exact a2.dif a1 (by simp)
  obtain⟨H1,hH1⟩:∃ H1,H1=y4o sp2 h:=⟨_,rfl⟩
  obtain⟨H2,hH2⟩:∃ H2,H2=y4o sp1 H1:=⟨_,rfl⟩
  have l1:H1.length=h.length:=by rw[hH1,zdm]
  have l2:H2.length=h.length:=by rw[hH2,zdm,l1]
  have R1':y5d H1 sp1 j 3:=by
   rcases R1 with e | ⟨w,e,a1⟩
   ·exact .inl e
   ·exact .inr ⟨w,e,by rw[hH1];exact zol a1 fun q hq=>dif q w hq e⟩
  have apC:∀ r id,y7i E (h++r) id 67 67 (.imm sp2 (A.map y5i)) (.imm .exact [.agg [dI x.kind,dI x.idx]])=some (.imm (.tok id) (A.map y5i++[y5i (fA x)]),y23 (H1++r) id (.tok ((j+1+1)*2) 2)):=fun r id=>by
   have:=zu0 (hp:=h++r) (id:=id) (sp:=sp2) (sp':=.exact) (l:=A) (m:=[fA x]) (by rw[al];simp;omega) (by rw[al];exact R2.app)
   rw[zdn R2,<- hH1,al] at this
   exact this
  have apD:∀ r id (y:Ent),y7i E (H1++r) id 66 66 (.imm sp1 (I.map y2z)) (.imm .exact [.agg [dI y.kind,dI y.idx,dI y.amt]])=some (.imm (.tok id) (I.map y2z++[y2z y]),y23 (H2++r) id (.tok ((j+1)*3) 3)):=fun r id y=>by
   have:=ztz (hp:=H1++r) (id:=id) (sp:=sp1) (sp':=.exact) (l:=I) (m:=[y]) (by rw[nl];simp;omega) (by rw[nl];exact R1'.app)
   rw[zdn R1',<- hH2,nl] at this
   exact this
  have apD:=fun r id=>apD r id (ya3 x)
  simp only[ya3] at apD
  have g1:∀ r:List Obj,(H1++r)[h.length]? = r[0]?:=fun r=>by rw[<- l1];exact z6i (k:=0)
  have s1:∀(r:List Obj) (o:Obj),(H1++r).set h.length o=H1++r.set 0 o:=fun r o=>by rw[<- l1];exact zbk (k:=0)
  simp[hlt,<- hx,hup,hng,zj,apC,apD,l1,l2,↓g1,↓s1]
  repeat apply iy
  exact⟨by and_intros <;> rfl,.inr ⟨_,rfl,by unfold At;rw[<- l2];exact z6i (k:=2)⟩,.inr ⟨_,rfl,by unfold At;rw[<- l2];exact z6i (k:=1)⟩⟩
 have:j=s.ents.length:=by omega
 subst this
 rw[List.take_length]
 have ng:∀ n (h:List Obj),y1o (frz h (n+2)) ((y5j s.ents).map y2z)=some ((y5j s.ents).map y2z):=fun _ _=>zo
 have nlen:=z43 s.ents
 have f316:=y9i r ⟨s.minute,l.length,y5j s.ents⟩ (R.ok (by decide)) (by simp only[z43];omega)
 have hU:=zry hE (by omega)
 rw[<- hr] at hU
 unfold poD at f316
 rw[if_pos hU,hU] at f316
 simp only at f316
 obtain⟨u,hu⟩:∃ u,u=r++[y3r tgB r ⟨s.minute,l.length,y5j s.ents⟩]:=⟨_,rfl⟩
 have U:y3w 14 u:=by
  have:=zl7 (s:=⟨s.minute,l.length,y5j s.ents⟩) R (by simp only[z43];exact s12)
  unfold y4l at this
  rw[if_pos hU,<- hu] at this
  exact this
 rw[<- hu] at f316
 obtain⟨I,hI⟩:∃ I,I=y5j s.ents:=⟨_,rfl⟩
 rw[<- hI] at f316 ng ⊢
 obtain⟨A,hA⟩:∃ A,A=asL k i s.ents:=⟨_,rfl⟩
 have Al:A.length=s.ents.length+1:=by rw[hA];simp[asL]
 rw[<- hA]
 simp[ng,zl,f316]
 have hul:u.length=l.length+2:=by rw[hu,aw,hrl];rfl
 have bl:=fun a b w=>yaq l (M.ok (by decide)) (M.entN (by decide)) a b w
 have br:=fun a b w=>yaq r (R.ok (by decide)) (R.entN (by decide)) a b w
 have bu:=fun a b w=>yaq u (U.ok (by decide)) (U.entN (by decide)) a b w
 unfold blD at bl br bu
 rw[z1m.2 v1] at bl
 rw[z1m.2 R.v] at br
 rw[z1m.2 U.v] at bu
 simp only[if_true] at bl br bu
 have hQ:∀ a b w,y4j a b w r=y4j a b w l+(if s.minute<=w then y38 a b s.ents else 0):=fun a b w=>by
  rw[hr,ze3];rfl
 have hR:∀ a b w,y4j a b w u=y4j a b w l:=fun a b w=>by
  rw[hu,ze3,hQ]
  show _+(if s.minute<=w then y38 a b (y5j s.ents) else 0)=_
  rw[ze5]
  split <;> omega
 have hPb:∀ a b w,-1125899906842624<=y4j a b w l/\y4j a b w l<=1125899906842624:=fun a b w=>by
  have h1:=zn6 (k:=a) (i:=b) (m:=w) (l:=l) fun p hp x hx=>(v1.2.1 p hp).fm.ents.ok x hx
  have h2:=zfl (l:=l) fun p hp=>(M.ents p hp).2
  have h3:(entN l:Int)<=132:=by omega
  omega
 have hm0:0<=s.minute/\s.minute<1440:=g.fm.minute
 have hmw:aB.wrap (s.minute - 1)=s.minute - 1:=zc ⟨by omega,by omega⟩
 have okE:=g.fm.ents.ok
 have okE:∀ x,x ∈ s.ents->y4n x:=okE
 clear hU f316 e316 e323 e322 hsl e320 e324 e327 fzs apA apB hst ng hnp hrn n32 nents
 refine z1o A.length (fun j env h=>∃(x0 x1 x2 x5 x9 x10 x11 x12 x13 x15 x16 x17 x18 x19 x20 x21 x22 x23 x24 x25 x26 x27 x28 x29 x30 x31 x32 x33 x34 x35 x36 x37 x38 x39 x40 x41 x42 x46 x47 x48 x49 x50 x51 x52 x53 x54 x55 x56 x57 x58 x59 x60 x61 x62:D) ,env=[x0,x1,x2,dI m,.iptr [dI s.minute,dI s.corrects,.imm .none (s.ents.map y2z)],x5,.bool false,y1p l,y1p r,x9,x10,x11,x12,x13,y1p u,x15,x16,x17,x18,x19,x20,x21,x22,x23,x24,x25,x26,x27,x28,x29,x30,x31,x32,x33,x34,x35,x36,x37,x38,x39,x40,x41,x42,.imm sp2 (A.map y5i),dI A.length,dI j,x46,x47,x48,x49,x50,x51,x52,x53,x54,x55,x56,x57,x58,x59,x60,x61,x62]) 0 (by omega) ⟨_,_,_,_,_,_,_,_,_,_,_,_,_,_,_,_,_,_,_,_,_,_,_,_,_,_,_,_,_,_,_,_,_,_,_,_,_,_,_,_,_,_,_,_,_,_,_,_,_,_,_,_,_,_,by rfl⟩ ?_
 clear R1 R2 hlt hj nlen
 clear h x13 x14 x15 x16 x17 x18 x19 x20 x21 x22 x23 x24 x25 x26 x27 x28 x29 x30 x31 x32 x33
 rintro j env h hj ⟨x0,x1,x2,x5,x9,x10,x11,x12,x13,x15,x16,x17,x18,x19,x20,x21,x22,x23,x24,x25,x26,x27,x28,x29,x30,x31,x32,x33,x34,x35,x36,x37,x38,x39,x40,x41,x42,x46,x47,x48,x49,x50,x51,x52,x53,x54,x55,x56,x57,x58,x59,x60,x61,x62,rfl⟩
 by_cases hlt:j<A.length
 rotate_left
 ·have:j=A.length:=by omega
  subst this
  simp
 have hup:=zm hlt (by omega)
 obtain⟨a,ha⟩:∃ a,a=A[j]:=⟨_,rfl⟩
 have pA:y5i a=.agg [dI a.1,dI a.2]:=rfl
 have bl:=bl a.1 a.2
 have br:=br a.1 a.2
 have bu:=bu a.1 a.2
 have hQ:=hQ a.1 a.2
 have hR:=hR a.1 a.2
 have hPb:=hPb a.1 a.2
 obtain⟨AM,hAM⟩:∃ AM,AM=y38 a.1 a.2 s.ents:=⟨_,rfl⟩
 rw[<- hAM] at hQ
 have hAMb:=zcg (k:=a.1) (i:=a.2) okE
 rw[<- hAM] at hAMb
 simp[hlt,<- ha,pA]
 have hC:At (h++[.cells [dI a.1,dI a.2]]) h.length (.cells [dI a.1,dI a.2]):=by simp[At]
 generalize h++[Obj.cells [dI a.1,dI a.2]]=H at hC ⊢
 generalize h.length=C at hC ⊢
 refine z1o s.ents.length (fun e env h=>∃(x0 x1 x2 x5 x9 x10 x11 x12 x13 x15 x18 x19 x20 x21 x22 x23 x24 x25 x26 x27 x28 x29 x30 x31 x32 x33 x34 x35 x36 x37 x38 x39 x40 x41 x42 x46 x47 x51 x52 x53 x54 x55 x56 x57 x58 x59 x60 x61 x62:D) (c:Int),env=[x0,x1,x2,dI m,.iptr [dI s.minute,dI s.corrects,.imm .none (s.ents.map y2z)],x5,.bool false,y1p l,y1p r,x9,x10,x11,x12,x13,y1p u,x15,.loc C 0,dI c,x18,x19,x20,x21,x22,x23,x24,x25,x26,x27,x28,x29,x30,x31,x32,x33,x34,x35,x36,x37,x38,x39,x40,x41,x42,.imm sp2 (A.map y5i),dI A.length,dI j,x46,x47,.imm .none (s.ents.map y2z),dI s.ents.length,dI e,x51,x52,x53,x54,x55,x56,x57,x58,x59,x60,x61,x62]/\At h C (.cells [dI a.1,dI a.2])/\c+y38 a.1 a.2 (s.ents.drop e)=AM /\ -(1099511627776*(e:Int))<=c/\c<=1099511627776*(e:Int)) 0 (by omega) ⟨_,_,_,_,_,_,_,_,_,_,_,_,_,_,_,_,_,_,_,_,_,_,_,_,_,_,_,_,_,_,_,_,_,_,_,_,_,_,_,_,_,_,_,_,_,_,_,_,_, (0:Int),by rfl,hC,by rw[hAM];simp,by simp,by simp⟩ ?_
 clear hC
 clear H x0 x1 x2 x5 x9 x10 x11 x12 x13 x15 x16 x17 x18 x19 x20 x21 x22 x23 x24 x25 x26 x27 x28 x29 x30 x31 x32 x33 x34 x35 x36 x37 x38 x39 x40 x41 x42 x46 x47 x48 x49 x50 x51 x52 x53 x54 x55 x56 x57 x58 x59 x60 x61 x62
 rintro e env h he ⟨x0,x1,x2,x5,x9,x10,x11,x12,x13,x15,x18,x19,x20,x21,x22,x23,x24,x25,x26,x27,x28,x29,x30,x31,x32,x33,x34,x35,x36,x37,x38,x39,x40,x41,x42,x46,x47,x51,x52,x53,x54,x55,x56,x57,x58,x59,x60,x61,x62,c,rfl,hC,b1,b2,b3⟩
 by_cases hlt2:e<s.ents.length
 ·have hup2:=zm hlt2 (by omega)
  obtain⟨x,hx⟩:∃ x,x=s.ents[e]:=⟨_,rfl⟩
  have okx:=(okE x (by rw[hx];exact bj hlt2)).2.2.2
  rw[z6l hlt2,<- hx] at b1
  simp only[y38] at b1
  have eqa:=zr4 (a:=(x.kind,x.idx)) (b:=(a.1,a.2))
  simp only[Prod.mk.injEq] at eqa
  have ld:∀ r:List Obj,yv E (h++r) 65 (.loc C 0)=some (.agg [dI a.1,dI a.2]):=fun r=>by
   have:=(hC.app (r:=r)).eq
   unfold yv
   simp only[this]
   rfl
  have ya4:∀(r:List Obj),yv E (h ++ .cells [dI x.kind,dI x.idx,dI x.amt]::r) 65 (.loc h.length 0)=some (.agg [dI x.kind,dI x.idx]):=fun r=>by
   have e:(h++Obj.cells [dI x.kind,dI x.idx,dI x.amt]::r)[h.length]? = some (.cells [dI x.kind,dI x.idx,dI x.amt]):=by simp
   unfold yv
   simp only[e]
   rfl
  have ld2x:∀(r:List Obj),yv E (h ++ .cells [dI x.kind,dI x.idx,dI x.amt]::r) 2 (.loc h.length 2)=some (dI x.amt):=fun r=>by
   have e:(h++Obj.cells [dI x.kind,dI x.idx,dI x.amt]::r)[h.length]? = some (.cells [dI x.kind,dI x.idx,dI x.amt]):=by simp
   unfold yv
   simp only[e]
   rfl
  by_cases hk:x.kind=a.1/\x.idx=a.2
  ·rw[decide_eq_true hk] at eqa
   rw[if_pos hk] at b1
   have hw:aB.wrap (c+x.amt)=c+x.amt:=zc ⟨by omega,by omega⟩
   simp[hlt2,<- hx,hup2,-zy,ld,ya4,ld2x,eqa,-z9w,hw]
   repeat apply iy
   exact⟨by and_intros <;> rfl,hC.app,by omega,by omega,by omega⟩
  ·rw[decide_eq_false hk] at eqa
   rw[if_neg hk] at b1
   simp[hlt2,<- hx,hup2,-zy,ld,ya4,ld2x,eqa,-z9w]
   repeat apply iy
   exact⟨by and_intros <;> rfl,hC.app,by omega,by omega,by omega⟩
 have:e=s.ents.length:=by omega
 subst this
 rw[List.drop_length] at b1
 have hc:c=AM:=by simpa[y38] using b1
 subst hc
 simp[hmw]
 have rows:∀ t:Nat,t<3->∃ w,([.int .i64 m,.int .i64 s.minute,.int .i64 (s.minute - 1)]:List D)[t]? = some (dI w):=fun t ht=>by
  match t,ht with
  | 0,_=>exact⟨_,rfl⟩
  | 1,_=>exact⟨_,rfl⟩
  | 2,_=>exact⟨_,rfl⟩
 obtain⟨ML,hML⟩:∃ ML:List D,ML=[.int .i64 m,.int .i64 s.minute,.int .i64 (s.minute - 1)]:=⟨_,rfl⟩
 rw[<- hML] at rows
 rw[<- hML]
 refine z1o 3 (fun t env h=>∃(x0 x1 x2 x5 x9 x10 x11 x12 x13 x15 x18 x19 x20 x21 x22 x23 x24 x25 x26 x27 x28 x29 x30 x31 x32 x33 x34 x35 x36 x37 x38 x39 x40 x41 x42 x46 x47 x48 x49 x50 x51 x52 x53 x57 x58 x59 x60 x61 x62:D) ,env=[x0,x1,x2,dI m,.iptr [dI s.minute,dI s.corrects,.imm .none (s.ents.map y2z)],x5,.bool false,y1p l,y1p r,x9,x10,x11,x12,x13,y1p u,x15,.loc C 0,dI c,x18,x19,x20,x21,x22,x23,x24,x25,x26,x27,x28,x29,x30,x31,x32,x33,x34,x35,x36,x37,x38,x39,x40,x41,x42,.imm sp2 (A.map y5i),dI A.length,dI j,x46,x47,x48,x49,x50,x51,x52,x53,.imm .exact ML,dI 3,dI t,x57,x58,x59,x60,x61,x62]/\At h C (.cells [dI a.1,dI a.2])) 0 (by omega) ⟨_,_,_,_,_,_,_,_,_,_,_,_,_,_,_,_,_,_,_,_,_,_,_,_,_,_,_,_,_,_,_,_,_,_,_,_,_,_,_,_,_,_,_,_,_,_,_,_,_,by rfl,hC⟩ ?_
 clear hC b1 he hlt2 hML
 clear h x0 x1 x2 x5 x9 x10 x11 x12 x13 x15 x18 x19 x20 x21 x22 x23 x24 x25 x26 x27 x28 x29 x30 x31 x32 x33 x34 x35 x36 x37 x38 x39 x40 x41 x42 x46 x47 x51 x52 x53 x54 x55 x56 x57 x58 x59 x60 x61 x62
 rintro t env h ht ⟨x0,x1,x2,x5,x9,x10,x11,x12,x13,x15,x18,x19,x20,x21,x22,x23,x24,x25,x26,x27,x28,x29,x30,x31,x32,x33,x34,x35,x36,x37,x38,x39,x40,x41,x42,x46,x47,x48,x49,x50,x51,x52,x53,x57,x58,x59,x60,x61,x62,rfl,hC⟩
 by_cases hlt3:t<3
 rotate_left
 ·have:t=3:=by omega
  subst this
  simp[hlt,hup]
 have hup3:=zm hlt3 (by omega)
 have ht3:(t:Int)<3:=by omega
 obtain⟨w,hw⟩:=rows t hlt3
 have ld:yv E h 65 (.loc C 0)=some (.agg [dI a.1,dI a.2]):=by
  have:=hC.eq
  unfold yv
  simp only[this]
  rfl
 have bl:=bl w
 have br:=br w
 have bu:=bu w
 have hQ:=hQ w
 have hR:=hR w
 have hPb:=hPb w
 rw[hR] at bu
 rw[hQ] at br
 generalize y4j a.1 a.2 w l=P at *
 by_cases hwm:s.minute<=w
 ·rw[if_pos hwm] at br
  have hw2:aB.wrap (P+c)=P+c:=zc ⟨by omega,by omega⟩
  simp(maxSteps:=10000000) [ht3,hlt3,hw,hup3,-zy,ld,zl,bl,br,bu,hwm,hw2]
  exact hC
 ·rw[if_neg hwm,Int.add_zero] at br
  simp(maxSteps:=10000000) [ht3,hlt3,hw,hup3,-zy,ld,zl,bl,br,bu,hwm]
  exact hC

def small1(B:Nat)(xs:List D):Prop:=∀ spr els r,xs=.imm spr els::r->els.length<=B
theorem postingsChange:∀ xs,y7k E [69,68,65,2] xs->small1 1048576 xs->∃ n,y1l E (dC E n) 326 xs=some (.bool true):=by
 intro xs h hB
 match xs,h with
 |[x,y,z,w],⟨t1,t2,t3,t4,_⟩=>
  obtain⟨ss,rfl,_,_⟩:=zs2 t1
  obtain⟨s,rfl,_⟩:=zqm t2
  obtain⟨k,i,rfl,_⟩:=zup t3
  obtain⟨m,rfl,hm⟩:=zun t4 rfl
  have:=hB _ _ _ rfl
  rw[aA] at this
  exact z6u (yb9 ss this s k i m hm)
 |[],h=>exact h.elim
 |[_],h=>exact h.2.elim
 |[_,_],h=>exact h.2.2.elim
 |[_,_,_],h=>exact h.2.2.2.elim
 |_::_::_::_::_::_,h=>exact h.2.2.2.2.elim

end Dv
