/- Texts that a proof of this claim uses, joined: Lw.W230, Lw.W231, Lw.W232, Lw.W254, Lw.W255, Lw.W256. -/
import Derived.Test.YtfagnjchgplecaaDoorGb
set_option linter.all false
open Bool renaming and_assoc->ge,and_eq_true->ai
open Go.IntKind renaming i64->aC
open Int renaming natCast_nonneg->ga,toNat_natCast->cz
open List renaming all_append->ji,all_eq_true->ax,drop_eq_getElem_cons->bH,drop_zero->cF,getElem?_eq_some_iff->ac,length_append->ar,length_cons->az,length_map->aH,length_nil->be,length_take->aS,mem_cons->aw,mem_map->aV,mem_of_getElem?->ba,mem_of_mem_take->cZ,nil_append->bh,set_append_right->dw,take_append_drop->bj,take_length->aY,take_of_length_le->bq,take_succ_eq_append_getElem->aM
open Nat renaming le_refl->af,min_eq_left->bI,succ_mul->g8
open Option renaming map_none->aU
set_option maxHeartbeats 16000000
namespace Dv
attribute [local simp] List.replicate depth y2c y6l y2k y2g y4y y19 y3t y2b Ret
attribute [local congr] z48 z4j z3b z2h z1x z3h z1w


theorem zuq{sz:Nat}:∀(els:List D) (i j n:Nat) (x:D),(∀ y,y ∈ els->y.cellsL.length=sz)->els[i]? = some x->j+n<=sz->y1x (yi els) (i*sz+j) n=y1x x.cellsL j n:=by
 have key:∀(a b:List D) (k j:Nat) (n:Nat),j+n<=a.length->∀ pre:List D,pre.length=k->y1x (pre++(a++b)) (k+j) n=y1x a j n:=by
  intro a b k j n
  induction n generalizing j with
  |zero=>intro _ _ _;rfl
  |succ n ih=>
   intro hj pre hp
   have hg:(pre++(a++b))[k+j]? = a[j]?:=by
    rw[List.getElem?_append_right (by omega),hp,show k+j - k=j from by omega,List.getElem?_append_left (by omega)]
   rw[y1x,y1x,hg]
   have:=ih (j+1) (by omega) pre hp
   rw[show k+j+1=k+(j+1) from by omega,this]
 intro els i j n x hall hx hj
 have hi:=(ac.1 hx).1
 have hxe:=(ac.1 hx).2
 have e:els=els.take i++x::els.drop (i+1):=by
  have:=bj i els
  rw[bH hi,hxe] at this
  exact this.symm
 have hlen:∀ l:List D,(∀ y,y ∈ l->y.cellsL.length=sz)->(yi l).length=l.length*sz:=by
  intro l
  induction l with
  |nil=>intro _;simp[yi]
  |cons a l ih=>intro h;rw[zq,ar,ih fun y hy=>h y (by simp[hy]),h a (by simp),az,g8];omega
 have hf:yi els=yi (els.take i)++(x.cellsL++yi (els.drop (i+1))):=by
  conv=>lhs;rw[e]
  rw[z14,zq]
 have hl:(yi (els.take i)).length=i*sz:=by
  rw[hlen _ fun y hy=>hall y (cZ hy),aS,bI (by omega)]
 rw[hf]
 exact key _ _ _ _ _ (by rw[hall x (ba hx)];exact hj) _ hl
theorem zxg{sz:Nat}(els:List D)(i j:Nat)(cs:List D)(v:D)(hall:∀ y,y ∈ els->y.cellsL.length=sz)(hx:els[i]? = some (.agg cs))(hj:j<sz):setCells (yi els) (i*sz+j) [v]=yi (els.set i (.agg (cs.set j v))):=by
 have hi:=(ac.1 hx).1
 have hxe:=(ac.1 hx).2
 have hcs:cs.length=sz:=hall _ (ba hx)
 have e:els=els.take i ++ .agg cs::els.drop (i+1):=by
  have:=bj i els
  rw[bH hi,hxe] at this
  exact this.symm
 have hlen:∀ l:List D,(∀ y,y ∈ l->y.cellsL.length=sz)->(yi l).length=l.length*sz:=by
  intro l
  induction l with
  |nil=>intro _;simp[yi]
  |cons a l ih=>intro h;rw[zq,ar,ih fun y hy=>h y (by simp[hy]),h a (by simp),az,g8];omega
 have hl:(yi (els.take i)).length=i*sz:=by
  rw[hlen _ fun y hy=>hall y (cZ hy),aS,bI (by omega)]
 have hlt:(els.take i).length=i:=by rw[aS,bI (by omega)]
 have hf:yi els=yi (els.take i)++(cs++yi (els.drop (i+1))):=by
  conv=>lhs;rw[e]
  rw[z14,zq]
  rfl
 have hs:els.set i (.agg (cs.set j v))=els.take i ++ .agg (cs.set j v)::els.drop (i+1):=by
  conv=>lhs;rw[e]
  rw[dw _ _ (by omega),hlt,Nat.sub_self];rfl
 have hg:yi (els.set i (.agg (cs.set j v)))=yi (els.take i)++(cs.set j v++yi (els.drop (i+1))):=by
  rw[hs,z14,zq];rfl
 rw[hf,hg]
 show(yi (els.take i)++(cs++yi (els.drop (i+1)))).set (i*sz+j) v=_
 rw[dw _ _ (by omega),hl,show i*sz+j - i*sz=j from by omega,List.set_append_left _ _ (by omega)]

theorem zpl{hp:List Obj}{id:Nat}{sp:y1a}{l:List Ent}(hl:l.length<=1000000)(h0:l ≠ []) :
  y1s E hp id 66 66 (.imm .exact []) (.imm sp (l.map y18))=some ⟨.sl id 0 l.length 3 true true,some (.cells (yi (l.map y18))),none⟩:=by
 have h4 : ¬ l.length=0:=fun h=>h0 (List.eq_nil_of_length_eq_zero h)
 have hfit:y2q 3 (l.map y18)=true:=by
  unfold y2q
  rw[ax]
  intro x hx
  obtain⟨e,_,rfl⟩:=aV.1 hx
  rfl
 have h5:(0+l.length)*(24+1)<=yj/\24<=65536/\(y20 E 72).isSome=true/\y2q 3 ([]:List D)=true:=⟨by simp[yj];omega,by decide,rfl,rfl⟩
 have hlo:y15 hp (E.ty 72).size (E.ty 72).ag (.imm sp (l.map y18))=some (l.map y18):=by
  have:=hfit
  unfold y2q at this
  rw[show(E.ty 72).size=3 from rfl]
  simp only[y15]
  rw[if_pos this]
 unfold y1s
 simp only[show(E.ty 66).k=.slice 72 from rfl]
 rw[hlo]
 simp only[aH,be]
 rw[if_neg h4,show(E.ty 72).bytes=24 from rfl,show(E.ty 72).size=3 from rfl,if_pos h5]
 simp only[Nat.zero_add,yi,List.flatMap_nil,bh]
 rfl

theorem r389(e x:Ent):y17 E (dL E) 389 [y2v e.kind e.idx,y2v x.kind x.idx]=some (.bool (decide (ltA e x))):=by
 refine zg c389 (by simp) ?_
 by_cases h1:e.kind<x.kind
 ·have:ltA e x:=.inl h1
  simp[t389,n389,h1,this]
 ·by_cases h2:e.kind=x.kind
  ·by_cases h3:e.idx<x.idx
   ·have:ltA e x:=.inr ⟨h2,h3⟩
    simp[t389,n389,h1,h2,h3,this]
   ·have : ¬ ltA e x:=by unfold ltA;omega
    simp[t389,n389,h1,h2,h3,this]
  ·have : ¬ ltA e x:=by unfold ltA;omega
   simp[t389,n389,h1,h2,this]

theorem hf66{l:List Ent}:y5h (E.ty 72).size (l.map y18)=true:=by cases l <;> rfl
theorem yc9{l:List Ent}{k:Nat}(h:k<=l.length):y1b E 66 (.imm .none (l.map y18)) none (some (dI k)) none=some (.imm .none ((l.take k).map y18)):=by
 have hk:(E.ty 66).k=.slice 72:=rfl
 have hs:y27 .none (l.map y18).length k none=.none:=by unfold y27;simp
 unfold y1b
 simp only[hk,bnd,ga,if_true,cz,hf66,aU,hs]
 rw[if_pos ⟨Nat.zero_le _,by simpa using h,af _,trivial⟩,cF,Nat.sub_zero,List.map_take]
theorem yc8{l:List Ent}{k:Nat}(h:k<=l.length):y1b E 66 (.imm .none (l.map y18)) (some (dI k)) none none=some (.imm .none ((l.drop k).map y18)):=by
 have hk:(E.ty 66).k=.slice 72:=rfl
 have hs:y27 .none (l.map y18).length (l.map y18).length none=.none:=by unfold y27;simp
 unfold y1b
 simp only[hk,bnd,ga,if_true,cz,hf66,aU,hs]
 rw[if_pos ⟨by simpa using h,af _,af _,trivial⟩,bq (by simp),List.map_drop]

theorem r374(l:List Ent)(hl:l.length<=1000000):y17 E (dL E) 374 [.imm .none (l.map y18)]=some (.imm .none ((y3l l).map y18)):=by
 refine zg c374 (by simp) ?_
 simp[t374,n374]
 refine zr l.length (fun i env h=>∃(x4 x5 x6:D) (sp:y1a),env=[.imm .none (l.map y18),.imm .exact [],.imm sp ((y3l (l.take i)).map y18),dI i,x4,x5,x6]/\y4t h sp (y3l (l.take i)).length 3) 0 (by omega) ⟨_,_,_,.exact,rfl,.inl rfl⟩ ?_
 rintro i env h hi ⟨x4,x5,x6,sp,rfl,R⟩
 by_cases hlt:i<l.length
 rotate_left
 ·have:i=l.length:=by omega
  subst this
  rw[aY]
  simp[z13]
 have hup:=zb hlt (by omega)
 obtain⟨x,hx⟩:∃ x,x=l[i]:=⟨_,rfl⟩
 have htk:y3l (l.take (i+1))=y3l (l.take i)++y3l [x]:=by
  unfold y3l;rw[aM hlt,List.filter_append,<- hx]
 have hln:(y3l (l.take i)).length<=i:=by
  have:(y3l (l.take i)).length<=(l.take i).length:=List.length_filter_le ..
  rw[aS] at this;omega
 obtain⟨L,hL⟩:∃ L,L=y3l (l.take i):=⟨_,rfl⟩
 rw[<- hL] at htk hln R ⊢
 have l72:∀(h:List Obj) (x:Ent),yx E h 72 (.iptr [dI x.kind,dI x.idx,dI x.amt])=some (y18 x):=fun _ _=>rfl
 by_cases h0:x.amt=0
 ·have e:y3l [x]=[]:=by simp[y3l,h0]
  rw[e,List.append_nil] at htk
  simp[hlt,<- hx,h0,hup,htk]
  exact⟨_,_,_,_,⟨rfl,rfl,rfl,rfl⟩,R⟩
 ·have e:y3l [x]=[x]:=by simp[y3l,h0]
  rw[e] at htk
  have y2:y7t E h h.length 66 66 (.imm sp (L.map y18)) (.imm .exact [.agg [dI x.kind,dI x.idx,dI x.amt]])=some (.imm (.tok h.length) (L.map y18++[y18 x]),y34 sp h++[.tok ((L.length+1)*3) 3]):=by
   have e:=z85 (hp:=h) (id:=h.length) (sp:=sp) (sp':=.exact) (l:=L) (m:=[x]) (by simp;omega) R
   have e2:y2b (y34 sp h) h.length (.tok ((L.length+1)*3) 3)=y34 sp h++[.tok ((L.length+1)*3) 3]:=by
    unfold y2b;rw[if_neg (by rw[z5e];omega)]
   rw[<- e2];exact e
  simp[hlt,<- hx,h0,hup,htk,l72,il2,-z12,y2]
  exact⟨_,_,_,_,⟨rfl,rfl,rfl,rfl⟩,z9q (j:=0) rfl⟩

theorem z7d:∀(l:List Ent),(yi (l.map y18)).length=l.length*3
 |[]=>rfl
 |e::l=>by
  have:=z7d l
  rw[List.map_cons,zq,ar,this,show(y18 e).cellsL.length=3 from rfl,az];omega
theorem zrg{X:List Obj}{m n:Nat}{L:List Ent}{gr:Bool}(h:At X m (.cells (yi (L.map y18)))):frz X (n+6) (.sl m 0 L.length 3 true gr)=some (.imm .none (L.map y18)):=by
 have hr:yw X m=some (yi (L.map y18)):=by unfold yw;rw[h.eq]
 have hch:=z84 (sz:=3) (L.map y18) (fun x hx=>by obtain⟨p,_,rfl⟩:=aV.1 hx;exact⟨rfl,rfl⟩)
 rw[aH] at hch
 show(match yw X m with | some cs=>(match y31 3 true L.length (cs.drop 0) with | some els=>(y1y (frz X (n+5)) els).map (D.imm .none) | none=>none) | none=>none)=_
 rw[hr]
 simp only[cF]
 rw[hch]
 simp only[]
 rw[z13]
 rfl
theorem zwo{x e:Ent}{l:List Ent}(h:ltA e x):y2o x (e::l)=e::y2o x l:=by simp only[y2o];rw[if_pos h]
theorem zwq{x e:Ent}{l:List Ent}(h : ¬ ltA e x)(he:y3i e=y3i x):y2o x (e::l)=⟨e.kind,e.idx,e.amt+x.amt⟩::l:=by simp only[y2o];rw[if_neg h,if_pos he]
theorem zwp{x e:Ent}{l:List Ent}(h : ¬ ltA e x)(he : ¬ y3i e=y3i x):y2o x (e::l)=x::e::l:=by simp only[y2o];rw[if_neg h,if_neg he]

theorem r373(l:List Ent)(hl:l.length<=1000000)(x:Ent)(hb:∀ y,y ∈ l->i64 (y.amt+x.amt)):y17 E (dL E) 373 [.imm .none (l.map y18),y2v x.kind x.idx,dI x.amt]=some (.imm .none ((y2o x l).map y18)):=by
 have e389:=fun e=>r389 e x
 refine zg c373 (by simp) ?_
 simp[t373,n373,z13]
 refine zr l.length (fun n env h=>∃(x6 x7 x8 x9 x10 x11 x12 x13:D) ,env=[.imm .none (l.map y18),y2v x.kind x.idx,dI x.amt,.iptr [dI x.kind,dI x.idx],.imm .exact [],dI n,x6,x7,x8,x9,x10,x11,x12,x13]/\y2o x l=l.take n++y2o x (l.drop n)) 0 (by omega) ⟨_,_,_,_,_,_,_,_,rfl,by simp⟩ ?_
 rintro n env h hn ⟨x6,x7,x8,x9,x10,x11,x12,x13,rfl,hA⟩
 have ins:∀ P S T:List Ent,P.length+S.length<=1000000->T=P++x::S ->
  (∀ hp id,y7t E hp id 66 66 (.imm .exact []) (.imm .none (P.map y18))=some (.imm (.tok id) (P.map y18),y2b hp id (.tok (P.length*3) 3))) /\
  (∀ hp id k',hp[k']? = some (.tok (P.length*3) 3)->y7t E hp id 66 66 (.imm (.tok k') (P.map y18)) (.imm .exact [.agg [dI x.kind,dI x.idx,dI x.amt]])=some (.imm (.tok id) ((P++[x]).map y18),y2b (hp.set k' .dead) id (.tok ((P.length+1)*3) 3))) /\
  (∀ hp id k',hp[k']? = some (.tok ((P.length+1)*3) 3)->y7t E hp id 66 66 (.imm (.tok k') ((P++[x]).map y18)) (.imm .none (S.map y18))=some (.imm (.tok id) (T.map y18),y2b (hp.set k' .dead) id (.tok ((P.length+1+S.length)*3) 3))):=by
  intro P S T hl hT
  refine⟨fun hp id=>?_,fun hp id k' h=>?_,fun hp id k' h=>?_⟩
  ·have:=z85 (hp:=hp) (id:=id) (sp:=.exact) (sp':=.none) (l:=[]) (m:=P) (by simp;omega) (.inl rfl)
   simpa[y34] using this
  ·have:=z85 (hp:=hp) (id:=id) (sp:=.tok k') (sp':=.exact) (l:=P) (m:=[x]) (by simp;omega) (.inr ⟨k',rfl,h⟩)
   simpa[y34] using this
  ·have:=z85 (hp:=hp) (id:=id) (sp:=.tok k') (sp':=.none) (l:=P++[x]) (m:=S) (by simp;omega) (.inr ⟨k',rfl,by rw[ar];exact h⟩)
   rw[hT]
   simpa[y34] using this
 by_cases hlt:n<l.length
 rotate_left
 ·have:n=l.length:=by omega
  subst this
  have hT:y2o x l=l++x::[]:=by rw[hA];simp[y2o]
  obtain⟨apA,apB,apC⟩:=ins l [] (y2o x l) (by simp;omega) hT
  have s1:=yc9 (l:=l) (af _)
  have s2:=yc8 (l:=l) (af _)
  rw[aY] at s1
  rw[List.drop_length] at s2
  generalize y2o x l=T at *
  generalize hQ:l++[x]=Q at *
  simp only[be,Nat.add_zero,List.map_nil] at apC s2
  simp[s1,s2,apA,apB,apC,z13]
 have hup:=zb hlt (by omega)
 obtain⟨e,he⟩:∃ e,e=l[n]:=⟨_,rfl⟩
 have he2:l[n]? = some e:=by rw[he];exact List.getElem?_eq_getElem hlt
 have hem:e ∈ l:=ba he2
 have e389:=e389 e
 have eqa:=zto (a:=(e.kind,e.idx)) (b:=(x.kind,x.idx))
 simp only[Prod.mk.injEq] at eqa
 have hkey:(y3i e=y3i x) ↔ (e.kind=x.kind/\e.idx=x.idx):=by simp[y3i]
 rw[zm hlt,<- he] at hA
 by_cases h1:ltA e x
 ·rw[zwo h1] at hA
  rw[decide_eq_true h1] at e389
  simp[hlt,<- he,e389,hup]
  rw[hA,aM hlt,<- he,List.append_assoc]
  rfl
 rw[decide_eq_false h1] at e389
 by_cases h2:e.kind=x.kind/\e.idx=x.idx
 ·rw[zwq h1 (hkey.2 h2)] at hA
  rw[decide_eq_true h2] at eqa
  have hset:y2o x l=l.set n ⟨e.kind,e.idx,e.amt+x.amt⟩:=by
   rw[hA,List.set_eq_take_append_cons_drop,if_pos hlt]
  have hne:l ≠ []:=fun h=>by rw[h] at hlt;simp at hlt
  have ap:=fun(hp:List Obj) (id:Nat)=>zpl (hp:=hp) (id:=id) (sp:=.none) hl hne
  have hw:aC.wrap (e.amt+x.amt)=e.amt+x.amt:=za (hb e hem)
  have hall:∀ y,y ∈ l.map y18->y.cellsL.length=3:=fun y hy=>by obtain⟨z,_,rfl⟩:=aV.1 hy;rfl
  have hxd:(l.map y18)[n]? = some (.agg [dI e.kind,dI e.idx,dI e.amt]):=by rw[List.getElem?_map,he2];rfl
  have t1:=zuq (l.map y18) n 2 1 _ hall hxd (by omega)
  have st1:=zxg (l.map y18) n 2 [dI e.kind,dI e.idx,dI e.amt] (dI (e.amt+x.amt)) hall hxd (by omega)
  have hm:(l.map y18).set n (.agg [dI e.kind,dI e.idx,dI (e.amt+x.amt)])=(y2o x l).map y18:=by rw[hset,List.map_set]
  have st1:setCells (yi (l.map y18)) (n*3+2) [dI (e.amt+x.amt)]=yi ((y2o x l).map y18):=by rw[<- hm];exact st1
  have hlen:=z7d l
  have hal:(y2o x l).length=l.length:=by rw[hset,List.length_set]
  have ld:∀ r:List Obj,r[26]? = some (.cells (yi (l.map y18)))->yx E (h++r) 2 (.loc (h.length+26) (n*3+2))=some (dI e.amt):=fun r hr=>by
   unfold yx
   simp only[z5u,hr,show(E.ty 2).size=1 from rfl,t1]
   rfl
  have st:∀ r:List Obj,r[26]? = some (.cells (yi (l.map y18)))->y3g E (h++r) 2 (.loc (h.length+26) (n*3+2)) (dI (e.amt+x.amt))=some (h++r.set 26 (.cells (yi ((y2o x l).map y18)))):=fun r hr=>by
   unfold y3g
   simp only[z5u,hr]
   rw[if_pos ⟨rfl,rfl,by rw[show(E.ty 2).size=1 from rfl];omega⟩,z8v,show(D.int .i64 (e.amt+x.amt)).cellsL=[dI (e.amt+x.amt)] from rfl,st1]
  have fz:∀ r:List Obj,r[26]? = some (.cells (yi ((y2o x l).map y18)))->frz (h++r) 12 (.sl (h.length+26) 0 l.length 3 true true)=some (.imm .none ((y2o x l).map y18)):=fun r hr=>by
   rw[<- hal]
   exact zrg (n:=6) (by unfold At;rw[z5u];exact hr)
  generalize y2o x l=T at *
  simp[hlt,<- he,e389,eqa,-zaw,ap,yg,hw,-z10,-zbd,-zo5,ld,st,fz]
 ·rw[zwp h1 (fun h=>h2 (hkey.1 h))] at hA
  rw[decide_eq_false h2] at eqa
  have hT:y2o x l=l.take n++x::l.drop n:=by rw[hA,zm hlt,<- he]
  obtain⟨apA,apB,apC⟩:=ins (l.take n) (l.drop n) (y2o x l) (by rw[aS,List.length_drop];omega) hT
  have s1:=yc9 (l:=l) (k:=n) (by omega)
  have s2:=yc8 (l:=l) (k:=n) (by omega)
  generalize y2o x l=T at *
  generalize l.take n=P at *
  generalize l.drop n=S at *
  generalize hQ:P++[x]=Q at *
  simp[hlt,<- he,e389,eqa,-zaw,s1,s2,apA,apB,apC,z13]

theorem r372(p:y4j)(hnv:p.vars.length<=6)(b:Bkg):y17 E (dL E) 372 [y19 p,y80 b]=some (.bool (y4x p b)):=by
 have e371:=r371
 refine zg c372 (by simp) ?_
 have hwn:aC.wrap ((p.vars.length:Int) - 1)=(p.vars.length:Int) - 1:=za ⟨by omega,by omega⟩
 obtain⟨pr,vr,am⟩:=b
 by_cases a1:wib vr 0 ((p.vars.length:Int) - 1)=true
 rotate_left
 ·have a1:wib vr 0 ((p.vars.length:Int) - 1)=false:=by simpa using a1
  have hX2:y4x p ⟨pr,vr,am⟩=false:=by unfold y4x;rw[a1];rfl
  simp[t372,n372,e371,hwn,a1,hX2]
 have a1':=z7j.1 a1
 obtain⟨v,rfl⟩:∃ v:Nat,vr=v:=⟨vr.toNat,by omega⟩
 have hv:v<p.vars.length:=by omega
 have hnv2:nvA p (v:Int)=p.vars[v].a:=by unfold nvA;simp[hv]
 obtain⟨w,hw⟩:∃ w,w=p.vars[v]:=⟨_,rfl⟩
 rw[<- hw] at hnv2
 have hok:y4x p ⟨pr,v,am⟩=(wib w.a 0 4095 && (wib pr (-1) 7 && wib am (-1048576) 1048576)):=by unfold y4x;simp only[a1,hnv2];rfl
 rw[hok]
 cases a2:wib w.a 0 4095 with
 |false=>simp[t372,n372,e371,hwn,a1,hv,<- hw,a2]
 |true=>
  cases a3:wib pr (-1) 7 with
  |false=>simp[t372,n372,e371,hwn,a1,hv,<- hw,a2,a3]
  |true=>simp[t372,n372,e371,hwn,a1,hv,<- hw,a2,a3]

def ybi(B:Int)(l:List Ent):Prop:=∀ y,y ∈ l -> -B<=y.amt/\y.amt<=B
theorem ziy{B D:Int}{x:Ent}(hB:0<=B)(hx : -D<=x.amt/\x.amt<=D):∀{l:List Ent},ybi B l->ybi (B+D) (y2o x l)
 |[],_=>by
  intro y hy
  simp only[y2o,List.mem_singleton] at hy
  subst hy;omega
 |e::r,h=>by
  have h1:=h e (by simp)
  have h2:ybi B r:=fun y hy=>h y (by simp[hy])
  have ih:=ziy hB hx h2
  intro y hy
  simp only[y2o] at hy
  split at hy
  ·rcases aw.1 hy with rfl | hy
   ·omega
   ·exact ih y hy
  ·split at hy
   ·rcases aw.1 hy with rfl | hy
    ·simp only;omega
    ·have:=h2 y hy;omega
   ·rcases aw.1 hy with rfl | hy
    ·omega
    ·have:=h y hy;omega
theorem zix{x:Ent}:∀{l:List Ent},(y2o x l).length<=l.length+1
 |[]=>by simp[y2o]
 |e::r=>by
  have ih:=zix (x:=x) (l:=r)
  simp only[y2o]
  split
  ·simp only[az];omega
  ·split <;> simp
theorem zt6(a b x:List Ent):y9q (a++b) x=y9q b (y9q a x):=List.foldl_append
theorem zse{p:y4j}{c:List Int}{k:Int}{bs:List Bkg}{i:Nat}(h:i<bs.length):y6a p c k (bs.take (i+1))=y6a p c k (bs.take i)++bk4 p c k bs[i]:=by
 unfold y6a
 rw[aM h,List.flatMap_append];simp

theorem r341(p:y4j)(S:y8y p)(c:List Int)(hc:c.length<=1000000)(k:Int)(bs:List Bkg)(hbs:bs.length<=1000000):y17 E (dL E) 341 [y19 p,y2k c,dI k,.imm .none (bs.map y80)]=some (enD p c k bs):=by
 have e19:=r19 p S
 have e371:=r371
 have e372:=fun b=>r372 p S.vars b
 refine zg c341 (by simp) ?_
 have hnv:=S.vars
 by_cases h0:ck p=0
 rotate_left
 ·have hE:enE p c k bs=ck p:=by unfold enE;rw[if_pos h0]
  unfold enD
  rw[hE,if_neg h0]
  simp[t341,n341,e19,h0]
 rw[h0] at e19
 have hE:enE p c k bs=if y3m p c k bs=true then 0 else 430:=by unfold enE;rw[if_neg (by simp[h0])]
 have hbad:y3m p c k bs=false->enD p c k bs=.tup [.imm .none [],dI 430]:=fun h=>by
  unfold enD;rw[hE,h];rfl
 have hgood:y3m p c k bs=true->enD p c k bs=.tup [.imm .none ((y3l (y9q (y6a p c k bs) [])).map y18),dI 0]:=fun h=>by
  unfold enD;rw[hE,h,if_pos rfl,if_pos rfl,zv7 (by simp[y3c]),bh]
 obtain⟨B1,hB1⟩:∃ B1,B1=(decide (c.length=p.vars.length) && (wib k 0 3 && decide (bs.length<=1024))):=⟨_,rfl⟩
 have hok:y3m p c k bs=(B1 && (c.all (fun n=>wib n 0 7) && bs.all (y4x p))):=by
  unfold y3m;rw[hB1]
  cases decide (c.length=p.vars.length) <;> cases c.all (fun n=>wib n 0 7) <;> cases wib k 0 3 <;> cases decide (bs.length<=1024) <;> simp
 obtain⟨X,hX⟩:∃ X,X=enD p c k bs:=⟨_,rfl⟩
 rw[<- hX] at hbad hgood ⊢
 have hq:(ob (if(c.length:Int)=p.vars.length then some (D.bool (wib k 0 3)) else some (D.bool false)) fun t=>ybw t (some (D.bool (decide ((bs.length:Int)<=1024)))) (some (D.bool false)))=some (.bool B1):=by
  rw[hB1]
  by_cases h1:c.length=p.vars.length
  ·have h1':(c.length:Int)=p.vars.length:=by omega
   rw[if_pos h1',decide_eq_true h1]
   have h2:decide ((bs.length:Int)<=1024)=decide (bs.length<=1024):=by
    by_cases h:bs.length<=1024
    ·rw[decide_eq_true h,decide_eq_true (by omega)]
    ·rw[decide_eq_false h,decide_eq_false (by omega)]
   rw[h2]
   cases wib k 0 3 <;> rfl
  ·have h1' : ¬ (c.length:Int)=p.vars.length:=by omega
   rw[if_neg h1',decide_eq_false h1]
   rfl
 simp[t341,n341,e19,e371,z13]
 rw[hq]
 simp
 have hz:(B1 && (c.take 0).all fun n=>wib n 0 7)=B1:=by simp
 refine zr c.length (fun i env h=>∃(x7 x10 x11 x12 x13 x14 x15 x16 x17 x18 x19:D) ,env=[y19 p,y2k c,dI k,.imm .none (bs.map y80),.iptr (y19 p).cellsL,.imm .exact [],dI 0,x7,.bool (B1 && (c.take i).all fun n=>wib n 0 7),dI i,x10,x11,x12,x13,x14,x15,x16,x17,x18,x19]) 0 (by omega) ⟨_,_,_,_,_,_,_,_,_,_,_,by rw[hz];rfl⟩ ?_
 rintro i env h hi ⟨x7,x10,x11,x12,x13,x14,x15,x16,x17,x18,x19,rfl⟩
 by_cases hlt:i<c.length
 ·have hup:=zb hlt (by omega)
  obtain⟨n,hn⟩:∃ n,n=c[i]:=⟨_,rfl⟩
  have htk:(B1 && (c.take (i+1)).all fun n=>wib n 0 7)=((B1 && (c.take i).all fun n=>wib n 0 7) && wib n 0 7):=by
   rw[aM hlt,ji,<- hn,ge];simp
  rw[htk]
  generalize (B1 && (c.take i).all fun n=>wib n 0 7)=q
  cases q <;> simp[hlt,<- hn,e371,hup]
 have:i=c.length:=by omega
 subst this
 rw[aY]
 obtain⟨B2,hB2⟩:∃ B2,B2=(B1 && c.all fun n=>wib n 0 7):=⟨_,rfl⟩
 rw[<- ge,<- hB2] at hok
 rw[<- hB2]
 simp
 have hz2:(B2 && (bs.take 0).all (y4x p))=B2:=by simp
 refine zr bs.length (fun i env h=>∃(x7 x9 x11 x12 x13 x14 x15 x16 x17 x18 x19:D) ,env=[y19 p,y2k c,dI k,.imm .none (bs.map y80),.iptr (y19 p).cellsL,.imm .exact [],dI 0,x7,.bool (B2 && (bs.take i).all (y4x p)),x9,dI i,x11,x12,x13,x14,x15,x16,x17,x18,x19]) 0 (by omega) ⟨_,_,_,_,_,_,_,_,_,_,_,by rw[hz2];rfl⟩ ?_
 clear h x7 x10 x11 x12 x13 x14 x15 x16 x17 x18 x19
 rintro i env h hi ⟨x7,x9,x11,x12,x13,x14,x15,x16,x17,x18,x19,rfl⟩
 obtain⟨b2,hb2⟩:∃ b2,b2=(B2 && (bs.take i).all (y4x p)):=⟨_,rfl⟩
 rw[<- hb2]
 by_cases hgo:b2=true/\i<bs.length
 ·obtain⟨rfl,hlt⟩:=hgo
  have hup:=zb hlt (by omega)
  obtain⟨b,hb⟩:∃ b,b=bs[i]:=⟨_,rfl⟩
  have htk:(B2 && (bs.take (i+1)).all (y4x p))=y4x p b:=by
   rw[aM hlt,ji,<- hb,<- ge,<- hb2];simp
  rw[htk]
  have e372:=e372 b
  simp[hlt,<- hb,e372,hup]
 have hfin:b2=y3m p c k bs:=by
  rw[hok,hb2]
  by_cases hlt:i<bs.length
  ·have hf:(B2 && (bs.take i).all (y4x p))=false:=by
    rw[<- hb2]
    cases h2:b2 with
    |false=>rfl
    |true=>exact absurd ⟨h2,hlt⟩ hgo
   have e:(B2 && bs.all (y4x p))=((B2 && (bs.take i).all (y4x p)) && (bs.drop i).all (y4x p)):=by
    rw[ge,<- ji,bj]
   rw[e,hf];rfl
  ·rw[bq (by omega)]
 have hex:(b2 && decide (i<bs.length))=false:=by
  cases h2:b2 with
  |false=>rfl
  |true=>rw[Bool.true_and,decide_eq_false_iff_not];exact fun h=>hgo ⟨h2,h⟩
 by_cases hgd:y3m p c k bs=true
 rotate_left
 ·have hgd:y3m p c k bs=false:=by simpa using hgd
  rw[hgd] at hfin
  subst hfin
  have hX2:=hbad hgd
  simp[hX2]
 rw[hgd] at hfin
 have hge : ¬ i<bs.length:=fun h=>hgo ⟨hfin,h⟩
 have:i=bs.length:=by omega
 subst this
 subst hfin
 have hX2:=hgood hgd
 simp
 obtain⟨hcl,hb24,hball⟩:c.length=p.vars.length/\bs.length<=1024/\bs.all (y4x p)=true:=by
  have:=hgd
  unfold y3m at this
  simp only[ai,decide_eq_true_eq] at this
  exact⟨this.1,this.2.2.2.1,this.2.2.2.2⟩
 refine zr bs.length (fun i env h=>∃(x7 x8 x9 x10 x13 x14 x15 x16 x17 x18 x19:D) (sp:y1a) (Y:List Ent),env=[y19 p,y2k c,dI k,.imm .none (bs.map y80),.iptr (y19 p).cellsL,.imm .exact [],dI 0,x7,x8,x9,x10,.imm sp (Y.map y18),dI i,x13,x14,x15,x16,x17,x18,x19]/\Y=y9q (y6a p c k (bs.take i)) []/\ybi (4194304*(i:Int)) Y/\Y.length<=i*4) 0 (by omega) ⟨_,_,_,_,_,_,_,_,_,_,_,.exact,[],rfl,rfl,fun y hy=>by simp at hy,by simp⟩ ?_
 clear h x7 x9 x11 x12 x13 x14 x15 x16 x17 x18 x19
 rintro i env h hi ⟨x7,x8,x9,x10,x13,x14,x15,x16,x17,x18,x19,sp,Y,rfl,hY,hbd,hYl⟩
 by_cases hlt:i<bs.length
 rotate_left
 ·have:i=bs.length:=by omega
  subst this
  rw[aY] at hY
  have e374:=r374 Y (by omega)
  rw[<- hY] at hX2
  simp[z13,e374,hX2]
 have hup:=zb hlt (by omega)
 obtain⟨b,hb⟩:∃ b,b=bs[i]:=⟨_,rfl⟩
 have hbok:=ax.1 hball b (by rw[hb];exact List.getElem_mem hlt)
 have htk:=zse (p:=p) (c:=c) (k:=k) hlt
 rw[<- hb] at htk
 obtain⟨pr,vr,am⟩:=b
 unfold y4x at hbok
 simp only[ai] at hbok
 obtain⟨a1,a2,a3,a4⟩:=hbok
 have a1':=z7j.1 a1
 obtain⟨v,rfl⟩:∃ v:Nat,vr=v:=⟨vr.toNat,by omega⟩
 have hv:v<p.vars.length:=by omega
 have hvc:v<c.length:=by omega
 have hnd:nd c (v:Int)=c[v]:=by unfold nd;simp[hvc]
 have hnv2:nvA p (v:Int)=p.vars[v].a:=by unfold nvA;simp[hv]
 obtain⟨n1,hn1⟩:∃ n1,n1=c[v]:=⟨_,rfl⟩
 obtain⟨w,hw⟩:∃ w,w=p.vars[v]:=⟨_,rfl⟩
 rw[<- hw] at hnv2
 rw[<- hn1] at hnd
 have a4':=z7j.1 a4
 have hng:aC.wrap (-am) = -am:=za ⟨by omega,by omega⟩
 have hbk:bk4 p c k ⟨pr,v,am⟩=[⟨1,n1,am⟩,⟨2,w.a,am⟩,⟨3,pr,-am⟩,⟨4,k,-am⟩]:=by unfold bk4;rw[hnd,hnv2]
 have step:∀(Z:List Ent) (B:Int) (x:Ent),0<=B->B<=5000000000->ybi B Z->Z.length<=10000 -> -1048576<=x.amt/\x.amt<=1048576->y17 E (dL E) 373 [.imm .none (Z.map y18),y2v x.kind x.idx,dI x.amt]=some (.imm .none ((y2o x Z).map y18))/\ybi (B+1048576) (y2o x Z)/\(y2o x Z).length<=Z.length+1:=fun Z B x h0 h1 h2 h3 h4=>
  ⟨r373 Z (by omega) x (fun y hy=>by have:=h2 y hy;unfold i64;omega),ziy h0 h4 h2,zix⟩
 obtain⟨c1,d1,l1⟩:=step Y (4194304*(i:Int)) ⟨1,n1,am⟩ (by omega) (by omega) hbd (by omega) a4'
 obtain⟨c2,d2,l2⟩:=step _ _ ⟨2,w.a,am⟩ (by omega) (by omega) d1 (by omega) a4'
 obtain⟨c3,d3,l3⟩:=step _ _ ⟨3,pr,-am⟩ (by omega) (by omega) d2 (by omega) ⟨by simp only;omega,by simp only;omega⟩
 obtain⟨c4,d4,l4⟩:=step _ _ ⟨4,k,-am⟩ (by omega) (by omega) d3 (by omega) ⟨by simp only;omega,by simp only;omega⟩
 have hY':y9q (y6a p c k (bs.take (i+1))) []=y2o ⟨4,k,-am⟩ (y2o ⟨3,pr,-am⟩ (y2o ⟨2,w.a,am⟩ (y2o ⟨1,n1,am⟩ Y))):=by
  rw[htk,zt6,<- hY,hbk];rfl
 simp only at c1 c2 c3 c4
 generalize y2o ⟨4,k,-am⟩ (y2o ⟨3,pr,-am⟩ (y2o ⟨2,w.a,am⟩ (y2o ⟨1,n1,am⟩ Y)))=Y4 at *
 generalize y2o ⟨3,pr,-am⟩ (y2o ⟨2,w.a,am⟩ (y2o ⟨1,n1,am⟩ Y))=Y3 at *
 generalize y2o ⟨2,w.a,am⟩ (y2o ⟨1,n1,am⟩ Y)=Y2 at *
 generalize y2o ⟨1,n1,am⟩ Y=Y1 at *
 have d5:ybi (4194304*((i+1:Nat):Int)) Y4:=fun y hy=>by have:=d4 y hy;omega
 simp[hlt,<- hb,hv,hvc,<- hw,<- hn1,hng,z13,c1,c2,c3,c4,hup]
 exact⟨_,_,_,_,_,_,_,_,_,_,_,_,Y4,⟨rfl,rfl,rfl,rfl,⟨rfl,rfl⟩,rfl,rfl,rfl,rfl,rfl,rfl,rfl⟩,hY'.symm,d5,by omega⟩

theorem zxc{x:D}(h:y4h E 37 x):∃ b,x=y80 b/\i64 b.amt:=by
 obtain⟨ds,rfl,h1⟩:=z3x h rfl
 obtain⟨hl,hf⟩:=z3y h1 (fs:=[(0,2),(1,2),(2,2)]) rfl
 obtain⟨x,y,z,rfl⟩:=yaw hl
 obtain⟨a,h2,_⟩:=z3z (hf 0 _ rfl) rfl
 obtain⟨b,h3,_⟩:=z3z (hf 1 _ rfl) rfl
 obtain⟨c,h4,o⟩:=z3z (hf 2 _ rfl) rfl
 simp[E,y73] at h2 h3 h4
 subst h2 h3 h4
 exact⟨⟨a,b,c⟩,rfl,o⟩
theorem zuo{x:D}(h:y4h E 36 x):∃ l:List Bkg,x=.imm .none (l.map y80)/\l.length<=9223372036854775807:=by
 obtain⟨els,h5,hlen,h6⟩:=z4b (z52 h rfl) (e:=37) rfl
 simp only[List.cons.injEq,and_true] at h5
 subst h5
 obtain⟨l,rfl,o⟩:=z5a (f:=y80) (R:=fun b=>i64 b.amt) (els:=els) fun x hx=>zxc (h6 x hx)
 exact⟨l,rfl,by rw[aH] at hlen;exact hlen⟩

theorem zoa{hp:List Obj}{n:Nat}{l:List Bkg}:y1y (frz hp (n+2)) (l.map y80)=some (l.map y80):=z17 fun _ _=>rfl
theorem yck(p:y4j)(c:List Int)(k:Int)(bs:List Bkg):y17 E (dL E) 338 [y19 p,y2k c,dI k,.imm .none (bs.map y80)]=some (.bool true):=by
 have s0:=r339
 have e2:=r2 p
 refine zg c338 (by simp) ?_
 by_cases hf:yby p=true
 rotate_left
 ·have hf:yby p=false:=by simpa using hf
  rw[hf] at e2
  simp[t338,n338,s0,e2]
 rw[hf] at e2
 have S:=zok hf
 by_cases h20:c.length<=20
 rotate_left
 ·have h21:(20:Int)<c.length:=by omega
  simp[t338,n338,s0,e2,h21]
 have h21 : ¬ (20:Int)<c.length:=by omega
 by_cases h40:bs.length<=40
 rotate_left
 ·have h41:(40:Int)<bs.length:=by omega
  simp[t338,n338,s0,e2,h21,h41]
 have h41 : ¬ (40:Int)<bs.length:=by omega
 have e340:=r340 p S c (by omega) k bs (by omega)
 have e341:=r341 p S c (by omega) k bs (by omega)
 have hn:(y6j (y6a p c k bs)).length<=1000000:=by
  have h1:=zn3 (l:=y6a p c k bs)
  have h2:=zh5 (p:=p) (c:=c) (k:=k) (bs:=bs)
  omega
 unfold enD at e340 e341
 have hL:(if enE p c k bs=0 then y6j (y6a p c k bs) else[]).length<=1000000:=by split;exact hn;simp
 generalize (if enE p c k bs=0 then y6j (y6a p c k bs) else[])=L at *
 generalize enE p c k bs=Er at *
 have e342:=ycb L L hL hL
 simp[t338,n338,s0,e2,h21,h41,e340,e341,e342,z13,zoa]

theorem accountsEntriesSpec:∀ xs,y8g E [0,6,2,36] xs->∃ n,y17 E (dC E n) 338 xs=some (.bool true):=by
 intro xs h
 match xs,h with
 |[x,y,z,w],⟨t1,t2,t3,t4,_⟩=>
  obtain⟨p,rfl,_⟩:=zuk t1
  obtain⟨c,rfl,_⟩:=zul t2 rfl
  obtain⟨k,rfl,_⟩:=zxb t3 rfl
  obtain⟨bs,rfl,_⟩:=zuo t4
  exact z7n (yck p c k bs)
 |[],h=>exact h.elim
 |[_],h=>exact h.2.elim
 |[_,_],h=>exact h.2.2.elim
 |[_,_,_],h=>exact h.2.2.2.elim
 |_::_::_::_::_::_,h=>exact h.2.2.2.2.elim

end Dv
