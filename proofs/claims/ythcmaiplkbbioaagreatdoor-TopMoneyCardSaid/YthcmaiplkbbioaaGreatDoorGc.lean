/- Texts that a proof of this claim uses, joined: Lw.W97, Lw.W98, Lw.W113, Lw.W29, Lw.W99, Lw.W100, Lw.W114, Lw.W115, Lw.W116, Lw.W62, Lw.W63, Lw.S29, Lw.W67, Lw.W68, Lw.W117, Lw.W118, Lw.W119, Lw.W123, Lw.W124, Lw.W200, Lw.W201, Lw.W202, Lw.W215, Lw.W216, Lw.W240, Lw.W203, Lw.W204, Lw.W205, Lw.W206, Lw.W207, Lw.W208, Lw.W209, Lw.W210. -/
import Derived.Test.YthcmaiplkbbioaaGreatDoorGb
import Derived.Test.YthcmaiplkbbioaaGreatDoorGa
import Derived.Test.YthcmaiplkbbioaaGreatDoorTc
import Derived.Test.YthcmaiplkbbioaaGreatDoorDvd
import Derived.KernelRfl
import Derived.Test.YthcmaiplkbbioaaGreatDoorWa
import Derived.Test.YthcmaiplkbbioaaGreatDoorDva
set_option linter.all false
open BitVec renaming ofInt->cy,ofNat->jC,toNat_ofNat->lG,toNat_or->jO,toNat_shiftLeft->hU,toNat_ushiftRight->gM
open Bool renaming and_eq_true->ak,and_true->ek
open Decidable renaming not_not->fX
open Go.IntKind renaming bits->gE,i64->aJ,signed->fY,u32->eF,u64->bL,u8->kR,wrap->gD
open Int renaming fdiv_eq_ediv_of_nonneg->ep,natCast_ediv->mF,natCast_pow->jN,negSucc_eq->ai,pow_nonneg->ku
open List renaming all_cons->cG,all_eq_true->ay,all_nil->ec,append_assoc->bi,append_nil->bG,cons_append->aG,dropLast_concat_getLast->dQ,eq_nil_of_length_eq_zero->aK,flatMap_cons->bm,foldl_append->fW,getD_eq_getElem?_getD->af,getElem?_append_left->aD,getElem?_eq_getElem->ac,getElem?_set_self->aR,getElem_cons_succ->ee,getElem_map->fH,getElem_mem->av,getElem_of_mem->dD,getLast?_cons_cons->jF,length->cQ,length_append->ao,length_cons->ar,length_map->aF,length_nil->aY,length_range->fV,length_reverse->kY,length_set->bq,length_take->bc,map->bP,map_append->bp,map_congr_left->dU,map_cons->al,map_map->gL,map_nil->aO,mem_append->aB,mem_cons->aA,mem_map->aL,mem_singleton->bz,nil_append->bn,nodup_cons->de,not_mem_nil->fJ,pairwise_cons->cJ,pairwise_iff_getElem->fw,range->bD,range_succ->fk,replicate->ah,sizeOf_lt_of_mem->kr,sum_cons->cH,take_append_of_le_length->bN,take_length->bh,take_of_length_le->bd,take_succ_cons->fM,take_succ_eq_append_getElem->aN
open List.Pairwise renaming imp->lZ
open Nat renaming add_mul->br,div_lt_iff_lt_mul->kq,le_refl->aj,le_trans->aM,min_eq_left->bU,mul_one->cN,pow_add->p5
open Ne renaming symm->dF
open Option renaming getD_some->aX,map_some->aq
open Option.some renaming inj->cr,injEq->aa
open Prod renaming ext->jA
open UInt8 renaming ofNat->cv,toNat_ofNat'->lF
set_option maxRecDepth 100000
set_option maxHeartbeats 16000000
namespace Dv
attribute [local simp] ah depth y1z y51 ya y15 y4p ye y2p y2e Ret
attribute [local congr] z1f z1g z16 z12 zx z17 zw
def yd2{E:Env}{a:TC}{Q:Ex->List D->List Obj->Prop}{env:List D}{hp:List Obj}(I:Nat->List D->List Obj->Prop)(k:Nat)(h0:I k env hp)
  (step:∀ k env hp,I k env hp->wT E a (fun ex env' hp'=>match ex with
   |.normal=>∃ k',k'<k/\I k' env' hp'
   |ex=>Q ex env' hp') env hp):wT E (.loop a) Q env hp:=⟨I,k,h0,step⟩
def SmS.exam{p:yj}{s:y4f}(M:SmS p s)(hs:OkS p s):SmS p (exam p s):=by
 by_cases hn:s.opn=[]
 ·rw[za1 hn];exact M
 have h1:=zbq hn hs.opn;have h2:=M.most;have h3:(Dv.exam p s).leaves.length<=s.leaves.length+1:=by
  obtain⟨l,b,hl⟩:∃ l b,s.opn=l++[b]:=⟨s.opn.dropLast,s.opn.getLast hn,(dQ hn).symm⟩;rw[z5y hl];unfold y8l;split
  ·split <;> simp
  ·split <;> simp
 exact⟨by omega⟩
def SmS.iter{p:yj}(ok:OkP p):∀{n:Nat} {s:y4f},SmS p s->OkS p s->SmS p (iter p n s)
 | 0,_,h,_=>h
 |n+1,s,h,hs=>SmS.iter (n:=n) (s:=Dv.exam p s) ok (h.exam hs) (hs.exam ok)
def s150(p:yj)(s:y4f)(S:y19 p)(ok:OkP p)(M:SmS p s)(hs:OkS p s)(k:Nat)(caps:List D)(more:Nat->Bool)(hp0:List Obj)(K:Nat->List Obj->Prop)
  (hm:∀ n hp,K n hp->∃ hp',y1j E (dL E) k caps hp=some (.bool (more n),hp')/\K (n+1) hp' /\ ∀ j o,hp0.length<=j->At hp j o->At hp' j o)
  (hK1:∀ n hp r,K n hp->K n (hp++r)) (hK2:∀ n hp j o,K n hp->hp0.length<=j->K n (hp.set j o)) (h0:K 0 hp0) :
  ∃ d hp',y1j E (dL E) 150 [ye p,y5y s,.fn k caps] hp0=some (d,hp') /\ ∃ n ns sp1 sp2,(∀ j,j<n->more j=true)/\((iter p n s).opn=[]\/more n=false)/\(iter p n s).leaves=s.leaves++ns/\(∀ x,x ∈ ns->x.mult=[]) /\
   d=.agg [.imm sp1 ((iter p n s).opn.map ya),ya (iter p n s).best,ya (iter p n s).value,.imm sp2 (dLs s.leaves ns)] /\ ∃ m,K m hp':=by
 obtain⟨R,hR⟩:∃ R:D->List Obj->Prop,R=fun d hp'=>∃ n ns sp1 sp2,(∀ j,j<n->more j=true)/\((iter p n s).opn=[]\/more n=false)/\(iter p n s).leaves=s.leaves++ns/\(∀ x,x ∈ ns->x.mult=[]) /\
   d=.agg [.imm sp1 ((iter p n s).opn.map ya),ya (iter p n s).best,ya (iter p n s).value,.imm sp2 (dLs s.leaves ns)] /\ ∃ m,K m hp':=⟨_,rfl⟩
 have key:∃ d hp',y1j E (dL E) 150 [ye p,y5y s,.fn k caps] hp0=some (d,hp')/\R d hp':=by
  refine z1j c150 (args:=[ye p,y5y s,.fn k caps]) (hp:=hp0) (R:=R) (by simp) ?_
  conv in t150=>reduce;dsimp[ai]
  have m1:=M.opn;have h165:=r165 s.opn m1;have h166:=r166 s.leaves;simp[t150,n150,h165,h166,zu];obtain⟨B,hB⟩:∃ B,B=hp0.length:=⟨_,rfl⟩;rw[<- hB]at hm hK2 ⊢;refine yd2 (fun m env hp=>∃(x8 x9 x10 x11 x12 x13 x14 x15 x16 x17 x18 x19 x20 x21 x22 x23 x24 x25 x26 x27 x28 x29 x30 x31:D) (i:Nat) (ns:List y62) (sp1 sp2:yt),env=[ye p,y5y s,.fn k caps,.loc B 0,.loc (B+1) 0,.loc (B+1+1) 0,.loc (B+3) 0,.fn 167 [.loc (B+1) 0],x8,x9,x10,x11,x12,x13,x14,x15,x16,x17,x18,x19,x20,x21,x22,x23,x24,x25,x26,x27,x28,x29,x30,x31] /\
   m=wO p (iter p i s).opn/\(∀ j,j<i->more j=true)/\(iter p i s).leaves=s.leaves++ns/\(∀ x,x ∈ ns->x.mult=[])/\At hp B (.cells (ye p).cellsL) /\
   At hp (B+1) (.cells [.imm .none (s.opn.map ya),ya (iter p i s).best,ya (iter p i s).value,.imm sp2 (dLs s.leaves ns)])/\At hp (B+1+1) (.cells [.imm .exact [],.imm .exact [],.imm .exact [],.imm .exact []]) /\
   At hp (B+3) (.cells [.imm sp1 ((iter p i s).opn.map ya)])/\y47 (B+4) hp sp2 (s.leaves.length+ns.length) 3/\K i hp) (wO p s.opn)
   ⟨_,_,_,_,_,_,_,_,_,_,_,_,_,_,_,_,_,_,_,_,_,_,_,_,0,[],.none,.exact,rfl,rfl,fun j h=>absurd h (by omega),by simp[iter],fun x h=>(by cases h),by rw[hB];simp[At],by rw[hB];simp[At,iter,dLs],by rw[hB,Nat.add_assoc];simp[At],by rw[hB];simp[At,iter],.inl rfl,hK1 _ _ _ h0⟩ ?_
  rintro m env hp ⟨x8,x9,x10,x11,x12,x13,x14,x15,x16,x17,x18,x19,x20,x21,x22,x23,x24,x25,x26,x27,x28,x29,x30,x31,i,ns,sp1,sp2,rfl,hmm,hmore,hlv,hmu,g0,g1,g2,g3,hr,hK⟩;have okt:OkS p (iter p i s):=OkS.iter ok hs;have Mt:SmS p (iter p i s):=SmS.iter ok M hs;have it1:iter p (i+1) s=exam p (iter p i s):=zs2;have hRt:∀(hp':List Obj) (sp1:yt),K i hp'\/K (i+1) hp'->((iter p i s).opn=[]\/more i=false)->R (.agg [.imm sp1 ((iter p i s).opn.map ya),ya (iter p i s).best,ya (iter p i s).value,.imm sp2 (dLs s.leaves ns)]) hp':=fun hp' sp1 h h'=>by rw[hR];exact⟨i,ns,sp1,sp2,hmore,h',hlv,hmu,rfl,h.elim (fun h=>⟨_,h⟩) fun h=>⟨_,h⟩⟩
  obtain⟨t,ht⟩:∃ t,t=iter p i s:=⟨_,rfl⟩;rw[<- ht]at hmm hlv g1 g3 okt Mt it1 hRt;have hl1:=g1.lt;have hl2:=g2.lt;have G:∀(hq:List Obj),At hq (B+1) (.cells [.imm .none (s.opn.map ya),ya t.best,ya t.value,.imm sp2 (dLs s.leaves ns)])->At hq (B+1+1) (.cells [.imm .exact [],.imm .exact [],.imm .exact [],.imm .exact []]) ->
   (∀ x,(hq.set (B+1) x)[B+1]? = some x)/\(∀ x,(hq.set (B+1) x)[B+1+1]? = some (.cells [.imm .exact [],.imm .exact [],.imm .exact [],.imm .exact []])) /\ ∀ x y,((hq.set (B+1) x).set (B+1+1) y)[B+1+1]? = some y:=fun hq a1 a2=>
   ⟨fun x=>aR a1.lt,fun x=>(a2.ne (by omega)).eq,fun x y=>aR (by rw[bq];exact a2.lt)⟩
  by_cases hno:t.opn=[]
  ·obtain⟨q1,q2,q3⟩:=G hp g1 g2;rw[hno]at g3;have hRt2:=fun hp' h=>hRt hp' sp1 h (.inl hno)
   rw[hno]at hRt2;simp[g0.eq,g1.eq,g2.eq,g3.eq,z13,z3x,↓q1,↓q2,↓q3];exact hRt2 _ (.inl (hK2 _ _ _ _ (hK2 _ _ _ _ hK (by omega)) (by omega)))
  obtain⟨l,b,hl⟩:∃ l b,t.opn=l++[b]:=⟨t.opn.dropLast,t.opn.getLast hno,(dQ hno).symm⟩;have okb:=okt.opn b (by rw[hl];simp)
  have hll:l.length<=1000000000:=by have:=Mt.opn;rw[hl]at this;simp at this;omega
  have h168:=r168 l b hll;obtain⟨hp2,e1,e2,e3⟩:=hm i hp hK;have h0l:(0:Int)<l.length+1:=by omega
  have a0:=e3 _ _ (by omega) g0
  have a1:=e3 _ _ (by omega) g1
  have a2:=e3 _ _ (by omega) g2
  have a3:=e3 _ _ (by omega) g3
  cases hmi:more i with
  |false=>
   obtain⟨q1,q2,q3⟩:=G hp2 a1 a2;rw[hmi]at e1;rw[hl]at g3 a3;have hRt2:=fun hp' h=>hRt hp' sp1 h (.inr hmi)
   rw[hl]at hRt2;simp only[bp,al,aO,ya]at hRt2;simp[g0.eq,g1.eq,g2.eq,g3.eq,a0.eq,a1.eq,a2.eq,a3.eq,e1,h0l,z13,z3x,↓q1,↓q2,↓q3];exact hRt2 _ (.inr (hK2 _ _ _ _ (hK2 _ _ _ _ e2 (by omega)) (by omega)))
  |true=>
  rw[hmi]at e1;rw[<- hl]at h168;have h0n : ¬ t.opn.length=0:=fun h=>hno (aK h)
  have h0l:0<t.opn.length:=by omega
  obtain⟨hp3,h3⟩:∃ hp3,hp3=hp2.set (B+3) (.cells [.imm .exact (l.map ya)]):=⟨_,rfl⟩;have b0:=a0.ne (j:=B+3) (x:=.cells [.imm .exact (l.map ya)]) (by omega)
  have b1:=a1.ne (j:=B+3) (x:=.cells [.imm .exact (l.map ya)]) (by omega)
  have b2:=a2.ne (j:=B+3) (x:=.cells [.imm .exact (l.map ya)]) (by omega)
  rw[<- h3]at b0 b1 b2;have b3:At hp3 (B+3) (.cells [.imm .exact (l.map ya)]):=by rw[h3];exact At.self a3.lt
  have bK:K (i+1) hp3:=by rw[h3];exact hK2 _ _ _ _ e2 (by omega)
  have bR:y47 (B+4) hp3 sp2 (s.leaves.length+ns.length) 3:=by
   rcases hr with h | ⟨k,h1,h2,h4⟩
   ·exact .inl h
   ·refine .inr ⟨k,h1,h2,?_⟩;rw[h3];exact(e3 _ _ (by omega) h4).ne (by omega)
  clear e3 a0 a1 a2 hK hr;have hu:=z5y (p:=p) hl;have hmore2:∀ j,j<i+1->more j=true:=fun j hj=>by
   by_cases e:j=i
   ·rw[e];exact hmi
   ·exact hmore j (by omega)
  have hles:=zbq hno okt.opn;rw[<- it1]at hu hles;have hnl:s.leaves.length+ns.length<=1000000000:=by have:=Mt.lvs;rw[hlv,ao]at this;exact this
  have hb20:b.length<=20:=by have:=okb.len;have:=S.vars;omega
  obtain⟨V,hV⟩:∃ V,V=yl p b:=⟨_,rfl⟩;have h87:=r87 V t.value (by rw[hV];simp[yl]) (by
   rcases okt.val with⟨e,_⟩ | ⟨_,e⟩
   ·rw[e];simp
   ·rw[e];simp[yl])
  by_cases he:b.length=p.vars.length
  ·have he':(b.length:Int)=p.vars.length:=by omega
   have h22:=r22 p b S hb20;have wb:Whole p b:=⟨ok,okb,he⟩;simp only[ybz,if_pos wb,<- hV]at h22;simp only[y8l,if_pos he,bet,<- hV]at hu;simp only[ye,ya]at h22 h87 h168
   by_cases hbt:(decide (t.value.length=0) || decide (y2h V t.value<0))=true
   ·rw[if_pos hbt]at hu;obtain⟨hp4,h4⟩:∃ hp4,hp4=hp3.set (B+1) (.cells [.imm .none (s.opn.map ya),ya b,ya V,.imm sp2 (dLs s.leaves ns)]):=⟨_,rfl⟩;obtain⟨q1,_,_⟩:=G hp3 b1 b2;have d0:=b0.ne (j:=B+1) (x:=.cells [.imm .none (s.opn.map ya),ya b,ya V,.imm sp2 (dLs s.leaves ns)]) (by omega)
    have d1:At hp4 (B+1) (.cells [.imm .none (s.opn.map ya),ya b,ya V,.imm sp2 (dLs s.leaves ns)]):=by rw[h4];exact At.self b1.lt
    have d2:=b2.ne (j:=B+1) (x:=.cells [.imm .none (s.opn.map ya),ya b,ya V,.imm sp2 (dLs s.leaves ns)]) (by omega)
    have d3:=b3.ne (j:=B+1) (x:=.cells [.imm .none (s.opn.map ya),ya b,ya V,.imm sp2 (dLs s.leaves ns)]) (by omega)
    rw[<- h4]at d0 d2 d3;have dK:K (i+1) hp4:=by rw[h4];exact hK2 _ _ _ _ bK (by omega)
    have dR:y47 (B+4) hp4 sp2 (s.leaves.length+ns.length) 3:=by
     rcases bR with h | ⟨k,h1,h2,h5⟩
     ·exact .inl h
     ·exact .inr ⟨k,h1,h2,by rw[h4];exact h5.ne (by omega)⟩
    obtain⟨d,hp5,f1,f0,sp',f2,f3,f4,f5⟩:=ylq (i:=B+1) (C:=B+4) (hp:=hp4) b 1 s.leaves ns hnl d1 dR (by have:=d3.lt;omega) (by omega)
    simp only[ya]at f1 h4;have fin:∃ k',k'<m /\
   ∃ x,
    k'=wO p (iter p x s).opn /\
     (∀(j:Nat),j<x->more j=true) /\
      ∃ x_1,
       (iter p x s).leaves=s.leaves++x_1 /\
        (∀(x:y62),x ∈ x_1->x.mult=[]) /\
         At hp5 B (.cells (ye p).cellsL) /\
          ∃ x_2 x_3,
           At hp5 (B+1) (.cells [.imm .none (s.opn.map ya),ya (iter p x s).best,ya (iter p x s).value,.imm x_3 (dLs s.leaves x_1)]) /\
            At hp5 (B+1+1) (.cells [.imm .exact [],.imm .exact [],.imm .exact [],.imm .exact []]) /\
             At hp5 (B+3) (.cells [.imm x_2 ((iter p x s).opn.map ya)]) /\
              y47 (B+4) hp5 x_3 (s.leaves.length+x_1.length) 3/\K x hp5:=
     ⟨_,by omega,i+1,rfl,hmore2,ns++[⟨b,1,[]⟩],by rw[hu];simp[hlv],fun x hx=>(by
      rcases aB.1 hx with hx | hx
      ·exact hmu x hx
      ·rw[bz.1 hx]),f4.at (by omega) (by omega) d0,.exact,sp',by rw[hu];exact f2,f4.at (by omega) (by omega) d2,by rw[hu];exact f4.at (by omega) (by omega) d3,by rw[ao];exact f3,f4 (K (i+1)) (hK1 _) (fun hp j o h hj=>hK2 _ _ _ _ h (by omega)) dK⟩
    by_cases c1:t.value=[]
    ·simp[g0.eq,g1.eq,g2.eq,g3.eq,a3.eq,e1,h0l,z13,z3x,h168,<- h3,b0.eq,b1.eq,he',h22,c1,↓q1,<- h4,f1,z10 f0];exact fin
    ·have c2:y2h V t.value<0:=by
      have : ¬ t.value.length=0:=fun h=>c1 (aK h)
      simpa[this]using hbt
     simp[g0.eq,g1.eq,g2.eq,g3.eq,a3.eq,e1,h0l,z13,z3x,h168,<- h3,b0.eq,b1.eq,he',h22,h87,c1,c2,↓q1,<- h4,f1,z10 f0];exact fin
   ·rw[if_neg hbt]at hu;have c1 : ¬ t.value=[]:=fun h=>hbt (by simp[h])
    have c2 : ¬ y2h V t.value<0:=fun h=>hbt (by simp[h])
    obtain⟨d,hp5,f1,f0,sp',f2,f3,f4,f5⟩:=ylq (i:=B+1) (C:=B+4) (hp:=hp3) b 1 s.leaves ns hnl b1 bR (by have:=b3.lt;omega) (by omega)
    simp only[ya]at f1;simp[g0.eq,g1.eq,g2.eq,g3.eq,a3.eq,e1,h0l,z13,z3x,h168,<- h3,b0.eq,b1.eq,he',h22,h87,c1,c2,f1,z10 f0];exact⟨_,by omega,i+1,rfl,hmore2,ns++[⟨b,1,[]⟩],by rw[hu];simp[hlv],fun x hx=>(by
      rcases aB.1 hx with hx | hx
      ·exact hmu x hx
      ·rw[bz.1 hx]),f4.at (by omega) (by omega) b0,.exact,sp',by rw[hu];exact f2,f4.at (by omega) (by omega) b2,by rw[hu];exact f4.at (by omega) (by omega) b3,by rw[ao];exact f3,f4 (K (i+1)) (hK1 _) (fun hp j o h hj=>hK2 _ _ _ _ h (by omega)) bK⟩
  have he' : ¬ (b.length:Int)=p.vars.length:=by omega
  have hlt:b.length<p.vars.length:=by have:=okb.len;omega
  have h3':=r3 p b S hb20;simp only[yjj,zma ok okb,if_true,<- hV]at h3';simp only[y8l,if_neg he,yjh,<- hV]at hu;simp only[ye,ya]at h3' h87 h168
  by_cases hsh:(decide (0<t.value.length) && decide (0<=y2h V t.value))=true
  ·rw[if_pos hsh]at hu;have c1:0<t.value.length:=by simp at hsh;exact hsh.1
   have c2:0<=y2h V t.value:=by simp at hsh;exact hsh.2
   obtain⟨d,hp5,f1,f0,sp',f2,f3,f4,f5⟩:=ylq (i:=B+1) (C:=B+4) (hp:=hp3) b 2 s.leaves ns hnl b1 bR (by have:=b3.lt;omega) (by omega)
   simp only[ya]at f1;simp[g0.eq,g1.eq,g2.eq,g3.eq,a3.eq,e1,h0l,z13,z3x,h168,<- h3,b0.eq,b1.eq,he',h3',h87,c1,c2,f1,z10 f0];exact⟨_,by omega,i+1,rfl,hmore2,ns++[⟨b,2,[]⟩],by rw[hu];simp[hlv],fun x hx=>(by
      rcases aB.1 hx with hx | hx
      ·exact hmu x hx
      ·rw[bz.1 hx]),f4.at (by omega) (by omega) b0,.exact,sp',by rw[hu];exact f2,f4.at (by omega) (by omega) b2,by rw[hu];exact f4.at (by omega) (by omega) b3,by rw[ao];exact f3,f4 (K (i+1)) (hK1 _) (fun hp j o h hj=>hK2 _ _ _ _ h (by omega)) bK⟩
  rw[if_neg hsh]at hu;have h7:=r7 p b S hb20;have h169:=r169 (y5v p b);obtain⟨N,hN⟩:∃ N,N=y5v p b:=⟨_,rfl⟩;simp only[ygm,zma ok okb,if_true,if_neg he,<- hN]at h7;rw[<- hN]at h169 hu;simp only[ye,ya]at h7;have hc : ¬ 0<t.value.length\/(0<t.value.length/\y2h V t.value<0):=by
   by_cases c1:0<t.value.length
   ·right;have : ¬ 0<=y2h V t.value:=fun h=>hsh (by simp[c1,h])
    exact⟨c1,by omega⟩
   ·exact .inl c1
  have hNl:N.length<=8:=by rw[hN,zl2 hlt];exact S.choices _ (av hlt)
  rcases hc with c1 | ⟨c1,c2⟩
  ·simp[g0.eq,g1.eq,g2.eq,g3.eq,a3.eq,e1,h0l,z13,z3x,h168,<- h3,b0.eq,b1.eq,he',h3',c1,h7,h169];refine⟨176,_,rfl,?_⟩;intro L hL hcb;obtain⟨lp,hlp⟩:∃ lp,lp=hp3.length:=⟨_,rfl⟩;rw[<- hlp]at hcb ⊢;obtain⟨J,hJ⟩:∃ J:List (List Int)->List Obj->Prop,J=fun rem hq=>∃(dn W:List (List Int)) (sp:yt),N.reverse=dn++rem/\W=l++dn/\At hq B (.cells (ye p).cellsL) /\
    At hq (B+1) (.cells [.imm .none (s.opn.map ya),ya t.best,ya t.value,.imm sp2 (dLs s.leaves ns)])/\At hq (B+1+1) (.cells [.imm .exact [],.imm .exact [],.imm .exact [],.imm .exact []]) /\
    At hq (B+3) (.cells [.imm sp (W.map ya)])/\y47 (B+4) hq sp W.length 1/\y47 (B+4) hq sp2 (s.leaves.length+ns.length) 3/\K (i+1) hq/\At hq lp (L false none):=⟨_,rfl⟩
   have hb3:=b3.lt;obtain⟨sl,ps,asg,body,hLe⟩:=hL;have key2:=i176 N (by omega) lp J (fun _=>False) (by
    intro x rem hq hj;rw[hJ]at hj;obtain⟨dn,W,sp,j1,jW,j2,j3,j4,j5,j6,j7,j8,j9⟩:=hj;have hWl:W.length<=1000000100:=by have:=congrArg cQ j1;rw[kY,ao]at this;rw[jW,ao];omega
    obtain⟨W',hW'⟩:∃ W',W'=W++[x]:=⟨_,rfl⟩;have hcat:bP ya W++[D.imm yt.none (bP dI x)]=bP ya W':=by rw[hW'];simp
    have hlen':W'.length=W.length+1:=by rw[hW'];simp
    have hap:∀ y,y2o E 1 (bP ya W) [y]:=fun y=>by
     refine⟨?_,?_,?_,z8s⟩ <;> simp[yg]
     omega
    have z5:=j5.ne (j:=lp) (x:=L true none) (by omega)
    have l9:=j9.lt;have noTok:∀ k a b,At hq k (.tok a b)->k ≠ lp:=fun k a b h e=>by subst e;have:=h.eq.symm.trans j9.eq;rw[hLe]at this;simp at this
    obtain⟨t',hp2',y1,y2⟩:=hcb [ya x] hq (fun t' hp'=>t'=true/\J rem hp') rfl j9 (by
     rcases j6 with rfl | ⟨k,rfl,jk,jk2⟩
     ·obtain⟨T,hT⟩:∃ T,T=(hq.set lp (L true none)++[Obj.tok (W.length+1) 1]).set (B+3) (.cells [.imm (.tok hq.length) (W'.map ya)]):=⟨_,rfl⟩;have t1:∀{m o},m ≠ lp->m ≠ B+3->At hq m o->At T m o:=fun h1 h2 g=>by rw[hT];exact((g.ne (fun e=>h1 e.symm)).app).ne (fun e=>h2 e.symm)
      have t2:At T lp (L true none):=by rw[hT];exact((At.self l9).app).ne (by omega)
      have t3:At T (B+3) (.cells [.imm (.tok hq.length) (W'.map ya)]):=by rw[hT];exact At.self (by simp;have:=j5.lt;omega)
      have t4:At T hq.length (Obj.tok (W.length+1) 1):=by
       rw[hT];refine At.ne ?_ (by have:=j5.lt;omega)
       have:=z1o (hp:=hq.set lp (L true none)) (r:=[Obj.tok (W.length+1) 1]) (k:=0);simpa[At]using this
      have tK:K (i+1) T:=by rw[hT];exact hK2 _ _ _ _ (hK1 _ _ _ (hK2 _ _ _ _ j8 (by omega))) (by omega)
      have tK2:K (i+1) (T.set lp (L false none)):=hK2 _ _ _ _ tK (by omega)
      have hJT:J rem (T.set lp (L false none)):=by
       rw[hJ];have n:∀{m o},m ≠ lp->At T m o->At (T.set lp (L false none)) m o:=fun h g=>g.ne (fun e=>h e.symm)
       refine⟨dn++[x],W',.tok hq.length,by rw[j1];simp,by rw[hW',jW];simp,n (by omega) (t1 (by omega) (by omega) j2),n (by omega) (t1 (by omega) (by omega) j3),n (by omega) (t1 (by omega) (by omega) j4),n (by omega) t3,
        .inr ⟨_,rfl,by have:=j5.lt;omega,by rw[hlen',cN];exact n (by omega) t4⟩,?_,tK2,At.self t2.lt⟩
       rcases j7 with h | ⟨k,h1,h2,h5⟩
       ·exact .inl h
       ·exact .inr ⟨k,h1,h2,n (noTok _ _ _ h5) (t1 (noTok _ _ _ h5) (by omega) h5)⟩
      simp[y23,j9.eq,↓z5.eq,↓z5.appE,zq,zz,hap,hcat,<- hT];exact⟨t2.eq,hJT⟩
     ·have hkl:=noTok _ _ _ jk2;have z6:=z5.ne (j:=k) (x:=.dead) (by omega)
      have z7:=jk2.ne (j:=lp) (x:=L true none) (fun e=>hkl e.symm)
      obtain⟨T,hT⟩:∃ T,T=((hq.set lp (L true none)).set k .dead++[Obj.tok (W.length+1) 1]).set (B+3) (.cells [.imm (.tok hq.length) (W'.map ya)]):=⟨_,rfl⟩;have t1:∀{m o},m ≠ lp->m ≠ B+3->m ≠ k->At hq m o->At T m o:=fun h1 h2 h3 g=>by rw[hT];exact(((g.ne (fun e=>h1 e.symm)).ne (fun e=>h3 e.symm)).app).ne (fun e=>h2 e.symm)
      have t2:At T lp (L true none):=by rw[hT];exact(((At.self l9).ne hkl).app).ne (by omega)
      have t3:At T (B+3) (.cells [.imm (.tok hq.length) (W'.map ya)]):=by rw[hT];exact At.self (by simp;have:=j5.lt;omega)
      have t4:At T hq.length (Obj.tok (W.length+1) 1):=by
       rw[hT];refine At.ne ?_ (by have:=j5.lt;omega)
       have:=z1o (hp:=(hq.set lp (L true none)).set k .dead) (r:=[Obj.tok (W.length+1) 1]) (k:=0);simpa[At]using this
      have tK:K (i+1) T:=by rw[hT];exact hK2 _ _ _ _ (hK1 _ _ _ (hK2 _ _ _ _ (hK2 _ _ _ _ j8 (by omega)) (by omega))) (by omega)
      have tK2:K (i+1) (T.set lp (L false none)):=hK2 _ _ _ _ tK (by omega)
      have hJT:J rem (T.set lp (L false none)):=by
       rw[hJ];have n:∀{m o},m ≠ lp->At T m o->At (T.set lp (L false none)) m o:=fun h g=>g.ne (fun e=>h e.symm)
       refine⟨dn++[x],W',.tok hq.length,by rw[j1];simp,by rw[hW',jW];simp,n (by omega) (t1 (by omega) (by omega) (by omega) j2),n (by omega) (t1 (by omega) (by omega) (by omega) j3),n (by omega) (t1 (by omega) (by omega) (by omega) j4),n (by omega) t3,
        .inr ⟨_,rfl,by have:=j5.lt;omega,by rw[hlen',cN];exact n (by have:=l9;omega) t4⟩,?_,tK2,At.self t2.lt⟩
       rcases j7 with h | ⟨k2,h1,h2,h5⟩
       ·exact .inl h
       ·have hkk:k2 ≠ k:=fun e=>by subst e;have:=h5.eq.symm.trans jk2.eq;simp at this
        exact .inr ⟨k2,h1,h2,n (noTok _ _ _ h5) (t1 (noTok _ _ _ h5) (by omega) hkk h5)⟩
      rw[cN]at z7;simp[y23,j9.eq,↓z5.eq,↓z6.appE,z7.eq,zq,z14,hap,hcat,<- hT];exact⟨t2.eq,hJT⟩)
    refine⟨t',hp2',y1,fun _=>y2.2,fun h=>?_⟩
    rw[y2.1]at h;cases h) (hp:=hp3++[L false none]) (by
    rw[hJ];exact⟨[],l,.exact,by simp,by simp,b0.app,b1.app,b2.app,b3.app,.inl rfl,(by
     rcases bR with h | ⟨k,h1,h2,h5⟩
     ·exact .inl h
     ·exact .inr ⟨k,h1,h2,h5.app⟩),hK1 _ _ _ bK,by rw[hlp];simp[At]⟩)
   obtain⟨d,hp',k1,k2 | k2⟩:=key2
   ·rw[hJ]at k2;obtain⟨dn,W,sp,j1,jW,j2,j3,j4,j5,j6,j7,j8,j9⟩:=k2;refine⟨d,hp',k1,.inl ⟨j9.eq,?_⟩⟩;rw[bG]at j1;have noTok:∀ k a b,At hp' k (.tok a b)->k ≠ lp:=fun k a b h e=>by subst e;have:=h.eq.symm.trans j9.eq;rw[hLe]at this;simp at this
    have n:∀{m o},m ≠ lp->At hp' m o->At (hp'.set lp .dead) m o:=fun h g=>g.ne (fun e=>h e.symm)
    rw[jW,<- j1]at j5;simp;exact⟨_,by omega,i+1,rfl,hmore2,ns,by rw[hu];exact hlv,hmu,n (by omega) j2,sp,sp2,by rw[hu];exact n (by omega) j3,n (by omega) j4,by rw[hu];exact n (by omega) j5,(by
     rcases j7 with h | ⟨k,h1,h2,h5⟩
     ·exact .inl h
     ·exact .inr ⟨k,h1,h2,n (noTok _ _ _ h5) h5⟩),hK2 _ _ _ _ j8 (by omega)⟩
   ·exact k2.elim
  ·have c3 : ¬ 0<=y2h V t.value:=by omega
   simp[g0.eq,g1.eq,g2.eq,g3.eq,a3.eq,e1,h0l,z13,z3x,h168,<- h3,b0.eq,b1.eq,he',h3',h87,c1,c2,c3,h7,h169];refine⟨176,_,rfl,?_⟩;intro L hL hcb;obtain⟨lp,hlp⟩:∃ lp,lp=hp3.length:=⟨_,rfl⟩;rw[<- hlp]at hcb ⊢;obtain⟨J,hJ⟩:∃ J:List (List Int)->List Obj->Prop,J=fun rem hq=>∃(dn W:List (List Int)) (sp:yt),N.reverse=dn++rem/\W=l++dn/\At hq B (.cells (ye p).cellsL) /\
    At hq (B+1) (.cells [.imm .none (s.opn.map ya),ya t.best,ya t.value,.imm sp2 (dLs s.leaves ns)])/\At hq (B+1+1) (.cells [.imm .exact [],.imm .exact [],.imm .exact [],.imm .exact []]) /\
    At hq (B+3) (.cells [.imm sp (W.map ya)])/\y47 (B+4) hq sp W.length 1/\y47 (B+4) hq sp2 (s.leaves.length+ns.length) 3/\K (i+1) hq/\At hq lp (L false none):=⟨_,rfl⟩
   have hb3:=b3.lt;obtain⟨sl,ps,asg,body,hLe⟩:=hL;have key2:=i176 N (by omega) lp J (fun _=>False) (by
    intro x rem hq hj;rw[hJ]at hj;obtain⟨dn,W,sp,j1,jW,j2,j3,j4,j5,j6,j7,j8,j9⟩:=hj;have hWl:W.length<=1000000100:=by have:=congrArg cQ j1;rw[kY,ao]at this;rw[jW,ao];omega
    obtain⟨W',hW'⟩:∃ W',W'=W++[x]:=⟨_,rfl⟩;have hcat:bP ya W++[D.imm yt.none (bP dI x)]=bP ya W':=by rw[hW'];simp
    have hlen':W'.length=W.length+1:=by rw[hW'];simp
    have hap:∀ y,y2o E 1 (bP ya W) [y]:=fun y=>by
     refine⟨?_,?_,?_,z8s⟩ <;> simp[yg]
     omega
    have z5:=j5.ne (j:=lp) (x:=L true none) (by omega)
    have l9:=j9.lt;have noTok:∀ k a b,At hq k (.tok a b)->k ≠ lp:=fun k a b h e=>by subst e;have:=h.eq.symm.trans j9.eq;rw[hLe]at this;simp at this
    obtain⟨t',hp2',y1,y2⟩:=hcb [ya x] hq (fun t' hp'=>t'=true/\J rem hp') rfl j9 (by
     rcases j6 with rfl | ⟨k,rfl,jk,jk2⟩
     ·obtain⟨T,hT⟩:∃ T,T=(hq.set lp (L true none)++[Obj.tok (W.length+1) 1]).set (B+3) (.cells [.imm (.tok hq.length) (W'.map ya)]):=⟨_,rfl⟩;have t1:∀{m o},m ≠ lp->m ≠ B+3->At hq m o->At T m o:=fun h1 h2 g=>by rw[hT];exact((g.ne (fun e=>h1 e.symm)).app).ne (fun e=>h2 e.symm)
      have t2:At T lp (L true none):=by rw[hT];exact((At.self l9).app).ne (by omega)
      have t3:At T (B+3) (.cells [.imm (.tok hq.length) (W'.map ya)]):=by rw[hT];exact At.self (by simp;have:=j5.lt;omega)
      have t4:At T hq.length (Obj.tok (W.length+1) 1):=by
       rw[hT];refine At.ne ?_ (by have:=j5.lt;omega)
       have:=z1o (hp:=hq.set lp (L true none)) (r:=[Obj.tok (W.length+1) 1]) (k:=0);simpa[At]using this
      have tK:K (i+1) T:=by rw[hT];exact hK2 _ _ _ _ (hK1 _ _ _ (hK2 _ _ _ _ j8 (by omega))) (by omega)
      have tK2:K (i+1) (T.set lp (L false none)):=hK2 _ _ _ _ tK (by omega)
      have hJT:J rem (T.set lp (L false none)):=by
       rw[hJ];have n:∀{m o},m ≠ lp->At T m o->At (T.set lp (L false none)) m o:=fun h g=>g.ne (fun e=>h e.symm)
       refine⟨dn++[x],W',.tok hq.length,by rw[j1];simp,by rw[hW',jW];simp,n (by omega) (t1 (by omega) (by omega) j2),n (by omega) (t1 (by omega) (by omega) j3),n (by omega) (t1 (by omega) (by omega) j4),n (by omega) t3,
        .inr ⟨_,rfl,by have:=j5.lt;omega,by rw[hlen',cN];exact n (by omega) t4⟩,?_,tK2,At.self t2.lt⟩
       rcases j7 with h | ⟨k,h1,h2,h5⟩
       ·exact .inl h
       ·exact .inr ⟨k,h1,h2,n (noTok _ _ _ h5) (t1 (noTok _ _ _ h5) (by omega) h5)⟩
      simp[y23,j9.eq,↓z5.eq,↓z5.appE,zq,zz,hap,hcat,<- hT];exact⟨t2.eq,hJT⟩
     ·have hkl:=noTok _ _ _ jk2;have z6:=z5.ne (j:=k) (x:=.dead) (by omega)
      have z7:=jk2.ne (j:=lp) (x:=L true none) (fun e=>hkl e.symm)
      obtain⟨T,hT⟩:∃ T,T=((hq.set lp (L true none)).set k .dead++[Obj.tok (W.length+1) 1]).set (B+3) (.cells [.imm (.tok hq.length) (W'.map ya)]):=⟨_,rfl⟩;have t1:∀{m o},m ≠ lp->m ≠ B+3->m ≠ k->At hq m o->At T m o:=fun h1 h2 h3 g=>by rw[hT];exact(((g.ne (fun e=>h1 e.symm)).ne (fun e=>h3 e.symm)).app).ne (fun e=>h2 e.symm)
      have t2:At T lp (L true none):=by rw[hT];exact(((At.self l9).ne hkl).app).ne (by omega)
      have t3:At T (B+3) (.cells [.imm (.tok hq.length) (W'.map ya)]):=by rw[hT];exact At.self (by simp;have:=j5.lt;omega)
      have t4:At T hq.length (Obj.tok (W.length+1) 1):=by
       rw[hT];refine At.ne ?_ (by have:=j5.lt;omega)
       have:=z1o (hp:=(hq.set lp (L true none)).set k .dead) (r:=[Obj.tok (W.length+1) 1]) (k:=0);simpa[At]using this
      have tK:K (i+1) T:=by rw[hT];exact hK2 _ _ _ _ (hK1 _ _ _ (hK2 _ _ _ _ (hK2 _ _ _ _ j8 (by omega)) (by omega))) (by omega)
      have tK2:K (i+1) (T.set lp (L false none)):=hK2 _ _ _ _ tK (by omega)
      have hJT:J rem (T.set lp (L false none)):=by
       rw[hJ];have n:∀{m o},m ≠ lp->At T m o->At (T.set lp (L false none)) m o:=fun h g=>g.ne (fun e=>h e.symm)
       refine⟨dn++[x],W',.tok hq.length,by rw[j1];simp,by rw[hW',jW];simp,n (by omega) (t1 (by omega) (by omega) (by omega) j2),n (by omega) (t1 (by omega) (by omega) (by omega) j3),n (by omega) (t1 (by omega) (by omega) (by omega) j4),n (by omega) t3,
        .inr ⟨_,rfl,by have:=j5.lt;omega,by rw[hlen',cN];exact n (by have:=l9;omega) t4⟩,?_,tK2,At.self t2.lt⟩
       rcases j7 with h | ⟨k2,h1,h2,h5⟩
       ·exact .inl h
       ·have hkk:k2 ≠ k:=fun e=>by subst e;have:=h5.eq.symm.trans jk2.eq;simp at this
        exact .inr ⟨k2,h1,h2,n (noTok _ _ _ h5) (t1 (noTok _ _ _ h5) (by omega) hkk h5)⟩
      rw[cN]at z7;simp[y23,j9.eq,↓z5.eq,↓z6.appE,z7.eq,zq,z14,hap,hcat,<- hT];exact⟨t2.eq,hJT⟩)
    refine⟨t',hp2',y1,fun _=>y2.2,fun h=>?_⟩
    rw[y2.1]at h;cases h) (hp:=hp3++[L false none]) (by
    rw[hJ];exact⟨[],l,.exact,by simp,by simp,b0.app,b1.app,b2.app,b3.app,.inl rfl,(by
     rcases bR with h | ⟨k,h1,h2,h5⟩
     ·exact .inl h
     ·exact .inr ⟨k,h1,h2,h5.app⟩),hK1 _ _ _ bK,by rw[hlp];simp[At]⟩)
   obtain⟨d,hp',k1,k2 | k2⟩:=key2
   ·rw[hJ]at k2;obtain⟨dn,W,sp,j1,jW,j2,j3,j4,j5,j6,j7,j8,j9⟩:=k2;refine⟨d,hp',k1,.inl ⟨j9.eq,?_⟩⟩;rw[bG]at j1;have noTok:∀ k a b,At hp' k (.tok a b)->k ≠ lp:=fun k a b h e=>by subst e;have:=h.eq.symm.trans j9.eq;rw[hLe]at this;simp at this
    have n:∀{m o},m ≠ lp->At hp' m o->At (hp'.set lp .dead) m o:=fun h g=>g.ne (fun e=>h e.symm)
    rw[jW,<- j1]at j5;simp;exact⟨_,by omega,i+1,rfl,hmore2,ns,by rw[hu];exact hlv,hmu,n (by omega) j2,sp,sp2,by rw[hu];exact n (by omega) j3,n (by omega) j4,by rw[hu];exact n (by omega) j5,(by
     rcases j7 with h | ⟨k,h1,h2,h5⟩
     ·exact .inl h
     ·exact .inr ⟨k,h1,h2,n (noTok _ _ _ h5) h5⟩),hK2 _ _ _ _ j8 (by omega)⟩
   ·exact k2.elim
 rw[hR]at key;exact key
def s151{hp:List Obj}:y1j E (dL E) 151 [] hp=some (.bool true,hp):=by
 obtain⟨d,hp',h1,h2,h3⟩:=z1j c151 (args:=[]) (hp:=hp) (R:=fun d hp'=>d=.bool true/\hp'=hp) (by simp) (by
  simp[t151,n151])
 rw[h1,h2,h3]
def zz3:∀{vs:List Var},(∀ v,v ∈ vs->v.choices.length<=8)->wgt vs<=9 ^ vs.length
 |[],_=>by simp[wgt]
 |v::vs,h=>by
  have h1:=zz3 (vs:=vs) fun w hw=>h w (by simp[hw])
  have h2:=h v (by simp)
  have h3:=zpq (vs:=vs);have h4:v.choices.length*wgt vs<=8*wgt vs:=Nat.mul_le_mul_right _ h2;simp only[wgt,ar,Nat.pow_succ];omega
def yk0{p:yj}(S:y19 p){b:List Int}:wB p b<=531441:=by
 unfold wB;have h1:=zz3 (vs:=p.vars.drop b.length) fun v hv=>S.choices v (List.mem_of_mem_drop hv)
 have h2:(p.vars.drop b.length).length<=6:=by have:=S.vars;simp;omega
 exact aM h1 (aM (Nat.pow_le_pow_right (by decide) h2) (by decide))
def yh7{p:yj}(S:y19 p):∀{l:List (List Int)},wO p l<=l.length*531441
 |[]=>by simp[wO]
 |b::l=>by have h1:=yk0 S (b:=b);have h2:=yh7 S (l:=l);simp only[wO,ar];omega
def SmS.of{p:yj}(S:y19 p){s:y4f}(h1:s.opn.length<=1000)(h2:s.leaves.length<=100000000):SmS p s:=⟨by
 have:=yh7 S (l:=s.opn);omega⟩
def zgd{p:yj}(S:y19 p):SmS p y3n:=SmS.of S (by decide) (by decide)
def r150(p:yj)(s:y4f)(S:y19 p)(ok:OkP p)(M:SmS p s)(hs:OkS p s):∃ n,(iter p n s).opn=[]/\yu E (dL E) 150 [ye p,y5y s,.fn 151 []]=some (y5y (iter p n s)):=by
 obtain⟨d,hp',f1,c,ns,sp1,sp2,f2,f3,f4,f5,f6,m,f7⟩:=s150 p s S ok M hs 151 [] (fun _=>true) [] (fun _ _=>True)
  (fun m hp _=>⟨hp,s151,trivial,fun j o _ h=>h⟩) (fun m hp r g=>trivial) (fun m hp j o g hj=>trivial) trivial
 have hz:=zx1 (hp:=hp') (n:=6) (ls:=s.leaves) (ns:=ns) f5;rw[<- f4]at hz;refine⟨c,by simpa using f3,?_⟩
 have hk:E.keep 150=false:=rfl;unfold yu;simp only[f1,f6,hk,ybe];simp[hz]
noncomputable def y5k(p:yj):D:=if ck p=0 then .tup [y7y (y99 (y2q p)),dI 0]else .tup [y7y y8m,dI (ck p)]
def yiu{p:yj}(h:ck p=0):OkP p:=by
 unfold ck at h;split at h
 ·assumption
 ·cases h
def zow{p:yj}(S:y19 p)(ok:OkP p):y5a p (y2q p)=.tup [y7y (y99 (y2q p)),dI 0]:=by
 have h1:OkS p (y2q p):=z5n.iter ok;have h2:=zal ok;obtain⟨w,e,_⟩:=z69 S ok;have h3:sk p (y2q p)=0:=by simp[sk,ok,h1]
 unfold y5a;rw[if_pos h3,if_pos ⟨by rw[h2];rfl,by rw[e];simp[yl]⟩]
def r131(p:yj)(S:y19 p):yu E (dL E) 131 [ye p]=some (y5k p):=by
 refine zg c131 (by simp) ?_
 conv in t131=>reduce;dsimp[ai]
 have h139:=r139 p S;simp only[ye]at h139;unfold y6g at h139
 by_cases h:ck p=0
 rotate_left
 ·rw[if_neg h]at h139;simp[t131,n131,h139,h,y5k,ydq,y8m]
 have ok:=yiu h;rw[if_pos h]at h139;obtain⟨n,h1,h2⟩:=r150 p y3n S ok (zgd S) z5n;rw[zwh ok h1]at h2;have h133:=r133 p (y2q p) S ((zgd S).iter ok z5n);rw[zow S ok]at h133;obtain⟨V,hV⟩:∃ V,V=y2q p:=⟨_,rfl⟩;rw[<- hV]at h2 h133;simp only[ye,y5y,ya]at h2 h133;simp only[y3n,ya,al,aO]at h2;simp[t131,n131,h139,h,y5k,<- hV,y3n,h2,h133,y99,zu]
def zdo{p:yj}{c:List y2b}(h:ckC p c=0):OkP p/\OkC p c:=by
 unfold ckC at h
 by_cases h0:OkP p
 ·rw[if_pos h0]at h
  by_cases h1:OkC p c
  ·exact⟨h0,h1⟩
  ·rw[if_neg h1]at h;omega
 ·rw[if_neg h0]at h;omega
def ym0{hp:List Obj}{sp:yt}{els:List D}{x:D}{B id:Nat}(hok:y2o E 2 els [x])(hx:(x.storable && x.cellsL.length == 1)=true)(R:y47 B hp sp els.length 1)(hid:id<=hp.length) :
  ∃ hp',y9b E hp id 6 6 (.imm sp els) (.imm .exact [x])=some (.imm (.tok id) (els++[x]),hp')/\At hp' id (.tok ((els.length+1)*1) 1)/\hp.length<=hp'.length /\
   ∀ i o,At hp i o->(∀ k,sp=.tok k->i ≠ k)->i ≠ id->At hp' i o:=by
 have k9:(E.ty 6).k=.slice 2:=rfl;have s6:(E.ty 2).size=1:=rfl;rcases R with rfl | ⟨k,rfl,_,g⟩
 ·obtain⟨a1,a2,a3⟩:=z8z (o:=.tok ((els.length+1)*1) 1) hid;refine⟨_,?_,a1,a2,fun i o g _ hne=>a3 i o g hne⟩
  rw[zz,k9];simp only[z2q,s6,cG,ec,hx,ek,if_true,zc,if_pos hok,ar,aY]
 ·have hg:=g.eq;obtain⟨a1,a2,a3⟩:=z8z (hp:=hp.set k .dead) (id:=id) (o:=.tok ((els.length+1)*1) 1) (by simpa using hid)
  refine⟨_,?_,a1,by simpa using a2,fun i o g hk hne=>a3 i o (g.ne (dF (hk k rfl))) hne⟩
  rw[z14,k9];simp only[z2q,s6,cG,ec,hx,ek,if_true,zc,if_pos hok,ar,aY,hg,z65,and_self]
def zp7{l:List Int}{x:D}(h:l.length<=100000):y2o E 2 (l.map dI) [x]:=by
 refine⟨?_,?_,?_,?_⟩
 ·simp[yg,E,y4i];omega
 ·simp[E,y4i]
 ·rfl
 ·simp[y2k,E,y4i,D.storable,D.atom,D.cellsL]
noncomputable def y9j(p:yj):D:=if ck p=0 then .tup [ya (y6r p),dI 0]else .tup [ya [],dI (ck p)]
def r184(p:yj)(S:y19 p):yu E (dL E) 184 [ye p]=some (y9j p):=by
 refine zg c184 (by simp) ?_
 conv in t184=>reduce;dsimp[ai]
 have h131:=r131 p S;unfold y5k at h131;unfold y9j
 by_cases h0:ck p=0
 rotate_left
 ·rw[if_neg h0]at h131 ⊢;simp only[ye,ya,y7y,y8m,aO]at h131;simp[t184,n184,h131,h0]
 rw[if_pos h0]at h131 ⊢;have ok:=yiu h0;obtain⟨w,_,_⟩:=z69 S ok;obtain⟨Bs,hBs⟩:∃ Bs,Bs=(y2q p).best:=⟨_,rfl⟩;have hD:y6r p=(p.vars.zip Bs).map fun x=>(x.1.choices.getD x.2.toNat ⟨0,0,0,[]⟩).delay:=by rw[hBs];rfl
 rw[<- hBs]at w;have hbl:Bs.length=p.vars.length:=w.2.2;have hDl:=z6k S ok;have s3:=S.vars;obtain⟨Ct,hC⟩:∃ Ct,Ct=y99 (y2q p):=⟨_,rfl⟩;have hCb:Ct.best=Bs:=by rw[hC,hBs];rfl
 rw[<- hC]at h131;simp only[ye,ya,y7y,hCb]at h131;obtain⟨DL,hDL⟩:∃ DL,DL=y6r p:=⟨_,rfl⟩;rw[<- hDL]at hD hDl ⊢;simp[t184,n184,h131];refine zo Bs.length (fun i env hp=>∃(x4 x5 x6 x7 x8 x12 x13:D) (sp:yt),env=[ye p,.loc 0 0,.imm sp ((DL.take i).map dI),dI 0,x4,x5,x6,x7,x8,ya Bs,dI Bs.length,dI i,x12,x13]/\At hp 0 (.cells (ye p).cellsL)/\y47 1 hp sp i 1) 0 (by omega)
  ⟨_,_,_,_,_,_,_,.exact,rfl,by simp[At],.inl rfl⟩ ?_
 rintro i env hp hi ⟨x4,x5,x6,x7,x8,x12,x13,sp,rfl,g0,R⟩
 by_cases hlt:i<Bs.length
 ·have hv:i<p.vars.length:=by omega
  have hw:=w.2.1.each i hlt hv;unfold wi at hw;have hd:i<DL.length:=by omega
  have hn:Bs[i].toNat<p.vars[i].choices.length:=by omega
  have hDi:DL[i]=(p.vars[i].choices[Bs[i].toNat]).delay:=by simp only[hD,fH,List.getElem_zip];rw[af,ac hn,aX]
  obtain⟨b,hb⟩:∃ b:Nat,Bs[i]=b:=⟨Bs[i].toNat,by omega⟩
  have hn':b<p.vars[i].choices.length:=by omega
  have hDi':DL[i]=(p.vars[i].choices[b]).delay:=by rw[hDi];congr 2;simp[hb]
  have R3:y47 1 hp sp ((DL.take i).map dI).length 1:=by rw[aF,bc,bU (by omega)];exact R
  obtain⟨h',e1,e2,e3,e4⟩:=ym0 (x:=dI DL[i]) (id:=hp.length) (zp7 (by simp;omega)) (by simp[D.storable,D.atom,D.cellsL]) R3 (aj _)
  have eL:(DL.take i).map dI++[dI DL[i]]=(DL.take (i+1)).map dI:=by rw[aN hd,bp];rfl
  rw[eL]at e1;rw[aF,bc,bU (by omega)]at e2
  have Q0:=e4 0 _ g0 (fun k hk=>by
   rcases R with h | ⟨k2,h1,h2,_⟩
   ·rw[h]at hk;cases hk
   ·rw[h1]at hk;cases hk;omega) (by have:=g0.lt;omega)
  obtain⟨Ls,hLs⟩:∃ Ls,Ls=(DL.take i).map dI:=⟨_,rfl⟩;obtain⟨Lt,hLt⟩:∃ Lt,Lt=(DL.take (i+1)).map dI:=⟨_,rfl⟩;rw[<- hLs,<- hLt,hDi']at e1;rw[<- hLs,<- hLt];have l0:=g0.lt;simp only[dI]at e1;simp[hlt,hb,hv,hn',g0.eq,e1,ze hlt (by omega)]
  repeat apply Exists.intro
  exact⟨by and_intros <;> rfl,Q0,.inr ⟨_,rfl,by omega,e2⟩⟩
 ·have:i=Bs.length:=by omega
  subst this;have e:DL.take Bs.length=DL:=bd (by omega)
  rw[e];simp[hlt]
def zj5{p:yj}(h:y68 p=true):y19 p:=by unfold y68 at h;simp only[ak]at h;exact zhi h.1
def ya6(a:y2b):Bool:=decide (a.less.length<=8) && a.less.all fun r=>decide (r.length<=20)
def y7v(p:yj)(c:List y2b):Bool:=c.all ya6 && (y68 p && decide (c.length<=4))
def zt8{a:y2b}(h:ya6 a=true):a.less.length<=8 /\ ∀ r,r ∈ a.less->r.length<=20:=by simp only[ya6,ak,decide_eq_true_eq,ay]at h;exact h
def zt7{p:yj}{c:List y2b}(h:y7v p c=true):y19 p/\SmC c/\c.length<=4:=by simp only[y7v,ak,decide_eq_true_eq,ay]at h;obtain⟨h1,h2,h3⟩:=h;exact⟨zj5 h2,⟨by omega,fun a ha=>by have:=(zt8 (h1 a ha)).1;omega,fun a ha r hr=>by have:=(zt8 (h1 a ha)).2 r hr;omega⟩,h3⟩
def r179(p:yj)(c:List y2b)(hc:c.length<=9223372036854775807):yu E (dL E) 179 [ye p,.imm .none (c.map y1h)]=some (.bool (y7v p c)):=by
 refine zg c179 (by simp) ?_
 conv in t179=>reduce;dsimp[ai]
 have h129:=r129 p;generalize hB:y7v p c=B;have hBf:(∃ a,a ∈ c/\ya6 a=false)->B=false:=fun⟨a,h1,h2⟩=>by
  rw[<- hB];cases h:y7v p c with
  |false=>rfl
  |true=>simp only[y7v,ak,ay]at h;have:=h.1 a h1;rw[h2]at this;cases this
 have hBt:(∀ a,a ∈ c->ya6 a=true)->B=(y68 p && decide (c.length<=4)):=fun h=>by
  rw[<- hB];have e:c.all ya6=true:=by rw[ay];exact h
  simp[y7v,e]
 simp[t179,n179];refine z5k c.length (fun i=>∀ h:i<c.length,ya6 c[i]=true) (fun i env hp=>∃(x5 x6 x7 x8:D) ,env=[ye p,.imm .none (c.map y1h),.loc 0 0,.bool false,dI i,x5,x6,x7,x8]/\At hp 0 (.cells (ye p).cellsL)) ⟨_,_,_,_,rfl,by simp[At]⟩ ?_ ?_
 ·rintro i env hp hi ⟨x5,x6,x7,x8,rfl,g0⟩ hall;obtain⟨a,ha⟩:∃ a,a=c[i]:=⟨_,rfl⟩;have hmem:a ∈ c:=by rw[ha];exact av hi
  have hbad:ya6 a=false->B=false:=fun h=>hBf ⟨a,hmem,h⟩
  simp[hi,<- ha];refine z5k a.less.length (fun k=>∀ h:k<a.less.length,k<8/\a.less[k].length<=20) (fun k env hp=>∃(x6 x7 x8:D) ,env=[ye p,.imm .none (c.map y1h),.loc 0 0,.bool false,dI i,dI k,x6,x7,x8]/\At hp 0 (.cells (ye p).cellsL)) ⟨_,_,_,rfl,g0⟩ ?_ ?_
  ·clear g0 hp;rintro k env hp hk ⟨x6,x7,x8,rfl,g0⟩ hk8
   by_cases q1:k<8
   rotate_left
   ·have q1':(8:Int)<=k:=by omega
    have hF:B=false:=hbad (by
     have : ¬ a.less.length<=8:=by omega
     simp[ya6,this])
    simp[hi,<- ha,hk,q1',hF]
   have q1' : ¬ (8:Int)<=k:=by omega
   by_cases q2:(20:Int)<a.less[k].length
   ·have hF:B=false:=hbad (by
     have:a.less.all (fun r=>decide (r.length<=20))=false:=by rw[List.all_eq_false];exact⟨_,av hk,by simp;omega⟩
     simp[ya6,this])
    simp[hi,<- ha,hk,q1',q2,hF]
   ·simp[hi,<- ha,hk,q1',q2,ze q1 (by omega)]
    exact⟨fun _=>⟨by omega,by omega⟩,g0⟩
  ·clear g0 hp;rintro env hp ⟨x6,x7,x8,rfl,g0⟩ hk8;have hl:a.less.length<=8:=by
    rcases Nat.lt_or_ge 8 a.less.length with h | h
    ·have:=(hk8 8 h h).1;omega
    ·exact h
   have hfa:ya6 a=true:=by
    simp only[ya6,ak,decide_eq_true_eq,ay];refine⟨hl,fun r hr=>?_⟩
    obtain⟨k,hk,rfl⟩:=dD hr;exact(hk8 k hk hk).2
   have w:=za (n:=(i:Int)+1) ⟨by omega,by omega⟩
   simp[hi,<- ha,hfa,w];exact g0
 ·rintro env hp ⟨x5,x6,x7,x8,rfl,g0⟩ hall;have hall':∀ a,a ∈ c->ya6 a=true:=fun a ha=>by obtain⟨i,hi,rfl⟩:=dD ha;exact hall i hi hi
  have hb:=hBt hall';simp only[ye,ya]at h129;cases hf:y68 p with
  |false=>simp[g0.eq,h129,hf,hb]
  |true=>simp[g0.eq,h129,hf,hb];omega
def ylz{t e sz:Nat}(ht:(E.ty t).k=.slice e)(hs:(E.ty e).size=sz){hp:List Obj}{sp:yt}{els:List D}{x:D}{B id:Nat}(hok:y2o E e els [x])(hx:(x.storable && x.cellsL.length == sz)=true)(R:y47 B hp sp els.length sz)(hid:id<=hp.length) :
  ∃ hp',y9b E hp id t t (.imm sp els) (.imm .exact [x])=some (.imm (.tok id) (els++[x]),hp')/\At hp' id (.tok ((els.length+1)*sz) sz)/\hp.length<=hp'.length /\
   ∀ i o,At hp i o->(∀ k,sp=.tok k->i ≠ k)->i ≠ id->At hp' i o:=by
 subst hs;rcases R with rfl | ⟨k,rfl,_,g⟩
 ·obtain⟨a1,a2,a3⟩:=z8z (o:=.tok ((els.length+1)*(E.ty e).size) (E.ty e).size) hid;refine⟨_,?_,a1,a2,fun i o g _ hne=>a3 i o g hne⟩
  rw[zz,ht];simp only[z2q,cG,ec,hx,ek,if_true,zc,if_pos hok,ar,aY]
 ·have hg:=g.eq;obtain⟨a1,a2,a3⟩:=z8z (hp:=hp.set k .dead) (id:=id) (o:=.tok ((els.length+1)*(E.ty e).size) (E.ty e).size) (by simpa using hid)
  refine⟨_,?_,a1,by simpa using a2,fun i o g hk hne=>a3 i o (g.ne (dF (hk k rfl))) hne⟩
  rw[z14,ht];simp only[z2q,cG,ec,hx,ek,if_true,zc,if_pos hok,ar,aY,hg,z65,and_self]
def zk7{l:List y43}{x:D}(h:l.length<=100000):y2o E 37 (l.map y36) [x]:=by
 refine⟨?_,?_,?_,?_⟩
 ·simp[yg,E,y4i];omega
 ·simp[E,y4i]
 ·rfl
 ·simp[y2k,E,y4i,D.storable,D.atom,D.cellsL]
def zm7{cause:Int}:∀{k:Nat} {bef now:List Int} {i:Nat},bef.length=now.length->(h:i<now.length)->(h':i<bef.length) ->
  chg cause k (bef.take (i+1)) (now.take (i+1))=chg cause k (bef.take i) (now.take i)++(if now[i] ≠ bef[i]then[⟨cause,((k+i:Nat):Int),now[i] - bef[i]⟩]else[])
 |k,[],_,i,_,_,h'=>by simp at h'
 |k,_::_,[],i,_,h,_=>by simp at h
 |k,b::bef,n::now,0,_,_,_=>by simp[chg]
 |k,b::bef,n::now,i+1,hl,h,h'=>by
  have:=zm7 (cause:=cause) (k:=k+1) (bef:=bef) (now:=now) (i:=i) (by simpa using hl) (by simpa using h) (by simpa using h')
  simp only[fM,chg,this,ee,bi];rw[show k+1+i=k+(i+1)from by omega]
def zjw{cause:Int}:∀{k:Nat} {bef now:List Int},(chg cause k bef now).length<=now.length
 |_,[],_=>by simp[chg]
 |_,_::_,[]=>by simp[chg]
 |k,b::bef,n::now=>by have:=zjw (cause:=cause) (k:=k+1) (bef:=bef) (now:=now);simp only[chg,ao,ar];split <;> simp <;> omega
def s191{cause:Int}{now bef:List Int}{sh:List y43}{sp0 sp:yt}{b l C:Nat}{hp:List Obj}(hl:bef.length=now.length)(hn:now.length<=1000)(hsh:sh.length<=50000)
  (hd:∀ n,n ∈ now->0<=n/\n<=1000000000) (hd':∀ n,n ∈ bef->0<=n/\n<=1000000000)
  (gb:At hp b (.cells [.imm sp0 (bef.map dI)])) (gl:At hp l (.cells [.imm sp (sh.map y36)])) (R:y47 C hp sp sh.length 3) (hb:b<C) (hl':l<C) (hbl:b ≠ l) (hC:C<=hp.length) :
  ∃ d hp',y1j E (dL E) 191 [dI cause,ya now,.loc b 0,.loc l 0] hp=some (d,hp')/\yy d=false/\At hp' b (.cells [ya now]) /\
   (∃ sp',At hp' l (.cells [.imm sp' ((sh++chg cause 0 bef now).map y36)])/\y47 C hp' sp' (sh++chg cause 0 bef now).length 3)/\hp.length<=hp'.length /\ ∀ i o,i<C->i ≠ b->i ≠ l->At hp i o->At hp' i o:=by
 refine z1j c191 (args:=[dI cause,ya now,.loc b 0,.loc l 0]) (hp:=hp) (R:=fun d hp'=>yy d=false/\At hp' b (.cells [ya now]) /\
   (∃ sp',At hp' l (.cells [.imm sp' ((sh++chg cause 0 bef now).map y36)])/\y47 C hp' sp' (sh++chg cause 0 bef now).length 3)/\hp.length<=hp'.length /\ ∀ i o,i<C->i ≠ b->i ≠ l->At hp i o->At hp' i o) (by simp) ?_
 obtain⟨Z,hZ⟩:∃ Z:Nat->List y43,Z=fun i=>sh++chg cause 0 (bef.take i) (now.take i):=⟨_,rfl⟩
 have hZ0:Z 0=sh:=by rw[hZ];simp[chg]
 have hZn:sh++chg cause 0 bef now=Z now.length:=by rw[hZ];simp only[];rw[bh,<- hl,bh]
 have hZl:∀ i,(Z i).length<=60000:=fun i=>by rw[hZ];have:=zjw (cause:=cause) (k:=0) (bef:=bef.take i) (now:=now.take i);simp only[ao];rw[bc]at this;omega
 have hZ1:∀(i:Nat) (h:i<now.length) (h':i<bef.length),Z (i+1)=Z i++(if now[i] ≠ bef[i]then[⟨cause,(i:Int),now[i] - bef[i]⟩]else[]):=fun i h h'=>by rw[hZ];simp only[];rw[zm7 hl h h',bi];simp
 rw[hZn];simp[t191,n191];refine zo now.length (fun i env hq=>∃(x4 x5 x9 x10 x11:D) (sp':yt),env=[dI cause,ya now,.loc b 0,.loc l 0,x4,x5,ya now,dI now.length,dI i,x9,x10,x11]/\At hq b (.cells [.imm sp0 (bef.map dI)])/\At hq l (.cells [.imm sp' ((Z i).map y36)])/\y47 C hq sp' (Z i).length 3/\hp.length<=hq.length /\ ∀ i o,i<C->i ≠ b->i ≠ l->At hp i o->At hq i o) 0 (by omega)
  ⟨_,_,_,_,_,sp,rfl,gb,by rw[hZ0];exact gl,by rw[hZ0];exact R,aj _,fun _ _ _ _ _ h=>h⟩ ?_
 rintro i env hq hi ⟨x4,x5,x9,x10,x11,sp',rfl,qb,ql,R1,hle,keep⟩;have lb:=qb.lt;have ll:=ql.lt
 by_cases hlt:i<now.length
 ·have hlb:i<bef.length:=by omega
  have z1:=hZ1 i hlt hlb;have d1:=hd _ (av hlt);have d2:=hd' _ (av hlb);have w:=za (n:=now[i] - bef[i]) ⟨by omega,by omega⟩
  by_cases hne:now[i]=bef[i]
  ·rw[if_neg (by simpa using hne),bG]at z1
   simp[hlt,hlb,qb.eq,hne,ze hlt (by omega)]
   rw[z1];exact⟨qb,sp',ql,R1,hle,keep⟩
  ·rw[if_pos hne]at z1;have R3:y47 C (hq++[Obj.dead,Obj.dead,Obj.dead,Obj.dead,Obj.dead,Obj.dead,Obj.dead,Obj.dead,Obj.dead,Obj.dead,Obj.dead,Obj.dead,Obj.dead]) sp' ((Z i).map y36).length 3:=by
    rw[aF];rcases R1 with h | ⟨k',h1,h2,h3⟩
    ·exact .inl h
    ·exact .inr ⟨k',h1,h2,h3.app⟩
   obtain⟨h',e1,e2,e3,e4⟩:=ylz (t:=36) (e:=37) (sz:=3) rfl rfl (x:=y36 ⟨cause,(i:Int),now[i] - bef[i]⟩) (id:=hq.length+11) (zk7 (by have:=hZl i;omega)) (by simp[D.storable,D.atom,D.cellsL]) R3 (by simp)
   have eL:(Z i).map y36++[y36 ⟨cause,(i:Int),now[i] - bef[i]⟩]=(Z (i+1)).map y36:=by rw[z1,bp];rfl
   have eN:(Z (i+1)).length=(Z i).length+1:=by rw[z1];simp
   rw[eL]at e1;rw[aF,<- eN]at e2;have hk:∀ n,n<C->∀ k',sp'=.tok k'->n ≠ k':=fun n hn k' hk'=>by
    rcases R1 with h | ⟨k2,h1,h2,_⟩
    ·rw[h]at hk';cases hk'
    ·rw[h1]at hk';cases hk';omega
   have Qb:=e4 b _ qb.app (hk b hb) (by omega)
   have Ql:=e4 l _ ql.app (hk l hl') (by omega)
   simp only[y36,dI]at e1;simp only[ao,ar,aY]at e3;have lql:=Ql.lt;simp[hlt,hlb,qb.eq,ql.eq,↓qb.appE,↓ql.appE,hne,w,e1,Ql.eq,ze hlt (by omega)]
   exact⟨Qb.ne (dF hbl),_,At.self lql,.inr ⟨_,rfl,by omega,e2.ne (by omega)⟩,by omega,fun n o h1 h2 h3 g=>(e4 n o (keep n o h1 h2 h3 g).app (hk n h1) (by omega)).ne (dF h3)⟩
 ·have:i=now.length:=by omega
  subst this;simp[hlt,qb.eq];refine⟨At.self lb,⟨sp',ql.ne hbl,?_⟩,hle,fun n o h1 h2 h3 g=>(keep n o h1 h2 h3 g).ne (dF h2)⟩
  rcases R1 with h | ⟨k',h1,h2,h3⟩
  ·exact .inl h
  ·exact .inr ⟨k',h1,h2,h3.ne (by omega)⟩
def r192(p:yj)(c:List y2b):yu E (dL E) 192 [ye p,.imm .none (c.map y1h)]=some (.fn 198 [.iptr [.imm .none (c.map y1h)],.iptr (ye p).cellsL]):=by
 refine zg c192 (by simp) ?_
 conv in t192=>reduce;dsimp[ai]
 simp[t192,n192,zk]
def i198(p:yj)(c:List y2b)(S:y19 p)(ok:OkP p)(C:OkC p c)(l:Nat)(J:Nat->List Obj->Prop)(Fin:List Obj->Prop)
  (hy:∀ k hp,k<=c.length->J k hp->∃ t hp',y3d (dL E) l [dI ((k:Int) - 1),ye (y46 p c k)] hp=some (.bool t,hp')/\(t=true->J (k+1) hp')/\(t=false->Fin hp')) {hp:List Obj}
  (h0:J 0 hp) :
  ∃ d hp',y1j E (dL E) 198 [.yld l,.iptr [.imm .none (c.map y1h)],.iptr (ye p).cellsL] hp=some (d,hp')/\(J (c.length+1) hp'\/Fin hp'):=by
 refine z1j c198 (R:=fun _ hp'=>J (c.length+1) hp'\/Fin hp') (by simp) ?_
 conv in t198=>reduce;dsimp[ai]
 have c1:=C.len;have w:=za (n:=(c.length:Int)+1) ⟨by omega,by omega⟩
 simp[t198,n198,w];refine zo (c.length+1) (fun k env hp=>∃(x3 x6 x7 x8:D) ,env=[.yld l,.iptr [.imm .none (c.map y1h)],.iptr (ye p).cellsL,x3,dI ((c.length:Int)+1),dI k,x6,x7,x8]/\J k hp) 0 (by omega) ⟨_,_,_,_,rfl,h0⟩ ?_
 rintro k env hp hk ⟨x3,x6,x7,x8,rfl,hJ⟩
 by_cases hlt:k<c.length+1
 ·have hlt':(k:Int)<c.length+1:=by omega
  have h195:=r195 p c k S ok C (by omega)
  have w1:=za (n:=(k:Int) - 1) ⟨by omega,by omega⟩
  obtain⟨t,hp2,y1,y2,y3⟩:=hy k hp (by omega) hJ
  obtain⟨q,hq⟩:∃ q,q=y46 p c k:=⟨_,rfl⟩;rw[<- hq]at h195 y1;simp only[ye,ya,y1h]at h195 y1;cases t with
  |true=>have hJ2:=y2 rfl;simp[hlt,hlt',h195,w1,y1,zk,ze hlt (by omega),hJ2]
  |false=>have hF:=y3 rfl;simp[hlt,hlt',h195,w1,y1,zk,hF]
 ·have:k=c.length+1:=by omega
  subst this;simp[hJ]
def zmk{E:Env}{cP:Nat->List D->Option D}{env:List D}{hp:List Obj}{t a c:Nat}{ks:Xs}:xv E cP env hp (.n (.mkslice false t (.t a) (.t c)) ks)=ob (xvs E cP env hp ks) fun vs=>y6h E t (kv a vs) (kv c vs):=by
 rw[yjx];congr 1;funext vs;have e1:gOf vs (.t a)=kv a vs:=rfl;have e2:gOf vs (.t c)=kv c vs:=rfl;rw[<- e1,<- e2];unfold opV y6h;simp only[yb];generalize gOf vs (.t a)=x;generalize gOf vs (.t c)=y;cases (E.ty t).k <;> try rfl
 cases x <;> try rfl
 cases y <;> try rfl
 rename_i e k1 n1 k2 n2;simp only[];cases y28 E e with
 |none=>rfl
 |some z=>
  by_cases h:0<=n1/\n1=n2/\n2*(((E.ty e).bytes:Int)+1)<=yg
  ·obtain⟨h1,rfl,h3⟩:=h;simp[h1,h3]
  ·simp[h]
def zih{m:Nat}:∀{l:List (List Int)} {k:Nat} {b:List Int},(∀ x,x ∈ l->x.length<=m)->(shr k b l).length<=l.length*m
 |[],_,_,_=>by simp[shr]
 |n::l,k,b,h=>by
  have h1:=zjw (cause:=(k:Int) - 1) (k:=0) (bef:=b) (now:=n);have h2:=zih (m:=m) (l:=l) (k:=k+1) (b:=n) fun x hx=>h x (by simp[hx])
  have h3:=h n (by simp)
  simp only[shr,ao,ar,br,Nat.one_mul];omega
def ztk{p:yj}(ok:OkP p):∀ n,n ∈ y6r p->0<=n/\n<=1000000000:=by
 intro n hn;obtain⟨x,hx,rfl⟩:=aL.1 hn;have hv:=(ok.vars x.1 (List.of_mem_zip hx).1).choices;rw[af];cases h:x.1.choices[x.2.toNat]? with
 |none=>simp
 |some c=>have:=(hv c (List.mem_of_getElem? h)).delay;unfold wi at this;simp only[aX];omega
noncomputable def yap(p:yj)(c:List y2b):D:=if ckC p c=0 then .tup [.imm .none ((y33 p c).map y36),dI 0]else .tup [.imm .none [],dI (ckC p c)]
def yly(p:yj)(c:List y2b)(S:y19 p)(M:SmC c):yu E (dL E) 180 [ye p,.imm .none (c.map y1h)]=some (yap p c):=by
 refine zg c180 (by simp) ?_
 conv in t180=>reduce;dsimp[ai]
 have h181:=r181 p c S M;have h192:=r192 p c;have s3:=S.vars;unfold yap
 by_cases h0:ckC p c=0
 rotate_left
 ·rw[if_neg h0];simp only[ye,ya,y1h]at h181;simp[t180,n180,h181,h0,zk]
 obtain⟨ok,C⟩:=zdo h0;rw[if_pos h0];rw[h0]at h181;obtain⟨Z,hZ⟩:∃ Z,Z=ah p.vars.length (0:Int):=⟨_,rfl⟩;have hZ2:ah p.vars.length (D.int .i64 0)=Z.map dI:=by rw[hZ];simp
 have hmk:y6h E 6 (dI p.vars.length) (dI p.vars.length)=some (.imm .exact (Z.map dI)):=by
  have hmb:(p.vars.length:Int)*9<=17592186044416:=by omega
  rw[<- hZ2];simp[y6h,yg,hmb]
 simp only[ye,ya,y1h]at h181 h192;simp[t180,n180,h181,h192,zk,zmk,hmk];obtain⟨Bf,hBf⟩:∃ Bf:Nat->List Int,Bf=fun k=>if k=0 then Z else y6r (y46 p c (k - 1)):=⟨_,rfl⟩
 have hB0:Bf 0=Z:=by rw[hBf];rfl
 have hB1:∀ k,Bf (k+1)=y6r (y46 p c k):=fun k=>by rw[hBf];simp
 have hBl:∀ k,(Bf k).length=p.vars.length:=fun k=>by
  cases k with
  |zero=>rw[hB0,hZ];simp
  |succ k=>rw[hB1,z6k (z2j ok C S) (z4p ok C)];rfl
 have hBd:∀ k n,n ∈ Bf k->0<=n/\n<=1000000000:=fun k n h=>by
  cases k with
  |zero=>rw[hB0,hZ]at h;have:=List.eq_of_mem_replicate h;omega
  |succ k=>rw[hB1]at h;exact ztk (z4p ok C) n h
 obtain⟨Sh,hSh⟩:∃ Sh:Nat->List y43,Sh=fun k=>shr 0 Z ((bD k).map fun j=>Bf (j+1)):=⟨_,rfl⟩
 have hS0:Sh 0=[]:=by rw[hSh];simp[shr]
 have hS1:∀ k,Sh (k+1)=Sh k++chg ((k:Int) - 1) 0 (Bf k) (Bf (k+1)):=fun k=>by
  rw[hSh];simp only[fk,bp,al,aO];rw[zqj];simp only[shr,bG,aF,fV,Nat.zero_add];congr 2;cases k with
  |zero=>simp[hB0]
  |succ k=>simp[fk]
 have hSl:∀ k,k<=9->(Sh k).length<=50000:=fun k hk=>by
  have:=zih (m:=p.vars.length) (l:=(bD k).map fun j=>Bf (j+1)) (k:=0) (b:=Z) (fun x hx=>by
   obtain⟨j,_,rfl⟩:=aL.1 hx;rw[hBl];omega)
  rw[hSh];simp only[aF,fV]at this;have h2:k*p.vars.length<=9*1000:=Nat.mul_le_mul hk (by omega)
  simp only[];omega
 have hSn:y33 p c=Sh (c.length+1):=by
  rw[hSh];unfold y33 y3z;rw[<- hZ];congr 1;refine dU fun j _=>?_
  rw[hB1]
 rw[hSn];have c8:=C.len;refine⟨198,_,rfl,?_⟩;intro L hL hcb;obtain⟨J,hJ⟩:∃ J:Nat->List Obj->Prop,J=fun k hq=>∃ sp0 sp,At hq 0 (.cells (ye p).cellsL)/\At hq 1 (.cells [.imm sp ((Sh k).map y36)])/\At hq 2 (.cells [dI 0])/\At hq 3 (.cells [.imm sp0 ((Bf k).map dI)]) /\
  At hq 4 (.cells [.fn 191 [.loc 3 0,.loc 1 0]])/\At hq 5 (L false none)/\y47 6 hq sp (Sh k).length 3:=⟨_,rfl⟩
 have key:=i198 p c S ok C 5 J (fun _=>False) (by
  intro k hq hk hj;rw[hJ]at hj;obtain⟨sp0,sp,a0,a1,a2,a3,a4,a5,R⟩:=hj;have l5:=a5.lt;have h184:=r184 (y46 p c k) (z2j ok C S);have hck:ck (y46 p c k)=0:=by simp[ck,z4p ok C]
  unfold y9j at h184;rw[if_pos hck,<- hB1]at h184;obtain⟨q,hqd⟩:∃ q,q=y46 p c k:=⟨_,rfl⟩;rw[<- hqd]at h184 ⊢;obtain⟨t,hp2,e1,e2⟩:=hcb [dI ((k:Int) - 1),ye q] hq (fun t hp'=>t=true/\J (k+1) hp') rfl a5 (by
   obtain⟨X,hX⟩:∃ X,X=Obj.cells (ye q).cellsL:=⟨_,rfl⟩;obtain⟨HQ,hHQ⟩:∃ HQ,HQ=(hq++[X]).set 5 (L true none):=⟨_,rfl⟩;have ln:(hq++[X]).length=hq.length+1:=by simp
   have q0:=(a0.app (r:=[X])).ne (j:=5) (x:=L true none) (by omega)
   rw[<- hHQ]at q0;have q1:=(a1.app (r:=[X])).ne (j:=5) (x:=L true none) (by omega)
   rw[<- hHQ]at q1;have q2:=(a2.app (r:=[X])).ne (j:=5) (x:=L true none) (by omega)
   rw[<- hHQ]at q2;have q3:=(a3.app (r:=[X])).ne (j:=5) (x:=L true none) (by omega)
   rw[<- hHQ]at q3;have q4:=(a4.app (r:=[X])).ne (j:=5) (x:=L true none) (by omega)
   rw[<- hHQ]at q4;have q5:At HQ 5 (L true none):=by rw[hHQ];exact At.self (by omega)
   have qn:At HQ hq.length X:=by rw[hHQ];exact At.ne (by simp[At]) (by omega)
   have RQ:y47 6 HQ sp (Sh k).length 3:=by
    rcases R with h | ⟨k',h1,h2,h3⟩
    ·exact .inl h
    ·exact .inr ⟨k',h1,h2,by rw[hHQ];exact h3.app.ne (by omega)⟩
   have lQ:6<=HQ.length:=by rw[hHQ];simp;omega
   obtain⟨d1,hp2,f1,fm,f2,⟨sp',f3,f4⟩,f5,f6⟩:=s191 (cause:=(k:Int) - 1) (now:=Bf (k+1)) (bef:=Bf k) (sh:=Sh k) (by rw[hBl,hBl]) (by rw[hBl];omega) (hSl k (by omega)) (hBd (k+1)) (hBd k) q3 q1 RQ (by omega) (by omega) (by omega) lQ
   rw[<- hS1]at f3 f4;have w0:=f6 0 _ (by omega) (by omega) (by omega) q0
   have w2:=f6 2 _ (by omega) (by omega) (by omega) q2
   have w4:=f6 4 _ (by omega) (by omega) (by omega) q4
   have w5:=f6 5 _ (by omega) (by omega) (by omega) q5
   have z5:=w5.lt;have fin:J (k+1) (hp2.set 5 (L false none)):=by
    rw[hJ];refine⟨.none,sp',w0.ne (by omega),f3.ne (by omega),w2.ne (by omega),f2.ne (by omega),w4.ne (by omega),At.self z5,?_⟩
    rcases f4 with h | ⟨k',h1,h2,h3⟩
    ·exact .inl h
    ·exact .inr ⟨k',h1,h2,h3.ne (by omega)⟩
   have g5:(hq++[X])[5]? = some (L false none):=a5.app.eq;simp only[ye,ya]at h184 f1;rw[hX]at hHQ g5 qn;have qn2:=qn.eq;rw[hHQ]at f1 qn2;have q4e:=q4.eq;rw[hHQ]at q4e;simp only[ye,z2e]at f1 qn2 g5 q4e;simp[y23,h184,↓g5,↓qn2,↓q4e,f1,fm,w5.eq,fin])
  obtain⟨rfl,e3⟩:=e2;exact⟨true,hp2,e1,fun _=>e3,fun h=>by cases h⟩) (hp:=[.cells (ye p).cellsL,.cells [.imm .exact []],.cells [dI 0],.cells [.imm .exact (Z.map dI)],.cells [.fn 191 [.loc 3 0,.loc 1 0]],L false none]) (by
   rw[hJ];exact⟨.exact,.exact,by simp[At],by rw[hS0];simp[At],by simp[At],by rw[hB0];simp[At],by simp[At],by simp[At],.inl rfl⟩)
 obtain⟨d,hp',h1,h2⟩:=key;rcases h2 with h2 | h2
 rotate_left
 ·exact h2.elim
 rw[hJ]at h2;obtain⟨sp0,sp,a0,a1,a2,a3,a4,a5,R⟩:=h2;refine⟨d,_,h1,.inl ⟨a5,?_⟩⟩;obtain⟨H,hH⟩:∃ H,H=hp'.set 5 Obj.dead:=⟨_,rfl⟩;have b1:=a1.ne (j:=5) (x:=Obj.dead) (by omega)
 have b2:=a2.ne (j:=5) (x:=Obj.dead) (by omega)
 rw[<- hH]at b1 b2;simp;rw[<- hH];have t2:∀ x,(H.set 1 x)[2]? = some (.cells [dI 0]):=fun x=>(b2.ne (by omega)).eq
 have t3:∀ x y,((H.set 1 x).set 2 y)[1]? = some x:=fun x y=>(At.ne (At.self b1.lt) (by omega)).eq
 have t4:∀ x y,((H.set 1 x).set 2 y)[2]? = some y:=fun x y=>(At.self (by rw[bq];exact b2.lt)).eq
 simp[a1.eq,b1.eq,b2.eq,↓t2,↓t3,↓t4,z3h]
def zcv{p:yj}{c:List y2b}(ok:OkP p)(C:OkC p c)(S:y19 p){i:Nat}(hi:i<p.vars.length) :
  y72 (i:Int) (y33 p c)=(y6r p).getD i 0:=by
 have hl:∀ x,x ∈ y3z p c->x.length=p.vars.length:=fun x hx=>by obtain⟨j,_,rfl⟩:=aL.1 hx;rw[z6k (z2j ok C S) (z4p ok C)];rfl
 unfold y33;rw[zkg (m:=p.vars.length) (by simp) hl hi]
 have e:y3z p c=(bD c.length).map (fun k=>y6r (y46 p c k))++[y6r p]:=by unfold y3z;rw[fk,bp,List.map_singleton,zfr (aj _)]
 rw[e];simp[af,List.getElem?_replicate];split <;> simp
def z9p{p:yj}{c:List y2b}(ok:OkP p)(C:OkC p c)(S:y19 p):∀ s,s ∈ y33 p c -> -1<=s.cause/\s.cause<c.length/\0<=s.vr/\s.vr<p.vars.length/\s.minutes ≠ 0:=by
 intro s hs;have:=zqi (m:=p.vars.length) (l:=y3z p c) (k:=0) (b:=ah p.vars.length 0) (fun x hx=>by
  obtain⟨j,_,rfl⟩:=aL.1 hx;rw[z6k (z2j ok C S) (z4p ok C)];rfl) hs
 have hl:(y3z p c).length=c.length+1:=by simp[y3z]
 rw[hl]at this;obtain⟨a,b,c',d,e⟩:=this;exact⟨by omega,by omega,c',d,e⟩
end Dv
namespace Dv
inductive CV where
 |mk (k n:Int) (s:List UInt8) (l:List CV)
abbrev dBy(l:List UInt8):D:=.imm .none (l.map yd)
mutual
def dV:CV->D
 |.mk k n s l=>.agg [dI k,dI n,.str s,.imm .none (dVs l)]
def dVs:List CV->List D
 |[]=>[]
 |v::l=>dV v::dVs l
end
def ztp:∀(l:List CV),dVs l=l.map dV
 |[]=>rfl
 |v::l=>by simp[dVs,ztp l]
def z3v{k n:Int}{s:List UInt8}{l:List CV}:dV (.mk k n s l)=.agg [dI k,dI n,.str s,.imm .none (l.map dV)]:=by rw[dV,ztp]
def num(u:Nat):List UInt8:=if h:u<128 then[cv u]else cv (u % 128+128)::num (u / 128)
termination_by u
decreasing_by omega
def zd3{u:Nat}(h:u<128):num u=[cv u]:=by rw[num,dif_pos h]
def zl1{u:Nat}(h : ¬ u<128):num u=cv (u % 128+128)::num (u / 128):=by rw[num,dif_neg h]
def uns(n:Int):Nat:=if 0<=n then 2*n.toNat else 2*(-(n+1)).toNat+1
def sgn(u:Nat):Int:=if u % 2=0 then(u / 2:Nat)else -((u / 2:Nat):Int) - 1
def zpw{n:Int}(h:i64 n):uns n<18446744073709551616:=by obtain⟨h1,h2⟩:=h;unfold uns;split <;> omega
def rdN:Nat->List UInt8->Option (Nat × List UInt8)
 |_,[]=>none
 |i,c::r=>if(i=0\/c ≠ 0)/\(i<9\/c.toNat<=1)then
   (if c.toNat<128 then some (c.toNat,r)else(rdN (i+1) r).map fun p=>(c.toNat - 128+128*p.1,p.2))
  else none
def zit{n:Nat}(h:n<256):(cv n).toNat=n:=by rw[lF];exact Nat.mod_eq_of_lt h
def yhv{u:Nat}:num u ≠ []:=by
 by_cases h:u<128
 ·rw[zd3 h];simp
 ·rw[zl1 h];simp
def zix{u:Nat}:1<=(num u).length:=by
 have:=yhv (u:=u);cases h:num u with
 |nil=>exact absurd h this
 |cons _ _=>simp
mutual
def enc:CV->List UInt8
 |.mk k n s l=>if k=1 then 1::num (uns n)else if k=2 then 2::(num s.length++s)else 3::(num l.length++y52 l)
def y52:List CV->List UInt8
 |[]=>[]
 |v::l=>enc v++y52 l
end
mutual
def fmd:CV->Prop
 |.mk k n s l=>(k=1/\i64 n/\s=[]/\l=[])\/(k=2/\n=0/\l=[])\/(k=3/\n=0/\s=[]/\yc5 l)
def yc5:List CV->Prop
 |[]=>True
 |v::l=>fmd v/\yc5 l
end
mutual
def dep:CV->Nat
 |.mk k _ _ l=>if k=3 then y7x l+1 else 0
def y7x:List CV->Nat
 |[]=>0
 |v::l=>Nat.max (dep v) (y7x l)
end
def yfd{v:CV}:1<=(enc v).length:=by
 cases v with
 |mk k n s l=>rw[enc];split <;> (try split) <;> simp
def zf9:∀(l:List CV),l.length<=(y52 l).length
 |[]=>by simp
 |v::l=>by have:=zf9 l;have:=yfd (v:=v);simp only[y52,ar,ao];omega
def z72:∀(a b:List CV),y52 (a++b)=y52 a++y52 b
 |[],b=>by simp[y52]
 |v::a,b=>by simp[y52,z72 a b]
def rdL(f:List UInt8->Option (CV × List UInt8)):Nat->List UInt8->Option (List CV × List UInt8)
 | 0,b=>some ([],b)
 |n+1,b=>match f b with
  |none=>none
  |some p=>match rdL f n p.2 with
   |none=>none
   |some q=>some (p.1::q.1,q.2)
def rdS(b:List UInt8):Option (Nat × List UInt8):=match rdN 0 b with
 |some p=>if p.1<=p.2.length then some p else none
 |none=>none
def rdV:Nat->List UInt8->Option (CV × List UInt8)
 |_,[]=>none
 | 0,c::r=>if c=1 then(rdN 0 r).map fun p=>(.mk 1 (sgn p.1) [] [],p.2)
  else if c=2 then(rdS r).map fun p=>(.mk 2 0 (p.2.take p.1) [],p.2.drop p.1)
  else none
 |d+1,c::r=>if c=1 then(rdN 0 r).map fun p=>(.mk 1 (sgn p.1) [] [],p.2)
  else if c=2 then(rdS r).map fun p=>(.mk 2 0 (p.2.take p.1) [],p.2.drop p.1)
  else if c=3 then(rdS r).bind fun p=>(rdL (rdV d) p.1 p.2).map fun q=>(.mk 3 0 [] q.1,q.2)
  else none
end Dv
namespace Dv
structure Ent where
 kind:Int
 idx:Int
 amt:Int
deriving DecidableEq
structure Pst where
 no:Int
 minute:Int
 corrects:Int
 ents:List Ent
 prev:List UInt8
deriving DecidableEq
abbrev y2v(e:Ent):D:=.agg [dI e.kind,dI e.idx,dI e.amt]
abbrev y56(p:Pst):D:=.agg (dI p.no::dI p.minute::dI p.corrects :: .imm .none (p.ents.map y2v)::p.prev.map yd)
abbrev y1t(l:List Pst):D:=.imm .none (l.map y56)
abbrev yag(d:List UInt8):D:=.agg (d.map yd)
def ltA(a b:Ent):Prop:=a.kind<b.kind\/a.kind=b.kind/\a.idx<b.idx
instance(a b:Ent):Decidable (ltA a b):=inferInstanceAs (Decidable (_\/_))
def y76(x:Ent):Prop:=(1<=x.kind/\x.kind<=5)/\(-1<=x.idx/\x.idx<=4095)/\x.amt ≠ 0 /\ -1099511627776<=x.amt/\x.amt<=1099511627776
instance(x:Ent):Decidable (y76 x):=inferInstanceAs (Decidable (_/\_))
def yjp(l:List Ent):Prop:=∀ i,∀ h:i+1<l.length,ltA l[i] l[i+1]
def y3i:List Ent->Int
 |[]=>0
 |x::l=>x.amt+y3i l
def z4t(a b:List Ent):y3i (a++b)=y3i a+y3i b:=by
 induction a with
 |nil=>simp[y3i]
 |cons x a ih=>simp only[aG,y3i,ih];omega
structure fmE(l:List Ent):Prop where
 two:2<=l.length
 most:l.length<=4096
 ok:∀ x,x ∈ l->y76 x
 ord:yjp l
structure fmP(p:Pst):Prop where
 no:0<=p.no/\p.no<65536
 minute:0<=p.minute/\p.minute<1440
 corrects : -1<=p.corrects/\p.corrects<p.no
 ents:fmE p.ents
open Classical in
noncomputable def y6z(p:Pst):Int:=if fmP p then(if y3i p.ents=0 then 0 else 411)else 410
structure gdP(p:Pst):Prop where
 fm:fmP p
 sum:y3i p.ents=0
def z4j{p:Pst}:y6z p=0 ↔ gdP p:=by
 unfold y6z;constructor
 ·intro h;split at h
  ·rename_i h1;split at h
   ·rename_i h2;exact⟨h1,h2⟩
   ·simp at h
  ·simp at h
 ·rintro⟨h1,h2⟩;rw[if_pos h1,if_pos h2]
def cI(n:Int):CV:=.mk 1 n [] []
def cL(l:List CV):CV:=.mk 3 0 [] l
def cT(s:List UInt8):CV:=.mk 2 0 s []
def y70(x:Ent):CV:=cL [cI x.kind,cI x.idx,cI x.amt]
def ybj(p:Pst):CV:=cL [cI p.no,cI p.minute,cI p.corrects,cL (p.ents.map y70),cT p.prev]
def ya7(p:Pst):List UInt8:=enc (ybj p)
def z8p{n:Int}(h:i64 n):fmd (cI n):=by unfold cI;rw[fmd];exact .inl ⟨rfl,h,rfl,rfl⟩
def zx5{s:List UInt8}:fmd (cT s):=by unfold cT;rw[fmd];exact .inr (.inl ⟨rfl,rfl,rfl⟩)
def zf5{l:List CV}(h:yc5 l):fmd (cL l):=by unfold cL;rw[fmd];exact .inr (.inr ⟨rfl,rfl,rfl,h⟩)
def z9z:∀{l:List CV},(∀ v,v ∈ l->fmd v)->yc5 l
 |[],_=>by rw[yc5];trivial
 |v::l,h=>by rw[yc5];exact⟨h v (by simp),z9z fun w hw=>h w (by simp[hw])⟩
def zfb{n:Int}:dep (cI n)=0:=by unfold cI;rw[dep,if_neg (by decide)]
def zxp{s:List UInt8}:dep (cT s)=0:=by unfold cT;rw[dep,if_neg (by decide)]
def zfa{l:List CV}:dep (cL l)=y7x l+1:=by unfold cL;rw[dep,if_pos rfl]
def zfc{n:Nat}:∀{l:List CV},(∀ v,v ∈ l->dep v<=n)->y7x l<=n
 |[],_=>by rw[y7x];omega
 |v::l,h=>by rw[y7x];exact Nat.max_le.2 ⟨h v (by simp),zfc fun w hw=>h w (by simp[hw])⟩
structure yjs(p:Pst):Prop where
 no:i64 p.no
 minute:i64 p.minute
 corrects:i64 p.corrects
 ents:∀ x,x ∈ p.ents->i64 x.kind/\i64 x.idx/\i64 x.amt
def zsd{p:Pst}(h:fmP p):yjs p:=by
 obtain⟨h1,h2,h3,h4⟩:=h;refine⟨⟨by omega,by omega⟩,⟨by omega,by omega⟩,⟨by omega,by omega⟩,fun x hx=>?_⟩
 obtain⟨a,b,c,d⟩:=h4.ok x hx;exact⟨⟨by omega,by omega⟩,⟨by omega,by omega⟩,⟨by omega,by omega⟩⟩
def zsw{x:Ent}(h:i64 x.kind/\i64 x.idx/\i64 x.amt):fmd (y70 x):=by
 unfold y70;refine zf5 (z9z fun v hv=>?_)
 simp only[aA,fJ,or_false]at hv;rcases hv with rfl | rfl | rfl
 ·exact z8p h.1
 ·exact z8p h.2.1
 ·exact z8p h.2.2
def yfa{p:Pst}(h:yjs p):fmd (ybj p):=by
 unfold ybj;refine zf5 (z9z fun v hv=>?_)
 simp only[aA,fJ,or_false]at hv;rcases hv with rfl | rfl | rfl | rfl | rfl
 ·exact z8p h.no
 ·exact z8p h.minute
 ·exact z8p h.corrects
 ·refine zf5 (z9z fun v hv=>?_)
  obtain⟨x,hx,rfl⟩:=aL.1 hv;exact zsw (h.ents x hx)
 ·exact zx5
def ztn{x:Ent}:dep (y70 x)=1:=by unfold y70;rw[zfa];simp[y7x,zfb]
def yfi{p:Pst}:dep (ybj p)<=3:=by
 unfold ybj;rw[zfa];have:y7x [cI p.no,cI p.minute,cI p.corrects,cL (p.ents.map y70),cT p.prev]<=2:=by
  refine zfc fun v hv=>?_
  simp only[aA,fJ,or_false]at hv;rcases hv with rfl | rfl | rfl | rfl | rfl
  ·rw[zfb];omega
  ·rw[zfb];omega
  ·rw[zfb];omega
  ·rw[zfa];have:y7x (p.ents.map y70)<=1:=zfc fun v hv=>by obtain⟨x,_,rfl⟩:=aL.1 hv;rw[ztn];omega
   omega
  ·rw[zxp];omega
 omega
def zaz{u:Nat}(h:u<18446744073709551616):(num u).length<=11:=by
 have key:∀(k u:Nat),u<2 ^ (7*k)->(num u).length<=k+1:=by
  intro k
  induction k with
  |zero=>intro u h;rw[zd3 (by omega)];simp
  |succ k ih=>
   intro u h
   by_cases h1:u<128
   ·rw[zd3 h1];simp
   ·rw[zl1 h1];have:=ih (u / 128) (by
     rw[kq (by decide),show(128:Nat)=2 ^ 7 from rfl,<- p5]
     rwa [show 7*k+7=7*(k+1)from by omega])
    simp;omega
 have:(18446744073709551616:Nat)<=2 ^ (7*10):=by decide
 exact key 10 u (by omega)
def yfe{n:Int}:enc (cI n)=1::num (uns n):=by unfold cI;rw[enc,if_pos rfl]
def zxi{s:List UInt8}:enc (cT s)=2::(num s.length++s):=by unfold cT;rw[enc,if_neg (by decide),if_pos rfl]
def zf8{l:List CV}:enc (cL l)=3::(num l.length++y52 l):=by unfold cL;rw[enc,if_neg (by decide),if_neg (by decide)]
def z6j{n:Int}(h:i64 n):(enc (cI n)).length<=12:=by rw[yfe];have:=zaz (zpw h);simp;omega
def ztg{n:Nat}:∀{l:List CV},(∀ v,v ∈ l->(enc v).length<=n)->(y52 l).length<=l.length*n
 |[],_=>by simp[y52]
 |v::l,h=>by
  have h1:=h v (by simp)
  have h2:=ztg (l:=l) fun w hw=>h w (by simp[hw])
  simp only[y52,ao,ar,br];omega
def zxk{x:Ent}(h:i64 x.kind/\i64 x.idx/\i64 x.amt):(enc (y70 x)).length<=48:=by
 unfold y70;rw[zf8];have h1:=z6j h.1;have h2:=z6j h.2.1;have h3:=z6j h.2.2;have h4:=zaz (u:=3) (by omega)
 simp[y52]at h1 h2 h3 h4 ⊢;omega
def zlz{p:Pst}(h:yjs p)(hn:p.ents.length<=1000000)(hp:p.prev.length<=1000000):(ya7 p).length<=48*p.ents.length+p.prev.length+100:=by
 unfold ya7 ybj;rw[zf8];have h1:=z6j h.no;have h2:=z6j h.minute;have h3:=z6j h.corrects;have h4:=zaz (u:=5) (by omega)
 have h5:(enc (cL (p.ents.map y70))).length<=48*p.ents.length+12:=by
  rw[zf8];have:=zaz (u:=(p.ents.map y70).length) (by simp;omega)
  have h6:=ztg (n:=48) (l:=p.ents.map y70) fun v hv=>by obtain⟨x,hx,rfl⟩:=aL.1 hv;exact zxk (h.ents x hx)
  simp at this h6 ⊢;omega
 have h7:(enc (cT p.prev)).length<=p.prev.length+12:=by
  rw[zxi];have:=zaz (u:=p.prev.length) (by omega)
  simp;omega
 simp only[ar,ao,y52,aY,Nat.reduceAdd]at h4 ⊢;omega
abbrev Tag:=List UInt8->List UInt8->List UInt8
def y5n:List UInt8:=[112,111,115,116,105,110,103,115]
def y4c:List UInt8:=[112,111,115,116,105,110,103]
def yj2:List UInt8:=[99,104,97,105,110]
def y7h(tg:Tag):List UInt8:=tg y5n []
def yiw(tg:Tag)(a b:List UInt8):List UInt8:=tg yj2 (a++b)
def ydo(tg:Tag)(d:List UInt8)(p:Pst):List UInt8:=yiw tg d (tg y4c (ya7 p))
def y6s(tg:Tag)(l:List Pst):List UInt8:=l.foldl (ydo tg) (y7h tg)
def ztm{tg:Tag}{l:List Pst}{p:Pst}:y6s tg (l++[p])=ydo tg (y6s tg l) p:=by simp[y6s]
def ztl{tg:Tag}{l:List Pst}{i:Nat}(h:i<l.length):y6s tg (l.take (i+1))=ydo tg (y6s tg (l.take i)) l[i]:=by rw[aN h,ztm]
structure atP(tg:Tag)(l:List Pst)(i:Nat)(p:Pst):Prop where
 no:p.no=i
 prev:p.prev=y6s tg (l.take i)
 minute:∀ j q,j+1=i->l[j]? = some q->q.minute<=p.minute
def vld(tg:Tag)(l:List Pst):Prop:=l.length<=65536/\(∀ p,p ∈ l->gdP p) /\ ∀ i p,l[i]? = some p->atP tg l i p
open Classical in
noncomputable def y35:List Pst->Int
 |[]=>0
 |p::l=>if y6z p=0 then y35 l else y6z p
open Classical in
noncomputable def rdE(tg:Tag)(l:List Pst):Int:=if 65536<l.length then 2 else if y35 l ≠ 0 then y35 l else if vld tg l then 0 else 410
def z5c:∀{l:List Pst},y35 l=0 ↔ ∀ p,p ∈ l->gdP p
 |[]=>by simp[y35]
 |p::l=>by
  simp only[y35,aA,forall_eq_or_imp];split
  ·rename_i h;rw[z5c];exact⟨fun h2=>⟨z4j.1 h,h2⟩,fun h2=>h2.2⟩
  ·rename_i h;exact⟨fun h2=>absurd h2 h,fun h2=>absurd (z4j.2 h2.1) h⟩
def z27{tg:Tag}{l:List Pst}:rdE tg l=0 ↔ vld tg l:=by
 unfold rdE;constructor
 ·intro h;split at h
  ·simp at h
  ·split at h
   ·rename_i h2;exact absurd h h2
   ·split at h
    ·assumption
    ·simp at h
 ·intro h;rw[if_neg (by have:=h.1;omega),if_neg (by simp only[ne_eq,fX];exact z5c.2 h.2.1),if_pos h]
def yd7{tg:Tag}:vld tg []:=⟨by simp,by simp,by simp⟩
def zva{tg:Tag}{l:List Pst}{p:Pst}(h:vld tg l)(hl:l.length<65536)(g:gdP p)(hno:p.no=l.length)(hprev:p.prev=y6s tg l)(hm:∀ q,l.getLast? = some q->q.minute<=p.minute):vld tg (l++[p]):=by
 refine⟨by simp;omega,fun q hq=>?_,fun i q hi=>?_⟩
 ·rcases aB.1 hq with hq | hq
  ·exact h.2.1 q hq
  ·simp at hq;subst hq;exact g
 ·rw[List.getElem?_append]at hi;split at hi
  ·rename_i hlt;obtain⟨a,b,c⟩:=h.2.2 i q hi;refine⟨a,?_,fun j r hj hr=>c j r hj ?_⟩
   ·rw[bN (by omega)];exact b
   ·rw[aD (by omega)]at hr;exact hr
  ·rename_i hge;have hi0:i=l.length:=by have:=(List.getElem?_eq_some_iff.1 hi).1;simp at this;omega
   subst hi0;simp at hi;subst hi;refine⟨hno,?_,fun j r hj hr=>hm r ?_⟩
   ·rw[bN (aj _),bh];exact hprev
   ·rw[aD (by omega)]at hr
    rw[List.getLast?_eq_getElem?,<- hr];congr 1;omega
structure Stp where
 minute:Int
 corrects:Int
 ents:List Ent
def y8a(tg:Tag)(l:List Pst)(s:Stp):Pst:=⟨l.length,s.minute,s.corrects,s.ents,y6s tg l⟩
open Classical in
noncomputable def y4s(tg:Tag)(l:List Pst)(s:Stp):Int:=
 if rdE tg l ≠ 0 then rdE tg l else if l.length=65536 then 2 else if ∃ q,l.getLast? = some q/\s.minute<q.minute then 410 else y6z (y8a tg l s)
def zvt{tg:Tag}{l:List Pst}{s:Stp}(h:y4s tg l s=0):vld tg l/\l.length<65536/\vld tg (l++[y8a tg l s])/\(∀ q,l.getLast? = some q->q.minute<=s.minute)/\gdP (y8a tg l s):=by
 unfold y4s at h;split at h
 ·rename_i h1;exact absurd h h1
 ·rename_i h1;have v:=z27.1 (fX.1 h1);split at h
  ·simp at h
  ·rename_i h2;have hl:l.length<65536:=by have:=v.1;omega
   split at h
   ·simp at h
   ·rename_i h3;have hm:∀ q,l.getLast? = some q->q.minute<=s.minute:=fun q hq=>by
     rcases Int.lt_or_le s.minute q.minute with h4 | h4
     ·exact absurd ⟨q,hq,h4⟩ h3
     ·exact h4
    have g:=z4j.1 h;exact⟨v,hl,zva v hl g rfl rfl hm,hm,g⟩
def zgs{tg:Tag}{l:List Pst}{s:Stp}(v:vld tg l)(hl:l.length<65536)(hm:∀ q,l.getLast? = some q->q.minute<=s.minute):y4s tg l s=y6z (y8a tg l s):=by
 unfold y4s;rw[if_neg (by simp[z27.2 v]),if_neg (by omega),if_neg]
 rintro⟨q,h1,h2⟩;have:=hm q h1;omega
def yz(k i:Int):List Ent->Int
 |[]=>0
 |x::l=>(if x.kind=k/\x.idx=i then x.amt else 0)+yz k i l
def y4q(k i m:Int):List Pst->Int
 |[]=>0
 |p::l=>(if p.minute<=m then yz k i p.ents else 0)+y4q k i m l
def z49{k i:Int}(a b:List Ent):yz k i (a++b)=yz k i a+yz k i b:=by
 induction a with
 |nil=>simp[yz]
 |cons x a ih=>simp only[aG,yz,ih];omega
def zk2{k i m:Int}(a b:List Pst):y4q k i m (a++b)=y4q k i m a+y4q k i m b:=by
 induction a with
 |nil=>simp[y4q]
 |cons x a ih=>simp only[aG,y4q,ih];omega
end Dv
namespace Dv
def ze7{A:Type}:∀(l:List A),(l.map fun _=>(0:Int)).sum=0
 |[]=>rfl
 |_::l=>by rw[al,cH,ze7 l];rfl
def zkl:∀(l:List Ent) (A:List (Int × Int)),A.Nodup->(∀ x,x ∈ l->(x.kind,x.idx) ∈ A)->(A.map fun a=>yz a.1 a.2 l).sum=y3i l
 |[],A,_,_=>by
  have:(A.map fun a=>yz a.1 a.2 [])=A.map fun _=>0:=rfl
  rw[this,ze7]
  rfl
 |x::l,A,nd,h=>by
  have ih:=zkl l A nd fun y hy=>h y (by simp[hy])
  have key:∀(A:List (Int × Int)),A.Nodup->(A.map fun a=>yz a.1 a.2 (x::l)).sum=(if(x.kind,x.idx) ∈ A then x.amt else 0)+(A.map fun a=>yz a.1 a.2 l).sum:=by
   intro A
   induction A with
   |nil=>intro _;simp
   |cons a A iha=>
    intro nd;obtain⟨n1,n2⟩:=de.1 nd;have i2:=iha n2;have ha:yz a.1 a.2 (x::l)=(if x.kind=a.1/\x.idx=a.2 then x.amt else 0)+yz a.1 a.2 l:=rfl
    rw[al,cH,i2,al,cH,ha];simp only[aA]
    by_cases e:x.kind=a.1/\x.idx=a.2
    ·have e2:(x.kind,x.idx)=a:=by rw[e.1,e.2]
     have e3 : ¬ (x.kind,x.idx) ∈ A:=by rw[e2];exact n1
     rw[if_pos e,if_neg e3,if_pos (.inl e2)];omega
    ·have e2 : ¬ (x.kind,x.idx)=a:=fun h=>e (by rw[<- h];exact⟨rfl,rfl⟩)
     rw[if_neg e]
     by_cases e3:(x.kind,x.idx) ∈ A
     ·rw[if_pos e3,if_pos (.inr e3)];omega
     ·rw[if_neg e3,if_neg (by rintro(h | h);exact e2 h;exact e3 h)];omega
  rw[key A nd,if_pos (h x (by simp)),ih]
  rfl
def yb6(l:List Pst):List (Int × Int):=l.flatMap fun p=>p.ents.map fun x=>(x.kind,x.idx)
def zyk(m:Int):∀(l:List Pst) (A:List (Int × Int)),A.Nodup->(∀ a,a ∈ yb6 l->a ∈ A)->(∀ p,p ∈ l->y3i p.ents=0)->(A.map fun a=>y4q a.1 a.2 m l).sum=0
 |[],A,_,_,_=>by
  have:(A.map fun a=>y4q a.1 a.2 m [])=A.map fun _=>0:=rfl
  rw[this,ze7]
 |p::l,A,nd,h,hz=>by
  have ih:=zyk m l A nd (fun a ha=>h a (by simp only[yb6,bm,aB];exact .inr ha)) fun q hq=>hz q (by simp[hq])
  have h1:=zkl p.ents A nd fun x hx=>h _ (by simp only[yb6,bm,aB];exact .inl (aL.2 ⟨x,hx,rfl⟩))
  rw[hz p (by simp)]at h1
  have h2:∀ A:List (Int × Int),(A.map fun a=>y4q a.1 a.2 m (p::l)).sum=(if p.minute<=m then(A.map fun a=>yz a.1 a.2 p.ents).sum else 0)+(A.map fun a=>y4q a.1 a.2 m l).sum:=by
   intro A
   induction A with
   |nil=>simp
   |cons a A iha=>
    have ha:y4q a.1 a.2 m (p::l)=(if p.minute<=m then yz a.1 a.2 p.ents else 0)+y4q a.1 a.2 m l:=rfl
    rw[al,cH,iha,al,cH,al,cH,ha];split <;> omega
  rw[h2,ih,h1];split <;> rfl
def zdw{k i:Int}:∀{l:List Ent},(k,i) ∉ l.map (fun x=>(x.kind,x.idx))->yz k i l=0
 |[],_=>rfl
 |x::l,h=>by simp only[al,aA,not_or]at h;simp only[yz];rw[if_neg (fun e=>h.1 (by rw[e.1,e.2])),zdw h.2];rfl
def zht{k i m:Int}:∀{l:List Pst},(k,i) ∉ yb6 l->y4q k i m l=0
 |[],_=>rfl
 |p::l,h=>by simp only[yb6,bm,aB,not_or]at h;simp only[y4q];rw[zdw h.1,zht h.2];split <;> rfl
end Dv
namespace Dv
def y1i:List (Int × Int)->List (Int × Int)
 |[]=>[]
 |[x]=>[x]
 |x::y::r=>if x=y then y1i (y::r)else x::y1i (y::r)
def zbu:∀{l:List (Int × Int)} {a:Int × Int},a ∈ y1i l ↔ a ∈ l
 |[],a=>by simp[y1i]
 |[x],a=>by simp[y1i]
 |x::y::r,a=>by
  have ih:=zbu (l:=y::r) (a:=a);unfold y1i;split
  ·rename_i e;rw[ih];subst e;simp
  ·rw[aA,ih];simp
def zm5:∀{l:List (Int × Int)},l ≠ []->y1i l ≠ []
 |[],h=>absurd rfl h
 |[x],_=>by simp[y1i]
 |x::y::r,_=>by
  unfold y1i;split
  ·exact zm5 (by simp)
  ·simp
def zor:∀{l:List (Int × Int)},(y1i l).getLast? = l.getLast?
 |[]=>rfl
 |[x]=>rfl
 |x::y::r=>by
  have ih:=zor (l:=y::r);unfold y1i;split
  ·rw[ih];simp
  ·have hne:=zm5 (l:=y::r) (by simp)
   obtain⟨z,zs,hz⟩:=List.exists_cons_of_ne_nil hne;rw[hz]at ih ⊢;rw[jF,ih];simp
def zdm:∀{l:List (Int × Int)} {a:Int × Int},y1i (l++[a])=if l.getLast? = some a then y1i l else y1i l++[a]
 |[],a=>by simp[y1i]
 |[x],a=>by
  simp only[aG,bn,y1i,List.getLast?_singleton,aa];split
  ·rename_i e;rw[e]
  ·rfl
 |x::y::r,a=>by
  have ih:=zdm (l:=y::r) (a:=a);have e:(x::y::r).getLast? = (y::r).getLast?:=jF;rw[e];simp only[aG]at ih ⊢
  conv=>lhs;unfold y1i
  conv=>rhs;unfold y1i
  rw[ih];split
  ·rfl
  ·split <;> rfl
def z60:∀{l:List (Int × Int)},(y1i l).length<=l.length
 |[]=>by simp[y1i]
 |[x]=>by simp[y1i]
 |x::y::r=>by
  have ih:=z60 (l:=y::r);unfold y1i;split
  ·simp at ih ⊢;omega
  ·simp at ih ⊢;omega
def zaw{x y z:Int × Int}(h:y44 x y=true)(h':y44 y z=true):y44 x z=true:=by unfold y44 at *;simp at *;omega
def z6c{x:Int × Int}:y44 x x=false:=by unfold y44;simp
def z7l{x y:Int × Int}(h:y44 y x=false):x=y\/y44 x y=true:=by
 unfold y44 at *
 simp at *
 by_cases e:x=y
 ·exact .inl e
 ·right;have : ¬ (x.1=y.1/\x.2=y.2):=fun h=>e (jA h.1 h.2)
  omega
def z9i:∀{l:List (Int × Int)},l.Pairwise (fun x y=>y44 y x=false)->(y1i l).Pairwise fun x y=>y44 x y=true
 |[],_=>by simp[y1i]
 |[x],_=>by simp[y1i]
 |x::y::r,h=>by
  obtain⟨h1,h2⟩:=cJ.1 h;have ih:=z9i h2;unfold y1i;split
  ·exact ih
  ·rename_i hne;refine cJ.2 ⟨fun z hz=>?_,ih⟩
   have hz':=zbu.1 hz;have hxy:=(z7l (h1 y (by simp))).resolve_left hne
   rcases aA.1 hz' with rfl | hz'
   ·exact hxy
   ·rcases z7l ((cJ.1 h2).1 z hz')with rfl | h3
    ·exact hxy
    ·exact zaw hxy h3
def z4h(l:List (Int × Int)):(y1u l).Perm l:=List.mergeSort_perm l _
def zgp{l:List (Int × Int)}{a:Int × Int}:a ∈ y1u l ↔ a ∈ l:=(z4h l).mem_iff
def z30(l:List (Int × Int)):(y1u l).length=l.length:=(z4h l).length_eq
def z9a(l:List (Int × Int)):(y1u l).Pairwise fun x y=>y44 y x=false:=by
 have h:=List.pairwise_mergeSort (le:=fun x y:Int × Int=>!y44 y x) (fun a b c h1 h2=>by
  unfold y44 at *;simp at *;omega) (fun a b=>by
  unfold y44;simp;omega) l
 exact h.imp fun h=>by simpa using h
def y91(l:List Pst):List (Int × Int):=y1i (y1u (yb6 l))
def zz0{l:List Pst}{a:Int × Int}:a ∈ y91 l ↔ a ∈ yb6 l:=by unfold y91;rw[zbu,zgp]
def zk8(l:List Pst):(y91 l).Pairwise fun x y=>y44 x y=true:=z9i (z9a _)
def zp8(l:List Pst):(y91 l).Nodup:=(zk8 l).imp fun {a b} h e=>by subst e;rw[z6c]at h;simp at h
def zuy{l:List Pst}{k i m:Int}(h:(k,i) ∉ y91 l):y4q k i m l=0:=zht fun h2=>h (zz0.2 h2)
def zme:∀{l:List Ent} {k i:Int},(∀ x,x ∈ l->y76 x) -> -(1099511627776*l.length:Int)<=yz k i l/\yz k i l<=1099511627776*l.length
 |[],k,i,_=>by simp[yz]
 |x::l,k,i,h=>by
  have ih:=zme (l:=l) (k:=k) (i:=i) fun y hy=>h y (by simp[hy])
  have hx:=(h x (by simp)).2.2.2
  simp only[yz,ar];split <;> omega
def y4o:List Pst->Nat
 |[]=>0
 |p::l=>p.ents.length+y4o l
def zjq(a b:List Pst):y4o (a++b)=y4o a+y4o b:=by
 induction a with
 |nil=>simp[y4o]
 |cons x a ih=>simp only[aG,y4o,ih];omega
def zfm:∀(l:List Pst),(yb6 l).length=y4o l
 |[]=>rfl
 |p::l=>by have:=zfm l;simp only[yb6,bm,ao,aF,y4o]at this ⊢;omega
def zuk:∀{l:List Pst} {k i m:Int},(∀ p,p ∈ l->∀ x,x ∈ p.ents->y76 x) -> -(1099511627776*y4o l:Int)<=y4q k i m l/\y4q k i m l<=1099511627776*y4o l
 |[],k,i,m,_=>by simp[y4q,y4o]
 |p::l,k,i,m,h=>by
  have ih:=zuk (l:=l) (k:=k) (i:=i) (m:=m) fun q hq=>h q (by simp[hq])
  have hp:=zme (k:=k) (i:=i) (h p (by simp))
  simp only[y4q,y4o];split <;> omega
end Dv
namespace Dv
def yc2(x:Ent):Ent:=⟨x.kind,x.idx,-x.amt⟩
def y5w(l:List Ent):List Ent:=l.map yc2
def zet(l:List Ent):(y5w l).length=l.length:=aF _
def zkk:∀(l:List Ent),y3i (y5w l) = -y3i l
 |[]=>rfl
 |x::l=>by have:=zkk l;simp only[y5w,al,y3i]at this ⊢;rw[this];simp[yc2];omega
def zhx{k i:Int}:∀(l:List Ent),yz k i (y5w l) = -yz k i l
 |[]=>rfl
 |x::l=>by have:=zhx (k:=k) (i:=i) l;simp only[y5w,al,yz]at this ⊢;rw[this];simp only[yc2];split <;> omega
end Dv
namespace Dv
abbrev Key:=Int × Int
abbrev y3y:=List (Key × Int)
def y3t(a:Key):y3y->Option Int
 |[]=>none
 |e::r=>if a=e.1 then some e.2 else y3t a r
def y26(a:Key)(m:y3y):Int:=(y3t a m).getD 0
def y83(a:Key)(n:Int):y3y->y3y
 |[]=>[(a,n)]
 |e::r=>if a=e.1 then(a,n)::r else e::y83 a n r
def ybu(a:Key)(n:Int)(m:y3y):y3y:=y83 a (y26 a m+n) m
def y1y(m:y3y):List Key:=m.map fun e=>e.1
def y6a(m:y3y):List Key->List Ent
 |[]=>[]
 |a::r=>if y26 a m=0 then y6a m r else⟨a.1,a.2,y26 a m⟩::y6a m r
def yaz(m:y3y):List Ent:=y6a m (y1u (y1y m))
def zl8{a b:Key}{n:Int}:∀{m:y3y},y3t b (y83 a n m)=if b=a then some n else y3t b m
 |[]=>by simp[y83,y3t]
 |e::r=>by
  have ih:=zl8 (a:=a) (b:=b) (n:=n) (m:=r);unfold y83
  by_cases h:a=e.1
  ·rw[if_pos h]
   by_cases h2:b=a
   ·simp[y3t,h2]
   ·have : ¬ b=e.1:=fun h3=>h2 (h3.trans h.symm)
    simp[y3t,h2,this]
  ·rw[if_neg h];unfold y3t;rw[ih]
   by_cases h2:b=e.1
   ·have : ¬ b=a:=fun h3=>h (h3.symm.trans h2)
    rw[if_pos h2,if_neg this,if_pos h2]
   ·rw[if_neg h2,if_neg h2]
def znn{a b:Key}{n:Int}{m:y3y}:y26 b (ybu a n m)=y26 b m+if a=b then n else 0:=by
 unfold ybu y26;rw[zl8]
 by_cases h:b=a
 ·subst h;simp
 ·have : ¬ a=b:=fun e=>h e.symm
  simp[h,this]
def z9w{a:Key}{n:Int}:∀{m:y3y},y1y (y83 a n m)=if a ∈ y1y m then y1y m else y1y m++[a]
 |[]=>rfl
 |e::r=>by
  have ih:=z9w (a:=a) (n:=n) (m:=r);unfold y83
  by_cases h:a=e.1
  ·rw[if_pos h,if_pos (by simp[y1y,h])]
   simp[y1y,h]
  ·rw[if_neg h];have e2:∀(x:Key × Int) (q:y3y),y1y (x::q)=x.1::y1y q:=fun _ _=>rfl
   rw[e2,e2,ih]
   by_cases hm:a ∈ y1y r
   ·rw[if_pos hm,if_pos (List.mem_cons_of_mem _ hm)]
   ·rw[if_neg hm,if_neg (by simp[h,hm])];rfl
def zr6{a:Key}{n:Int}{m:y3y}(h:(y1y m).Nodup):(y1y (y83 a n m)).Nodup:=by
 rw[z9w];split
 ·exact h
 ·rename_i h2;rw[List.nodup_append];refine⟨h,by simp,fun x hx y hy e=>?_⟩
  simp only[bz]at hy;subst hy;subst e;exact h2 hx
def zh1{a:Key}:∀{m:y3y},a ∉ y1y m->y3t a m=none
 |[],_=>rfl
 |e::r,h=>by simp only[y1y,al,aA,not_or]at h;unfold y3t;rw[if_neg h.1];exact zh1 h.2
def yek{a:Key}{n:Int}{m:y3y}:(y83 a n m).length<=m.length+1:=by
 have h:=congrArg cQ (z9w (a:=a) (n:=n) (m:=m))
 by_cases hm:a ∈ y1y m
 ·rw[if_pos hm]at h;simp only[y1y,aF]at h;omega
 ·rw[if_neg hm]at h;simp only[y1y,aF,ao,ar,aY]at h;omega
def y4x(x:Ent):Key:=(x.kind,x.idx)
def y4j(l:List Ent):Prop:=(l.map y4x).Pairwise fun a b=>y44 a b=true
def zir{a b:Key}:y44 a b=true ↔ a.1<b.1\/a.1=b.1/\a.2<b.2:=by unfold y44;simp
def zgf{l:List Ent}:y4j l ↔ yjp l:=by
 constructor
 ·intro h i hi;have:=fw.1 h i (i+1) (by simp;omega) (by simpa using hi) (by omega)
  simp only[fH]at this;exact zir.1 this
 ·intro h;have key:∀(d i:Nat) (hi:i+d+1<l.length),y44 (y4x (l[i]'(by omega))) (y4x l[i+d+1])=true:=by
   intro d
   induction d with
   |zero=>intro i hi;exact zir.2 (h i hi)
   |succ d ih=>
    intro i hi;have h1:=ih i (by omega)
    have h2:y44 (y4x (l[i+d+1]'(by omega))) (y4x l[i+d+1+1])=true:=zir.2 (h (i+d+1) (by omega))
    exact zaw h1 h2
  refine fw.2 fun i j hi hj hij=>?_
  have hj2:j<l.length:=by simpa using hj
  simp only[fH];have:=key (j - i - 1) i (by omega)
  have e:i+(j - i - 1)+1=j:=by omega
  simp only[e]at this;exact this
def z89{k i:Int}:∀{l:List Ent},(k,i) ∉ l.map y4x->yz k i l=0
 |[],_=>rfl
 |x::l,h=>by simp only[al,aA,not_or]at h;simp only[yz];rw[if_neg fun e=>h.1 (by unfold y4x;rw[e.1,e.2]),z89 h.2];rfl
def z68{x:Ent}{l:List Ent}:y4j (x::l) ↔ (∀ a,a ∈ l.map y4x->y44 (y4x x) a=true)/\y4j l:=by unfold y4j;rw[al,cJ]
def z3i{x:Ent}{l:List Ent}(h:y4j (x::l)):yz x.kind x.idx (x::l)=x.amt:=by
 simp only[yz,and_self,if_true];rw[z89 fun hm=>by
  have:=(z68.1 h).1 _ hm;rw[show y4x x=(x.kind,x.idx)from rfl,z6c]at this;cases this]
 omega
def ztc:∀{l l':List Ent},y4j l->y4j l'->(∀ e,e ∈ l->e.amt ≠ 0)->(∀ e,e ∈ l'->e.amt ≠ 0)->(∀ k i,yz k i l=yz k i l')->l=l'
 |[],[],_,_,_,_,_=>rfl
 |[],e::r,_,o,_,n,h=>by have:=h e.kind e.idx;rw[z3i o]at this;exact absurd this.symm (n e (by simp))
 |e::r,[],o,_,n,_,h=>by have:=h e.kind e.idx;rw[z3i o]at this;exact absurd this (n e (by simp))
 |e::r,f::s,o,o',n,n',h=>by
  have low:∀{x:Ent} {t:List Ent} {a:Ent},y4j (x::t)->y44 (y4x a) (y4x x)=true->yz a.kind a.idx (x::t)=0:=fun {x t a} ho hl=>by
   refine z89 fun hm=>?_
   have hm:y4x a ∈ (x::t).map y4x:=hm;rw[al]at hm;rcases aA.1 hm with he | hy
   ·rw[he,z6c]at hl;cases hl
   ·have:=zaw hl ((z68.1 ho).1 _ hy);rw[z6c]at this;cases this
  have ha:y4x e=y4x f:=by
   by_cases h1:y44 (y4x e) (y4x f)=true
   ·have:=h e.kind e.idx;rw[z3i o,low o' h1]at this;exact absurd this (n e (by simp))
   ·rcases z7l (by simpa using h1)with h2 | h2
    ·exact h2.symm
    ·have:=h f.kind f.idx;rw[z3i o',low o h2]at this;exact absurd this.symm (n' f (by simp))
  have h1:e.kind=f.kind/\e.idx=f.idx:=by simpa[y4x]using ha
  have hm:e.amt=f.amt:=by have:=h e.kind e.idx;rw[z3i o,h1.1,h1.2,z3i o']at this;exact this
  have he:e=f:=by cases e;cases f;simp at h1 hm;simp[h1,hm]
  subst he;have hr:r=s:=by
   refine ztc (z68.1 o).2 (z68.1 o').2 (fun x hx=>n x (by simp[hx])) (fun x hx=>n' x (by simp[hx])) fun k i=>?_
   have:=h k i;simp only[yz]at this;omega
  rw[hr]
def zgo{l:List Key}(h:l.Nodup):(y1u l).Pairwise fun a b=>y44 a b=true:=by
 have h1:=z9a l;have h2:(y1u l).Nodup:=(z4h l).nodup_iff.2 h;refine List.Pairwise.imp₂ (fun a b h3 h4=>?_) h1 h2
 rcases z7l h3 with h5 | h5
 ·exact absurd h5 h4
 ·exact h5
def z85{m:y3y}:∀{l:List Key},((y6a m l).map y4x).Sublist l
 |[]=>by simp[y6a]
 |a::r=>by
  have ih:=z85 (m:=m) (l:=r);unfold y6a;split
  ·exact ih.cons a
  ·exact ih.cons_cons a
def ztd{m:y3y}(h:(y1y m).Nodup):y4j (yaz m):=(zgo h).sublist z85
def z8u{m:y3y}:∀{l:List Key} {e:Ent},e ∈ y6a m l->e.amt ≠ 0/\e.amt=y26 (y4x e) m
 |[],e,h=>by simp[y6a]at h
 |a::r,e,h=>by
  unfold y6a at h;split at h
  ·exact z8u h
  ·rename_i h1;rcases aA.1 h with rfl | h
   ·exact⟨h1,rfl⟩
   ·exact z8u h
def zmd{m:y3y}{k i:Int}:∀{l:List Key},l.Nodup->yz k i (y6a m l)=if(k,i) ∈ l then y26 (k,i) m else 0
 |[],_=>rfl
 |a::r,h=>by
  obtain⟨h1,h2⟩:=de.1 h;have ih:=zmd (m:=m) (k:=k) (i:=i) h2;unfold y6a
  by_cases ha:a=(k,i)
  ·subst ha;rw[if_neg h1]at ih;split
   ·rename_i h0;rw[ih,if_pos (by simp),h0]
   ·simp[yz,ih]
  ·have hn : ¬ (a.1=k/\a.2=i):=fun e=>ha (jA e.1 e.2)
   have hn2 : ¬ (k,i)=a:=fun e=>ha e.symm
   have e2:((k,i) ∈ a::r) ↔ ((k,i) ∈ r):=by simp[hn2]
   split
   ·rw[ih];simp[hn2]
   ·simp only[yz];rw[if_neg hn,ih];simp[hn2]
def zmc{m:y3y}(h:(y1y m).Nodup){k i:Int}:yz k i (yaz m)=y26 (k,i) m:=by
 unfold yaz;rw[zmd ((z4h _).nodup_iff.2 h)];split
 ·rfl
 ·rename_i h1;rw[zgp]at h1;unfold y26;rw[zh1 h1];rfl
def y1f(l:List Ent)(m:y3y):y3y:=l.foldl (fun m x=>ybu (y4x x) x.amt m) m
def z4s{x:Ent}{l:List Ent}{m:y3y}:y1f (x::l) m=y1f l (ybu (y4x x) x.amt m):=rfl
def ze6{a b:List Ent}{m:y3y}:y1f (a++b) m=y1f b (y1f a m):=fW
def z2b:∀{l:List Ent} {m:y3y},(y1y m).Nodup->(y1y (y1f l m)).Nodup
 |[],m,h=>h
 |x::l,m,h=>z2b (l:=l) (zr6 h)
def z3k{k i:Int}:∀{l:List Ent} {m:y3y},y26 (k,i) (y1f l m)=y26 (k,i) m+yz k i l
 |[],m=>by simp[y1f,yz]
 |x::l,m=>by rw[z4s,z3k,znn];simp only[yz,y4x,Prod.mk.injEq];omega
def z67:∀{l:List Ent} {m:y3y},(y1f l m).length<=m.length+l.length
 |[],m=>by simp[y1f]
 |x::l,m=>by rw[z4s];have h1:=z67 (l:=l) (m:=ybu (y4x x) x.amt m);have h2:(ybu (y4x x) x.amt m).length<=m.length+1:=yek;simp only[ar];omega
def zfl{k i:Int}:∀{l:List Ent} {B:Int},(∀ x,x ∈ l -> -B<=x.amt/\x.amt<=B)->0<=B -> -(B*l.length)<=yz k i l/\yz k i l<=B*l.length
 |[],B,_,_=>by simp[yz]
 |x::l,B,h,h0=>by
  have ih:=zfl (k:=k) (i:=i) (l:=l) (fun y hy=>h y (by simp[hy])) h0
  have hx:=h x (by simp)
  have e:B*((x::l).length:Nat)=B*l.length+B:=by rw[ar];push_cast;rw[Int.mul_add];omega
  rw[e];simp only[yz];split <;> omega
def y5l(l:List Ent):List Ent:=yaz (y1f l [])
def zes{l:List Ent}:y4j (y5l l):=ztd (z2b (by simp[y1y]))
def zd4{l:List Ent}:∀ e,e ∈ y5l l->e.amt ≠ 0:=fun e h=>(z8u h).1
def z8g{l:List Ent}{k i:Int}:yz k i (y5l l)=yz k i l:=by
 unfold y5l;rw[zmc (z2b (by simp[y1y])),z3k]
 simp[y26,y3t]
def zl3{l r:List Ent}(h:y4j r)(hn:∀ e,e ∈ r->e.amt ≠ 0)(ha:∀ k i,yz k i r=yz k i l):y5l l=r:=
 ztc zes h zd4 hn fun k i=>by rw[z8g,ha]
def zra{l:List Ent}:(y5l l).length<=l.length:=by have h1:=(z85 (m:=y1f l []) (l:=y1u (y1y (y1f l [])))).length_le;have h2:=z67 (l:=l) (m:=[]);rw[z30]at h1;simp only[y1y,aF,aY]at h1 h2;unfold y5l yaz;simp only[y1y];omega
def zr9{l:List Ent}{x:Ent}(h:x ∈ y5l l):y4x x ∈ l.map y4x:=by
 refine Classical.byContradiction fun hn=>zd4 x h ?_
 have h1:=(z8u h).2;have h2:=z3k (k:=x.kind) (i:=x.idx) (l:=l) (m:=[]);rw[z89 hn]at h2;rw[h1];show y26 (x.kind,x.idx) _=0
 rw[h2];simp[y26,y3t]
def yhw{l:List Ent}{B:Int}(hB:∀ x,x ∈ l -> -B<=x.amt/\x.amt<=B)(h0:0<=B){x:Ent}(h:x ∈ y5l l) : -(B*l.length)<=x.amt/\x.amt<=B*l.length:=by
 have h1:=(z8u h).2;have h2:=z3k (k:=x.kind) (i:=x.idx) (l:=l) (m:=[]);have h3:=zfl (k:=x.kind) (i:=x.idx) hB h0;rw[h1];show -(B*l.length)<=y26 (x.kind,x.idx) _/\y26 (x.kind,x.idx) _<=_
 rw[h2];simp only[y26,y3t,Option.getD_none,Int.zero_add];exact h3
def zkj{a:Key}{n:Int}:∀{m:y3y},((y83 a n m).map fun e=>e.2).sum=(m.map fun e=>e.2).sum+n - y26 a m
 |[]=>by simp[y83,y26,y3t]
 |e::r=>by
  have ih:=zkj (a:=a) (n:=n) (m:=r);unfold y83 y26 y3t
  by_cases h:a=e.1
  ·rw[if_pos h,if_pos h];simp;omega
  ·rw[if_neg h,if_neg h];simp only[al,cH];rw[ih];unfold y26;omega
def zq4:∀{l:List Ent} {m:y3y},((y1f l m).map fun e=>e.2).sum=(m.map fun e=>e.2).sum+y3i l
 |[],m=>by simp[y1f,y3i]
 |x::l,m=>by rw[z4s,zq4];unfold ybu;rw[zkj];simp only[y3i];omega
def zrl{e:Key × Int}{r:y3y}:y3t e.1 (e::r)=some e.2:=by unfold y3t;rw[if_pos rfl]
def yas:∀{m:y3y},(y1y m).Nodup->((y1y m).map fun a=>y26 a m).sum=(m.map fun e=>e.2).sum
 |[],_=>rfl
 |e::r,h=>by
  simp only[y1y,al]at h;obtain⟨h1,h2⟩:=de.1 h;have ih:=yas (m:=r) h2;simp only[y1y,al,cH];have e1:y26 e.1 (e::r)=e.2:=by unfold y26;rw[zrl];rfl
  have e2:(r.map fun e=>e.1).map (fun a=>y26 a (e::r))=(r.map fun e=>e.1).map fun a=>y26 a r:=by
   refine dU fun a ha=>?_
   have:a ≠ e.1:=fun h=>h1 (h ▸ ha)
   have h3:y3t a (e::r)=y3t a r:=by
    conv=>lhs;unfold y3t
    rw[if_neg this]
   unfold y26;rw[h3]
  rw[e1,e2];simp only[y1y]at ih;rw[ih]
def zke{m:y3y}:∀{l:List Key},y3i (y6a m l)=(l.map fun a=>y26 a m).sum
 |[]=>rfl
 |a::r=>by
  have ih:=zke (m:=m) (l:=r);unfold y6a;split
  ·rename_i h;rw[ih];simp[h]
  ·simp only[y3i,al,cH,ih]
def zvv{a b:List Int}(h:a.Perm b):a.sum=b.sum:=by
 induction h with
 |nil=>rfl
 |cons x _ ih=>simp[ih]
 |swap x y l=>simp;omega
 |trans _ _ h1 h2=>exact h1.trans h2
def yec{l:List Ent}:y3i (y5l l)=y3i l:=by
 unfold y5l yaz;rw[zke,zvv ((z4h _).map _),yas (z2b (by simp[y1y])),zq4]
 simp
end Dv
namespace Dv
attribute [local simp] ah depth y1z y51 ya y15 y4p ye y2p y2e Ret
attribute [local congr] z1f z1g z16 z12 zx z17 zw
def zpm{n:Nat}(h:n<18446744073709551616):bL.wrap (n:Int)=n:=by simp[gD,gE,fY];omega
def zi5{n:Nat}:kR.wrap (n:Int)=((n % 256:Nat):Int):=by simp[gD,gE,fY]
def ym2{n:Nat}(h:n<256):yc3 .u8 (n:Int) 128=((n % 128+128:Nat):Int):=by
 have key:∀ m:Fin 256,yc3 .u8 ((m.val:Nat):Int) 128=((m.val % 128+128:Nat):Int):=by decide +kernel
 exact key ⟨n,h⟩
def z48:bL.bits=64:=rfl
def shr7{n:Nat}:((n:Int).fdiv 128)=((n / 128:Nat):Int):=by rw[ep _ (by omega)];omega
def mk8{n:Nat}(h:n<256):(D.int .u8 (n:Int))=yd (cv n):=by unfold yd;rw[zit h]
def zl0{u:Nat}(h:u<18446744073709551616):(num u).length<=11:=by
 have key:∀(k u:Nat),u<2 ^ (7*k)->(num u).length<=k+1:=by
  intro k
  induction k with
  |zero=>intro u h;rw[zd3 (by omega)];simp
  |succ k ih=>
   intro u h
   by_cases h1:u<128
   ·rw[zd3 h1];simp
   ·rw[zl1 h1];have:=ih (u / 128) (by
     rw[kq (by decide),show(128:Nat)=2 ^ 7 from rfl,<- p5]
     rwa [show 7*k+7=7*(k+1)from by omega])
    simp;omega
 have:(18446744073709551616:Nat)<=2 ^ (7*10):=by decide
 exact key 10 u (by omega)
def z8r{l:List UInt8}:y2k 1 (l.map yd)=true:=by
 unfold y2k;rw[ay];intro x hx;obtain⟨r,_,rfl⟩:=aL.1 hx
 rfl
def z21{l:List UInt8}{new:List D}(h:l.length+new.length<=1000000000000):y2o E 13 (l.map yd) new:=by
 refine⟨?_,?_,?_,z8r⟩ <;> simp[yg]
 omega
def s312{C:Nat}:∀(u:Nat) {hp:List Obj} {sp:yt} (l:List UInt8),u<18446744073709551616->l.length<=900000000000->y47 C hp sp l.length 1->C<=hp.length ->
  ∃ d hp',y1j E (dL E) 312 [.imm sp (l.map yd),.int .u64 u] hp=some (d,hp') /\ ∃ k,d=.imm (.tok k) ((l++num u).map yd)/\C<=k/\At hp' k (.tok (l++num u).length 1)/\y2n C C hp hp'/\hp.length<=hp'.length:=by
 intro u hp sp l hu hl R hC;refine z1j c312 (args:=[.imm sp (l.map yd),.int .u64 u]) (hp:=hp) (R:=fun d hp'=>∃ k,d=.imm (.tok k) ((l++num u).map yd)/\C<=k/\At hp' k (.tok (l++num u).length 1)/\y2n C C hp hp'/\hp.length<=hp'.length) (by simp) ?_
 conv in t312=>reduce;dsimp[ai]
 simp[t312,n312];have hlen:=zl0 hu;refine⟨fun k env h=>∃(x3 x4 x5:D) (sp':yt) (l':List UInt8),env=[.imm sp' (l'.map yd),.int .u64 (k:Nat),.imm .exact [],x3,x4,x5]/\k<18446744073709551616/\l'++num k=l++num u/\y47 C h sp' l'.length 1/\y2n C C hp h/\hp.length<=h.length,u,⟨_,_,_,sp,l,rfl,hu,rfl,R,y2n.refl,aj _⟩,?_⟩
 rintro k env h ⟨x3,x4,x5,sp',l',rfl,hk,he,R',K',hh⟩;have htot:l'.length+(num k).length<=900000000000+11:=by have:=congrArg cQ he;simp only[ao]at this;omega
 have hpos:=zix (u:=k)
 by_cases h128:128<=k
 ·have hn : ¬ k<128:=by omega
  have hI:(128:Int)<=(k:Int):=by omega
  have hap:∀ x:D,y2o E 13 (l'.map yd) [x]:=fun x=>z21 (by simp;omega)
  have e1:D.int .u8 (yc3 .u8 ((k:Int) % 256) 128)=yd (cv (k % 128+128)):=by
   have h1:=ym2 (n:=k % 256) (by omega)
   rw[show k % 256 % 128+128=k % 128+128 from by omega,show((k % 256:Nat):Int)=(k:Int) % 256 from by omega]at h1
   rw[h1,mk8 (n:=k % 128+128) (by omega)]
  have e2:(k:Int).fdiv 128=((k / 128:Nat):Int):=shr7;rw[zl1 hn]at he;obtain⟨c,hc⟩:∃ c,c=cv (k % 128+128):=⟨_,rfl⟩;rw[<- hc]at e1 he;have he':(l'++[c])++num (k / 128)=l++num u:=by simpa using he
  rcases R' with rfl | ⟨q,rfl,hq,hq2⟩
  ·simp[hI,y49,zq,zz,hap,zi5,e1,z48,e2];exact⟨k / 128,by omega,_,_,_,_,l'++[c],⟨⟨rfl,by simp⟩,by omega,rfl,rfl,rfl⟩,by omega,he',.inr ⟨h.length,rfl,by omega,by simp[At]⟩,K'.trans y2n.app,by omega⟩
  ·simp[hI,y49,zq,z14,hap,zi5,e1,hq2.eq,z48,e2];exact⟨k / 128,by omega,_,_,_,_,l'++[c],⟨⟨rfl,by simp⟩,by omega,rfl,rfl,rfl⟩,by omega,he',.inr ⟨h.length,rfl,by omega,by simp[At]⟩,(K'.trans (y2n.set (.inr hq))).trans y2n.app,by omega⟩
 ·have hI : ¬ (128:Int)<=(k:Int):=by omega
  have e0:=zi5 (n:=k);rw[show k % 256=k from by omega]at e0
  have e3:=mk8 (n:=k) (by omega)
  have hap:∀ x:D,y2o E 13 (l'.map yd) [x]:=fun x=>z21 (by simp;omega)
  rw[zd3 (by omega)]at he
  obtain⟨c,hc⟩:∃ c,c=cv k:=⟨_,rfl⟩;rw[<- hc]at e3 he;have hm:l'.map yd++[yd c]=l.map yd++(num u).map yd:=by have:=congrArg (bP yd) he;simpa using this
  have hl2:l'.length+1=l.length+(num u).length:=by have:=congrArg cQ he;simpa using this
  rcases R' with rfl | ⟨q,rfl,hq,hq2⟩
  ·simp[hI,y49,zq,zz,hap,e0,e3];exact⟨h.length,⟨rfl,hm⟩,by omega,by simp[At,hl2],K'.trans y2n.app,by omega⟩
  ·simp[hI,y49,zq,z14,hap,e0,e3,hq2.eq];exact⟨h.length,⟨rfl,hm⟩,by omega,by simp[At,hl2],(K'.trans (y2n.set (.inr hq))).trans y2n.app,by omega⟩
def zy5:aJ.bits=64:=rfl
def z2k(m:Int):bL.wrap m=m % 18446744073709551616:=by simp[gD,gE,fY]
def zv5{x:Nat}(h:x<18446744073709551616):y9x .u64 (x:Int) 0=x:=by
 unfold y9x;rw[z2k];have e:(cy bL.bits (x:Int) ^^^ cy bL.bits 0).toNat=x:=by
  rw[show bL.bits=64 from rfl]
  simp;omega
 rw[e];omega
def zv6{x:Nat}(h:x<18446744073709551616):y9x .u64 (x:Int) 18446744073709551615=((18446744073709551615 - x:Nat):Int):=by
 unfold y9x;rw[z2k];have e:(cy bL.bits (x:Int) ^^^ cy bL.bits 18446744073709551615).toNat=18446744073709551615 - x:=by
  rw[show bL.bits=64 from rfl]
  have:(cy 64 18446744073709551615)=BitVec.allOnes 64:=by decide
  rw[this,BitVec.xor_allOnes];simp;omega
 rw[e];omega
def zig{n:Int}(h:i64 n):y9x .u64 (bL.wrap (bL.wrap n*2)) (bL.wrap (n.fdiv 9223372036854775808))=(uns n:Nat):=by
 obtain⟨h1,h2⟩:=h;have hf:n.fdiv 9223372036854775808=n / 9223372036854775808:=ep _ (by omega)
 rw[hf,z2k,z2k,z2k];unfold uns
 by_cases h0:0<=n
 ·rw[if_pos h0,show n / 9223372036854775808 % 18446744073709551616=0 from by omega,show n % 18446744073709551616*2 % 18446744073709551616=((2*n.toNat:Nat):Int)from by omega]
  exact zv5 (by omega)
 ·rw[if_neg h0,show n / 9223372036854775808 % 18446744073709551616=18446744073709551615 from by omega,show n % 18446744073709551616*2 % 18446744073709551616=((18446744073709551616 - 2*(-n).toNat:Nat):Int)from by omega,zv6 (by omega)]
  omega
def r311{n:Int}(h:i64 n):yu E (dL E) 311 [dI n]=some (.int .u64 (uns n:Nat)):=by
 refine zg c311 (by simp) ?_
 conv in t311=>reduce;dsimp[ai]
 have e:=zig h;simp[t311,n311,y49,z48,zy5,e]
def y92(C:Nat)(hp:List Obj)(l e:List UInt8)(d:D)(hp':List Obj):Prop:=
 ∃ k,d=.imm (.tok k) ((l++e).map yd)/\C<=k/\At hp' k (.tok (l++e).length 1)/\y2n C C hp hp'/\hp.length<=hp'.length
def zch{C:Nat}{hp h2:List Obj}{l a e:List UInt8}{d:D}{hp':List Obj}(hk:y2n C C hp h2)(hl:hp.length<=h2.length)(w:y92 C h2 (l++a) e d hp'):y92 C hp l (a++e) d hp':=by obtain⟨k,w1,w2,w3,w4,w5⟩:=w;rw[bi]at w1 w3;exact⟨k,w1,w2,w3,hk.trans w4,aM hl w5⟩
def y92.imm{C:Nat}{hp:List Obj}{l e:List UInt8}{d:D}{hp':List Obj}(w:y92 C hp l e d hp'):yy d=false:=by obtain⟨k,rfl,_⟩:=w;rfl
def yhm{C:Nat}(u:Nat){hp:List Obj}{sp:yt}(l:List UInt8)(hu:u<18446744073709551616)(hl:l.length<=900000000000)(R:y47 C hp sp l.length 1)(hC:C<=hp.length) :
  ∃ d hp',y1j E (dL E) 312 [.imm sp (l.map yd),.int .u64 u] hp=some (d,hp')/\yy d=false/\y92 C hp l (num u) d hp':=by
 obtain⟨d,hp',e,w⟩:=s312 u l hu hl R hC;have w:y92 C hp l (num u) d hp':=w;exact⟨d,hp',e,w.imm,w⟩
def z9q{C:Nat}{hp r:List Obj}{n k:Nat}(hC:C<=hp.length)(h:r[k]? = some (.tok n 1)):y47 C (hp++r) (.tok (hp.length+k)) n 1:=
 .inr ⟨hp.length+k,rfl,by omega,by rw[cN];exact z1o.trans h⟩
def zej{C:Nat}{hp r:List Obj}{o:Obj}{n k q:Nat}(hC:C<=hp.length)(h:r[k]? = some (.tok n 1)):y47 C (hp.set q o++r) (.tok (hp.length+k)) n 1:=by
 have:=z9q (C:=C) (hp:=hp.set q o) (r:=r) (k:=k) (n:=n) (by simpa using hC) h
 simpa using this
def yg4{C:Nat}{hp:List Obj}{sp:yt}{l:List UInt8}{m k:Nat}(c:UInt8)(x:D)(hx:x=yd c)(hk:k<m)(R:y47 C hp sp l.length 1)(hC:C<=hp.length)(hl:l.length<=900000000000) :
  ∃ h2,y9b E (hp++ah m .dead) (hp.length+k) 30 30 (.imm sp (l.map yd)) (.imm .exact [x])=some (.imm (.tok (hp.length+k)) ((l++[c]).map yd),h2)/\y2n C C hp h2/\h2.length=hp.length+m/\y47 C h2 (.tok (hp.length+k)) (l++[c]).length 1:=by
 subst hx;have hap:∀ x:D,y2o E 13 (l.map yd) [x]:=fun x=>z21 (by simp;omega)
 have hr:(ah m Obj.dead).length=m:=by simp
 have hg:((ah m Obj.dead).set k (.tok (l.length+1) 1))[k]? = some (.tok (l.length+1) 1):=by simp[hk]
 rcases R with rfl | ⟨q,rfl,hq,hq2⟩
 ·refine⟨hp++(ah m Obj.dead).set k (.tok (l.length+1) 1),?_,y2n.app,by simp,?_⟩
  ·simp[zz,hap,hk,↓z40]
  ·have:=z9q (C:=C) hC hg;simpa using this
 ·have hlt:=hq2.lt;have hq3:(hp++ah m Obj.dead)[q]? = some (.tok (l.length*1) 1):=hq2.appE;rw[cN]at hq3;refine⟨hp.set q .dead++(ah m Obj.dead).set k (.tok (l.length+1) 1),?_,(y2n.set (.inr hq)).trans y2n.app,by simp,?_⟩
  ·have e:((hp++ah m Obj.dead).set q .dead).set (hp.length+k) (.tok (l.length+1) 1)=hp.set q .dead++(ah m Obj.dead).set k (.tok (l.length+1) 1):=by rw[z1d hlt];have:=z40 (hp:=hp.set q Obj.dead) (r:=ah m Obj.dead) (k:=k) (x:=.tok (l.length+1) 1);rwa [bq]at this
   simp[z14,hap,hk,hq3];exact e
  ·have:=zej (C:=C) (o:=.dead) (q:=q) hC hg;simpa using this
def z9u{l:List UInt8}{c:UInt8}:(l++[c]).map yd=l.map yd++[.int .u8 c.toNat]:=by simp
def s298{C:Nat}{hp:List Obj}{sp:yt}(l:List UInt8)(n:Int)(hn:i64 n)(hl:l.length<=800000000000)(R:y47 C hp sp l.length 1)(hC:C<=hp.length) :
  ∃ d hp',y1j E (dL E) 298 [.imm sp (l.map yd),dV (.mk 1 n [] [])] hp=some (d,hp')/\y92 C hp l (enc (.mk 1 n [] [])) d hp':=by
 refine z1j c298 (args:=[.imm sp (l.map yd),dV (.mk 1 n [] [])]) (hp:=hp) (R:=y92 C hp l (enc (.mk 1 n [] []))) (by simp) ?_
 conv in t298=>reduce;dsimp[ai]
 have h311:=r311 hn;have hap:∀ x:D,y2o E 13 (l.map yd) [x]:=fun x=>z21 (by simp;omega)
 have he:enc (.mk 1 n [] [])=[1]++num (uns n):=by rw[enc,if_pos rfl];rfl
 rw[z3v,he];rcases R with rfl | ⟨q,rfl,hq,hq2⟩
 ·obtain⟨d,hp',e,hm,w⟩:=yhm (C:=C) (hp:=hp++[.dead,.dead,.tok (l.length+1) 1,.dead,.dead,.dead,.dead,.dead]) (sp:=.tok (hp.length+2)) (uns n) (l++[1]) (zpw hn) (by simp;omega) (by rw[ao];exact z9q hC rfl) (by simp;omega)
  have w':=zch (hp:=hp) y2n.app (by simp) w
  rw[z9u]at e;simp at e;simp[t298,n298,zq,zz,hap,h311,e,hm];exact w'
 ·obtain⟨d,hp',e,hm,w⟩:=yhm (C:=C) (hp:=hp.set q .dead++[.dead,.dead,.tok (l.length+1) 1,.dead,.dead,.dead,.dead,.dead]) (sp:=.tok (hp.length+2)) (uns n) (l++[1]) (zpw hn) (by simp;omega) (by rw[ao];exact zej hC rfl) (by simp;omega)
  have w':=zch (hp:=hp) ((y2n.set (.inr hq)).trans y2n.app) (by simp) w
  rw[z9u]at e;simp at e;have hq3:(hp++ah 8 Obj.dead)[q]? = some (.tok (l.length*1) 1):=hq2.appE;simp at hq3;have hlt:=hq2.lt;simp[t298,n298,zq,z14,hap,h311,e,hm,hq3,↓z1d hlt];exact w'
def s299{C:Nat}{hp:List Obj}{sp:yt}(l s:List UInt8)(hl:l.length+s.length<=800000000000)(R:y47 C hp sp l.length 1)(hC:C<=hp.length) :
  ∃ d hp',y1j E (dL E) 299 [.imm sp (l.map yd),dV (.mk 2 0 s [])] hp=some (d,hp')/\y92 C hp l (enc (.mk 2 0 s [])) d hp':=by
 refine z1j c299 (args:=[.imm sp (l.map yd),dV (.mk 2 0 s [])]) (hp:=hp) (R:=y92 C hp l (enc (.mk 2 0 s []))) (by simp) ?_
 conv in t299=>reduce;dsimp[ai]
 have hap:∀ x:D,y2o E 13 (l.map yd) [x]:=fun x=>z21 (by simp;omega)
 have he:enc (.mk 2 0 s [])=([2]++num s.length)++s:=by rw[enc,if_neg (by decide),if_pos rfl];rfl
 have hw:=zpm (n:=s.length) (by omega)
 have hn:=zl0 (u:=s.length) (by omega)
 rw[z3v,he];have fin:∀{d:D} {h2:List Obj},hp.length+12<=h2.length->y92 C hp l ([2]++num s.length) d h2->∃ k,d=.imm (.tok k) ((l++([2]++num s.length)).map yd)/\h2[k]? = some (.tok (l++([2]++num s.length)).length 1)/\y2o E 13 ((l++([2]++num s.length)).map yd) (s.map yd) /\
   y92 C hp l (([2]++num s.length)++s) (.imm (.tok (hp.length+10)) ((l++([2]++num s.length)).map yd++s.map yd)) ((h2.set k .dead).set (hp.length+10) (.tok ((l++([2]++num s.length)).length+s.length) 1)):=by
  rintro d h2 hh ⟨k,rfl,w2,w3,w4,w5⟩;refine⟨k,rfl,w3,z21 (by simp at hn ⊢;omega),hp.length+10,by simp,by omega,?_,(w4.trans (y2n.set (.inr w2))).trans (y2n.set (.inr (by omega))),by simp;omega⟩
  have:(l++(([2]++num s.length)++s)).length=(l++([2]++num s.length)).length+s.length:=by simp;omega
  rw[this];exact At.self (by simp;omega)
 rcases R with rfl | ⟨q,rfl,hq,hq2⟩
 ·obtain⟨d,hp',e,hm,w⟩:=yhm (C:=C) (hp:=hp++[.dead,.dead,.tok (l.length+1) 1,.dead,.dead,.dead,.dead,.dead,.dead,.dead,.dead,.dead]) (sp:=.tok (hp.length+2)) s.length (l++[2]) (by omega) (by simp;omega) (by rw[ao];exact z9q hC rfl) (by simp;omega)
  have hlen:hp.length+12<=hp'.length:=by have:=w.choose_spec.2.2.2.2;simpa using this
  have w':=zch (hp:=hp) y2n.app (by simp) w
  obtain⟨k,rfl,f1,f2,f3⟩:=fin hlen w';rw[z9u]at e;simp at e f1 f2 f3;have h10:hp.length+10<hp'.length:=by omega
  simp[t299,n299,zq,zz,z14,hap,hw,y49,e,f1,f2,h10];simpa using f3
 ·obtain⟨d,hp',e,hm,w⟩:=yhm (C:=C) (hp:=hp.set q .dead++[.dead,.dead,.tok (l.length+1) 1,.dead,.dead,.dead,.dead,.dead,.dead,.dead,.dead,.dead]) (sp:=.tok (hp.length+2)) s.length (l++[2]) (by omega) (by simp;omega) (by rw[ao];exact zej hC rfl) (by simp;omega)
  have hlen:hp.length+12<=hp'.length:=by have:=w.choose_spec.2.2.2.2;simpa using this
  have w':=zch (hp:=hp) ((y2n.set (.inr hq)).trans y2n.app) (by simp) w
  obtain⟨k,rfl,f1,f2,f3⟩:=fin hlen w';rw[z9u]at e;have hq3:(hp++ah 12 Obj.dead)[q]? = some (.tok (l.length*1) 1):=hq2.appE;simp at e f1 f2 f3 hq3;have hlt:=hq2.lt;have h10:hp.length+10<hp'.length:=by omega
  simp[t299,n299,zq,z14,hap,hw,y49,e,f1,f2,h10,hq3,↓z1d hlt];simpa using f3
structure Wrs(hp:List Obj)(A B:Nat):Prop where
 a:At hp A (.cells [.nilfn,.fn 298 [],.fn 299 [],.fn 300 [.loc B 0]])
 b:At hp B (.cells [.loc A 0])
def Wrs.keep{C:Nat}{hp hp':List Obj}{A B:Nat}(w:Wrs hp A B)(hA:A<C)(hB:B<C)(k:y2n C C hp hp'):Wrs hp' A B:=⟨k.at (by omega) hA w.a,k.at (by omega) hB w.b⟩
def wrF(k:Int):Nat:=if k=1 then 298 else if k=2 then 299 else 300
def wrC(k:Int)(B:Nat):List D:=if k=1 then[]else if k=2 then[]else[.loc B 0]
def y9s(v:CV)(k:Int):Prop:=∀{C A B:Nat} {hp:List Obj} {sp:yt} (l:List UInt8),Wrs hp A B->A<C->B<C->l.length+(enc v).length<=800000000000->y47 C hp sp l.length 1->C<=hp.length ->
 ∃ d hp',y1j E (dL E) (wrF k) (.imm sp (l.map yd)::dV v::wrC k B) hp=some (d,hp')/\y92 C hp l (enc v) d hp'
def s300(vs:List CV)(ih:∀ k n s l,CV.mk k n s l ∈ vs->(k=1\/k=2\/k=3)/\y9s (.mk k n s l) k):y9s (.mk 3 0 [] vs) 3:=by
 intro C A B hp sp l W hA hB hl R hC;have he:enc (.mk 3 0 [] vs)=([3]++num vs.length)++y52 vs:=by rw[enc,if_neg (by decide),if_neg (by decide)];rfl
 rw[he]at hl ⊢;have hvl:vs.length<=800000000000:=by have:=zf9 vs;simp at hl;omega
 show ∃ d hp',y1j E (dL E) 300 [.imm sp (l.map yd),dV (.mk 3 0 [] vs),.loc B 0] hp=some (d,hp')/\y92 C hp l (([3]++num vs.length)++y52 vs) d hp'
 refine z1j c300 (args:=[.imm sp (l.map yd),dV (.mk 3 0 [] vs),.loc B 0]) (hp:=hp) (R:=y92 C hp l (([3]++num vs.length)++y52 vs)) (by simp) ?_
 conv in t300=>reduce;dsimp[ai]
 have hap:∀ x:D,y2o E 13 (l.map yd) [x]:=fun x=>z21 (by simp at hl ⊢;omega)
 have hw:=zpm (n:=vs.length) (by omega)
 rw[z3v];obtain⟨h2,e1,k1,l1,R1⟩:=yg4 (l:=l) (m:=9) (k:=2) 3 (.int .u8 3) rfl (by omega) R hC (by simp at hl;omega)
 obtain⟨d,h3,e2,hm,w⟩:=yhm (C:=C) (hp:=h2) vs.length (l++[3]) (by omega) (by simp at hl ⊢;omega) R1 (by omega)
 have w':=zch (hp:=hp) k1 (by omega) w
 simp at e1 e2;simp[t300,n300,zq,hw,y49,e1,e2,hm];refine zo vs.length (fun i env h=>∃(x5 x6 x7 x11 x12 x13:D) (dd:D),env=[dd,.agg [dI 3,dI 0,.str [],.imm .none (vs.map dV)],.loc B 0,.iptr [dI 3,dI 0,.str [],.imm .none (vs.map dV)],.imm .exact [],x5,x6,x7,.imm .none (vs.map dV),dI vs.length,dI i,x11,x12,x13]/\y92 C hp l (([3]++num vs.length)++y52 (vs.take i)) dd h) 0 (by omega) ?_ ?_
 ·exact⟨_,_,_,_,_,_,d,rfl,by simpa[y52]using w'⟩
 rintro i env h hi ⟨x5,x6,x7,x11,x12,x13,dd,rfl,wi⟩
 by_cases hlt:i<vs.length
 ·obtain⟨tk,rfl,w2,w3,w4,w5⟩:=wi;obtain⟨k,n,s,l',hv⟩:∃ k n s l',vs[i]=CV.mk k n s l':=by
   cases h:vs[i]with
   |mk k n s l'=>exact⟨k,n,s,l',rfl⟩
  have WA:=W.keep hA hB w4;obtain⟨hk,hwr⟩:=ih k n s l' (by rw[<- hv];exact av hlt)
  have a1:=WA.a;have b1:=WA.b;have hsp:y52 (vs.take (i+1))=y52 (vs.take i)++enc (.mk k n s l'):=by rw[List.take_add_one,ac hlt,hv,z72];simp[y52]
  have htk:y52 vs=y52 (vs.take (i+1))++y52 (vs.drop (i+1)):=by rw[<- z72,List.take_append_drop]
  have hL:(l++([3]++num vs.length++y52 (vs.take i))).length+(enc (.mk k n s l')).length<=800000000000:=by rw[htk,hsp]at hl;simp only[ao]at hl ⊢;omega
  obtain⟨d',h5,e,w⟩:=hwr (C:=C) (A:=A) (B:=B) (sp:=.tok tk) (hp:=h++[.cells [dI k,dI n,.str s,.imm .none (l'.map dV)],.dead,.dead,.dead,.dead,.dead,.dead,.dead,.dead,.dead,.dead,.dead]) (l++([3]++num vs.length++y52 (vs.take i))) (WA.keep hA hB y2n.app) hA hB hL (.inr ⟨tk,rfl,w2,by rw[cN];exact w3.app⟩) (by simp;omega)
  have hm':=w.imm;have w':=zch (hp:=hp) (l:=l) (a:=[3]++num vs.length++y52 (vs.take i)) (w4.trans y2n.app) (by simp;omega) w
  have hf:([3]++num vs.length++y52 (vs.take i))++enc (.mk k n s l')=3::(num vs.length++y52 (vs.take (i+1))):=by rw[hsp];simp
  rw[hf]at w';have hup:=ze hlt (by omega)
  rw[z3v]at e;rcases hk with rfl | rfl | rfl
  ·simp[wrF,wrC]at e;simp[hlt,hv,z3v,a1.appE,b1.appE,e,hm',hup];exact⟨_,_,_,_,_,_,_,⟨rfl,rfl,rfl,rfl,rfl,rfl,rfl⟩,w'⟩
  ·simp[wrF,wrC]at e;simp[hlt,hv,z3v,a1.appE,b1.appE,e,hm',hup];exact⟨_,_,_,_,_,_,_,⟨rfl,rfl,rfl,rfl,rfl,rfl,rfl⟩,w'⟩
  ·simp[wrF,wrC]at e;simp[hlt,hv,z3v,a1.appE,b1.appE,e,hm',hup];exact⟨_,_,_,_,_,_,_,⟨rfl,rfl,rfl,rfl,rfl,rfl,rfl⟩,w'⟩
 ·have:i=vs.length:=by omega
  subst this;rw[bh]at wi;simp;simpa using wi
def zbm:∀{l:List CV},yc5 l->∀ v ∈ l,fmd v
 |[],_,v,h=>by simp at h
 |w::l,hf,v,h=>by
  rw[yc5]at hf;rcases aA.1 h with rfl | h
  ·exact hf.1
  ·exact zbm hf.2 v h
def yij{k n:Int}{s:List UInt8}{l:List CV}(h:fmd (.mk k n s l)):k=1\/k=2\/k=3:=by rw[fmd]at h;rcases h with⟨h,_⟩ | ⟨h,_⟩ | ⟨h,_⟩ <;> simp[h]
def ybx:∀(m:Nat) (v:CV),sizeOf v<=m->fmd v->∀ k n s l,v=.mk k n s l->y9s v k:=by
 intro m
 induction m with
 |zero=>intro v hm;cases v;simp at hm
 |succ m ih=>
  intro v hm hf k n s l hv;subst hv;have hf':=hf;rw[fmd]at hf';rcases hf' with⟨rfl,hn,rfl,rfl⟩ | ⟨rfl,rfl,rfl⟩ | ⟨rfl,rfl,rfl,hl⟩
  ·intro C A B hp sp l W hA hB hl R hC;exact s298 l n hn (by omega) R hC
  ·intro C A B hp sp l' W hA hB hl R hC;have he:enc (.mk 2 0 s [])=2::(num s.length++s):=by rw[enc,if_neg (by decide),if_pos rfl]
   rw[he]at hl;exact s299 l' s (by simp at hl;omega) R hC
  ·have q:∀ k' n' s' l',CV.mk k' n' s' l' ∈ l->(k'=1\/k'=2\/k'=3)/\y9s (.mk k' n' s' l') k':=fun k' n' s' l' hmem=>⟨yij (zbm hl _ hmem),by
    have h1:=kr hmem;have h2:sizeOf (CV.mk k' n' s' l')<=m:=by rw[CV.mk.sizeOf_spec]at hm;omega
    intro C A B hp sp;exact ih _ h2 (zbm hl _ hmem) k' n' s' l' rfl⟩
   intro C A B hp sp;exact s300 l q
def zjr:∀{l:List CV} {v:CV},v ∈ l->dep v<=y7x l
 |[],v,h=>by simp at h
 |w::l,v,h=>by
  rw[y7x];rcases aA.1 h with rfl | h
  ·exact Nat.le_max_left _ _
  ·exact aM (zjr h) (Nat.le_max_right _ _)
def zzm{hp:List Obj}:∀(m:Nat) (v:CV),fmd v->dep v<=m->∀ n,2*m+2<=n->frz hp n (dV v)=some (dV v):=by
 intro m
 induction m with
 |zero=>
  intro v hf hd n hn;obtain⟨n,rfl⟩:∃ j,n=j+2:=⟨n - 2,by omega⟩
  obtain⟨k,x,s,l⟩:=v;rw[fmd]at hf;rw[dep]at hd;rcases hf with⟨rfl,_,rfl,rfl⟩ | ⟨rfl,rfl,rfl⟩ | ⟨rfl,_⟩
  ·rw[z3v];rfl
  ·rw[z3v];rfl
  ·simp at hd
 |succ m ih=>
  intro v hf hd n hn;obtain⟨n,rfl⟩:∃ j,n=j+3:=⟨n - 3,by omega⟩
  obtain⟨k,x,s,l⟩:=v;rw[fmd]at hf;rw[dep]at hd;rcases hf with⟨rfl,_,rfl,rfl⟩ | ⟨rfl,rfl,rfl⟩ | ⟨rfl,rfl,rfl,hl⟩
  ·rw[z3v];rfl
  ·rw[z3v];rfl
  ·rw[if_pos rfl]at hd;have e:y1k (frz hp (n+1)) (l.map dV)=some (l.map dV):=z1e fun v hv=>ih v (zbm hl v hv) (by have:=zjr hv;omega) (n+1) (by omega)
   rw[z3v];have hs:frz hp (n+2) (.str [])=some (.str []):=rfl;simp only[z5b,z1k,z4b,hs,z3u,e,aq,zc,z3d]
def zto{l:List CV}{i:Nat}(h:i<l.length):y7x (l.take (i+1))=Nat.max (y7x (l.take i)) (dep l[i]):=by
 induction l generalizing i with
 |nil=>simp at h
 |cons v l ih=>
  cases i with
  |zero=>simp[y7x]
  |succ i=>
   simp only[ar]at h;simp only[fM,y7x,ee];rw[ih (by omega)]
   exact(Nat.max_assoc _ _ _).symm
def zm0:∀{l:List CV} {v:CV},v ∈ l->(enc v).length<=(y52 l).length
 |[],v,h=>by simp at h
 |w::l,v,h=>by
  rw[y52,ao];rcases aA.1 h with rfl | h
  ·omega
  ·have:=zm0 h;omega
structure y7b(v:CV):Prop where
 f:fmd v
 d:dep v<=4
 n:(enc v).length<=800000000000
def y7b.len{k n:Int}{s:List UInt8}{l:List CV}(h:y7b (.mk k n s l)):s.length<=800000000000/\l.length<=800000000000:=by
 have hf:=h.f;have hn:=h.n;rw[fmd]at hf;rcases hf with⟨rfl,_,rfl,rfl⟩ | ⟨rfl,rfl,rfl⟩ | ⟨rfl,rfl,rfl,hl⟩
 ·simp
 ·rw[enc,if_neg (by decide),if_pos rfl]at hn
  simp at hn ⊢;omega
 ·rw[enc,if_neg (by decide),if_neg (by decide)]at hn
  have:=zf9 l;simp at hn ⊢;omega
def y7b.sub{n:Int}{s:List UInt8}{l:List CV}(h:y7b (.mk 3 n s l)){v:CV}(hv:v ∈ l):y7b v:=by
 have hf:=h.f;have hn:=h.n;have hd:=h.d;rw[fmd]at hf;rw[dep,if_pos rfl]at hd;rcases hf with⟨h3,_⟩ | ⟨h3,_⟩ | ⟨_,rfl,rfl,hl⟩
 ·omega
 ·omega
 ·rw[enc,if_neg (by decide),if_neg (by decide)]at hn
  have:=zm0 hv;have:=zjr hv;exact⟨zbm hl v hv,by omega,by simp at hn;omega⟩
def zf4{hp:List Obj}{v:CV}(h:y7b v):frz hp 12 (dV v)=some (dV v):=zzm 4 v h.f h.d 12 (by decide)
def r297:∀(m:Nat) (v:CV),sizeOf v<=m->y7b v->yu E (dL E) 297 [dV v]=some (.tup [dI (dep v),.bool true]):=by
 intro m
 induction m with
 |zero=>intro v hm;cases v;simp at hm
 |succ m ih=>
  intro v hm hf;obtain⟨k,n,s,l⟩:=v;have hf':=hf.f;have hz:=zf4 (hp:=[]) hf;refine zg c297 (by simp) ?_
  conv in t297=>reduce;dsimp[ai]
  rw[fmd]at hf';rw[z3v];rcases hf' with⟨rfl,hn,rfl,rfl⟩ | ⟨rfl,rfl,rfl⟩ | ⟨rfl,rfl,rfl,hl⟩
  ·by_cases h0:n=0 <;> simp[t297,n297,h0,dep]
  ·by_cases h0:s=[] <;> simp[t297,n297,h0,dep]
  ·have hd:y7x l<=3:=by have:=hf.d;rw[dep,if_pos rfl]at this;omega
   have hln:=hf.len.2;have hdw:aJ.wrap ((y7x l:Int)+1)=(y7x l:Int)+1:=za ⟨by omega,by omega⟩
   by_cases hb:((l.length:Int) == 0)=true
   all_goals
    simp[t297,n297,dep,hb];refine zo l.length (fun i env h=>∃(x0 x1 x3 x4 x5 x6 x7 x8 x9 x10 x14 x15 x16 x17:D) ,env=[x0,x1,dI (y7x (l.take i)),x3,x4,x5,x6,x7,x8,x9,x10,.imm .none (l.map dV),dI l.length,dI i,x14,x15,x16,x17]) 0 (by omega) ?_ ?_
    ·exact⟨_,_,_,_,_,_,_,_,_,_,_,_,_,_,rfl⟩
    rintro i env h hi ⟨x0,x1,x3,x4,x5,x6,x7,x8,x9,x10,x14,x15,x16,x17,rfl⟩
    by_cases hlt:i<l.length
    ·have hv:=hf.sub (av hlt);have e:=ih l[i] (by have:=kr (av hlt);rw[CV.mk.sizeOf_spec]at hm;omega) hv
     have hz':=zf4 (hp:=[]) hv;have hup:=ze hlt (by omega)
     obtain⟨k,n,s,l',hq⟩:∃ k n s l',l[i]=CV.mk k n s l':=by
      cases h:l[i]with
      |mk k n s l'=>exact⟨k,n,s,l',rfl⟩
     have hdt:=zto hlt;rw[hq]at e hz' hdt;rw[z3v]at e hz';simp[hlt,hq,z3v,e,hz',hup];rw[hdt];simp only[Nat.max_def];split <;> split <;> omega
    ·have:i=l.length:=by omega
     subst this;simp[hdw]
def z4w{E:Env}{cP:Nat->List D->Option D}{cS cY:Nat->List D->List Obj->Option (D × List Obj)}{hp:List Obj}{id:Nat}{g:Opd->D}{f:Opd}:yf E cP cS cY id g hp (.call 4 f [])=(match g f with | .fn k caps=>ob (y1k (frz [] depth) caps) (fun vs=>y79 cS k vs hp) | _=>none):=by
 simp only[yf,DOp.fin,yo];cases g f <;> try rfl
 rename_i k caps;simp only[];cases y1k (frz [] depth) caps <;> rfl
def s282(hp:List Obj):y1j E (dL E) 282 [] hp=some (.loc hp.length 0,hp++[.cells [.nilfn,.fn 298 [],.fn 299 [],.fn 300 [.loc (hp.length+1) 0]],.cells [.loc hp.length 0]]):=by
 have:∃ d hp',y1j E (dL E) 282 [] hp=some (d,hp')/\(d=.loc hp.length 0/\hp'=hp++[.cells [.nilfn,.fn 298 [],.fn 299 [],.fn 300 [.loc (hp.length+1) 0]],.cells [.loc hp.length 0]]):=by
  refine z1j c282 (args:=[]) (hp:=hp) (R:=fun d hp'=>d=.loc hp.length 0/\hp'=hp++[.cells [.nilfn,.fn 298 [],.fn 299 [],.fn 300 [.loc (hp.length+1) 0]],.cells [.loc hp.length 0]]) (by simp) ?_
  conv in t282=>reduce;dsimp[ai]
  simp[t282,n282]
 obtain⟨d,hp',e,rfl,rfl⟩:=this;exact e
def r281{v:CV}(h:y7b v):yu E (dL E) 281 [dV v]=some (dI 0):=by
 have e:=r297 (sizeOf v) v (aj _) h;have hz:=zf4 (hp:=[]) h;obtain⟨k,n,s,l⟩:=v;refine zg c281 (by simp) ?_
 conv in t281=>reduce;dsimp[ai]
 have hd:=h.d;rw[z3v]at e hz ⊢;simp[t281,n281,e,hz];omega
def r264{v:CV}(h:y7b v):yu E (dL E) 264 [dV v]=some (.tup [dBy (enc v),dI 0]):=by
 have e:=r281 h;have hz:=zf4 (hp:=[]) h;have e2:=s282 (ah 11 .dead);have hf:=h.f;have hn:=h.n;obtain⟨k,n,s,l⟩:=v;have hk:=yij hf;obtain⟨d,h5,e5,w⟩:=ybx (sizeOf (CV.mk k n s l)) (.mk k n s l) (aj _) hf k n s l rfl (C:=13) (A:=11) (B:=12) (sp:=.exact) (hp:=ah 11 .dead++[.cells [.nilfn,.fn 298 [],.fn 299 [],.fn 300 [.loc 12 0]],.cells [.loc 11 0]]) []
  ⟨by simp[At],by simp[At]⟩ (by omega) (by omega) (by simpa using hn) (.inl rfl) (by simp)
 have hm:=w.imm;obtain⟨tk,rfl,w2,w3,w4,w5⟩:=w;rw[bn]at w3 hm e5;have hfz:∀ l:List UInt8,y1k (frz h5 10) (l.map yd)=some (l.map yd):=fun l=>z1e fun x _=>rfl
 refine zg c264 (by simp) ?_
 conv in t264=>reduce;dsimp[ai]
 rw[z3v]at e hz e5 ⊢;simp at e2;rcases hk with rfl | rfl | rfl
 ·simp[wrF,wrC]at e5;simp[t264,n264,e,hz,z4w,y79,e2,e5,hfz,y18]
 ·simp[wrF,wrC]at e5;simp[t264,n264,e,hz,z4w,y79,e2,e5,hfz,y18]
 ·simp[wrF,wrC]at e5;simp[t264,n264,e,hz,z4w,y79,e2,e5,hfz,y18]
abbrev xI(n:Int):D:=.agg [dI 1,dI n,.str [],.imm .exact []]
def zxs{n:Int}:dV (cI n)=.agg [dI 1,dI n,.str [],.imm .none []]:=by unfold cI;rw[z3v];rfl
def yid{hp:List Obj}{k:Nat}{n:Int}:frz hp (k+2) (xI n)=some (dV (cI n)):=by rw[zxs];rfl
def is4(x:D):Prop:=x.storable=true/\x.cellsL.length=4
def zc6{l new:List D}(h:l.length+new.length<=1000000)(hl:∀ x,x ∈ l->is4 x):y2o E 55 l new:=by
 refine⟨?_,?_,?_,?_⟩
 all_goals simp[yg]
 ·omega
 ·unfold y2k;rw[ay];intro x hx;obtain⟨h1,h2⟩:=hl x hx;simp[h1,h2]
def Lx(vs:List Int)(i:Nat):List D:=(vs.take i).map xI
def ygf{vs:List Int}:Lx vs 0=[]:=rfl
def yjc{vs:List Int}:Lx vs vs.length=vs.map xI:=by unfold Lx;rw[bh]
def yjb{vs:List Int}{i:Nat}(h:i<=vs.length):(Lx vs i).length=i:=by unfold Lx;rw[aF,bc];omega
def Lx_s{vs:List Int}{i:Nat}(h:i<vs.length):Lx vs (i+1)=Lx vs i++[xI vs[i]]:=by unfold Lx;rw[aN h,bp];rfl
def zzk{l:List Int}:∀ x,x ∈ l.map xI->is4 x:=by intro x hx;obtain⟨n,_,rfl⟩:=aL.1 hx;exact⟨rfl,rfl⟩
def LstI(hp:List Obj)(vs:List Int)(d:D)(hp':List Obj):Prop:=
 ∃ sp,d=.agg [dI 3,dI 0,.str [],.imm sp (vs.map xI)]/\y47 hp.length hp' sp vs.length 4/\y2n hp.length hp.length hp hp'/\hp.length<=hp'.length
def s366(vs:List Int)(sp0:yt)(hp:List Obj)(hv:vs.length<=100000):∃ d hp',y1j E (dL E) 366 [.imm sp0 (vs.map dI)] hp=some (d,hp')/\LstI hp vs d hp':=by
 refine z1j c366 (args:=[.imm sp0 (vs.map dI)]) (hp:=hp) (R:=LstI hp vs) (by simp) ?_
 conv in t366=>reduce;dsimp[ai]
 simp[t366,n366];refine zo vs.length (fun i env h=>∃(x3 x7 x8:D) (sp:yt),env=[.imm sp0 (vs.map dI),.loc hp.length 0,.loc (hp.length+1) 0,x3,.imm sp0 (vs.map dI),dI vs.length,dI i,x7,x8] /\
  At h hp.length (.cells [dI 0,dI 0,.str [],.imm .exact []])/\At h (hp.length+1) (.cells [dI 3,dI 0,.str [],.imm sp (Lx vs i)])/\y47 (hp.length+2) h sp i 4/\y2n hp.length hp.length hp h/\hp.length+2<=h.length) 0 (by omega) ?_ ?_
 ·rw[ygf];exact⟨_,_,_,.exact,rfl,by simp[At],by simp[At],.inl rfl,y2n.app,by simp⟩
 rintro i env h hi ⟨x3,x7,x8,sp,rfl,a1,a2,R,k,hlen⟩;have hL:(Lx vs i).length=i:=yjb hi
 by_cases hlt:i<vs.length
 ·have hup:=ze hlt (by omega)
  have hap:∀ x:D,y2o E 55 (Lx vs i) [x]:=fun x=>zc6 (by rw[hL];simp;omega) zzk
  have hsp:=Lx_s hlt;have h1:hp.length+1<h.length:=by omega
  rcases R with rfl | ⟨q,rfl,hq,hq2⟩
  ·simp[hlt,hup,a2.eq,a2.appE,zq,zz,hap,hL];refine⟨a1.app.ne (by omega),.tok h.length,by rw[hsp];exact At.self (by simp;omega),.inr ⟨h.length,rfl,by omega,?_⟩,(k.trans y2n.app).trans (y2n.set (.inr (by omega))),by omega⟩
   exact At.ne (by simp[At]) (by omega)
  ·have hq3:=hq2.eq;have a2':=a2.ne (j:=q) (x:=Obj.dead) (by omega)
   have a1':=a1.ne (j:=q) (x:=Obj.dead) (by omega)
   simp[hlt,hup,a2.eq,a2'.appE,zq,z14,hap,hL,hq3];refine⟨a1'.app.ne (by omega),.tok h.length,by rw[hsp];exact At.self (by simp;omega),.inr ⟨h.length,rfl,by omega,?_⟩,((k.trans (y2n.set (.inr (by omega)))).trans y2n.app).trans (y2n.set (.inr (by omega))),by omega⟩
   exact At.ne (by simp[At]) (by omega)
 ·have:i=vs.length:=by omega
  subst this;rw[yjc]at a2;have h0:hp.length<h.length:=by omega
  have a3:∀ o,(h.set hp.length o)[hp.length]? = some o:=fun o=>At.self h0
  simp[a1.eq,a2.eq,a3];refine⟨sp,rfl,?_,k.trans (y2n.set (.inr (by omega))),by simp;omega⟩
  rcases R with rfl | ⟨q,rfl,hq,hq2⟩
  ·exact .inl rfl
  ·exact .inr ⟨q,rfl,by omega,hq2.ne (by omega)⟩
def zln{A:Type}{f:D->Option D}{g g':A->D}:∀{l:List A},(∀ x,x ∈ l->f (g x)=some (g' x))->y1k f (l.map g)=some (l.map g')
 |[],_=>rfl
 |x::l,h=>by rw[al,al,z1k,h x (by simp),zln fun y hy=>h y (by simp[hy])];rfl
def yfj{vs:List Int}:dV (cL (vs.map cI))=.agg [dI 3,dI 0,.str [],.imm .none (vs.map fun n=>dV (cI n))]:=by unfold cL;rw[z3v,gL];rfl
def r366(vs:List Int)(hv:vs.length<=100000):yu E (dL E) 366 [.imm .none (vs.map dI)]=some (dV (cL (vs.map cI))):=by
 obtain⟨d,hp',e,sp,rfl,_⟩:=s366 vs .none [] hv;unfold yu;have hk:E.keep 366=false:=rfl;have hz:frz hp' depth (.agg [dI 3,dI 0,.str [],.imm sp (vs.map xI)])=some (dV (cL (vs.map cI))):=by
  have:y1k (frz hp' 10) (vs.map xI)=some (vs.map fun n=>dV (cI n)):=zln fun n _=>yid
  rw[yfj];show frz hp' 12 _=_
  have hs:frz hp' 11 (.str [])=some (.str []):=rfl;simp[this,hs]
 simp[e,hk];exact hz
def ygp(a b:Ent):Int:=orI [y3r a.kind b.kind,y3r a.idx b.idx]
def r362(a b:Ent):yu E (dL E) 362 [y3g a.kind a.idx,y3g b.kind b.idx]=some (dI (ygp a b)):=by
 have h1:=r74 a.kind b.kind;have h2:=r74 a.idx b.idx;have h3:=yjo [y3r a.kind b.kind,y3r a.idx b.idx] (by simp)
 simp only[ya,al,aO]at h3;refine zg c362 (by simp) ?_
 conv in t362=>reduce;dsimp[ai]
 simp[t362,n362,h1,h2,h3]
 try rfl
def ztv{a b:Ent}:ygp a b<0 ↔ ltA a b:=by
 unfold ygp ltA y3r;simp only[orI]
 repeat' split
 all_goals omega
def yia{P:Prop}[Decidable P]{b:Bool}:(if P then some (D.bool true)else some (D.bool b))=some (D.bool (decide P || b)):=by by_cases h:P <;> simp[h]
def zs3{a b:Bool}:yi7 (.bool a) (some (.bool true)) (some (.bool b))=some (.bool (a || b)):=by cases a <;> rfl
def ygo(l:List Ent)(i:Nat):Prop:=(∀ j,∀ h:j<l.length,j<i->y76 l[j]) /\ ∀ j,∀ h:j+1<l.length,j+1<i->ltA l[j] l[j+1]
def zr2{l:List Ent}:ygo l 0:=⟨fun _ _ h=>absurd h (by omega),fun _ _ h=>absurd h (by omega)⟩
def zw2{l:List Ent}(h:ygo l l.length):(∀ x,x ∈ l->y76 x)/\yjp l:=by
 refine⟨fun x hx=>?_,fun j hj=>h.2 j hj hj⟩
 obtain⟨j,hj,rfl⟩:=List.mem_iff_getElem.1 hx;exact h.1 j hj hj
def zzi{l:List Ent}{i:Nat}(hi:i<l.length)(h:ygo l i)(hx:y76 l[i])(ho:∀ h:0<i,ltA (l[i - 1]'(by omega)) l[i]):ygo l (i+1):=by
 constructor
 ·intro j hj hji
  by_cases e:j=i
  ·subst e;exact hx
  ·exact h.1 j hj (by omega)
 ·intro j hj hji
  by_cases e:j+1=i
  ·subst e;exact ho (by omega)
  ·exact h.2 j hj (by omega)
def zzb{l:List Ent}{i:Nat}(h:i<l.length):y3i (l.take (i+1))=y3i (l.take i)+l[i].amt:=by rw[aN h,z4t];simp[y3i]
def ydk{l:List Ent}{i:Nat}(h:ygo l i):i<=l.length -> -(i*1099511627776:Int)<=y3i (l.take i)/\y3i (l.take i)<=(i*1099511627776:Int):=by
 induction i with
 |zero=>intro _;simp[y3i]
 |succ i ih=>
  intro hi;have h1:=ih ⟨fun j hj hji=>h.1 j hj (by omega),fun j hj hji=>h.2 j hj (by omega)⟩ (by omega)
  have h2:=h.1 i hi (by omega)
  rw[zzb hi];obtain⟨_,_,_,h3,h4⟩:=h2
  push_cast
  omega
def zeo{p:Pst}(h : ¬ fmP p):y6z p=410:=by unfold y6z;rw[if_neg h]
def ylu(p:Pst)(h32:p.prev.length=32)(hl:p.ents.length<=1000000):yu E (dL E) 355 [y56 p]=some (dI (y6z p)):=by
 refine zg c355 (by simp) ?_
 conv in t355=>reduce;dsimp[ai]
 obtain⟨no,minute,corrects,ents,prev⟩:=p;simp only at h32 hl;simp[t355,n355,h32,yia,zs3];split
 ·rename_i hb;rw[zeo];rintro⟨h1,h2,h3,⟨h4,h5,h6,h7⟩⟩;simp only at h1 h2 h3 h4 h5;omega
 rename_i hg;refine zo ents.length (fun i env h=>∃(x0 x2 x4 x5 x6 x10 x11 x12 x13 x14:D) ,env=[x0,.iptr (dI no::dI minute::dI corrects :: .imm .none (ents.map y2v)::prev.map yd),x2,dI (y3i (ents.take i)),x4,x5,x6,.imm .none (ents.map y2v),dI ents.length,dI i,x10,x11,x12,x13,x14]/\ygo ents i) 0 (by omega) ?_ ?_
 ·exact⟨_,_,_,_,_,_,_,_,_,_,rfl,zr2⟩
 rintro i env h hi ⟨x0,x2,x4,x5,x6,x10,x11,x12,x13,x14,rfl,ok⟩
 by_cases hlt:i<ents.length
 ·have hup:=ze hlt (by omega)
  have hbad : ¬ y76 ents[i]->y6z { no:=no,minute:=minute,corrects:=corrects,ents:=ents,prev:=prev }=410:=fun hx=>zeo fun f=>hx (f.ents.ok _ (av hlt))
  have hs:=zzb hlt;have hsb:=ydk ok hi;simp[hlt,hup,yia,zs3];split
  ·rename_i hb;refine(hbad fun hx=>?_).symm
   obtain⟨h1,h2,h3,h4,h5⟩:=hx;omega
  rename_i hb;have hx:y76 ents[i]:=⟨by omega,by omega,by omega,by omega,by omega⟩
  have hsw:aJ.wrap (y3i (ents.take i)+ents[i].amt)=y3i (ents.take (i+1)):=by rw[hs];refine za ⟨?_,?_⟩ <;> omega
  by_cases h0:i=0
  ·have ok':=zzi hlt ok hx (fun h=>absurd h (by omega))
   subst h0;simp at hsw;have h1:aJ.wrap 1=1:=by decide
   simp[hsw,h1,hlt];exact ok'
  ·have hw:aJ.wrap ((i:Int) - 1)=((i - 1:Nat):Int):=by rw[za ⟨by omega,by omega⟩];omega
   have hlt':i - 1<ents.length:=by omega
   have h0':0<i:=by omega
   have hc:=r362 ents[i - 1] ents[i]
   by_cases hq:ltA ents[i - 1] ents[i]
   ·have ok':=zzi hlt ok hx (fun _=>hq)
    have hn : ¬ 0<=ygp ents[i - 1] ents[i]:=by have:=ztv.2 hq;omega
    simp[h0',hw,hlt',hc,hn,hsw,hup];exact ok'
   ·have hn:0<=ygp ents[i - 1] ents[i]:=by
     by_cases h:ygp ents[i - 1] ents[i]<0
     ·exact absurd (ztv.1 h) hq
     ·omega
    simp[h0',hw,hlt',hc,hn];refine(zeo fun f=>hq ?_).symm
    have:=f.ents.ord (i - 1) (by simp only;omega)
    simp only[show i - 1+1=i from by omega]at this
    exact this
 ·have:i=ents.length:=by omega
  subst this;rw[bh];obtain⟨o1,o2⟩:=zw2 ok;have hf:fmP { no:=no,minute:=minute,corrects:=corrects,ents:=ents,prev:=prev }:=⟨by simp only;omega,by simp only;omega,by simp only;omega,by simp only;omega,by simp only;omega,o1,o2⟩
  unfold y6z;rw[if_pos hf]
  by_cases h0:y3i ents=0 <;> simp[h0]
def Le(l:List Ent)(i:Nat):List D:=(l.take i).map fun x=>dV (y70 x)
def ygh{l:List Ent}:Le l 0=[]:=rfl
def yje{l:List Ent}:Le l l.length=l.map fun x=>dV (y70 x):=by unfold Le;rw[bh]
def yjd{l:List Ent}{i:Nat}(h:i<=l.length):(Le l i).length=i:=by unfold Le;rw[aF,bc];omega
def Le_s{l:List Ent}{i:Nat}(h:i<l.length):Le l (i+1)=Le l i++[dV (y70 l[i])]:=by unfold Le;rw[aN h,bp];rfl
def Le_4{l:List Ent}{i:Nat}:∀ x,x ∈ Le l i->is4 x:=by
 intro x hx;obtain⟨e,_,rfl⟩:=aL.1 hx;constructor
 ·rw[y70,cL,z3v];rfl
 ·rw[y70,cL,z3v];rfl
def At.dif{hp:List Obj}{i j:Nat}{a b:Obj}(h:At hp i a)(h':At hp j b)(hn:a ≠ b):i ≠ j:=by rintro rfl;unfold At at h h';rw[h]at h';exact hn (cr h')
def yif{hp:List Obj}{n:Nat}{l:List Ent}(h:∀ x,x ∈ l->i64 x.kind/\i64 x.idx/\i64 x.amt):y1k (frz hp (n+4)) (Le l l.length)=some (l.map fun x=>dV (y70 x)):=by rw[yje];exact z1e fun x hx=>zzm 1 (y70 x) (zsw (h x hx)) (by rw[ztn];omega) (n+4) (by omega)
def yiq{p:Pst}:dV (ybj p)=.agg [dI 3,dI 0,.str [],.imm .none [dV (cI p.no),dV (cI p.minute),dV (cI p.corrects),.agg [dI 3,dI 0,.str [],.imm .none (p.ents.map fun x=>dV (y70 x))],.agg [dI 2,dI 0,.str p.prev,.imm .none []]]]:=by
 unfold ybj cL cT;rw[z3v];simp only[al,aO,z3v,gL]
 rfl
def zsx{p:Pst}(h:yjs p)(hl:p.ents.length<=1000000)(h32:p.prev.length=32):y7b (ybj p):=by
 have:=zlz h hl (by omega)
 unfold ya7 at this;exact⟨yfa h,by have:=yfi (p:=p);omega,by omega⟩
def zan{l:List UInt8}(h:l.length=32):y13 E 73 (.iptr (l.map yd)) none none none=some (.imm .none (l.map yd)):=by unfold y13;simp[h,bnd];rw[bd (by simp[h])]
noncomputable def ymj(p:Pst):D:=if y6z p=0 then .tup [dBy (ya7 p),dI 0]else .tup [.imm .none [],dI (y6z p)]
def z3g:∀(n k:Nat) (cs:List D),cs.length=k+n->y2d cs k n=some (cs.drop k)
 | 0,k,cs,h=>by rw[y2d,List.drop_of_length_le (by omega)]
 |n+1,k,cs,h=>by
  have hk:k<cs.length:=by omega
  rw[y2d,z3g n (k+1) cs (by omega),ac hk,List.drop_eq_getElem_cons hk]
def zsa{p:Pst}(h32:p.prev.length=32):y8j E 71 (.iptr (dI p.no::dI p.minute::dI p.corrects :: .imm .none (p.ents.map y2v)::p.prev.map yd))=some (y56 p):=by
 rw[zbf];have e:=z3g 36 0 (dI p.no::dI p.minute::dI p.corrects :: .imm .none (p.ents.map y2v)::p.prev.map yd) (by simp[h32])
 rw[show(E.ty 71).size=36 from rfl,e]
 rfl
def zp{hp:List Obj}{n:Nat}{l:List UInt8}:y1k (frz hp (n+1)) (l.map yd)=some (l.map yd):=z1e fun x _=>rfl
def z3b{hp:List Obj}{n:Nat}{l:List Ent}:y1k (frz hp (n+2)) (l.map y2v)=some (l.map y2v):=z1e fun x _=>rfl
def yf7{hp:List Obj}{n:Nat}{p:Pst}:frz hp (n+5) (y56 p)=some (y56 p):=by
 show frz hp (n+5) (.agg _)=_
 rw[z5b];simp only[z1k,z4b,z3u,z3b,aq,zc,zp]
def yff{hp r:List Obj}{k:Nat}{o:Obj}(h:At r k o)(hk:hp.length<=k):At (hp++r.drop hp.length) k o:=by
 unfold At at h ⊢;rw[List.getElem?_append_right hk,List.getElem?_drop];rw[show hp.length+(k - hp.length)=k from by omega]
 exact h
def yhz(vs:List Int)(sp0:yt)(hp:List Obj)(hv:vs.length<=100000):∃ d sp r,y79 (y1j E (dL E)) 366 [.imm sp0 (vs.map dI)] hp=some (d,hp++r)/\d=.agg [dI 3,dI 0,.str [],.imm sp (vs.map xI)]/\y47 hp.length (hp++r) sp vs.length 4:=by
 obtain⟨d,h',e,sp,rfl,R,k,hl⟩:=s366 vs sp0 (ah hp.length .dead) hv;rw[List.length_replicate]at R k hl;refine⟨_,sp,h'.drop hp.length,?_,rfl,?_⟩
 ·unfold y79;rw[e]
  rfl
 ·rcases R with rfl | ⟨q,rfl,hq,hq2⟩
  ·exact .inl rfl
  ·exact .inr ⟨q,rfl,hq,yff hq2 hq⟩
def r334(p:Pst)(h32:p.prev.length=32)(hl:p.ents.length<=1000000):yu E (dL E) 334 [y56 p]=some (ymj p):=by
 refine zg c334 (by simp) ?_
 conv in t334=>reduce;dsimp[ai]
 have h355:=ylu p h32 hl;unfold ymj;obtain⟨no,minute,corrects,ents,prev⟩:=p;simp only at h32 hl;have hil:=zsa (p:={ no:=no,minute:=minute,corrects:=corrects,ents:=ents,prev:=prev }) h32;simp only at hil
 by_cases hg:y6z { no:=no,minute:=minute,corrects:=corrects,ents:=ents,prev:=prev }=0
 ·rw[if_pos hg];rw[hg]at h355;obtain⟨d1,sp1,r1,e1,rfl,R1⟩:=yhz [no,minute,corrects] .none [] (by simp)
  obtain⟨d2,sp2,r2,e2,rfl,R2⟩:=yhz [] .none r1 (by simp)
  have g1:=(z4j.1 hg).fm;have hln:ents.length<=4096:=g1.ents.most;rw[bn]at e1 R1;have S1:∃ G:List Obj,G=r1++r2 /\ ∀ k,sp1=.tok k->At G k (.tok 12 4)/\k<r1.length:=⟨_,rfl,fun k hk=>by
   rcases R1 with rfl | ⟨q,rfl,_,hq⟩
   ·cases hk
   ·cases hk;exact⟨At.app hq,At.lt hq⟩⟩
  have R1':sp1=.exact \/ ∃ k,sp1=.tok k:=by
   rcases R1 with h | ⟨q,h,_⟩
   ·exact .inl h
   ·exact .inr ⟨q,h⟩
  obtain⟨G,hG,T⟩:=S1;rw[<- hG]at e2 R2;have hG1:r1.length<=G.length:=by rw[hG];simp
  clear hG R1;simp at e1 e2 R2;have w1:∀ x y:Obj,(G++[x,y])[G.length+1]? = some y:=fun x y=>by simp
  have w2:∀ x y z:Obj,(G++[x,y]).set (G.length+1) z=G++[x,z]:=fun x y z=>by simp
  simp[t334,n334,h32,h355,z7g,↓hil,z3b,zp,e1,e2,↓w1,↓w2];refine zo ents.length (fun i env h=>∃(x0 x2 x3 x4 x7 x8 x9 x10 x14 x15 x16 x17 x18:D) (sp:yt),env=[x0,.iptr (dI no::dI minute::dI corrects :: .imm .none (ents.map y2v)::prev.map yd),x2,x3,x4,.loc G.length 0,.loc (G.length+1) 0,x7,x8,x9,x10,.imm .none (ents.map y2v),dI ents.length,dI i,x14,x15,x16,x17,x18] /\
   At h G.length (.cells [dI 3,dI 0,.str [],.imm sp1 [xI no,xI minute,xI corrects]])/\At h (G.length+1) (.cells [dI 3,dI 0,.str [],.imm sp (Le ents i)])/\(∀ k,sp1=.tok k->At h k (.tok 12 4))/\y47 r1.length h sp i 4/\G.length+2<=h.length) 0 (by omega) ?_ ?_
  ·refine⟨_,_,_,_,_,_,_,_,_,_,_,_,_,sp2,rfl,by simp[At],by simp[At,ygh],fun k hk=>(T k hk).1.app,?_,by simp⟩
   rcases R2 with h | ⟨q,h,hq,hq2⟩
   ·exact .inl h
   ·exact .inr ⟨q,h,hq,hq2.app⟩
  rintro i env h hi ⟨x0,x2,x3,x4,x7,x8,x9,x10,x14,x15,x16,x17,x18,sp,rfl,a1,a2,T1,T3,hlen⟩;have hL:(Le ents i).length=i:=yjd hi
  by_cases hlt:i<ents.length
  ·have hup:=ze hlt (by omega)
   have e4:=r366 [ents[i].kind,ents[i].idx,ents[i].amt] (by simp)
   simp only[al,aO]at e4;have hap:∀ x:D,y2o E 55 (Le ents i) [x]:=fun x=>zc6 (by rw[hL];simp;omega) Le_4
   have hv:dV (cL [cI ents[i].kind,cI ents[i].idx,cI ents[i].amt])=dV (y70 ents[i]):=rfl;have h4:is4 (dV (y70 ents[i])):=Le_4 (l:=ents) (i:=i+1) _ (by rw[Le_s hlt];simp)
   have hsp:=Le_s hlt;have nt:∀(i:Nat) (l:List D) (a b:Nat),Obj.tok a b ≠ .cells l:=fun _ _ _ _ e=>by cases e
   have T2:∀ k,sp1=.tok k->k<r1.length:=fun k hk=>(T k hk).2
   have T4:∀ k,sp1=.tok k->k<h.length/\k ≠ G.length/\k ≠ G.length+1:=fun k hk=>⟨(T1 k hk).lt,(T1 k hk).dif a1 (nt 0 _ _ _),(T1 k hk).dif a2 (nt 0 _ _ _)⟩
   rcases T3 with rfl | ⟨q,rfl,hq,hq2⟩
   ·have a3:∀ X o,((h++X).set (h.length+1+13) o)[G.length+1]? = some (.cells [dI 3,dI 0,.str [],.imm .exact (Le ents i)]):=fun X o=>(a2.app (r:=X)).ne (by omega)
    simp[hlt,hup,a2.appE,zq,zz,hap,hL,e4,hv,h4.1,h4.2,↓a3];refine⟨((a1.app).ne (by omega)).ne (by omega),.tok (h.length+1+13),by rw[hsp];exact At.self (by simp;omega),fun k hk=>?_,.inr ⟨_,rfl,by omega,?_⟩,by omega⟩
    ·obtain⟨k1,k2,k3⟩:=T4 k hk;exact(((T1 k hk).app).ne (by omega)).ne (by omega)
    ·exact(At.self (by simp)).ne (by omega)
   ·have q1:q ≠ G.length:=hq2.dif a1 (nt 0 _ _ _);have q2:q ≠ G.length+1:=hq2.dif a2 (nt 0 _ _ _);have hq3:∀ X,(h++X)[q]? = some (.tok (i*4) 4):=fun X=>hq2.app (r:=X)
    have hql:=hq2.lt;have a2':At (h.set q .dead) (G.length+1) (.cells [dI 3,dI 0,.str [],.imm (.tok q) (Le ents i)]):=a2.ne (by omega)
    have a1':=a1.ne (j:=q) (x:=.dead) (by omega)
    have a3:∀ X o,((h.set q .dead++X).set (h.length+1+13) o)[G.length+1]? = some (.cells [dI 3,dI 0,.str [],.imm (.tok q) (Le ents i)]):=fun X o=>(a2'.app (r:=X)).ne (by omega)
    have hs:∀ X o,(h++X).set q o=h.set q o++X:=fun X o=>z1d hql
    simp[hlt,hup,a2.appE,zq,z14,hap,hL,e4,hv,h4.1,h4.2,↓a3,hq3,↓hs];refine⟨((a1'.app).ne (by omega)).ne (by omega),.tok (h.length+1+13),by rw[hsp];exact At.self (by simp;omega),fun k hk=>?_,.inr ⟨_,rfl,by omega,?_⟩,by omega⟩
    ·obtain⟨k1,k2,k3⟩:=T4 k hk;have:=T2 k hk;exact((((T1 k hk).ne (by omega)).app).ne (by omega)).ne (by omega)
    ·exact(At.self (by simp)).ne (by omega)
  ·have:i=ents.length:=by omega
   subst this;have hap:∀ x y:D,y2o E 55 [xI no,xI minute,xI corrects] [x,y]:=fun x y=>zc6 (by simp) fun z hz=>zzk (l:=[no,minute,corrects]) z hz
   have hsl:=zan h32;have hi64:=zsd g1;have hz:=yif (hp:=[]) (n:=4) hi64.ents;have hst:∀ n s,frz [] (n+1) (.str s)=some (.str s):=fun _ _=>rfl
   have e64:=r264 (zsx hi64 hl h32);rw[yiq,zxs,zxs,zxs]at e64;simp only at hz e64;have hGl:G.length<h.length:=by omega
   have hr:∀(X:List Obj) (o:Obj),((h++X).set G.length o)[G.length]? = some o:=fun X o=>At.self (by simp;omega)
   rcases R1' with rfl | ⟨k1,rfl⟩
   ·simp[a1.appE,a2.appE,hsl,zfk,zq,zz,hap,↓hr,hz,hst,e64,zp]
    rfl
   ·have hk:=(T1 k1 rfl);have hk1:k1 ≠ G.length:=hk.dif a1 (fun e=>by cases e)
    have hkl:=hk.lt;have hk2:∀ X:List Obj,(h++X)[k1]? = some (.tok 12 4):=fun X=>hk.app (r:=X)
    have hs:∀(X:List Obj) (o:Obj),(h++X).set k1 o=h.set k1 o++X:=fun X o=>z1d hkl
    have a1':=a1.ne (j:=k1) (x:=.dead) (by omega)
    have hw:∀ X:List Obj,(h.set k1 .dead++X)[G.length]? = some (.cells [dI 3,dI 0,.str [],.imm (.tok k1) [xI no,xI minute,xI corrects]]):=fun X=>a1'.app (r:=X)
    have hr':∀(X:List Obj) (o:Obj),((h.set k1 .dead++X).set G.length o)[G.length]? = some o:=fun X o=>At.self (by simp;omega)
    simp[a1.appE,a2.appE,hsl,zfk,zq,z14,hap,↓hk2,↓hs,hw,↓hr',hz,hst,e64,zp]
    rfl
 ·rw[if_neg hg];simp[t334,n334,h32,h355,hg,↓hil,z3b,zp]
abbrev Wd:=BitVec 32
abbrev dW(w:Wd):D:=.int .u32 (w.toNat:Int)
def z64(m:Int):eF.wrap m=m % 4294967296:=by simp[gD,gE,fY]
def zfh:eF.bits=32:=rfl
def znd{w:Wd}:cy 32 (w.toNat:Int)=w:=by simp
def yd0{a b:Wd}:eF.wrap ((a.toNat:Int)+b.toNat)=((a+b).toNat:Nat):=by rw[z64,BitVec.toNat_add];omega
def yh4{w:Wd}:w.toNat<4294967296:=w.isLt
def ycz{w:Wd}:((w.toNat:Nat):Int) % 4294967296=w.toNat:=by have:=yh4 (w:=w);omega
def ycx{a b:Wd}:y9x .u32 (a.toNat:Int) b.toNat=((a ^^^ b).toNat:Nat):=by unfold y9x;rw[z64,show eF.bits=32 from rfl,znd,znd,ycz]
def yjz{a b:Wd}:yg8 .u32 (a.toNat:Int) b.toNat=((a &&& b).toNat:Nat):=by unfold yg8;rw[z64,show eF.bits=32 from rfl,znd,znd,ycz]
def yjy{a b:Wd}:yc3 .u32 (a.toNat:Int) b.toNat=((a ||| b).toNat:Nat):=by unfold yc3;rw[z64,show eF.bits=32 from rfl,znd,znd,ycz]
def yh3{a:Wd}{n:Nat}(h:n<=32):eF.wrap ((a.toNat:Int)*2 ^ (min n 32))=((a <<< n).toNat:Nat):=by
 rw[z64,hU,Nat.shiftLeft_eq,bU h];have e:(a.toNat:Int)*2 ^ n=((a.toNat*2 ^ n:Nat):Int):=by rw[Int.natCast_mul,jN];rfl
 rw[e,show(2:Nat) ^ 32=4294967296 from rfl]
 omega
def ycy{a:Wd}{n:Nat}(h:n<=32):(a.toNat:Int).fdiv (2 ^ (min n 32))=((a >>> n).toNat:Nat):=by
 rw[gM,Nat.shiftRight_eq_div_pow,bU h,ep _ (ku (by decide)),mF,jN]
 rfl
def y9i(x:Wd)(s:Nat):Wd:=(x <<< s) ||| (x >>> (32 - s))
def yhc(k:Int):yg8 .u64 (bL.wrap k) 31=k % 32:=by
 unfold yg8;rw[z2k,z2k,show bL.bits=64 from rfl]
 have:(cy 64 (k % 18446744073709551616) &&& cy 64 31).toNat=(k % 18446744073709551616).toNat % 32:=by
  rw[BitVec.toNat_and];have h1:(cy 64 31).toNat=31:=by decide
  rw[h1];have h2:(cy 64 (k % 18446744073709551616)).toNat=(k % 18446744073709551616).toNat:=by
   rw[BitVec.toNat_ofInt];show((k % 18446744073709551616) % 18446744073709551616).toNat=_
   omega
  rw[h2];exact Nat.and_two_pow_sub_one_eq_mod _ 5
 rw[this];omega
def ye2(x:Wd)(k:Int)(h:i64 k):yu E (dL E) 406 [dW x,dI k]=some (dW (y9i x (k % 32).toNat)):=by
 refine zg c406 (by simp) ?_
 conv in t406=>reduce;dsimp[ai]
 have e:=yhc k;obtain⟨s,hs⟩:∃ s:Nat,k % 32=s:=⟨(k % 32).toNat,by omega⟩
 have hs32:s<32:=by omega
 rw[hs]at e ⊢;have hw:bL.wrap (32 - (s:Int))=((32 - s:Nat):Int):=by rw[z2k];omega
 have e1:=yh3 (a:=x) (n:=s) (by omega)
 have e2:=ycy (a:=x) (n:=32 - s) (by omega)
 have e3:=yjy (a:=x <<< s) (b:=x >>> (32 - s));rw[bU (by omega)]at e1 e2
 have m1:min s 32=s:=bU (by omega)
 have m2:min (32 - s) 32=32 - s:=bU (by omega)
 simp[t406,n406,y49,zfh,e,hw,m1,m2,e1,e2,e3,-hU,-gM,-jO]
 rfl
def r407(x:Wd)(a b c:Int)(ha:0<=a/\a<=100)(hb:0<=b/\b<=100)(hc:0<=c/\c<=100) :
  yu E (dL E) 407 [dW x,dI a,dI b,dI c]=some (dW (y9i x (-a % 32).toNat ^^^ y9i x (-b % 32).toNat ^^^ y9i x (-c % 32).toNat)):=by
 refine zg c407 (by simp) ?_
 conv in t407=>reduce;dsimp[ai]
 have e1:=ye2 x (-a) ⟨by omega,by omega⟩
 have e2:=ye2 x (-b) ⟨by omega,by omega⟩
 have e3:=ye2 x (-c) ⟨by omega,by omega⟩
 have h1:aJ.wrap (-a) = -a:=za ⟨by omega,by omega⟩
 have h2:aJ.wrap (-b) = -b:=za ⟨by omega,by omega⟩
 have h3:aJ.wrap (-c) = -c:=za ⟨by omega,by omega⟩
 simp[t407,n407,e1,e2,e3,h1,h2,h3,ycx,-BitVec.toNat_xor]
def yaj(b:List UInt8)(n:Nat):Wd:=(b.take n).foldl (fun w c=>(w <<< 8) ||| jC 32 c.toNat) 0
def ygx{b:List UInt8}{n:Nat}(h:n<b.length):yaj b (n+1)=(yaj b n <<< 8) ||| jC 32 b[n].toNat:=by unfold yaj;rw[aN h,fW];rfl
def zlg{l:List UInt8}:y2u 1 (l.map yd)=true:=by cases l <;> rfl
def zkn{b:List UInt8}{i:Nat}(h:i<=b.length):y13 E 30 (.imm .none (b.map yd)) none (some (dI i)) none=some (.imm .none ((b.take i).map yd)):=by unfold y13;simp[bnd];exact⟨⟨h,zlg⟩,by unfold y27;simp⟩
def z2f{E:Env}{cP:Nat->List D->Option D}{env:List D}{hp:List Obj}{a t:Nat}{d:D}{x:Xp}:xv E cP env hp (.n (.slice t (.t a) none (some (.c d)) none) (.cons a x .nil))=ob (xv E cP env hp x) fun u=>y13 E t u none (some d) none:=by
 simp only[xv,xvs];cases xv E cP env hp x <;> try rfl
 simp only[yb,gOf,kv,if_true,zc];exact z19
def r405(b:List UInt8)(h:4<=b.length):yu E (dL E) 405 [.imm .none (b.map yd)]=some (dW (yaj b 4)):=by
 refine zg c405 (by simp) ?_
 conv in t405=>reduce;dsimp[ai]
 have e:=zkn h;have hl:((b.take 4).map yd).length=4:=by simp;omega
 have e:y13 E 30 (.imm .none (b.map yd)) none (some (.int .i64 4)) none=some (.imm .none ((b.take 4).map yd)):=e;simp[t405,n405,e,z2f];rw[bU h];refine zo 4 (fun i env h=>∃(x0 x2 x6:D) ,env=[x0,dW (yaj b i),x2,.imm .none ((b.map yd).take 4),dI 4,dI i,x6]) 0 (by omega) ?_ ?_
 ·exact⟨_,_,_,rfl⟩
 rintro i env hp hi ⟨x0,x2,x6,rfl⟩
 by_cases hlt:i<4
 ·have hup:=ze hlt (by omega)
  have hib:i<b.length:=by omega
  have hs:=ygx hib;have e1:=yh3 (a:=yaj b i) (n:=8) (by omega)
  have hc:b[i].toNat<256:=b[i].toNat_lt;have e2:eF.wrap (b[i].toNat:Int)=((jC 32 b[i].toNat).toNat:Nat):=by rw[z64,lG];omega
  have e3:=yjy (a:=yaj b i <<< 8) (b:=jC 32 b[i].toNat);have hi4:(i:Int)<4:=by omega
  rw[bU (by omega)]at e1
  have e1:eF.wrap (((yaj b i).toNat:Int)*256)=((yaj b i <<< 8).toNat:Nat):=e1;simp[hi4,hlt,hup,y49,zfh,e1,e2,e3,hs,hib,-hU,-jO,-lG]
 ·have:i=4:=by omega
  subst this;simp
def y7j(m:List UInt8)(off n v:Nat):Nat->List UInt8
 | 0=>m
 |i+1=>(y7j m off n v i).set (off+(n - 1 - i)) (cv (v / 2 ^ (8*i)))
def z6b{m:List UInt8}{off n v:Nat}:∀{i:Nat},(y7j m off n v i).length=m.length
 | 0=>rfl
 |i+1=>by rw[y7j,bq,z6b]
def zpx(m:Int):kR.wrap m=m % 256:=by simp[gD,gE,fY]
def zvs{v i:Nat}(h:i<8):kR.wrap ((v:Int).fdiv (2 ^ (min (8*i) 64)))=((cv (v / 2 ^ (8*i))).toNat:Nat):=by
 rw[zpx,bU (by omega),ep _ (ku (by decide)),lF]
 have e:(v:Int) / 2 ^ (8*i)=((v / 2 ^ (8*i):Nat):Int):=by rw[mF,jN];rfl
 rw[e];omega
def z7h{hp:List Obj}{id:Nat}{o:Obj}(h:At hp id o):hp.set id o=hp:=by
 apply List.ext_getElem?;intro j
 by_cases hj:j=id
 ·subst hj;rw[aR h.lt];exact h.symm
 ·rw[List.getElem?_set_ne (by omega)]
def Bys(hp:List Obj)(id:Nat)(m:List UInt8):Prop:=At hp id (.cells (m.map yd))
def yji{hp:List Obj}{id off n:Nat}{gr:Bool}{m:List UInt8}(v:Nat)(hv:v<18446744073709551616)(hn:n<=8)(ho:off+n<=m.length)(B:Bys hp id m) :
  ∃ d hp',y1j E (dL E) 383 [.sl id off n 1 false gr,.int .u64 v] hp=some (d,hp')/\(d=.tup []/\hp'=hp.set id (.cells ((y7j m off n v n).map yd))):=by
 refine z1j c383 (args:=[.sl id off n 1 false gr,.int .u64 v]) (hp:=hp) (R:=fun d hp'=>d=.tup []/\hp'=hp.set id (.cells ((y7j m off n v n).map yd))) (by simp) ?_
 conv in t383=>reduce;dsimp[ai]
 have hid:=At.lt B;simp[t383,n383];refine zo n (fun i env h=>∃(x2 x5:D) ,env=[.sl id off n 1 false gr,.int .u64 v,x2,dI n,dI i,x5]/\h=hp.set id (.cells ((y7j m off n v i).map yd))) 0 (by omega) ?_ ?_
 ·refine⟨_,_,rfl,?_⟩;rw[y7j];exact(z7h B).symm
 rintro i env h hi ⟨x2,x5,rfl,rfl⟩;have hset:∀ o:Obj,(hp.set id o)[id]? = some o:=fun o=>At.self hid
 by_cases hlt:i<n
 ·have hup:=ze hlt (by omega)
  have hb:=zvs (v:=v) (i:=i) (by omega)
  have h1:aJ.wrap ((n:Int) - 1)=(n:Int) - 1:=za ⟨by omega,by omega⟩
  have h2:aJ.wrap ((n:Int) - 1 - i)=((n - 1 - i:Nat):Int):=by rw[za ⟨by omega,by omega⟩];omega
  have h3:aJ.wrap (8*(i:Int))=((8*i:Nat):Int):=by rw[za ⟨by omega,by omega⟩];omega
  have h4:(n - 1 - i:Nat)<n:=by omega
  have h5:off+(n - 1 - i)+1<=m.length:=by omega
  have h0:(8*(i:Int)).toNat=8*i:=by omega
  have h6:off+(n - 1 - i)<(y7j m off n v i).length:=by rw[z6b];omega
  have h8:(0:Int)<=8*(i:Int):=by omega
  simp[hlt,hup,hset,z48,y49,h1,h2,h3,h4,h5,hb,h0,h8,z6b,y7j];have hbe:yd (cv (v / 2 ^ (8*i)))=.int .u8 ((v:Int) / 2 ^ (8*i) % 256):=by
   show D.int .u8 ((cv (v / 2 ^ (8*i))).toNat:Int)=_
   rw[<- hb,zpx,bU (by omega),ep _ (ku (by decide))]
  rw[hbe]
 ·have:i=n:=by omega
  subst this;simp
end Dv
