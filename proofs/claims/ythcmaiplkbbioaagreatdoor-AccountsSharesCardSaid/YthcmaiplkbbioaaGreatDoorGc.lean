/- Texts that a proof of this claim uses, joined: Lw.W97, Lw.W98, Lw.W113, Lw.W29, Lw.W99, Lw.W100, Lw.W114, Lw.W115, Lw.W116, Lw.W62, Lw.W63, Lw.S29, Lw.W67, Lw.W68, Lw.W117, Lw.W118, Lw.W119, Lw.W123, Lw.W124, Lw.W200, Lw.W201, Lw.W202, Lw.W215, Lw.W216, Lw.W240, Lw.W203, Lw.W204, Lw.W205, Lw.W206, Lw.W207, Lw.W208, Lw.W209, Lw.W210. -/
import Derived.Test.YthcmaiplkbbioaaGreatDoorGb
import Derived.Test.YthcmaiplkbbioaaGreatDoorGa
import Derived.Test.YthcmaiplkbbioaaGreatDoorTc
import Derived.Test.YthcmaiplkbbioaaGreatDoorDvd
import Derived.KernelRfl
import Derived.Test.YthcmaiplkbbioaaGreatDoorWa
import Derived.Test.YthcmaiplkbbioaaGreatDoorDva
set_option linter.all false
open BitVec renaming ofInt->cy,ofNat->jv,toNat_ofNat->lv,toNat_or->jH,toNat_shiftLeft->gU,toNat_ushiftRight->gC
open Bool renaming and_eq_true->ak,and_true->ed
open Decidable renaming not_not->fR
open Go.IntKind renaming bits->gu,i64->aH,signed->fS,u32->eA,u64->bI,u8->gY,wrap->gt
open Int renaming fdiv_eq_ediv_of_nonneg->ee,natCast_ediv->mr,natCast_pow->jG,negSucc_eq->ai,pow_nonneg->kh
open List renaming all_cons->cG,all_eq_true->ay,all_nil->dU,append_assoc->bi,append_nil->bL,cons_append->aJ,dropLast_concat_getLast->dM,eq_nil_of_length_eq_zero->aI,foldl_append->fQ,getD_eq_getElem?_getD->af,getElem?_append_left->aB,getElem?_eq_getElem->ac,getElem?_set_self->aQ,getElem_cons_succ->dZ,getElem_map->fZ,getElem_mem->au,getElem_of_mem->dt,getLast?_cons_cons->jy,length->cM,length_append->ar,length_cons->aq,length_map->aD,length_nil->aV,length_range->fP,length_reverse->kO,length_set->bn,length_take->aZ,map->bO,map_append->bm,map_congr_left->fE,map_cons->av,map_map->gB,map_nil->aN,mem_append->aC,mem_cons->aA,mem_map->aK,mem_singleton->bz,nil_append->bo,nodup_cons->dO,not_mem_nil->fB,pairwise_iff_getElem->fj,range->bB,range_succ->fL,replicate->ah,sizeOf_lt_of_mem->kg,sum_cons->kI,take_append_of_le_length->bM,take_length->bg,take_of_length_le->ba,take_succ_cons->fF,take_succ_eq_append_getElem->aL
open List.Pairwise renaming imp->lN
open Nat renaming add_mul->bp,div_lt_iff_lt_mul->kf,le_refl->aj,le_trans->aM,min_eq_left->bS,mul_one->cJ,pow_add->pS
open Ne renaming symm->du
open Option renaming getD_some->aX,map_some->al
open Option.some renaming inj->cr,injEq->aa
open Prod renaming ext->mq
open UInt8 renaming ofNat->cv,toNat_ofNat'->lu
set_option maxRecDepth 100000
set_option maxHeartbeats 16000000
namespace Dv
attribute [local simp] ah depth y22 y4y ya y16 y4t ye y2q y2f Ret
attribute [local congr] z1j z1k z19 z12 zw z1a zu
theorem zzt{E:Env}{a:TC}{Q:Ex->List D->List Obj->Prop}{env:List D}{hp:List Obj}(I:Nat->List D->List Obj->Prop)(k:Nat)(h0:I k env hp)
  (step:∀ k env hp,I k env hp->wT E a (fun ex env' hp'=>match ex with
   |.normal=>∃ k',k'<k/\I k' env' hp'
   |ex=>Q ex env' hp') env hp):wT E (.loop a) Q env hp:=⟨I,k,h0,step⟩
theorem SmS.exam{p:yl}{s:y4e}(M:SmS p s)(hs:OkS p s):SmS p (exam p s):=by
 by_cases hn:s.opn=[]
 ·rw[z9y hn];exact M
 have h1:=zbo hn hs.opn;have h2:=M.most;have h3:(Dv.exam p s).leaves.length<=s.leaves.length+1:=by
  obtain⟨l,b,hl⟩:∃ l b,s.opn=l++[b]:=⟨s.opn.dropLast,s.opn.getLast hn,(dM hn).symm⟩;rw[z5v hl];unfold y8f;split
  ·split <;> simp
  ·split <;> simp
 exact⟨by omega⟩
theorem SmS.iter{p:yl}(ok:OkP p):∀{n:Nat} {s:y4e},SmS p s->OkS p s->SmS p (iter p n s)
 | 0,_,h,_=>h
 |n+1,s,h,hs=>SmS.iter (n:=n) (s:=Dv.exam p s) ok (h.exam hs) (hs.exam ok)
theorem s150(p:yl)(s:y4e)(S:y1d p)(ok:OkP p)(M:SmS p s)(hs:OkS p s)(k:Nat)(caps:List D)(more:Nat->Bool)(hp0:List Obj)(K:Nat->List Obj->Prop)
  (hm:∀ n hp,K n hp->∃ hp',y1g E (dL E) k caps hp=some (.bool (more n),hp')/\K (n+1) hp' /\ ∀ j o,hp0.length<=j->At hp j o->At hp' j o)
  (hK1:∀ n hp r,K n hp->K n (hp++r)) (hK2:∀ n hp j o,K n hp->hp0.length<=j->K n (hp.set j o)) (h0:K 0 hp0) :
  ∃ d hp',y1g E (dL E) 150 [ye p,y5t s,.fn k caps] hp0=some (d,hp') /\ ∃ n ns sp1 sp2,(∀ j,j<n->more j=true)/\((iter p n s).opn=[]\/more n=false)/\(iter p n s).leaves=s.leaves++ns/\(∀ x,x ∈ ns->x.mult=[]) /\
   d=.agg [.imm sp1 ((iter p n s).opn.map ya),ya (iter p n s).best,ya (iter p n s).value,.imm sp2 (dLs s.leaves ns)] /\ ∃ m,K m hp':=by
 obtain⟨R,hR⟩:∃ R:D->List Obj->Prop,R=fun d hp'=>∃ n ns sp1 sp2,(∀ j,j<n->more j=true)/\((iter p n s).opn=[]\/more n=false)/\(iter p n s).leaves=s.leaves++ns/\(∀ x,x ∈ ns->x.mult=[]) /\
   d=.agg [.imm sp1 ((iter p n s).opn.map ya),ya (iter p n s).best,ya (iter p n s).value,.imm sp2 (dLs s.leaves ns)] /\ ∃ m,K m hp':=⟨_,rfl⟩
 have key:∃ d hp',y1g E (dL E) 150 [ye p,y5t s,.fn k caps] hp0=some (d,hp')/\R d hp':=by
  refine z1i c150 (args:=[ye p,y5t s,.fn k caps]) (hp:=hp0) (R:=R) (by simp) ?_
  conv in t150=>reduce;dsimp[ai]
  have m1:=M.opn;have h165:=r165 s.opn m1;have h166:=r166 s.leaves;simp[t150,n150,h165,h166,zr];obtain⟨B,hB⟩:∃ B,B=hp0.length:=⟨_,rfl⟩;rw[<- hB]at hm hK2 ⊢;refine zzt (fun m env hp=>∃(x8 x9 x10 x11 x12 x13 x14 x15 x16 x17 x18 x19 x20 x21 x22 x23 x24 x25 x26 x27 x28 x29 x30 x31:D) (i:Nat) (ns:List y5x) (sp1 sp2:yt),env=[ye p,y5t s,.fn k caps,.loc B 0,.loc (B+1) 0,.loc (B+1+1) 0,.loc (B+3) 0,.fn 167 [.loc (B+1) 0],x8,x9,x10,x11,x12,x13,x14,x15,x16,x17,x18,x19,x20,x21,x22,x23,x24,x25,x26,x27,x28,x29,x30,x31] /\
   m=wO p (iter p i s).opn/\(∀ j,j<i->more j=true)/\(iter p i s).leaves=s.leaves++ns/\(∀ x,x ∈ ns->x.mult=[])/\At hp B (.cells (ye p).cellsL) /\
   At hp (B+1) (.cells [.imm .none (s.opn.map ya),ya (iter p i s).best,ya (iter p i s).value,.imm sp2 (dLs s.leaves ns)])/\At hp (B+1+1) (.cells [.imm .exact [],.imm .exact [],.imm .exact [],.imm .exact []]) /\
   At hp (B+3) (.cells [.imm sp1 ((iter p i s).opn.map ya)])/\y45 (B+4) hp sp2 (s.leaves.length+ns.length) 3/\K i hp) (wO p s.opn)
   ⟨_,_,_,_,_,_,_,_,_,_,_,_,_,_,_,_,_,_,_,_,_,_,_,_,0,[],.none,.exact,rfl,rfl,fun j h=>absurd h (by omega),by simp[iter],fun x h=>(by cases h),by rw[hB];simp[At],by rw[hB];simp[At,iter,dLs],by rw[hB,Nat.add_assoc];simp[At],by rw[hB];simp[At,iter],.inl rfl,hK1 _ _ _ h0⟩ ?_
  rintro m env hp ⟨x8,x9,x10,x11,x12,x13,x14,x15,x16,x17,x18,x19,x20,x21,x22,x23,x24,x25,x26,x27,x28,x29,x30,x31,i,ns,sp1,sp2,rfl,hmm,hmore,hlv,hmu,g0,g1,g2,g3,hr,hK⟩;have okt:OkS p (iter p i s):=OkS.iter ok hs;have Mt:SmS p (iter p i s):=SmS.iter ok M hs;have it1:iter p (i+1) s=exam p (iter p i s):=zrk;have hRt:∀(hp':List Obj) (sp1:yt),K i hp'\/K (i+1) hp'->((iter p i s).opn=[]\/more i=false)->R (.agg [.imm sp1 ((iter p i s).opn.map ya),ya (iter p i s).best,ya (iter p i s).value,.imm sp2 (dLs s.leaves ns)]) hp':=fun hp' sp1 h h'=>by rw[hR];exact⟨i,ns,sp1,sp2,hmore,h',hlv,hmu,rfl,h.elim (fun h=>⟨_,h⟩) fun h=>⟨_,h⟩⟩
  obtain⟨t,ht⟩:∃ t,t=iter p i s:=⟨_,rfl⟩;rw[<- ht]at hmm hlv g1 g3 okt Mt it1 hRt;have hl1:=g1.lt;have hl2:=g2.lt;have G:∀(hq:List Obj),At hq (B+1) (.cells [.imm .none (s.opn.map ya),ya t.best,ya t.value,.imm sp2 (dLs s.leaves ns)])->At hq (B+1+1) (.cells [.imm .exact [],.imm .exact [],.imm .exact [],.imm .exact []]) ->
   (∀ x,(hq.set (B+1) x)[B+1]? = some x)/\(∀ x,(hq.set (B+1) x)[B+1+1]? = some (.cells [.imm .exact [],.imm .exact [],.imm .exact [],.imm .exact []])) /\ ∀ x y,((hq.set (B+1) x).set (B+1+1) y)[B+1+1]? = some y:=fun hq a1 a2=>
   ⟨fun x=>aQ a1.lt,fun x=>(a2.ne (by omega)).eq,fun x y=>aQ (by rw[bn];exact a2.lt)⟩
  by_cases hno:t.opn=[]
  ·obtain⟨q1,q2,q3⟩:=G hp g1 g2;rw[hno]at g3;have hRt2:=fun hp' h=>hRt hp' sp1 h (.inl hno)
   rw[hno]at hRt2;simp[g0.eq,g1.eq,g2.eq,g3.eq,z13,z3y,↓q1,↓q2,↓q3];exact hRt2 _ (.inl (hK2 _ _ _ _ (hK2 _ _ _ _ hK (by omega)) (by omega)))
  obtain⟨l,b,hl⟩:∃ l b,t.opn=l++[b]:=⟨t.opn.dropLast,t.opn.getLast hno,(dM hno).symm⟩;have okb:=okt.opn b (by rw[hl];simp)
  have hll:l.length<=1000000000:=by have:=Mt.opn;rw[hl]at this;simp at this;omega
  have h168:=r168 l b hll;obtain⟨hp2,e1,e2,e3⟩:=hm i hp hK;have h0l:(0:Int)<l.length+1:=by omega
  have a0:=e3 _ _ (by omega) g0
  have a1:=e3 _ _ (by omega) g1
  have a2:=e3 _ _ (by omega) g2
  have a3:=e3 _ _ (by omega) g3
  cases hmi:more i with
  |false=>
   obtain⟨q1,q2,q3⟩:=G hp2 a1 a2;rw[hmi]at e1;rw[hl]at g3 a3;have hRt2:=fun hp' h=>hRt hp' sp1 h (.inr hmi)
   rw[hl]at hRt2;simp only[bm,av,aN,ya]at hRt2;simp[g0.eq,g1.eq,g2.eq,g3.eq,a0.eq,a1.eq,a2.eq,a3.eq,e1,h0l,z13,z3y,↓q1,↓q2,↓q3];exact hRt2 _ (.inr (hK2 _ _ _ _ (hK2 _ _ _ _ e2 (by omega)) (by omega)))
  |true=>
  rw[hmi]at e1;rw[<- hl]at h168;have h0n : ¬ t.opn.length=0:=fun h=>hno (aI h)
  have h0l:0<t.opn.length:=by omega
  obtain⟨hp3,h3⟩:∃ hp3,hp3=hp2.set (B+3) (.cells [.imm .exact (l.map ya)]):=⟨_,rfl⟩;have b0:=a0.ne (j:=B+3) (x:=.cells [.imm .exact (l.map ya)]) (by omega)
  have b1:=a1.ne (j:=B+3) (x:=.cells [.imm .exact (l.map ya)]) (by omega)
  have b2:=a2.ne (j:=B+3) (x:=.cells [.imm .exact (l.map ya)]) (by omega)
  rw[<- h3]at b0 b1 b2;have b3:At hp3 (B+3) (.cells [.imm .exact (l.map ya)]):=by rw[h3];exact At.self a3.lt
  have bK:K (i+1) hp3:=by rw[h3];exact hK2 _ _ _ _ e2 (by omega)
  have bR:y45 (B+4) hp3 sp2 (s.leaves.length+ns.length) 3:=by
   rcases hr with h | ⟨k,h1,h2,h4⟩
   ·exact .inl h
   ·refine .inr ⟨k,h1,h2,?_⟩;rw[h3];exact(e3 _ _ (by omega) h4).ne (by omega)
  clear e3 a0 a1 a2 hK hr;have hu:=z5v (p:=p) hl;have hmore2:∀ j,j<i+1->more j=true:=fun j hj=>by
   by_cases e:j=i
   ·rw[e];exact hmi
   ·exact hmore j (by omega)
  have hles:=zbo hno okt.opn;rw[<- it1]at hu hles;have hnl:s.leaves.length+ns.length<=1000000000:=by have:=Mt.lvs;rw[hlv,ar]at this;exact this
  have hb20:b.length<=20:=by have:=okb.len;have:=S.vars;omega
  obtain⟨V,hV⟩:∃ V,V=yk p b:=⟨_,rfl⟩;have h87:=r87 V t.value (by rw[hV];simp[yk]) (by
   rcases okt.val with⟨e,_⟩ | ⟨_,e⟩
   ·rw[e];simp
   ·rw[e];simp[yk])
  by_cases he:b.length=p.vars.length
  ·have he':(b.length:Int)=p.vars.length:=by omega
   have h22:=r22 p b S hb20;have wb:Whole p b:=⟨ok,okb,he⟩;simp only[ybt,if_pos wb,<- hV]at h22;simp only[y8f,if_pos he,bet,<- hV]at hu;simp only[ye,ya]at h22 h87 h168
   by_cases hbt:(decide (t.value.length=0) || decide (y2e V t.value<0))=true
   ·rw[if_pos hbt]at hu;obtain⟨hp4,h4⟩:∃ hp4,hp4=hp3.set (B+1) (.cells [.imm .none (s.opn.map ya),ya b,ya V,.imm sp2 (dLs s.leaves ns)]):=⟨_,rfl⟩;obtain⟨q1,_,_⟩:=G hp3 b1 b2;have d0:=b0.ne (j:=B+1) (x:=.cells [.imm .none (s.opn.map ya),ya b,ya V,.imm sp2 (dLs s.leaves ns)]) (by omega)
    have d1:At hp4 (B+1) (.cells [.imm .none (s.opn.map ya),ya b,ya V,.imm sp2 (dLs s.leaves ns)]):=by rw[h4];exact At.self b1.lt
    have d2:=b2.ne (j:=B+1) (x:=.cells [.imm .none (s.opn.map ya),ya b,ya V,.imm sp2 (dLs s.leaves ns)]) (by omega)
    have d3:=b3.ne (j:=B+1) (x:=.cells [.imm .none (s.opn.map ya),ya b,ya V,.imm sp2 (dLs s.leaves ns)]) (by omega)
    rw[<- h4]at d0 d2 d3;have dK:K (i+1) hp4:=by rw[h4];exact hK2 _ _ _ _ bK (by omega)
    have dR:y45 (B+4) hp4 sp2 (s.leaves.length+ns.length) 3:=by
     rcases bR with h | ⟨k,h1,h2,h5⟩
     ·exact .inl h
     ·exact .inr ⟨k,h1,h2,by rw[h4];exact h5.ne (by omega)⟩
    obtain⟨d,hp5,f1,f0,sp',f2,f3,f4,f5⟩:=ykr (i:=B+1) (C:=B+4) (hp:=hp4) b 1 s.leaves ns hnl d1 dR (by have:=d3.lt;omega) (by omega)
    simp only[ya]at f1 h4;have fin:∃ k',k'<m /\
   ∃ x,
    k'=wO p (iter p x s).opn /\
     (∀(j:Nat),j<x->more j=true) /\
      ∃ x_1,
       (iter p x s).leaves=s.leaves++x_1 /\
        (∀(x:y5x),x ∈ x_1->x.mult=[]) /\
         At hp5 B (.cells (ye p).cellsL) /\
          ∃ x_2 x_3,
           At hp5 (B+1) (.cells [.imm .none (s.opn.map ya),ya (iter p x s).best,ya (iter p x s).value,.imm x_3 (dLs s.leaves x_1)]) /\
            At hp5 (B+1+1) (.cells [.imm .exact [],.imm .exact [],.imm .exact [],.imm .exact []]) /\
             At hp5 (B+3) (.cells [.imm x_2 ((iter p x s).opn.map ya)]) /\
              y45 (B+4) hp5 x_3 (s.leaves.length+x_1.length) 3/\K x hp5:=
     ⟨_,by omega,i+1,rfl,hmore2,ns++[⟨b,1,[]⟩],by rw[hu];simp[hlv],fun x hx=>(by
      rcases aC.1 hx with hx | hx
      ·exact hmu x hx
      ·rw[bz.1 hx]),f4.at (by omega) (by omega) d0,.exact,sp',by rw[hu];exact f2,f4.at (by omega) (by omega) d2,by rw[hu];exact f4.at (by omega) (by omega) d3,by rw[ar];exact f3,f4 (K (i+1)) (hK1 _) (fun hp j o h hj=>hK2 _ _ _ _ h (by omega)) dK⟩
    by_cases c1:t.value=[]
    ·simp[g0.eq,g1.eq,g2.eq,g3.eq,a3.eq,e1,h0l,z13,z3y,h168,<- h3,b0.eq,b1.eq,he',h22,c1,↓q1,<- h4,f1,z10 f0];exact fin
    ·have c2:y2e V t.value<0:=by
      have : ¬ t.value.length=0:=fun h=>c1 (aI h)
      simpa[this]using hbt
     simp[g0.eq,g1.eq,g2.eq,g3.eq,a3.eq,e1,h0l,z13,z3y,h168,<- h3,b0.eq,b1.eq,he',h22,h87,c1,c2,↓q1,<- h4,f1,z10 f0];exact fin
   ·rw[if_neg hbt]at hu;have c1 : ¬ t.value=[]:=fun h=>hbt (by simp[h])
    have c2 : ¬ y2e V t.value<0:=fun h=>hbt (by simp[h])
    obtain⟨d,hp5,f1,f0,sp',f2,f3,f4,f5⟩:=ykr (i:=B+1) (C:=B+4) (hp:=hp3) b 1 s.leaves ns hnl b1 bR (by have:=b3.lt;omega) (by omega)
    simp only[ya]at f1;simp[g0.eq,g1.eq,g2.eq,g3.eq,a3.eq,e1,h0l,z13,z3y,h168,<- h3,b0.eq,b1.eq,he',h22,h87,c1,c2,f1,z10 f0];exact⟨_,by omega,i+1,rfl,hmore2,ns++[⟨b,1,[]⟩],by rw[hu];simp[hlv],fun x hx=>(by
      rcases aC.1 hx with hx | hx
      ·exact hmu x hx
      ·rw[bz.1 hx]),f4.at (by omega) (by omega) b0,.exact,sp',by rw[hu];exact f2,f4.at (by omega) (by omega) b2,by rw[hu];exact f4.at (by omega) (by omega) b3,by rw[ar];exact f3,f4 (K (i+1)) (hK1 _) (fun hp j o h hj=>hK2 _ _ _ _ h (by omega)) bK⟩
  have he' : ¬ (b.length:Int)=p.vars.length:=by omega
  have hlt:b.length<p.vars.length:=by have:=okb.len;omega
  have h3':=r3 p b S hb20;simp only[yim,zlv ok okb,if_true,<- hV]at h3';simp only[y8f,if_neg he,yik,<- hV]at hu;simp only[ye,ya]at h3' h87 h168
  by_cases hsh:(decide (0<t.value.length) && decide (0<=y2e V t.value))=true
  ·rw[if_pos hsh]at hu;have c1:0<t.value.length:=by simp at hsh;exact hsh.1
   have c2:0<=y2e V t.value:=by simp at hsh;exact hsh.2
   obtain⟨d,hp5,f1,f0,sp',f2,f3,f4,f5⟩:=ykr (i:=B+1) (C:=B+4) (hp:=hp3) b 2 s.leaves ns hnl b1 bR (by have:=b3.lt;omega) (by omega)
   simp only[ya]at f1;simp[g0.eq,g1.eq,g2.eq,g3.eq,a3.eq,e1,h0l,z13,z3y,h168,<- h3,b0.eq,b1.eq,he',h3',h87,c1,c2,f1,z10 f0];exact⟨_,by omega,i+1,rfl,hmore2,ns++[⟨b,2,[]⟩],by rw[hu];simp[hlv],fun x hx=>(by
      rcases aC.1 hx with hx | hx
      ·exact hmu x hx
      ·rw[bz.1 hx]),f4.at (by omega) (by omega) b0,.exact,sp',by rw[hu];exact f2,f4.at (by omega) (by omega) b2,by rw[hu];exact f4.at (by omega) (by omega) b3,by rw[ar];exact f3,f4 (K (i+1)) (hK1 _) (fun hp j o h hj=>hK2 _ _ _ _ h (by omega)) bK⟩
  rw[if_neg hsh]at hu;have h7:=r7 p b S hb20;have h169:=r169 (y5r p b);obtain⟨N,hN⟩:∃ N,N=y5r p b:=⟨_,rfl⟩;simp only[yfp,zlv ok okb,if_true,if_neg he,<- hN]at h7;rw[<- hN]at h169 hu;simp only[ye,ya]at h7;have hc : ¬ 0<t.value.length\/(0<t.value.length/\y2e V t.value<0):=by
   by_cases c1:0<t.value.length
   ·right;have : ¬ 0<=y2e V t.value:=fun h=>hsh (by simp[c1,h])
    exact⟨c1,by omega⟩
   ·exact .inl c1
  have hNl:N.length<=8:=by rw[hN,zkn hlt];exact S.choices _ (au hlt)
  rcases hc with c1 | ⟨c1,c2⟩
  ·simp[g0.eq,g1.eq,g2.eq,g3.eq,a3.eq,e1,h0l,z13,z3y,h168,<- h3,b0.eq,b1.eq,he',h3',c1,h7,h169];refine⟨176,_,rfl,?_⟩;intro L hL hcb;obtain⟨lp,hlp⟩:∃ lp,lp=hp3.length:=⟨_,rfl⟩;rw[<- hlp]at hcb ⊢;obtain⟨J,hJ⟩:∃ J:List (List Int)->List Obj->Prop,J=fun rem hq=>∃(dn W:List (List Int)) (sp:yt),N.reverse=dn++rem/\W=l++dn/\At hq B (.cells (ye p).cellsL) /\
    At hq (B+1) (.cells [.imm .none (s.opn.map ya),ya t.best,ya t.value,.imm sp2 (dLs s.leaves ns)])/\At hq (B+1+1) (.cells [.imm .exact [],.imm .exact [],.imm .exact [],.imm .exact []]) /\
    At hq (B+3) (.cells [.imm sp (W.map ya)])/\y45 (B+4) hq sp W.length 1/\y45 (B+4) hq sp2 (s.leaves.length+ns.length) 3/\K (i+1) hq/\At hq lp (L false none):=⟨_,rfl⟩
   have hb3:=b3.lt;obtain⟨sl,ps,asg,body,hLe⟩:=hL;have key2:=i176 N (by omega) lp J (fun _=>False) (by
    intro x rem hq hj;rw[hJ]at hj;obtain⟨dn,W,sp,j1,jW,j2,j3,j4,j5,j6,j7,j8,j9⟩:=hj;have hWl:W.length<=1000000100:=by have:=congrArg cM j1;rw[kO,ar]at this;rw[jW,ar];omega
    obtain⟨W',hW'⟩:∃ W',W'=W++[x]:=⟨_,rfl⟩;have hcat:bO ya W++[D.imm yt.none (bO dI x)]=bO ya W':=by rw[hW'];simp
    have hlen':W'.length=W.length+1:=by rw[hW'];simp
    have hap:∀ y,y2o E 1 (bO ya W) [y]:=fun y=>by
     refine⟨?_,?_,?_,z8t⟩ <;> simp[yg]
     omega
    have z5:=j5.ne (j:=lp) (x:=L true none) (by omega)
    have l9:=j9.lt;have noTok:∀ k a b,At hq k (.tok a b)->k ≠ lp:=fun k a b h e=>by subst e;have:=h.eq.symm.trans j9.eq;rw[hLe]at this;simp at this
    obtain⟨t',hp2',y1,y2⟩:=hcb [ya x] hq (fun t' hp'=>t'=true/\J rem hp') rfl j9 (by
     rcases j6 with rfl | ⟨k,rfl,jk,jk2⟩
     ·obtain⟨T,hT⟩:∃ T,T=(hq.set lp (L true none)++[Obj.tok (W.length+1) 1]).set (B+3) (.cells [.imm (.tok hq.length) (W'.map ya)]):=⟨_,rfl⟩;have t1:∀{m o},m ≠ lp->m ≠ B+3->At hq m o->At T m o:=fun h1 h2 g=>by rw[hT];exact((g.ne (fun e=>h1 e.symm)).app).ne (fun e=>h2 e.symm)
      have t2:At T lp (L true none):=by rw[hT];exact((At.self l9).app).ne (by omega)
      have t3:At T (B+3) (.cells [.imm (.tok hq.length) (W'.map ya)]):=by rw[hT];exact At.self (by simp;have:=j5.lt;omega)
      have t4:At T hq.length (Obj.tok (W.length+1) 1):=by
       rw[hT];refine At.ne ?_ (by have:=j5.lt;omega)
       have:=z1p (hp:=hq.set lp (L true none)) (r:=[Obj.tok (W.length+1) 1]) (k:=0);simpa[At]using this
      have tK:K (i+1) T:=by rw[hT];exact hK2 _ _ _ _ (hK1 _ _ _ (hK2 _ _ _ _ j8 (by omega))) (by omega)
      have tK2:K (i+1) (T.set lp (L false none)):=hK2 _ _ _ _ tK (by omega)
      have hJT:J rem (T.set lp (L false none)):=by
       rw[hJ];have n:∀{m o},m ≠ lp->At T m o->At (T.set lp (L false none)) m o:=fun h g=>g.ne (fun e=>h e.symm)
       refine⟨dn++[x],W',.tok hq.length,by rw[j1];simp,by rw[hW',jW];simp,n (by omega) (t1 (by omega) (by omega) j2),n (by omega) (t1 (by omega) (by omega) j3),n (by omega) (t1 (by omega) (by omega) j4),n (by omega) t3,
        .inr ⟨_,rfl,by have:=j5.lt;omega,by rw[hlen',cJ];exact n (by omega) t4⟩,?_,tK2,At.self t2.lt⟩
       rcases j7 with h | ⟨k,h1,h2,h5⟩
       ·exact .inl h
       ·exact .inr ⟨k,h1,h2,n (noTok _ _ _ h5) (t1 (noTok _ _ _ h5) (by omega) h5)⟩
      simp[y23,j9.eq,↓z5.eq,↓z5.appE,zo,zz,hap,hcat,<- hT];exact⟨t2.eq,hJT⟩
     ·have hkl:=noTok _ _ _ jk2;have z6:=z5.ne (j:=k) (x:=.dead) (by omega)
      have z7:=jk2.ne (j:=lp) (x:=L true none) (fun e=>hkl e.symm)
      obtain⟨T,hT⟩:∃ T,T=((hq.set lp (L true none)).set k .dead++[Obj.tok (W.length+1) 1]).set (B+3) (.cells [.imm (.tok hq.length) (W'.map ya)]):=⟨_,rfl⟩;have t1:∀{m o},m ≠ lp->m ≠ B+3->m ≠ k->At hq m o->At T m o:=fun h1 h2 h3 g=>by rw[hT];exact(((g.ne (fun e=>h1 e.symm)).ne (fun e=>h3 e.symm)).app).ne (fun e=>h2 e.symm)
      have t2:At T lp (L true none):=by rw[hT];exact(((At.self l9).ne hkl).app).ne (by omega)
      have t3:At T (B+3) (.cells [.imm (.tok hq.length) (W'.map ya)]):=by rw[hT];exact At.self (by simp;have:=j5.lt;omega)
      have t4:At T hq.length (Obj.tok (W.length+1) 1):=by
       rw[hT];refine At.ne ?_ (by have:=j5.lt;omega)
       have:=z1p (hp:=(hq.set lp (L true none)).set k .dead) (r:=[Obj.tok (W.length+1) 1]) (k:=0);simpa[At]using this
      have tK:K (i+1) T:=by rw[hT];exact hK2 _ _ _ _ (hK1 _ _ _ (hK2 _ _ _ _ (hK2 _ _ _ _ j8 (by omega)) (by omega))) (by omega)
      have tK2:K (i+1) (T.set lp (L false none)):=hK2 _ _ _ _ tK (by omega)
      have hJT:J rem (T.set lp (L false none)):=by
       rw[hJ];have n:∀{m o},m ≠ lp->At T m o->At (T.set lp (L false none)) m o:=fun h g=>g.ne (fun e=>h e.symm)
       refine⟨dn++[x],W',.tok hq.length,by rw[j1];simp,by rw[hW',jW];simp,n (by omega) (t1 (by omega) (by omega) (by omega) j2),n (by omega) (t1 (by omega) (by omega) (by omega) j3),n (by omega) (t1 (by omega) (by omega) (by omega) j4),n (by omega) t3,
        .inr ⟨_,rfl,by have:=j5.lt;omega,by rw[hlen',cJ];exact n (by have:=l9;omega) t4⟩,?_,tK2,At.self t2.lt⟩
       rcases j7 with h | ⟨k2,h1,h2,h5⟩
       ·exact .inl h
       ·have hkk:k2 ≠ k:=fun e=>by subst e;have:=h5.eq.symm.trans jk2.eq;simp at this
        exact .inr ⟨k2,h1,h2,n (noTok _ _ _ h5) (t1 (noTok _ _ _ h5) (by omega) hkk h5)⟩
      rw[cJ]at z7;simp[y23,j9.eq,↓z5.eq,↓z6.appE,z7.eq,zo,z14,hap,hcat,<- hT];exact⟨t2.eq,hJT⟩)
    refine⟨t',hp2',y1,fun _=>y2.2,fun h=>?_⟩
    rw[y2.1]at h;cases h) (hp:=hp3++[L false none]) (by
    rw[hJ];exact⟨[],l,.exact,by simp,by simp,b0.app,b1.app,b2.app,b3.app,.inl rfl,(by
     rcases bR with h | ⟨k,h1,h2,h5⟩
     ·exact .inl h
     ·exact .inr ⟨k,h1,h2,h5.app⟩),hK1 _ _ _ bK,by rw[hlp];simp[At]⟩)
   obtain⟨d,hp',k1,k2 | k2⟩:=key2
   ·rw[hJ]at k2;obtain⟨dn,W,sp,j1,jW,j2,j3,j4,j5,j6,j7,j8,j9⟩:=k2;refine⟨d,hp',k1,.inl ⟨j9.eq,?_⟩⟩;rw[bL]at j1;have noTok:∀ k a b,At hp' k (.tok a b)->k ≠ lp:=fun k a b h e=>by subst e;have:=h.eq.symm.trans j9.eq;rw[hLe]at this;simp at this
    have n:∀{m o},m ≠ lp->At hp' m o->At (hp'.set lp .dead) m o:=fun h g=>g.ne (fun e=>h e.symm)
    rw[jW,<- j1]at j5;simp;exact⟨_,by omega,i+1,rfl,hmore2,ns,by rw[hu];exact hlv,hmu,n (by omega) j2,sp,sp2,by rw[hu];exact n (by omega) j3,n (by omega) j4,by rw[hu];exact n (by omega) j5,(by
     rcases j7 with h | ⟨k,h1,h2,h5⟩
     ·exact .inl h
     ·exact .inr ⟨k,h1,h2,n (noTok _ _ _ h5) h5⟩),hK2 _ _ _ _ j8 (by omega)⟩
   ·exact k2.elim
  ·have c3 : ¬ 0<=y2e V t.value:=by omega
   simp[g0.eq,g1.eq,g2.eq,g3.eq,a3.eq,e1,h0l,z13,z3y,h168,<- h3,b0.eq,b1.eq,he',h3',h87,c1,c2,c3,h7,h169];refine⟨176,_,rfl,?_⟩;intro L hL hcb;obtain⟨lp,hlp⟩:∃ lp,lp=hp3.length:=⟨_,rfl⟩;rw[<- hlp]at hcb ⊢;obtain⟨J,hJ⟩:∃ J:List (List Int)->List Obj->Prop,J=fun rem hq=>∃(dn W:List (List Int)) (sp:yt),N.reverse=dn++rem/\W=l++dn/\At hq B (.cells (ye p).cellsL) /\
    At hq (B+1) (.cells [.imm .none (s.opn.map ya),ya t.best,ya t.value,.imm sp2 (dLs s.leaves ns)])/\At hq (B+1+1) (.cells [.imm .exact [],.imm .exact [],.imm .exact [],.imm .exact []]) /\
    At hq (B+3) (.cells [.imm sp (W.map ya)])/\y45 (B+4) hq sp W.length 1/\y45 (B+4) hq sp2 (s.leaves.length+ns.length) 3/\K (i+1) hq/\At hq lp (L false none):=⟨_,rfl⟩
   have hb3:=b3.lt;obtain⟨sl,ps,asg,body,hLe⟩:=hL;have key2:=i176 N (by omega) lp J (fun _=>False) (by
    intro x rem hq hj;rw[hJ]at hj;obtain⟨dn,W,sp,j1,jW,j2,j3,j4,j5,j6,j7,j8,j9⟩:=hj;have hWl:W.length<=1000000100:=by have:=congrArg cM j1;rw[kO,ar]at this;rw[jW,ar];omega
    obtain⟨W',hW'⟩:∃ W',W'=W++[x]:=⟨_,rfl⟩;have hcat:bO ya W++[D.imm yt.none (bO dI x)]=bO ya W':=by rw[hW'];simp
    have hlen':W'.length=W.length+1:=by rw[hW'];simp
    have hap:∀ y,y2o E 1 (bO ya W) [y]:=fun y=>by
     refine⟨?_,?_,?_,z8t⟩ <;> simp[yg]
     omega
    have z5:=j5.ne (j:=lp) (x:=L true none) (by omega)
    have l9:=j9.lt;have noTok:∀ k a b,At hq k (.tok a b)->k ≠ lp:=fun k a b h e=>by subst e;have:=h.eq.symm.trans j9.eq;rw[hLe]at this;simp at this
    obtain⟨t',hp2',y1,y2⟩:=hcb [ya x] hq (fun t' hp'=>t'=true/\J rem hp') rfl j9 (by
     rcases j6 with rfl | ⟨k,rfl,jk,jk2⟩
     ·obtain⟨T,hT⟩:∃ T,T=(hq.set lp (L true none)++[Obj.tok (W.length+1) 1]).set (B+3) (.cells [.imm (.tok hq.length) (W'.map ya)]):=⟨_,rfl⟩;have t1:∀{m o},m ≠ lp->m ≠ B+3->At hq m o->At T m o:=fun h1 h2 g=>by rw[hT];exact((g.ne (fun e=>h1 e.symm)).app).ne (fun e=>h2 e.symm)
      have t2:At T lp (L true none):=by rw[hT];exact((At.self l9).app).ne (by omega)
      have t3:At T (B+3) (.cells [.imm (.tok hq.length) (W'.map ya)]):=by rw[hT];exact At.self (by simp;have:=j5.lt;omega)
      have t4:At T hq.length (Obj.tok (W.length+1) 1):=by
       rw[hT];refine At.ne ?_ (by have:=j5.lt;omega)
       have:=z1p (hp:=hq.set lp (L true none)) (r:=[Obj.tok (W.length+1) 1]) (k:=0);simpa[At]using this
      have tK:K (i+1) T:=by rw[hT];exact hK2 _ _ _ _ (hK1 _ _ _ (hK2 _ _ _ _ j8 (by omega))) (by omega)
      have tK2:K (i+1) (T.set lp (L false none)):=hK2 _ _ _ _ tK (by omega)
      have hJT:J rem (T.set lp (L false none)):=by
       rw[hJ];have n:∀{m o},m ≠ lp->At T m o->At (T.set lp (L false none)) m o:=fun h g=>g.ne (fun e=>h e.symm)
       refine⟨dn++[x],W',.tok hq.length,by rw[j1];simp,by rw[hW',jW];simp,n (by omega) (t1 (by omega) (by omega) j2),n (by omega) (t1 (by omega) (by omega) j3),n (by omega) (t1 (by omega) (by omega) j4),n (by omega) t3,
        .inr ⟨_,rfl,by have:=j5.lt;omega,by rw[hlen',cJ];exact n (by omega) t4⟩,?_,tK2,At.self t2.lt⟩
       rcases j7 with h | ⟨k,h1,h2,h5⟩
       ·exact .inl h
       ·exact .inr ⟨k,h1,h2,n (noTok _ _ _ h5) (t1 (noTok _ _ _ h5) (by omega) h5)⟩
      simp[y23,j9.eq,↓z5.eq,↓z5.appE,zo,zz,hap,hcat,<- hT];exact⟨t2.eq,hJT⟩
     ·have hkl:=noTok _ _ _ jk2;have z6:=z5.ne (j:=k) (x:=.dead) (by omega)
      have z7:=jk2.ne (j:=lp) (x:=L true none) (fun e=>hkl e.symm)
      obtain⟨T,hT⟩:∃ T,T=((hq.set lp (L true none)).set k .dead++[Obj.tok (W.length+1) 1]).set (B+3) (.cells [.imm (.tok hq.length) (W'.map ya)]):=⟨_,rfl⟩;have t1:∀{m o},m ≠ lp->m ≠ B+3->m ≠ k->At hq m o->At T m o:=fun h1 h2 h3 g=>by rw[hT];exact(((g.ne (fun e=>h1 e.symm)).ne (fun e=>h3 e.symm)).app).ne (fun e=>h2 e.symm)
      have t2:At T lp (L true none):=by rw[hT];exact(((At.self l9).ne hkl).app).ne (by omega)
      have t3:At T (B+3) (.cells [.imm (.tok hq.length) (W'.map ya)]):=by rw[hT];exact At.self (by simp;have:=j5.lt;omega)
      have t4:At T hq.length (Obj.tok (W.length+1) 1):=by
       rw[hT];refine At.ne ?_ (by have:=j5.lt;omega)
       have:=z1p (hp:=(hq.set lp (L true none)).set k .dead) (r:=[Obj.tok (W.length+1) 1]) (k:=0);simpa[At]using this
      have tK:K (i+1) T:=by rw[hT];exact hK2 _ _ _ _ (hK1 _ _ _ (hK2 _ _ _ _ (hK2 _ _ _ _ j8 (by omega)) (by omega))) (by omega)
      have tK2:K (i+1) (T.set lp (L false none)):=hK2 _ _ _ _ tK (by omega)
      have hJT:J rem (T.set lp (L false none)):=by
       rw[hJ];have n:∀{m o},m ≠ lp->At T m o->At (T.set lp (L false none)) m o:=fun h g=>g.ne (fun e=>h e.symm)
       refine⟨dn++[x],W',.tok hq.length,by rw[j1];simp,by rw[hW',jW];simp,n (by omega) (t1 (by omega) (by omega) (by omega) j2),n (by omega) (t1 (by omega) (by omega) (by omega) j3),n (by omega) (t1 (by omega) (by omega) (by omega) j4),n (by omega) t3,
        .inr ⟨_,rfl,by have:=j5.lt;omega,by rw[hlen',cJ];exact n (by have:=l9;omega) t4⟩,?_,tK2,At.self t2.lt⟩
       rcases j7 with h | ⟨k2,h1,h2,h5⟩
       ·exact .inl h
       ·have hkk:k2 ≠ k:=fun e=>by subst e;have:=h5.eq.symm.trans jk2.eq;simp at this
        exact .inr ⟨k2,h1,h2,n (noTok _ _ _ h5) (t1 (noTok _ _ _ h5) (by omega) hkk h5)⟩
      rw[cJ]at z7;simp[y23,j9.eq,↓z5.eq,↓z6.appE,z7.eq,zo,z14,hap,hcat,<- hT];exact⟨t2.eq,hJT⟩)
    refine⟨t',hp2',y1,fun _=>y2.2,fun h=>?_⟩
    rw[y2.1]at h;cases h) (hp:=hp3++[L false none]) (by
    rw[hJ];exact⟨[],l,.exact,by simp,by simp,b0.app,b1.app,b2.app,b3.app,.inl rfl,(by
     rcases bR with h | ⟨k,h1,h2,h5⟩
     ·exact .inl h
     ·exact .inr ⟨k,h1,h2,h5.app⟩),hK1 _ _ _ bK,by rw[hlp];simp[At]⟩)
   obtain⟨d,hp',k1,k2 | k2⟩:=key2
   ·rw[hJ]at k2;obtain⟨dn,W,sp,j1,jW,j2,j3,j4,j5,j6,j7,j8,j9⟩:=k2;refine⟨d,hp',k1,.inl ⟨j9.eq,?_⟩⟩;rw[bL]at j1;have noTok:∀ k a b,At hp' k (.tok a b)->k ≠ lp:=fun k a b h e=>by subst e;have:=h.eq.symm.trans j9.eq;rw[hLe]at this;simp at this
    have n:∀{m o},m ≠ lp->At hp' m o->At (hp'.set lp .dead) m o:=fun h g=>g.ne (fun e=>h e.symm)
    rw[jW,<- j1]at j5;simp;exact⟨_,by omega,i+1,rfl,hmore2,ns,by rw[hu];exact hlv,hmu,n (by omega) j2,sp,sp2,by rw[hu];exact n (by omega) j3,n (by omega) j4,by rw[hu];exact n (by omega) j5,(by
     rcases j7 with h | ⟨k,h1,h2,h5⟩
     ·exact .inl h
     ·exact .inr ⟨k,h1,h2,n (noTok _ _ _ h5) h5⟩),hK2 _ _ _ _ j8 (by omega)⟩
   ·exact k2.elim
 rw[hR]at key;exact key
theorem s151{hp:List Obj}:y1g E (dL E) 151 [] hp=some (.bool true,hp):=by
 obtain⟨d,hp',h1,h2,h3⟩:=z1i c151 (args:=[]) (hp:=hp) (R:=fun d hp'=>d=.bool true/\hp'=hp) (by simp) (by
  simp[t151,n151])
 rw[h1,h2,h3]
theorem zyd:∀{vs:List Var},(∀ v,v ∈ vs->v.choices.length<=8)->wgt vs<=9 ^ vs.length
 |[],_=>by simp[wgt]
 |v::vs,h=>by
  have h1:=zyd (vs:=vs) fun w hw=>h w (by simp[hw])
  have h2:=h v (by simp)
  have h3:=zp8 (vs:=vs);have h4:v.choices.length*wgt vs<=8*wgt vs:=Nat.mul_le_mul_right _ h2;simp only[wgt,aq,Nat.pow_succ];omega
theorem yj1{p:yl}(S:y1d p){b:List Int}:wB p b<=531441:=by
 unfold wB;have h1:=zyd (vs:=p.vars.drop b.length) fun v hv=>S.choices v (List.mem_of_mem_drop hv)
 have h2:(p.vars.drop b.length).length<=6:=by have:=S.vars;simp;omega
 exact aM h1 (aM (Nat.pow_le_pow_right (by decide) h2) (by decide))
theorem ygd{p:yl}(S:y1d p):∀{l:List (List Int)},wO p l<=l.length*531441
 |[]=>by simp[wO]
 |b::l=>by have h1:=yj1 S (b:=b);have h2:=ygd S (l:=l);simp only[wO,aq];omega
theorem SmS.of{p:yl}(S:y1d p){s:y4e}(h1:s.opn.length<=1000)(h2:s.leaves.length<=100000000):SmS p s:=⟨by
 have:=ygd S (l:=s.opn);omega⟩
theorem zg6{p:yl}(S:y1d p):SmS p y3l:=SmS.of S (by decide) (by decide)
theorem r150(p:yl)(s:y4e)(S:y1d p)(ok:OkP p)(M:SmS p s)(hs:OkS p s):∃ n,(iter p n s).opn=[]/\yu E (dL E) 150 [ye p,y5t s,.fn 151 []]=some (y5t (iter p n s)):=by
 obtain⟨d,hp',f1,c,ns,sp1,sp2,f2,f3,f4,f5,f6,m,f7⟩:=s150 p s S ok M hs 151 [] (fun _=>true) [] (fun _ _=>True)
  (fun m hp _=>⟨hp,s151,trivial,fun j o _ h=>h⟩) (fun m hp r g=>trivial) (fun m hp j o g hj=>trivial) trivial
 have hz:=zwb (hp:=hp') (n:=6) (ls:=s.leaves) (ns:=ns) f5;rw[<- f4]at hz;refine⟨c,by simpa using f3,?_⟩
 have hk:E.keep 150=false:=rfl;unfold yu;simp only[f1,f6,hk,yb8];simp[hz]
noncomputable def y6b(p:yl):D:=if ck p=0 then .tup [y8h (ya5 (y2y p)),dI 0]else .tup [y8h y8i,dI (ck p)]
theorem yhy{p:yl}(h:ck p=0):OkP p:=by
 unfold ck at h;split at h
 ·assumption
 ·cases h
theorem zoe{p:yl}(S:y1d p)(ok:OkP p):y55 p (y2y p)=.tup [y8h (ya5 (y2y p)),dI 0]:=by
 have h1:OkS p (y2y p):=z5k.iter ok;have h2:=zaj ok;obtain⟨w,e,_⟩:=z8g S ok;have h3:sk p (y2y p)=0:=by simp[sk,ok,h1]
 unfold y55;rw[if_pos h3,if_pos ⟨by rw[h2];rfl,by rw[e];simp[yk]⟩]
theorem r131(p:yl)(S:y1d p):yu E (dL E) 131 [ye p]=some (y6b p):=by
 refine zg c131 (by simp) ?_
 conv in t131=>reduce;dsimp[ai]
 have h139:=r139 p S;simp only[ye]at h139;unfold y6a at h139
 by_cases h:ck p=0
 rotate_left
 ·rw[if_neg h]at h139;simp[t131,n131,h139,h,y6b,ycs,y8i]
 have ok:=yhy h;rw[if_pos h]at h139;obtain⟨n,h1,h2⟩:=r150 p y3l S ok (zg6 S) z5k;rw[zvr ok h1]at h2;have h133:=r133 p (y2y p) S ((zg6 S).iter ok z5k);rw[zoe S ok]at h133;obtain⟨V,hV⟩:∃ V,V=y2y p:=⟨_,rfl⟩;rw[<- hV]at h2 h133;simp only[ye,y5t,ya]at h2 h133;simp only[y3l,ya,av,aN]at h2;simp[t131,n131,h139,h,y6b,<- hV,y3l,h2,h133,ya5,zr]
theorem zz3{p:yl}{c:List y2p}(h:ckC p c=0):OkP p/\OkC p c:=by
 unfold ckC at h
 by_cases h0:OkP p
 ·rw[if_pos h0]at h
  by_cases h1:OkC p c
  ·exact⟨h0,h1⟩
  ·rw[if_neg h1]at h;omega
 ·rw[if_neg h0]at h;omega
theorem yl1{hp:List Obj}{sp:yt}{els:List D}{x:D}{B id:Nat}(hok:y2o E 2 els [x])(hx:(x.storable && x.cellsL.length == 1)=true)(R:y45 B hp sp els.length 1)(hid:id<=hp.length) :
  ∃ hp',y97 E hp id 6 6 (.imm sp els) (.imm .exact [x])=some (.imm (.tok id) (els++[x]),hp')/\At hp' id (.tok ((els.length+1)*1) 1)/\hp.length<=hp'.length /\
   ∀ i o,At hp i o->(∀ k,sp=.tok k->i ≠ k)->i ≠ id->At hp' i o:=by
 have k9:(E.ty 6).k=.slice 2:=rfl;have s6:(E.ty 2).size=1:=rfl;rcases R with rfl | ⟨k,rfl,_,g⟩
 ·obtain⟨a1,a2,a3⟩:=z8z (o:=.tok ((els.length+1)*1) 1) hid;refine⟨_,?_,a1,a2,fun i o g _ hne=>a3 i o g hne⟩
  rw[zz,k9];simp only[z2r,s6,cG,dU,hx,ed,if_true,zc,if_pos hok,aq,aV]
 ·have hg:=g.eq;obtain⟨a1,a2,a3⟩:=z8z (hp:=hp.set k .dead) (id:=id) (o:=.tok ((els.length+1)*1) 1) (by simpa using hid)
  refine⟨_,?_,a1,by simpa using a2,fun i o g hk hne=>a3 i o (g.ne (du (hk k rfl))) hne⟩
  rw[z14,k9];simp only[z2r,s6,cG,dU,hx,ed,if_true,zc,if_pos hok,aq,aV,hg,z64,and_self]
theorem zop{l:List Int}{x:D}(h:l.length<=100000):y2o E 2 (l.map dI) [x]:=by
 refine⟨?_,?_,?_,?_⟩
 ·simp[yg,E,y46];omega
 ·simp[E,y46]
 ·rfl
 ·simp[y2j,E,y46,D.storable,D.atom,D.cellsL]
noncomputable def y9f(p:yl):D:=if ck p=0 then .tup [ya (y95 p),dI 0]else .tup [ya [],dI (ck p)]
theorem r184(p:yl)(S:y1d p):yu E (dL E) 184 [ye p]=some (y9f p):=by
 refine zg c184 (by simp) ?_
 conv in t184=>reduce;dsimp[ai]
 have h131:=r131 p S;unfold y6b at h131;unfold y9f
 by_cases h0:ck p=0
 rotate_left
 ·rw[if_neg h0]at h131 ⊢;simp only[ye,ya,y8h,y8i,aN]at h131;simp[t184,n184,h131,h0]
 rw[if_pos h0]at h131 ⊢;have ok:=yhy h0;obtain⟨w,_,_⟩:=z8g S ok;obtain⟨Bs,hBs⟩:∃ Bs,Bs=(y2y p).best:=⟨_,rfl⟩;have hD:y95 p=(p.vars.zip Bs).map fun x=>(x.1.choices.getD x.2.toNat ⟨0,0,0,[]⟩).delay:=by rw[hBs];rfl
 rw[<- hBs]at w;have hbl:Bs.length=p.vars.length:=w.2.2;have hDl:=z6h S ok;have s3:=S.vars;obtain⟨Ct,hC⟩:∃ Ct,Ct=ya5 (y2y p):=⟨_,rfl⟩;have hCb:Ct.best=Bs:=by rw[hC,hBs];rfl
 rw[<- hC]at h131;simp only[ye,ya,y8h,hCb]at h131;obtain⟨DL,hDL⟩:∃ DL,DL=y95 p:=⟨_,rfl⟩;rw[<- hDL]at hD hDl ⊢;simp[t184,n184,h131];refine zl Bs.length (fun i env hp=>∃(x4 x5 x6 x7 x8 x12 x13:D) (sp:yt),env=[ye p,.loc 0 0,.imm sp ((DL.take i).map dI),dI 0,x4,x5,x6,x7,x8,ya Bs,dI Bs.length,dI i,x12,x13]/\At hp 0 (.cells (ye p).cellsL)/\y45 1 hp sp i 1) 0 (by omega)
  ⟨_,_,_,_,_,_,_,.exact,rfl,by simp[At],.inl rfl⟩ ?_
 rintro i env hp hi ⟨x4,x5,x6,x7,x8,x12,x13,sp,rfl,g0,R⟩
 by_cases hlt:i<Bs.length
 ·have hv:i<p.vars.length:=by omega
  have hw:=w.2.1.each i hlt hv;unfold wi at hw;have hd:i<DL.length:=by omega
  have hn:Bs[i].toNat<p.vars[i].choices.length:=by omega
  have hDi:DL[i]=(p.vars[i].choices[Bs[i].toNat]).delay:=by simp only[hD,fZ,List.getElem_zip];rw[af,ac hn,aX]
  obtain⟨b,hb⟩:∃ b:Nat,Bs[i]=b:=⟨Bs[i].toNat,by omega⟩
  have hn':b<p.vars[i].choices.length:=by omega
  have hDi':DL[i]=(p.vars[i].choices[b]).delay:=by rw[hDi];congr 2;simp[hb]
  have R3:y45 1 hp sp ((DL.take i).map dI).length 1:=by rw[aD,aZ,bS (by omega)];exact R
  obtain⟨h',e1,e2,e3,e4⟩:=yl1 (x:=dI DL[i]) (id:=hp.length) (zop (by simp;omega)) (by simp[D.storable,D.atom,D.cellsL]) R3 (aj _)
  have eL:(DL.take i).map dI++[dI DL[i]]=(DL.take (i+1)).map dI:=by rw[aL hd,bm];rfl
  rw[eL]at e1;rw[aD,aZ,bS (by omega)]at e2
  have Q0:=e4 0 _ g0 (fun k hk=>by
   rcases R with h | ⟨k2,h1,h2,_⟩
   ·rw[h]at hk;cases hk
   ·rw[h1]at hk;cases hk;omega) (by have:=g0.lt;omega)
  obtain⟨Ls,hLs⟩:∃ Ls,Ls=(DL.take i).map dI:=⟨_,rfl⟩;obtain⟨Lt,hLt⟩:∃ Lt,Lt=(DL.take (i+1)).map dI:=⟨_,rfl⟩;rw[<- hLs,<- hLt,hDi']at e1;rw[<- hLs,<- hLt];have l0:=g0.lt;simp only[dI]at e1;simp[hlt,hb,hv,hn',g0.eq,e1,ze hlt (by omega)]
  repeat apply Exists.intro
  exact⟨by and_intros <;> rfl,Q0,.inr ⟨_,rfl,by omega,e2⟩⟩
 ·have:i=Bs.length:=by omega
  subst this;have e:DL.take Bs.length=DL:=ba (by omega)
  rw[e];simp[hlt]
theorem ziu{p:yl}(h:y63 p=true):y1d p:=by unfold y63 at h;simp only[ak]at h;exact zha h.1
def ya1(a:y2p):Bool:=decide (a.less.length<=8) && a.less.all fun r=>decide (r.length<=20)
def y8e(p:yl)(c:List y2p):Bool:=c.all ya1 && (y63 p && decide (c.length<=4))
theorem zsn{a:y2p}(h:ya1 a=true):a.less.length<=8 /\ ∀ r,r ∈ a.less->r.length<=20:=by simp only[ya1,ak,decide_eq_true_eq,ay]at h;exact h
theorem yea{p:yl}{c:List y2p}(h:y8e p c=true):y1d p/\SmC c/\c.length<=4:=by simp only[y8e,ak,decide_eq_true_eq,ay]at h;obtain⟨h1,h2,h3⟩:=h;exact⟨ziu h2,⟨by omega,fun a ha=>by have:=(zsn (h1 a ha)).1;omega,fun a ha r hr=>by have:=(zsn (h1 a ha)).2 r hr;omega⟩,h3⟩
theorem r179(p:yl)(c:List y2p)(hc:c.length<=9223372036854775807):yu E (dL E) 179 [ye p,.imm .none (c.map y1s)]=some (.bool (y8e p c)):=by
 refine zg c179 (by simp) ?_
 conv in t179=>reduce;dsimp[ai]
 have h129:=r129 p;generalize hB:y8e p c=B;have hBf:(∃ a,a ∈ c/\ya1 a=false)->B=false:=fun⟨a,h1,h2⟩=>by
  rw[<- hB];cases h:y8e p c with
  |false=>rfl
  |true=>simp only[y8e,ak,ay]at h;have:=h.1 a h1;rw[h2]at this;cases this
 have hBt:(∀ a,a ∈ c->ya1 a=true)->B=(y63 p && decide (c.length<=4)):=fun h=>by
  rw[<- hB];have e:c.all ya1=true:=by rw[ay];exact h
  simp[y8e,e]
 simp[t179,n179];refine z5i c.length (fun i=>∀ h:i<c.length,ya1 c[i]=true) (fun i env hp=>∃(x5 x6 x7 x8:D) ,env=[ye p,.imm .none (c.map y1s),.loc 0 0,.bool false,dI i,x5,x6,x7,x8]/\At hp 0 (.cells (ye p).cellsL)) ⟨_,_,_,_,rfl,by simp[At]⟩ ?_ ?_
 ·rintro i env hp hi ⟨x5,x6,x7,x8,rfl,g0⟩ hall;obtain⟨a,ha⟩:∃ a,a=c[i]:=⟨_,rfl⟩;have hmem:a ∈ c:=by rw[ha];exact au hi
  have hbad:ya1 a=false->B=false:=fun h=>hBf ⟨a,hmem,h⟩
  simp[hi,<- ha];refine z5i a.less.length (fun k=>∀ h:k<a.less.length,k<8/\a.less[k].length<=20) (fun k env hp=>∃(x6 x7 x8:D) ,env=[ye p,.imm .none (c.map y1s),.loc 0 0,.bool false,dI i,dI k,x6,x7,x8]/\At hp 0 (.cells (ye p).cellsL)) ⟨_,_,_,rfl,g0⟩ ?_ ?_
  ·clear g0 hp;rintro k env hp hk ⟨x6,x7,x8,rfl,g0⟩ hk8
   by_cases q1:k<8
   rotate_left
   ·have q1':(8:Int)<=k:=by omega
    have hF:B=false:=hbad (by
     have : ¬ a.less.length<=8:=by omega
     simp[ya1,this])
    simp[hi,<- ha,hk,q1',hF]
   have q1' : ¬ (8:Int)<=k:=by omega
   by_cases q2:(20:Int)<a.less[k].length
   ·have hF:B=false:=hbad (by
     have:a.less.all (fun r=>decide (r.length<=20))=false:=by rw[List.all_eq_false];exact⟨_,au hk,by simp;omega⟩
     simp[ya1,this])
    simp[hi,<- ha,hk,q1',q2,hF]
   ·simp[hi,<- ha,hk,q1',q2,ze q1 (by omega)]
    exact⟨fun _=>⟨by omega,by omega⟩,g0⟩
  ·clear g0 hp;rintro env hp ⟨x6,x7,x8,rfl,g0⟩ hk8;have hl:a.less.length<=8:=by
    rcases Nat.lt_or_ge 8 a.less.length with h | h
    ·have:=(hk8 8 h h).1;omega
    ·exact h
   have hfa:ya1 a=true:=by
    simp only[ya1,ak,decide_eq_true_eq,ay];refine⟨hl,fun r hr=>?_⟩
    obtain⟨k,hk,rfl⟩:=dt hr;exact(hk8 k hk hk).2
   have w:=za (n:=(i:Int)+1) ⟨by omega,by omega⟩
   simp[hi,<- ha,hfa,w];exact g0
 ·rintro env hp ⟨x5,x6,x7,x8,rfl,g0⟩ hall;have hall':∀ a,a ∈ c->ya1 a=true:=fun a ha=>by obtain⟨i,hi,rfl⟩:=dt ha;exact hall i hi hi
  have hb:=hBt hall';simp only[ye,ya]at h129;cases hf:y63 p with
  |false=>simp[g0.eq,h129,hf,hb]
  |true=>simp[g0.eq,h129,hf,hb];omega
theorem yl0{t e sz:Nat}(ht:(E.ty t).k=.slice e)(hs:(E.ty e).size=sz){hp:List Obj}{sp:yt}{els:List D}{x:D}{B id:Nat}(hok:y2o E e els [x])(hx:(x.storable && x.cellsL.length == sz)=true)(R:y45 B hp sp els.length sz)(hid:id<=hp.length) :
  ∃ hp',y97 E hp id t t (.imm sp els) (.imm .exact [x])=some (.imm (.tok id) (els++[x]),hp')/\At hp' id (.tok ((els.length+1)*sz) sz)/\hp.length<=hp'.length /\
   ∀ i o,At hp i o->(∀ k,sp=.tok k->i ≠ k)->i ≠ id->At hp' i o:=by
 subst hs;rcases R with rfl | ⟨k,rfl,_,g⟩
 ·obtain⟨a1,a2,a3⟩:=z8z (o:=.tok ((els.length+1)*(E.ty e).size) (E.ty e).size) hid;refine⟨_,?_,a1,a2,fun i o g _ hne=>a3 i o g hne⟩
  rw[zz,ht];simp only[z2r,cG,dU,hx,ed,if_true,zc,if_pos hok,aq,aV]
 ·have hg:=g.eq;obtain⟨a1,a2,a3⟩:=z8z (hp:=hp.set k .dead) (id:=id) (o:=.tok ((els.length+1)*(E.ty e).size) (E.ty e).size) (by simpa using hid)
  refine⟨_,?_,a1,by simpa using a2,fun i o g hk hne=>a3 i o (g.ne (du (hk k rfl))) hne⟩
  rw[z14,ht];simp only[z2r,cG,dU,hx,ed,if_true,zc,if_pos hok,aq,aV,hg,z64,and_self]
theorem zjs{l:List y44}{x:D}(h:l.length<=100000):y2o E 37 (l.map y3p) [x]:=by
 refine⟨?_,?_,?_,?_⟩
 ·simp[yg,E,y46];omega
 ·simp[E,y46]
 ·rfl
 ·simp[y2j,E,y46,D.storable,D.atom,D.cellsL]
theorem zlt{cause:Int}:∀{k:Nat} {bef now:List Int} {i:Nat},bef.length=now.length->(h:i<now.length)->(h':i<bef.length) ->
  chg cause k (bef.take (i+1)) (now.take (i+1))=chg cause k (bef.take i) (now.take i)++(if now[i] ≠ bef[i]then[⟨cause,((k+i:Nat):Int),now[i] - bef[i]⟩]else[])
 |k,[],_,i,_,_,h'=>by simp at h'
 |k,_::_,[],i,_,h,_=>by simp at h
 |k,b::bef,n::now,0,_,_,_=>by simp[chg]
 |k,b::bef,n::now,i+1,hl,h,h'=>by
  have:=zlt (cause:=cause) (k:=k+1) (bef:=bef) (now:=now) (i:=i) (by simpa using hl) (by simpa using h) (by simpa using h')
  simp only[fF,chg,this,dZ,bi];rw[show k+1+i=k+(i+1)from by omega]
theorem zjj{cause:Int}:∀{k:Nat} {bef now:List Int},(chg cause k bef now).length<=now.length
 |_,[],_=>by simp[chg]
 |_,_::_,[]=>by simp[chg]
 |k,b::bef,n::now=>by have:=zjj (cause:=cause) (k:=k+1) (bef:=bef) (now:=now);simp only[chg,ar,aq];split <;> simp <;> omega
theorem s191{cause:Int}{now bef:List Int}{sh:List y44}{sp0 sp:yt}{b l C:Nat}{hp:List Obj}(hl:bef.length=now.length)(hn:now.length<=1000)(hsh:sh.length<=50000)
  (hd:∀ n,n ∈ now->0<=n/\n<=1000000000) (hd':∀ n,n ∈ bef->0<=n/\n<=1000000000)
  (gb:At hp b (.cells [.imm sp0 (bef.map dI)])) (gl:At hp l (.cells [.imm sp (sh.map y3p)])) (R:y45 C hp sp sh.length 3) (hb:b<C) (hl':l<C) (hbl:b ≠ l) (hC:C<=hp.length) :
  ∃ d hp',y1g E (dL E) 191 [dI cause,ya now,.loc b 0,.loc l 0] hp=some (d,hp')/\yy d=false/\At hp' b (.cells [ya now]) /\
   (∃ sp',At hp' l (.cells [.imm sp' ((sh++chg cause 0 bef now).map y3p)])/\y45 C hp' sp' (sh++chg cause 0 bef now).length 3)/\hp.length<=hp'.length /\ ∀ i o,i<C->i ≠ b->i ≠ l->At hp i o->At hp' i o:=by
 refine z1i c191 (args:=[dI cause,ya now,.loc b 0,.loc l 0]) (hp:=hp) (R:=fun d hp'=>yy d=false/\At hp' b (.cells [ya now]) /\
   (∃ sp',At hp' l (.cells [.imm sp' ((sh++chg cause 0 bef now).map y3p)])/\y45 C hp' sp' (sh++chg cause 0 bef now).length 3)/\hp.length<=hp'.length /\ ∀ i o,i<C->i ≠ b->i ≠ l->At hp i o->At hp' i o) (by simp) ?_
 obtain⟨Z,hZ⟩:∃ Z:Nat->List y44,Z=fun i=>sh++chg cause 0 (bef.take i) (now.take i):=⟨_,rfl⟩
 have hZ0:Z 0=sh:=by rw[hZ];simp[chg]
 have hZn:sh++chg cause 0 bef now=Z now.length:=by rw[hZ];simp only[];rw[bg,<- hl,bg]
 have hZl:∀ i,(Z i).length<=60000:=fun i=>by rw[hZ];have:=zjj (cause:=cause) (k:=0) (bef:=bef.take i) (now:=now.take i);simp only[ar];rw[aZ]at this;omega
 have hZ1:∀(i:Nat) (h:i<now.length) (h':i<bef.length),Z (i+1)=Z i++(if now[i] ≠ bef[i]then[⟨cause,(i:Int),now[i] - bef[i]⟩]else[]):=fun i h h'=>by rw[hZ];simp only[];rw[zlt hl h h',bi];simp
 rw[hZn];simp[t191,n191];refine zl now.length (fun i env hq=>∃(x4 x5 x9 x10 x11:D) (sp':yt),env=[dI cause,ya now,.loc b 0,.loc l 0,x4,x5,ya now,dI now.length,dI i,x9,x10,x11]/\At hq b (.cells [.imm sp0 (bef.map dI)])/\At hq l (.cells [.imm sp' ((Z i).map y3p)])/\y45 C hq sp' (Z i).length 3/\hp.length<=hq.length /\ ∀ i o,i<C->i ≠ b->i ≠ l->At hp i o->At hq i o) 0 (by omega)
  ⟨_,_,_,_,_,sp,rfl,gb,by rw[hZ0];exact gl,by rw[hZ0];exact R,aj _,fun _ _ _ _ _ h=>h⟩ ?_
 rintro i env hq hi ⟨x4,x5,x9,x10,x11,sp',rfl,qb,ql,R1,hle,keep⟩;have lb:=qb.lt;have ll:=ql.lt
 by_cases hlt:i<now.length
 ·have hlb:i<bef.length:=by omega
  have z1:=hZ1 i hlt hlb;have d1:=hd _ (au hlt);have d2:=hd' _ (au hlb);have w:=za (n:=now[i] - bef[i]) ⟨by omega,by omega⟩
  by_cases hne:now[i]=bef[i]
  ·rw[if_neg (by simpa using hne),bL]at z1
   simp[hlt,hlb,qb.eq,hne,ze hlt (by omega)]
   rw[z1];exact⟨qb,sp',ql,R1,hle,keep⟩
  ·rw[if_pos hne]at z1;have R3:y45 C (hq++[Obj.dead,Obj.dead,Obj.dead,Obj.dead,Obj.dead,Obj.dead,Obj.dead,Obj.dead,Obj.dead,Obj.dead,Obj.dead,Obj.dead,Obj.dead]) sp' ((Z i).map y3p).length 3:=by
    rw[aD];rcases R1 with h | ⟨k',h1,h2,h3⟩
    ·exact .inl h
    ·exact .inr ⟨k',h1,h2,h3.app⟩
   obtain⟨h',e1,e2,e3,e4⟩:=yl0 (t:=36) (e:=37) (sz:=3) rfl rfl (x:=y3p ⟨cause,(i:Int),now[i] - bef[i]⟩) (id:=hq.length+11) (zjs (by have:=hZl i;omega)) (by simp[D.storable,D.atom,D.cellsL]) R3 (by simp)
   have eL:(Z i).map y3p++[y3p ⟨cause,(i:Int),now[i] - bef[i]⟩]=(Z (i+1)).map y3p:=by rw[z1,bm];rfl
   have eN:(Z (i+1)).length=(Z i).length+1:=by rw[z1];simp
   rw[eL]at e1;rw[aD,<- eN]at e2;have hk:∀ n,n<C->∀ k',sp'=.tok k'->n ≠ k':=fun n hn k' hk'=>by
    rcases R1 with h | ⟨k2,h1,h2,_⟩
    ·rw[h]at hk';cases hk'
    ·rw[h1]at hk';cases hk';omega
   have Qb:=e4 b _ qb.app (hk b hb) (by omega)
   have Ql:=e4 l _ ql.app (hk l hl') (by omega)
   simp only[y3p,dI]at e1;simp only[ar,aq,aV]at e3;have lql:=Ql.lt;simp[hlt,hlb,qb.eq,ql.eq,↓qb.appE,↓ql.appE,hne,w,e1,Ql.eq,ze hlt (by omega)]
   exact⟨Qb.ne (du hbl),_,At.self lql,.inr ⟨_,rfl,by omega,e2.ne (by omega)⟩,by omega,fun n o h1 h2 h3 g=>(e4 n o (keep n o h1 h2 h3 g).app (hk n h1) (by omega)).ne (du h3)⟩
 ·have:i=now.length:=by omega
  subst this;simp[hlt,qb.eq];refine⟨At.self lb,⟨sp',ql.ne hbl,?_⟩,hle,fun n o h1 h2 h3 g=>(keep n o h1 h2 h3 g).ne (du h2)⟩
  rcases R1 with h | ⟨k',h1,h2,h3⟩
  ·exact .inl h
  ·exact .inr ⟨k',h1,h2,h3.ne (by omega)⟩
theorem r192(p:yl)(c:List y2p):yu E (dL E) 192 [ye p,.imm .none (c.map y1s)]=some (.fn 198 [.iptr [.imm .none (c.map y1s)],.iptr (ye p).cellsL]):=by
 refine zg c192 (by simp) ?_
 conv in t192=>reduce;dsimp[ai]
 simp[t192,n192,zy]
theorem i198(p:yl)(c:List y2p)(S:y1d p)(ok:OkP p)(C:OkC p c)(l:Nat)(J:Nat->List Obj->Prop)(Fin:List Obj->Prop)
  (hy:∀ k hp,k<=c.length->J k hp->∃ t hp',y3c (dL E) l [dI ((k:Int) - 1),ye (y4g p c k)] hp=some (.bool t,hp')/\(t=true->J (k+1) hp')/\(t=false->Fin hp')) {hp:List Obj}
  (h0:J 0 hp) :
  ∃ d hp',y1g E (dL E) 198 [.yld l,.iptr [.imm .none (c.map y1s)],.iptr (ye p).cellsL] hp=some (d,hp')/\(J (c.length+1) hp'\/Fin hp'):=by
 refine z1i c198 (R:=fun _ hp'=>J (c.length+1) hp'\/Fin hp') (by simp) ?_
 conv in t198=>reduce;dsimp[ai]
 have c1:=C.len;have w:=za (n:=(c.length:Int)+1) ⟨by omega,by omega⟩
 simp[t198,n198,w];refine zl (c.length+1) (fun k env hp=>∃(x3 x6 x7 x8:D) ,env=[.yld l,.iptr [.imm .none (c.map y1s)],.iptr (ye p).cellsL,x3,dI ((c.length:Int)+1),dI k,x6,x7,x8]/\J k hp) 0 (by omega) ⟨_,_,_,_,rfl,h0⟩ ?_
 rintro k env hp hk ⟨x3,x6,x7,x8,rfl,hJ⟩
 by_cases hlt:k<c.length+1
 ·have hlt':(k:Int)<c.length+1:=by omega
  have h195:=r195 p c k S ok C (by omega)
  have w1:=za (n:=(k:Int) - 1) ⟨by omega,by omega⟩
  obtain⟨t,hp2,y1,y2,y3⟩:=hy k hp (by omega) hJ
  obtain⟨q,hq⟩:∃ q,q=y4g p c k:=⟨_,rfl⟩;rw[<- hq]at h195 y1;simp only[ye,ya,y1s]at h195 y1;cases t with
  |true=>have hJ2:=y2 rfl;simp[hlt,hlt',h195,w1,y1,zy,ze hlt (by omega),hJ2]
  |false=>have hF:=y3 rfl;simp[hlt,hlt',h195,w1,y1,zy,hF]
 ·have:k=c.length+1:=by omega
  subst this;simp[hJ]
theorem zm2{E:Env}{cP:Nat->List D->Option D}{env:List D}{hp:List Obj}{t a c:Nat}{ks:Xs}:xv E cP env hp (.n (.mkslice false t (.t a) (.t c)) ks)=ob (xvs E cP env hp ks) fun vs=>y6c E t (kv a vs) (kv c vs):=by
 rw[yiy];congr 1;funext vs;have e1:gOf vs (.t a)=kv a vs:=rfl;have e2:gOf vs (.t c)=kv c vs:=rfl;rw[<- e1,<- e2];unfold opV y6c;simp only[yb];generalize gOf vs (.t a)=x;generalize gOf vs (.t c)=y;cases (E.ty t).k <;> try rfl
 cases x <;> try rfl
 cases y <;> try rfl
 rename_i e k1 n1 k2 n2;simp only[];cases y26 E e with
 |none=>rfl
 |some z=>
  by_cases h:0<=n1/\n1=n2/\n2*(((E.ty e).bytes:Int)+1)<=yg
  ·obtain⟨h1,rfl,h3⟩:=h;simp[h1,h3]
  ·simp[h]
theorem zi4{m:Nat}:∀{l:List (List Int)} {k:Nat} {b:List Int},(∀ x,x ∈ l->x.length<=m)->(shr k b l).length<=l.length*m
 |[],_,_,_=>by simp[shr]
 |n::l,k,b,h=>by
  have h1:=zjj (cause:=(k:Int) - 1) (k:=0) (bef:=b) (now:=n);have h2:=zi4 (m:=m) (l:=l) (k:=k+1) (b:=n) fun x hx=>h x (by simp[hx])
  have h3:=h n (by simp)
  simp only[shr,ar,aq,bp,Nat.one_mul];omega
theorem zsx{p:yl}(ok:OkP p):∀ n,n ∈ y95 p->0<=n/\n<=1000000000:=by
 intro n hn;obtain⟨x,hx,rfl⟩:=aK.1 hn;have hv:=(ok.vars x.1 (List.of_mem_zip hx).1).choices;rw[af];cases h:x.1.choices[x.2.toNat]? with
 |none=>simp
 |some c=>have:=(hv c (List.mem_of_getElem? h)).delay;unfold wi at this;simp only[aX];omega
noncomputable def ycz(p:yl)(c:List y2p):D:=if ckC p c=0 then .tup [.imm .none ((y3f p c).map y3p),dI 0]else .tup [.imm .none [],dI (ckC p c)]
theorem r180(p:yl)(c:List y2p)(S:y1d p)(M:SmC c):yu E (dL E) 180 [ye p,.imm .none (c.map y1s)]=some (ycz p c):=by
 refine zg c180 (by simp) ?_
 conv in t180=>reduce;dsimp[ai]
 have h181:=r181 p c S M;have h192:=r192 p c;have s3:=S.vars;unfold ycz
 by_cases h0:ckC p c=0
 rotate_left
 ·rw[if_neg h0];simp only[ye,ya,y1s]at h181;simp[t180,n180,h181,h0,zy]
 obtain⟨ok,C⟩:=zz3 h0;rw[if_pos h0];rw[h0]at h181;obtain⟨Z,hZ⟩:∃ Z,Z=ah p.vars.length (0:Int):=⟨_,rfl⟩;have hZ2:ah p.vars.length (D.int .i64 0)=Z.map dI:=by rw[hZ];simp
 have hmk:y6c E 6 (dI p.vars.length) (dI p.vars.length)=some (.imm .exact (Z.map dI)):=by
  have hmb:(p.vars.length:Int)*9<=17592186044416:=by omega
  rw[<- hZ2];simp[y6c,yg,hmb]
 simp only[ye,ya,y1s]at h181 h192;simp[t180,n180,h181,h192,zy,zm2,hmk];obtain⟨Bf,hBf⟩:∃ Bf:Nat->List Int,Bf=fun k=>if k=0 then Z else y95 (y4g p c (k - 1)):=⟨_,rfl⟩
 have hB0:Bf 0=Z:=by rw[hBf];rfl
 have hB1:∀ k,Bf (k+1)=y95 (y4g p c k):=fun k=>by rw[hBf];simp
 have hBl:∀ k,(Bf k).length=p.vars.length:=fun k=>by
  cases k with
  |zero=>rw[hB0,hZ];simp
  |succ k=>rw[hB1,z6h (z3k ok C S) (z61 ok C)];rfl
 have hBd:∀ k n,n ∈ Bf k->0<=n/\n<=1000000000:=fun k n h=>by
  cases k with
  |zero=>rw[hB0,hZ]at h;have:=List.eq_of_mem_replicate h;omega
  |succ k=>rw[hB1]at h;exact zsx (z61 ok C) n h
 obtain⟨Sh,hSh⟩:∃ Sh:Nat->List y44,Sh=fun k=>shr 0 Z ((bB k).map fun j=>Bf (j+1)):=⟨_,rfl⟩
 have hS0:Sh 0=[]:=by rw[hSh];simp[shr]
 have hS1:∀ k,Sh (k+1)=Sh k++chg ((k:Int) - 1) 0 (Bf k) (Bf (k+1)):=fun k=>by
  rw[hSh];simp only[fL,bm,av,aN];rw[zq0];simp only[shr,bL,aD,fP,Nat.zero_add];congr 2;cases k with
  |zero=>simp[hB0]
  |succ k=>simp[fL]
 have hSl:∀ k,k<=9->(Sh k).length<=50000:=fun k hk=>by
  have:=zi4 (m:=p.vars.length) (l:=(bB k).map fun j=>Bf (j+1)) (k:=0) (b:=Z) (fun x hx=>by
   obtain⟨j,_,rfl⟩:=aK.1 hx;rw[hBl];omega)
  rw[hSh];simp only[aD,fP]at this;have h2:k*p.vars.length<=9*1000:=Nat.mul_le_mul hk (by omega)
  simp only[];omega
 have hSn:y3f p c=Sh (c.length+1):=by
  rw[hSh];unfold y3f y4d;rw[<- hZ];congr 1;refine fE fun j _=>?_
  rw[hB1]
 rw[hSn];have c8:=C.len;refine⟨198,_,rfl,?_⟩;intro L hL hcb;obtain⟨J,hJ⟩:∃ J:Nat->List Obj->Prop,J=fun k hq=>∃ sp0 sp,At hq 0 (.cells (ye p).cellsL)/\At hq 1 (.cells [.imm sp ((Sh k).map y3p)])/\At hq 2 (.cells [dI 0])/\At hq 3 (.cells [.imm sp0 ((Bf k).map dI)]) /\
  At hq 4 (.cells [.fn 191 [.loc 3 0,.loc 1 0]])/\At hq 5 (L false none)/\y45 6 hq sp (Sh k).length 3:=⟨_,rfl⟩
 have key:=i198 p c S ok C 5 J (fun _=>False) (by
  intro k hq hk hj;rw[hJ]at hj;obtain⟨sp0,sp,a0,a1,a2,a3,a4,a5,R⟩:=hj;have l5:=a5.lt;have h184:=r184 (y4g p c k) (z3k ok C S);have hck:ck (y4g p c k)=0:=by simp[ck,z61 ok C]
  unfold y9f at h184;rw[if_pos hck,<- hB1]at h184;obtain⟨q,hqd⟩:∃ q,q=y4g p c k:=⟨_,rfl⟩;rw[<- hqd]at h184 ⊢;obtain⟨t,hp2,e1,e2⟩:=hcb [dI ((k:Int) - 1),ye q] hq (fun t hp'=>t=true/\J (k+1) hp') rfl a5 (by
   obtain⟨X,hX⟩:∃ X,X=Obj.cells (ye q).cellsL:=⟨_,rfl⟩;obtain⟨HQ,hHQ⟩:∃ HQ,HQ=(hq++[X]).set 5 (L true none):=⟨_,rfl⟩;have ln:(hq++[X]).length=hq.length+1:=by simp
   have q0:=(a0.app (r:=[X])).ne (j:=5) (x:=L true none) (by omega)
   rw[<- hHQ]at q0;have q1:=(a1.app (r:=[X])).ne (j:=5) (x:=L true none) (by omega)
   rw[<- hHQ]at q1;have q2:=(a2.app (r:=[X])).ne (j:=5) (x:=L true none) (by omega)
   rw[<- hHQ]at q2;have q3:=(a3.app (r:=[X])).ne (j:=5) (x:=L true none) (by omega)
   rw[<- hHQ]at q3;have q4:=(a4.app (r:=[X])).ne (j:=5) (x:=L true none) (by omega)
   rw[<- hHQ]at q4;have q5:At HQ 5 (L true none):=by rw[hHQ];exact At.self (by omega)
   have qn:At HQ hq.length X:=by rw[hHQ];exact At.ne (by simp[At]) (by omega)
   have RQ:y45 6 HQ sp (Sh k).length 3:=by
    rcases R with h | ⟨k',h1,h2,h3⟩
    ·exact .inl h
    ·exact .inr ⟨k',h1,h2,by rw[hHQ];exact h3.app.ne (by omega)⟩
   have lQ:6<=HQ.length:=by rw[hHQ];simp;omega
   obtain⟨d1,hp2,f1,fm,f2,⟨sp',f3,f4⟩,f5,f6⟩:=s191 (cause:=(k:Int) - 1) (now:=Bf (k+1)) (bef:=Bf k) (sh:=Sh k) (by rw[hBl,hBl]) (by rw[hBl];omega) (hSl k (by omega)) (hBd (k+1)) (hBd k) q3 q1 RQ (by omega) (by omega) (by omega) lQ
   rw[<- hS1]at f3 f4;have w0:=f6 0 _ (by omega) (by omega) (by omega) q0
   have w2:=f6 2 _ (by omega) (by omega) (by omega) q2
   have w4:=f6 4 _ (by omega) (by omega) (by omega) q4
   have w5:=f6 5 _ (by omega) (by omega) (by omega) q5
   have z5:=w5.lt;have fin:J (k+1) (hp2.set 5 (L false none)):=by
    rw[hJ];refine⟨.none,sp',w0.ne (by omega),f3.ne (by omega),w2.ne (by omega),f2.ne (by omega),w4.ne (by omega),At.self z5,?_⟩
    rcases f4 with h | ⟨k',h1,h2,h3⟩
    ·exact .inl h
    ·exact .inr ⟨k',h1,h2,h3.ne (by omega)⟩
   have g5:(hq++[X])[5]? = some (L false none):=a5.app.eq;simp only[ye,ya]at h184 f1;rw[hX]at hHQ g5 qn;have qn2:=qn.eq;rw[hHQ]at f1 qn2;have q4e:=q4.eq;rw[hHQ]at q4e;simp only[ye,z2e]at f1 qn2 g5 q4e;simp[y23,h184,↓g5,↓qn2,↓q4e,f1,fm,w5.eq,fin])
  obtain⟨rfl,e3⟩:=e2;exact⟨true,hp2,e1,fun _=>e3,fun h=>by cases h⟩) (hp:=[.cells (ye p).cellsL,.cells [.imm .exact []],.cells [dI 0],.cells [.imm .exact (Z.map dI)],.cells [.fn 191 [.loc 3 0,.loc 1 0]],L false none]) (by
   rw[hJ];exact⟨.exact,.exact,by simp[At],by rw[hS0];simp[At],by simp[At],by rw[hB0];simp[At],by simp[At],by simp[At],.inl rfl⟩)
 obtain⟨d,hp',h1,h2⟩:=key;rcases h2 with h2 | h2
 rotate_left
 ·exact h2.elim
 rw[hJ]at h2;obtain⟨sp0,sp,a0,a1,a2,a3,a4,a5,R⟩:=h2;refine⟨d,_,h1,.inl ⟨a5,?_⟩⟩;obtain⟨H,hH⟩:∃ H,H=hp'.set 5 Obj.dead:=⟨_,rfl⟩;have b1:=a1.ne (j:=5) (x:=Obj.dead) (by omega)
 have b2:=a2.ne (j:=5) (x:=Obj.dead) (by omega)
 rw[<- hH]at b1 b2;simp;rw[<- hH];have t2:∀ x,(H.set 1 x)[2]? = some (.cells [dI 0]):=fun x=>(b2.ne (by omega)).eq
 have t3:∀ x y,((H.set 1 x).set 2 y)[1]? = some x:=fun x y=>(At.ne (At.self b1.lt) (by omega)).eq
 have t4:∀ x y,((H.set 1 x).set 2 y)[2]? = some y:=fun x y=>(At.self (by rw[bn];exact b2.lt)).eq
 simp[a1.eq,b1.eq,b2.eq,↓t2,↓t3,↓t4,z8p]
theorem zct{p:yl}{c:List y2p}(ok:OkP p)(C:OkC p c)(S:y1d p){i:Nat}(hi:i<p.vars.length) :
  y6z (i:Int) (y3f p c)=(y95 p).getD i 0:=by
 have hl:∀ x,x ∈ y4d p c->x.length=p.vars.length:=fun x hx=>by obtain⟨j,_,rfl⟩:=aK.1 hx;rw[z6h (z3k ok C S) (z61 ok C)];rfl
 unfold y3f;rw[zk3 (m:=p.vars.length) (by simp) hl hi]
 have e:y4d p c=(bB c.length).map (fun k=>y95 (y4g p c k))++[y95 p]:=by unfold y4d;rw[fL,bm,List.map_singleton,zp7 (aj _)]
 rw[e];simp[af,List.getElem?_replicate];split <;> simp
theorem z9o{p:yl}{c:List y2p}(ok:OkP p)(C:OkC p c)(S:y1d p):∀ s,s ∈ y3f p c -> -1<=s.cause/\s.cause<c.length/\0<=s.vr/\s.vr<p.vars.length/\s.minutes ≠ 0:=by
 intro s hs;have:=zpz (m:=p.vars.length) (l:=y4d p c) (k:=0) (b:=ah p.vars.length 0) (fun x hx=>by
  obtain⟨j,_,rfl⟩:=aK.1 hx;rw[z6h (z3k ok C S) (z61 ok C)];rfl) hs
 have hl:(y4d p c).length=c.length+1:=by simp[y4d]
 rw[hl]at this;obtain⟨a,b,c',d,e⟩:=this;exact⟨by omega,by omega,c',d,e⟩
end Dv
namespace Dv
inductive CV where
 |mk (k n:Int) (s:List UInt8) (l:List CV)
abbrev dBy(l:List UInt8):D:=.imm .none (l.map yd)
mutual
def dV:CV->D
 |.mk k n s l=>.agg [dI k,dI n,.str s,.imm .none (dVs l)]
def dVs:List CV->List D
 |[]=>[]
 |v::l=>dV v::dVs l
end
theorem zt2:∀(l:List CV),dVs l=l.map dV
 |[]=>rfl
 |v::l=>by simp[dVs,zt2 l]
theorem z3w{k n:Int}{s:List UInt8}{l:List CV}:dV (.mk k n s l)=.agg [dI k,dI n,.str s,.imm .none (l.map dV)]:=by rw[dV,zt2]
def num(u:Nat):List UInt8:=if h:u<128 then[cv u]else cv (u % 128+128)::num (u / 128)
termination_by u
decreasing_by omega
theorem zd1{u:Nat}(h:u<128):num u=[cv u]:=by rw[num,dif_pos h]
theorem zkm{u:Nat}(h : ¬ u<128):num u=cv (u % 128+128)::num (u / 128):=by rw[num,dif_neg h]
def uns(n:Int):Nat:=if 0<=n then 2*n.toNat else 2*(-(n+1)).toNat+1
def sgn(u:Nat):Int:=if u % 2=0 then(u / 2:Nat)else -((u / 2:Nat):Int) - 1
theorem zpe{n:Int}(h:i64 n):uns n<18446744073709551616:=by obtain⟨h1,h2⟩:=h;unfold uns;split <;> omega
def rdN:Nat->List UInt8->Option (Nat × List UInt8)
 |_,[]=>none
 |i,c::r=>if(i=0\/c ≠ 0)/\(i<9\/c.toNat<=1)then
   (if c.toNat<128 then some (c.toNat,r)else(rdN (i+1) r).map fun p=>(c.toNat - 128+128*p.1,p.2))
  else none
theorem zif{n:Nat}(h:n<256):(cv n).toNat=n:=by rw[lu];exact Nat.mod_eq_of_lt h
theorem yh0{u:Nat}:num u ≠ []:=by
 by_cases h:u<128
 ·rw[zd1 h];simp
 ·rw[zkm h];simp
theorem zik{u:Nat}:1<=(num u).length:=by
 have:=yh0 (u:=u);cases h:num u with
 |nil=>exact absurd h this
 |cons _ _=>simp
mutual
def enc:CV->List UInt8
 |.mk k n s l=>if k=1 then 1::num (uns n)else if k=2 then 2::(num s.length++s)else 3::(num l.length++y4w l)
def y4w:List CV->List UInt8
 |[]=>[]
 |v::l=>enc v++y4w l
end
mutual
def fmd:CV->Prop
 |.mk k n s l=>(k=1/\i64 n/\s=[]/\l=[])\/(k=2/\n=0/\l=[])\/(k=3/\n=0/\s=[]/\yby l)
def yby:List CV->Prop
 |[]=>True
 |v::l=>fmd v/\yby l
end
mutual
def dep:CV->Nat
 |.mk k _ _ l=>if k=3 then y7t l+1 else 0
def y7t:List CV->Nat
 |[]=>0
 |v::l=>Nat.max (dep v) (y7t l)
end
theorem yee{v:CV}:1<=(enc v).length:=by
 cases v with
 |mk k n s l=>rw[enc];split <;> (try split) <;> simp
theorem zf5:∀(l:List CV),l.length<=(y4w l).length
 |[]=>by simp
 |v::l=>by have:=zf5 l;have:=yee (v:=v);simp only[y4w,aq,ar];omega
theorem z73:∀(a b:List CV),y4w (a++b)=y4w a++y4w b
 |[],b=>by simp[y4w]
 |v::a,b=>by simp[y4w,z73 a b]
def rdL(f:List UInt8->Option (CV × List UInt8)):Nat->List UInt8->Option (List CV × List UInt8)
 | 0,b=>some ([],b)
 |n+1,b=>match f b with
  |none=>none
  |some p=>match rdL f n p.2 with
   |none=>none
   |some q=>some (p.1::q.1,q.2)
def rdS(b:List UInt8):Option (Nat × List UInt8):=match rdN 0 b with
 |some p=>if p.1<=p.2.length then some p else none
 |none=>none
def rdV:Nat->List UInt8->Option (CV × List UInt8)
 |_,[]=>none
 | 0,c::r=>if c=1 then(rdN 0 r).map fun p=>(.mk 1 (sgn p.1) [] [],p.2)
  else if c=2 then(rdS r).map fun p=>(.mk 2 0 (p.2.take p.1) [],p.2.drop p.1)
  else none
 |d+1,c::r=>if c=1 then(rdN 0 r).map fun p=>(.mk 1 (sgn p.1) [] [],p.2)
  else if c=2 then(rdS r).map fun p=>(.mk 2 0 (p.2.take p.1) [],p.2.drop p.1)
  else if c=3 then(rdS r).bind fun p=>(rdL (rdV d) p.1 p.2).map fun q=>(.mk 3 0 [] q.1,q.2)
  else none
end Dv
namespace Dv
structure Ent where
 kind:Int
 idx:Int
 amt:Int
deriving DecidableEq
structure Pst where
 no:Int
 minute:Int
 corrects:Int
 ents:List Ent
 prev:List UInt8
deriving DecidableEq
abbrev y2k(e:Ent):D:=.agg [dI e.kind,dI e.idx,dI e.amt]
abbrev y51(p:Pst):D:=.agg (dI p.no::dI p.minute::dI p.corrects :: .imm .none (p.ents.map y2k)::p.prev.map yd)
abbrev y1x(l:List Pst):D:=.imm .none (l.map y51)
abbrev y8g(d:List UInt8):D:=.agg (d.map yd)
def ltA(a b:Ent):Prop:=a.kind<b.kind\/a.kind=b.kind/\a.idx<b.idx
instance(a b:Ent):Decidable (ltA a b):=inferInstanceAs (Decidable (_\/_))
def y7p(x:Ent):Prop:=(1<=x.kind/\x.kind<=5)/\(-1<=x.idx/\x.idx<=4095)/\x.amt ≠ 0 /\ -1099511627776<=x.amt/\x.amt<=1099511627776
instance(x:Ent):Decidable (y7p x):=inferInstanceAs (Decidable (_/\_))
def yfr(l:List Ent):Prop:=∀ i,∀ h:i+1<l.length,ltA l[i] l[i+1]
def y3x:List Ent->Int
 |[]=>0
 |x::l=>x.amt+y3x l
theorem z6u(a b:List Ent):y3x (a++b)=y3x a+y3x b:=by
 induction a with
 |nil=>simp[y3x]
 |cons x a ih=>simp only[aJ,y3x,ih];omega
structure fmE(l:List Ent):Prop where
 two:2<=l.length
 most:l.length<=4096
 ok:∀ x,x ∈ l->y7p x
 ord:yfr l
structure fmP(p:Pst):Prop where
 no:0<=p.no/\p.no<65536
 minute:0<=p.minute/\p.minute<1440
 corrects : -1<=p.corrects/\p.corrects<p.no
 ents:fmE p.ents
open Classical in
noncomputable def y6t(p:Pst):Int:=if fmP p then(if y3x p.ents=0 then 0 else 411)else 410
structure gdP(p:Pst):Prop where
 fm:fmP p
 sum:y3x p.ents=0
theorem z4k{p:Pst}:y6t p=0 ↔ gdP p:=by
 unfold y6t;constructor
 ·intro h;split at h
  ·rename_i h1;split at h
   ·rename_i h2;exact⟨h1,h2⟩
   ·simp at h
  ·simp at h
 ·rintro⟨h1,h2⟩;rw[if_pos h1,if_pos h2]
def cI(n:Int):CV:=.mk 1 n [] []
def cL(l:List CV):CV:=.mk 3 0 [] l
def cT(s:List UInt8):CV:=.mk 2 0 s []
def y6w(x:Ent):CV:=cL [cI x.kind,cI x.idx,cI x.amt]
def ybe(p:Pst):CV:=cL [cI p.no,cI p.minute,cI p.corrects,cL (p.ents.map y6w),cT p.prev]
def ya2(p:Pst):List UInt8:=enc (ybe p)
theorem z8q{n:Int}(h:i64 n):fmd (cI n):=by unfold cI;rw[fmd];exact .inl ⟨rfl,h,rfl,rfl⟩
theorem zwf{s:List UInt8}:fmd (cT s):=by unfold cT;rw[fmd];exact .inr (.inl ⟨rfl,rfl,rfl⟩)
theorem zf0{l:List CV}(h:yby l):fmd (cL l):=by unfold cL;rw[fmd];exact .inr (.inr ⟨rfl,rfl,rfl,h⟩)
theorem z9w:∀{l:List CV},(∀ v,v ∈ l->fmd v)->yby l
 |[],_=>by rw[yby];trivial
 |v::l,h=>by rw[yby];exact⟨h v (by simp),z9w fun w hw=>h w (by simp[hw])⟩
theorem zf7{n:Int}:dep (cI n)=0:=by unfold cI;rw[dep,if_neg (by decide)]
theorem zwz{s:List UInt8}:dep (cT s)=0:=by unfold cT;rw[dep,if_neg (by decide)]
theorem zf6{l:List CV}:dep (cL l)=y7t l+1:=by unfold cL;rw[dep,if_pos rfl]
theorem zf8{n:Nat}:∀{l:List CV},(∀ v,v ∈ l->dep v<=n)->y7t l<=n
 |[],_=>by rw[y7t];omega
 |v::l,h=>by rw[y7t];exact Nat.max_le.2 ⟨h v (by simp),zf8 fun w hw=>h w (by simp[hw])⟩
structure yit(p:Pst):Prop where
 no:i64 p.no
 minute:i64 p.minute
 corrects:i64 p.corrects
 ents:∀ x,x ∈ p.ents->i64 x.kind/\i64 x.idx/\i64 x.amt
theorem zru{p:Pst}(h:fmP p):yit p:=by
 obtain⟨h1,h2,h3,h4⟩:=h;refine⟨⟨by omega,by omega⟩,⟨by omega,by omega⟩,⟨by omega,by omega⟩,fun x hx=>?_⟩
 obtain⟨a,b,c,d⟩:=h4.ok x hx;exact⟨⟨by omega,by omega⟩,⟨by omega,by omega⟩,⟨by omega,by omega⟩⟩
theorem zsc{x:Ent}(h:i64 x.kind/\i64 x.idx/\i64 x.amt):fmd (y6w x):=by
 unfold y6w;refine zf0 (z9w fun v hv=>?_)
 simp only[aA,fB,or_false]at hv;rcases hv with rfl | rfl | rfl
 ·exact z8q h.1
 ·exact z8q h.2.1
 ·exact z8q h.2.2
theorem ye9{p:Pst}(h:yit p):fmd (ybe p):=by
 unfold ybe;refine zf0 (z9w fun v hv=>?_)
 simp only[aA,fB,or_false]at hv;rcases hv with rfl | rfl | rfl | rfl | rfl
 ·exact z8q h.no
 ·exact z8q h.minute
 ·exact z8q h.corrects
 ·refine zf0 (z9w fun v hv=>?_)
  obtain⟨x,hx,rfl⟩:=aK.1 hv;exact zsc (h.ents x hx)
 ·exact zwf
theorem zt0{x:Ent}:dep (y6w x)=1:=by unfold y6w;rw[zf6];simp[y7t,zf7]
theorem yej{p:Pst}:dep (ybe p)<=3:=by
 unfold ybe;rw[zf6];have:y7t [cI p.no,cI p.minute,cI p.corrects,cL (p.ents.map y6w),cT p.prev]<=2:=by
  refine zf8 fun v hv=>?_
  simp only[aA,fB,or_false]at hv;rcases hv with rfl | rfl | rfl | rfl | rfl
  ·rw[zf7];omega
  ·rw[zf7];omega
  ·rw[zf7];omega
  ·rw[zf6];have:y7t (p.ents.map y6w)<=1:=zf8 fun v hv=>by obtain⟨x,_,rfl⟩:=aK.1 hv;rw[zt0];omega
   omega
  ·rw[zwz];omega
 omega
theorem zax{u:Nat}(h:u<18446744073709551616):(num u).length<=11:=by
 have key:∀(k u:Nat),u<2 ^ (7*k)->(num u).length<=k+1:=by
  intro k
  induction k with
  |zero=>intro u h;rw[zd1 (by omega)];simp
  |succ k ih=>
   intro u h
   by_cases h1:u<128
   ·rw[zd1 h1];simp
   ·rw[zkm h1];have:=ih (u / 128) (by
     rw[kf (by decide),show(128:Nat)=2 ^ 7 from rfl,<- pS]
     rwa [show 7*k+7=7*(k+1)from by omega])
    simp;omega
 have:(18446744073709551616:Nat)<=2 ^ (7*10):=by decide
 exact key 10 u (by omega)
theorem yef{n:Int}:enc (cI n)=1::num (uns n):=by unfold cI;rw[enc,if_pos rfl]
theorem zws{s:List UInt8}:enc (cT s)=2::(num s.length++s):=by unfold cT;rw[enc,if_neg (by decide),if_pos rfl]
theorem zf4{l:List CV}:enc (cL l)=3::(num l.length++y4w l):=by unfold cL;rw[enc,if_neg (by decide),if_neg (by decide)]
theorem z6g{n:Int}(h:i64 n):(enc (cI n)).length<=12:=by rw[yef];have:=zax (zpe h);simp;omega
theorem zsv{n:Nat}:∀{l:List CV},(∀ v,v ∈ l->(enc v).length<=n)->(y4w l).length<=l.length*n
 |[],_=>by simp[y4w]
 |v::l,h=>by
  have h1:=h v (by simp)
  have h2:=zsv (l:=l) fun w hw=>h w (by simp[hw])
  simp only[y4w,ar,aq,bp];omega
theorem zwu{x:Ent}(h:i64 x.kind/\i64 x.idx/\i64 x.amt):(enc (y6w x)).length<=48:=by
 unfold y6w;rw[zf4];have h1:=z6g h.1;have h2:=z6g h.2.1;have h3:=z6g h.2.2;have h4:=zax (u:=3) (by omega)
 simp[y4w]at h1 h2 h3 h4 ⊢;omega
theorem zll{p:Pst}(h:yit p)(hn:p.ents.length<=1000000)(hp:p.prev.length<=1000000):(ya2 p).length<=48*p.ents.length+p.prev.length+100:=by
 unfold ya2 ybe;rw[zf4];have h1:=z6g h.no;have h2:=z6g h.minute;have h3:=z6g h.corrects;have h4:=zax (u:=5) (by omega)
 have h5:(enc (cL (p.ents.map y6w))).length<=48*p.ents.length+12:=by
  rw[zf4];have:=zax (u:=(p.ents.map y6w).length) (by simp;omega)
  have h6:=zsv (n:=48) (l:=p.ents.map y6w) fun v hv=>by obtain⟨x,hx,rfl⟩:=aK.1 hv;exact zwu (h.ents x hx)
  simp at this h6 ⊢;omega
 have h7:(enc (cT p.prev)).length<=p.prev.length+12:=by
  rw[zws];have:=zax (u:=p.prev.length) (by omega)
  simp;omega
 simp only[aq,ar,y4w,aV,Nat.reduceAdd]at h4 ⊢;omega
abbrev Tag:=List UInt8->List UInt8->List UInt8
def y5h:List UInt8:=[112,111,115,116,105,110,103,115]
def y4a:List UInt8:=[112,111,115,116,105,110,103]
def yi5:List UInt8:=[99,104,97,105,110]
def y7e(tg:Tag):List UInt8:=tg y5h []
def yi0(tg:Tag)(a b:List UInt8):List UInt8:=tg yi5 (a++b)
def ycq(tg:Tag)(d:List UInt8)(p:Pst):List UInt8:=yi0 tg d (tg y4a (ya2 p))
def y6m(tg:Tag)(l:List Pst):List UInt8:=l.foldl (ycq tg) (y7e tg)
theorem zsz{tg:Tag}{l:List Pst}{p:Pst}:y6m tg (l++[p])=ycq tg (y6m tg l) p:=by simp[y6m]
theorem zsy{tg:Tag}{l:List Pst}{i:Nat}(h:i<l.length):y6m tg (l.take (i+1))=ycq tg (y6m tg (l.take i)) l[i]:=by rw[aL h,zsz]
structure atP(tg:Tag)(l:List Pst)(i:Nat)(p:Pst):Prop where
 no:p.no=i
 prev:p.prev=y6m tg (l.take i)
 minute:∀ j q,j+1=i->l[j]? = some q->q.minute<=p.minute
def vld(tg:Tag)(l:List Pst):Prop:=l.length<=65536/\(∀ p,p ∈ l->gdP p) /\ ∀ i p,l[i]? = some p->atP tg l i p
open Classical in
noncomputable def y36:List Pst->Int
 |[]=>0
 |p::l=>if y6t p=0 then y36 l else y6t p
open Classical in
noncomputable def rdE(tg:Tag)(l:List Pst):Int:=if 65536<l.length then 2 else if y36 l ≠ 0 then y36 l else if vld tg l then 0 else 410
theorem z5a:∀{l:List Pst},y36 l=0 ↔ ∀ p,p ∈ l->gdP p
 |[]=>by simp[y36]
 |p::l=>by
  simp only[y36,aA,forall_eq_or_imp];split
  ·rename_i h;rw[z5a];exact⟨fun h2=>⟨z4k.1 h,h2⟩,fun h2=>h2.2⟩
  ·rename_i h;exact⟨fun h2=>absurd h2 h,fun h2=>absurd (z4k.2 h2.1) h⟩
theorem z26{tg:Tag}{l:List Pst}:rdE tg l=0 ↔ vld tg l:=by
 unfold rdE;constructor
 ·intro h;split at h
  ·simp at h
  ·split at h
   ·rename_i h2;exact absurd h h2
   ·split at h
    ·assumption
    ·simp at h
 ·intro h;rw[if_neg (by have:=h.1;omega),if_neg (by simp only[ne_eq,fR];exact z5a.2 h.2.1),if_pos h]
theorem za9{tg:Tag}:vld tg []:=⟨by simp,by simp,by simp⟩
theorem zuj{tg:Tag}{l:List Pst}{p:Pst}(h:vld tg l)(hl:l.length<65536)(g:gdP p)(hno:p.no=l.length)(hprev:p.prev=y6m tg l)(hm:∀ q,l.getLast? = some q->q.minute<=p.minute):vld tg (l++[p]):=by
 refine⟨by simp;omega,fun q hq=>?_,fun i q hi=>?_⟩
 ·rcases aC.1 hq with hq | hq
  ·exact h.2.1 q hq
  ·simp at hq;subst hq;exact g
 ·rw[List.getElem?_append]at hi;split at hi
  ·rename_i hlt;obtain⟨a,b,c⟩:=h.2.2 i q hi;refine⟨a,?_,fun j r hj hr=>c j r hj ?_⟩
   ·rw[bM (by omega)];exact b
   ·rw[aB (by omega)]at hr;exact hr
  ·rename_i hge;have hi0:i=l.length:=by have:=(List.getElem?_eq_some_iff.1 hi).1;simp at this;omega
   subst hi0;simp at hi;subst hi;refine⟨hno,?_,fun j r hj hr=>hm r ?_⟩
   ·rw[bM (aj _),bg];exact hprev
   ·rw[aB (by omega)]at hr
    rw[List.getLast?_eq_getElem?,<- hr];congr 1;omega
structure Stp where
 minute:Int
 corrects:Int
 ents:List Ent
def y90(tg:Tag)(l:List Pst)(s:Stp):Pst:=⟨l.length,s.minute,s.corrects,s.ents,y6m tg l⟩
open Classical in
noncomputable def y4i(tg:Tag)(l:List Pst)(s:Stp):Int:=
 if rdE tg l ≠ 0 then rdE tg l else if l.length=65536 then 2 else if ∃ q,l.getLast? = some q/\s.minute<q.minute then 410 else y6t (y90 tg l s)
theorem zv3{tg:Tag}{l:List Pst}{s:Stp}(h:y4i tg l s=0):vld tg l/\l.length<65536/\vld tg (l++[y90 tg l s])/\(∀ q,l.getLast? = some q->q.minute<=s.minute)/\gdP (y90 tg l s):=by
 unfold y4i at h;split at h
 ·rename_i h1;exact absurd h h1
 ·rename_i h1;have v:=z26.1 (fR.1 h1);split at h
  ·simp at h
  ·rename_i h2;have hl:l.length<65536:=by have:=v.1;omega
   split at h
   ·simp at h
   ·rename_i h3;have hm:∀ q,l.getLast? = some q->q.minute<=s.minute:=fun q hq=>by
     rcases Int.lt_or_le s.minute q.minute with h4 | h4
     ·exact absurd ⟨q,hq,h4⟩ h3
     ·exact h4
    have g:=z4k.1 h;exact⟨v,hl,zuj v hl g rfl rfl hm,hm,g⟩
theorem zgk{tg:Tag}{l:List Pst}{s:Stp}(v:vld tg l)(hl:l.length<65536)(hm:∀ q,l.getLast? = some q->q.minute<=s.minute):y4i tg l s=y6t (y90 tg l s):=by
 unfold y4i;rw[if_neg (by simp[z26.2 v]),if_neg (by omega),if_neg]
 rintro⟨q,h1,h2⟩;have:=hm q h1;omega
def y1c(k i:Int):List Ent->Int
 |[]=>0
 |x::l=>(if x.kind=k/\x.idx=i then x.amt else 0)+y1c k i l
def yf1(k i m:Int):List Pst->Int
 |[]=>0
 |p::l=>(if p.minute<=m then y1c k i p.ents else 0)+yf1 k i m l
theorem z36{k i:Int}(a b:List Ent):y1c k i (a++b)=y1c k i a+y1c k i b:=by
 induction a with
 |nil=>simp[y1c]
 |cons x a ih=>simp only[aJ,y1c,ih];omega
end Dv
namespace Dv
def yfw(l:List Pst):List (Int × Int):=l.flatMap fun p=>p.ents.map fun x=>(x.kind,x.idx)
end Dv
namespace Dv
def y1r:List (Int × Int)->List (Int × Int)
 |[]=>[]
 |[x]=>[x]
 |x::y::r=>if x=y then y1r (y::r)else x::y1r (y::r)
theorem zt7:∀{l:List (Int × Int)} {a:Int × Int},a ∈ y1r l ↔ a ∈ l
 |[],a=>by simp[y1r]
 |[x],a=>by simp[y1r]
 |x::y::r,a=>by
  have ih:=zt7 (l:=y::r) (a:=a);unfold y1r;split
  ·rename_i e;rw[ih];subst e;simp
  ·rw[aA,ih];simp
theorem zlr:∀{l:List (Int × Int)},l ≠ []->y1r l ≠ []
 |[],h=>absurd rfl h
 |[x],_=>by simp[y1r]
 |x::y::r,_=>by
  unfold y1r;split
  ·exact zlr (by simp)
  ·simp
theorem zo9:∀{l:List (Int × Int)},(y1r l).getLast? = l.getLast?
 |[]=>rfl
 |[x]=>rfl
 |x::y::r=>by
  have ih:=zo9 (l:=y::r);unfold y1r;split
  ·rw[ih];simp
  ·have hne:=zlr (l:=y::r) (by simp)
   obtain⟨z,zs,hz⟩:=List.exists_cons_of_ne_nil hne;rw[hz]at ih ⊢;rw[jy,ih];simp
theorem zdk:∀{l:List (Int × Int)} {a:Int × Int},y1r (l++[a])=if l.getLast? = some a then y1r l else y1r l++[a]
 |[],a=>by simp[y1r]
 |[x],a=>by
  simp only[aJ,bo,y1r,List.getLast?_singleton,aa];split
  ·rename_i e;rw[e]
  ·rfl
 |x::y::r,a=>by
  have ih:=zdk (l:=y::r) (a:=a);have e:(x::y::r).getLast? = (y::r).getLast?:=jy;rw[e];simp only[aJ]at ih ⊢
  conv=>lhs;unfold y1r
  conv=>rhs;unfold y1r
  rw[ih];split
  ·rfl
  ·split <;> rfl
theorem z5x:∀{l:List (Int × Int)},(y1r l).length<=l.length
 |[]=>by simp[y1r]
 |[x]=>by simp[y1r]
 |x::y::r=>by
  have ih:=z5x (l:=y::r);unfold y1r;split
  ·simp at ih ⊢;omega
  ·simp at ih ⊢;omega
theorem zgl{x y z:Int × Int}(h:y43 x y=true)(h':y43 y z=true):y43 x z=true:=by unfold y43 at *;simp at *;omega
theorem z69{x:Int × Int}:y43 x x=false:=by unfold y43;simp
theorem zau{x y:Int × Int}(h:y43 y x=false):x=y\/y43 x y=true:=by
 unfold y43 at *
 simp at *
 by_cases e:x=y
 ·exact .inl e
 ·right;have : ¬ (x.1=y.1/\x.2=y.2):=fun h=>e (mq h.1 h.2)
  omega
theorem z3i(l:List (Int × Int)):(y1t l).Perm l:=List.mergeSort_perm l _
theorem zqf{l:List (Int × Int)}{a:Int × Int}:a ∈ y1t l ↔ a ∈ l:=(z3i l).mem_iff
theorem z31(l:List (Int × Int)):(y1t l).length=l.length:=(z3i l).length_eq
theorem z9a(l:List (Int × Int)):(y1t l).Pairwise fun x y=>y43 y x=false:=by
 have h:=List.pairwise_mergeSort (le:=fun x y:Int × Int=>!y43 y x) (fun a b c h1 h2=>by
  unfold y43 at *;simp at *;omega) (fun a b=>by
  unfold y43;simp;omega) l
 exact h.imp fun h=>by simpa using h
def ybc(l:List Pst):List (Int × Int):=y1r (y1t (yfw l))
def y94:List Pst->Nat
 |[]=>0
 |p::l=>p.ents.length+y94 l
theorem zfi:∀(l:List Pst),(yfw l).length=y94 l
 |[]=>rfl
 |p::l=>by have:=zfi l;simp only[yfw,List.flatMap_cons,ar,aD,y94]at this ⊢;omega
end Dv
namespace Dv
def yde(x:Ent):Ent:=⟨x.kind,x.idx,-x.amt⟩
def y6v(l:List Ent):List Ent:=l.map yde
theorem zkq(l:List Ent):(y6v l).length=l.length:=aD _
theorem zum:∀(l:List Ent),y3x (y6v l) = -y3x l
 |[]=>rfl
 |x::l=>by have:=zum l;simp only[y6v,av,y3x]at this ⊢;rw[this];simp[yde];omega
theorem zc6{k i:Int}:∀(l:List Ent),y1c k i (y6v l) = -y1c k i l
 |[]=>rfl
 |x::l=>by have:=zc6 (k:=k) (i:=i) l;simp only[y6v,av,y1c]at this ⊢;rw[this];simp only[yde];split <;> omega
end Dv
namespace Dv
abbrev Key:=Int × Int
abbrev y41:=List (Key × Int)
def y3s(a:Key):y41->Option Int
 |[]=>none
 |e::r=>if a=e.1 then some e.2 else y3s a r
def y28(a:Key)(m:y41):Int:=(y3s a m).getD 0
def y7y(a:Key)(n:Int):y41->y41
 |[]=>[(a,n)]
 |e::r=>if a=e.1 then(a,n)::r else e::y7y a n r
def yer(a:Key)(n:Int)(m:y41):y41:=y7y a (y28 a m+n) m
def y2i(m:y41):List Key:=m.map fun e=>e.1
def y65(m:y41):List Key->List Ent
 |[]=>[]
 |a::r=>if y28 a m=0 then y65 m r else⟨a.1,a.2,y28 a m⟩::y65 m r
def yau(m:y41):List Ent:=y65 m (y1t (y2i m))
theorem zku{a b:Key}{n:Int}:∀{m:y41},y3s b (y7y a n m)=if b=a then some n else y3s b m
 |[]=>by simp[y7y,y3s]
 |e::r=>by
  have ih:=zku (a:=a) (b:=b) (n:=n) (m:=r);unfold y7y
  by_cases h:a=e.1
  ·rw[if_pos h]
   by_cases h2:b=a
   ·simp[y3s,h2]
   ·have : ¬ b=e.1:=fun h3=>h2 (h3.trans h.symm)
    simp[y3s,h2,this]
  ·rw[if_neg h];unfold y3s;rw[ih]
   by_cases h2:b=e.1
   ·have : ¬ b=a:=fun h3=>h (h3.symm.trans h2)
    rw[if_pos h2,if_neg this,if_pos h2]
   ·rw[if_neg h2,if_neg h2]
theorem zn5{a b:Key}{n:Int}{m:y41}:y28 b (yer a n m)=y28 b m+if a=b then n else 0:=by
 unfold yer y28;rw[zku]
 by_cases h:b=a
 ·subst h;simp
 ·have : ¬ a=b:=fun e=>h e.symm
  simp[h,this]
theorem zeu{a:Key}{n:Int}:∀{m:y41},y2i (y7y a n m)=if a ∈ y2i m then y2i m else y2i m++[a]
 |[]=>rfl
 |e::r=>by
  have ih:=zeu (a:=a) (n:=n) (m:=r);unfold y7y
  by_cases h:a=e.1
  ·rw[if_pos h,if_pos (by simp[y2i,h])]
   simp[y2i,h]
  ·rw[if_neg h];have e2:∀(x:Key × Int) (q:y41),y2i (x::q)=x.1::y2i q:=fun _ _=>rfl
   rw[e2,e2,ih]
   by_cases hm:a ∈ y2i r
   ·rw[if_pos hm,if_pos (List.mem_cons_of_mem _ hm)]
   ·rw[if_neg hm,if_neg (by simp[h,hm])];rfl
theorem zqr{a:Key}{n:Int}{m:y41}(h:(y2i m).Nodup):(y2i (y7y a n m)).Nodup:=by
 rw[zeu];split
 ·exact h
 ·rename_i h2;rw[List.nodup_append];refine⟨h,by simp,fun x hx y hy e=>?_⟩
  simp only[bz]at hy;subst hy;subst e;exact h2 hx
theorem zgu{a:Key}:∀{m:y41},a ∉ y2i m->y3s a m=none
 |[],_=>rfl
 |e::r,h=>by simp only[y2i,av,aA,not_or]at h;unfold y3s;rw[if_neg h.1];exact zgu h.2
theorem ydl{a:Key}{n:Int}{m:y41}:(y7y a n m).length<=m.length+1:=by
 have h:=congrArg cM (zeu (a:=a) (n:=n) (m:=m))
 by_cases hm:a ∈ y2i m
 ·rw[if_pos hm]at h;simp only[y2i,aD]at h;omega
 ·rw[if_neg hm]at h;simp only[y2i,aD,ar,aq,aV]at h;omega
def y5l(x:Ent):Key:=(x.kind,x.idx)
def y5f(l:List Ent):Prop:=(l.map y5l).Pairwise fun a b=>y43 a b=true
theorem zid{a b:Key}:y43 a b=true ↔ a.1<b.1\/a.1=b.1/\a.2<b.2:=by unfold y43;simp
theorem z5l{l:List Ent}:y5f l ↔ yfr l:=by
 constructor
 ·intro h i hi;have:=fj.1 h i (i+1) (by simp;omega) (by simpa using hi) (by omega)
  simp only[fZ]at this;exact zid.1 this
 ·intro h;have key:∀(d i:Nat) (hi:i+d+1<l.length),y43 (y5l (l[i]'(by omega))) (y5l l[i+d+1])=true:=by
   intro d
   induction d with
   |zero=>intro i hi;exact zid.2 (h i hi)
   |succ d ih=>
    intro i hi;have h1:=ih i (by omega)
    have h2:y43 (y5l (l[i+d+1]'(by omega))) (y5l l[i+d+1+1])=true:=zid.2 (h (i+d+1) (by omega))
    exact zgl h1 h2
  refine fj.2 fun i j hi hj hij=>?_
  have hj2:j<l.length:=by simpa using hj
  simp only[fZ];have:=key (j - i - 1) i (by omega)
  have e:i+(j - i - 1)+1=j:=by omega
  simp only[e]at this;exact this
theorem z8b{k i:Int}:∀{l:List Ent},(k,i) ∉ l.map y5l->y1c k i l=0
 |[],_=>rfl
 |x::l,h=>by simp only[av,aA,not_or]at h;simp only[y1c];rw[if_neg fun e=>h.1 (by unfold y5l;rw[e.1,e.2]),z8b h.2];rfl
theorem z4h{x:Ent}{l:List Ent}:y5f (x::l) ↔ (∀ a,a ∈ l.map y5l->y43 (y5l x) a=true)/\y5f l:=by unfold y5f;rw[av,List.pairwise_cons]
theorem z3j{x:Ent}{l:List Ent}(h:y5f (x::l)):y1c x.kind x.idx (x::l)=x.amt:=by
 simp only[y1c,and_self,if_true];rw[z8b fun hm=>by
  have:=(z4h.1 h).1 _ hm;rw[show y5l x=(x.kind,x.idx)from rfl,z69]at this;cases this]
 omega
theorem zsr:∀{l l':List Ent},y5f l->y5f l'->(∀ e,e ∈ l->e.amt ≠ 0)->(∀ e,e ∈ l'->e.amt ≠ 0)->(∀ k i,y1c k i l=y1c k i l')->l=l'
 |[],[],_,_,_,_,_=>rfl
 |[],e::r,_,o,_,n,h=>by have:=h e.kind e.idx;rw[z3j o]at this;exact absurd this.symm (n e (by simp))
 |e::r,[],o,_,n,_,h=>by have:=h e.kind e.idx;rw[z3j o]at this;exact absurd this (n e (by simp))
 |e::r,f::s,o,o',n,n',h=>by
  have low:∀{x:Ent} {t:List Ent} {a:Ent},y5f (x::t)->y43 (y5l a) (y5l x)=true->y1c a.kind a.idx (x::t)=0:=fun {x t a} ho hl=>by
   refine z8b fun hm=>?_
   have hm:y5l a ∈ (x::t).map y5l:=hm;rw[av]at hm;rcases aA.1 hm with he | hy
   ·rw[he,z69]at hl;cases hl
   ·have:=zgl hl ((z4h.1 ho).1 _ hy);rw[z69]at this;cases this
  have ha:y5l e=y5l f:=by
   by_cases h1:y43 (y5l e) (y5l f)=true
   ·have:=h e.kind e.idx;rw[z3j o,low o' h1]at this;exact absurd this (n e (by simp))
   ·rcases zau (by simpa using h1)with h2 | h2
    ·exact h2.symm
    ·have:=h f.kind f.idx;rw[z3j o',low o h2]at this;exact absurd this.symm (n' f (by simp))
  have h1:e.kind=f.kind/\e.idx=f.idx:=by simpa[y5l]using ha
  have hm:e.amt=f.amt:=by have:=h e.kind e.idx;rw[z3j o,h1.1,h1.2,z3j o']at this;exact this
  have he:e=f:=by cases e;cases f;simp at h1 hm;simp[h1,hm]
  subst he;have hr:r=s:=by
   refine zsr (z4h.1 o).2 (z4h.1 o').2 (fun x hx=>n x (by simp[hx])) (fun x hx=>n' x (by simp[hx])) fun k i=>?_
   have:=h k i;simp only[y1c]at this;omega
  rw[hr]
theorem zgh{l:List Key}(h:l.Nodup):(y1t l).Pairwise fun a b=>y43 a b=true:=by
 have h1:=z9a l;have h2:(y1t l).Nodup:=(z3i l).nodup_iff.2 h;refine List.Pairwise.imp₂ (fun a b h3 h4=>?_) h1 h2
 rcases zau h3 with h5 | h5
 ·exact absurd h5 h4
 ·exact h5
theorem z86{m:y41}:∀{l:List Key},((y65 m l).map y5l).Sublist l
 |[]=>by simp[y65]
 |a::r=>by
  have ih:=z86 (m:=m) (l:=r);unfold y65;split
  ·exact ih.cons a
  ·exact ih.cons_cons a
theorem zss{m:y41}(h:(y2i m).Nodup):y5f (yau m):=(zgh h).sublist z86
theorem zf3{m:y41}:∀{l:List Key} {e:Ent},e ∈ y65 m l->e.amt ≠ 0/\e.amt=y28 (y5l e) m
 |[],e,h=>by simp[y65]at h
 |a::r,e,h=>by
  unfold y65 at h;split at h
  ·exact zf3 h
  ·rename_i h1;rcases aA.1 h with rfl | h
   ·exact⟨h1,rfl⟩
   ·exact zf3 h
theorem zlx{m:y41}{k i:Int}:∀{l:List Key},l.Nodup->y1c k i (y65 m l)=if(k,i) ∈ l then y28 (k,i) m else 0
 |[],_=>rfl
 |a::r,h=>by
  obtain⟨h1,h2⟩:=dO.1 h;have ih:=zlx (m:=m) (k:=k) (i:=i) h2;unfold y65
  by_cases ha:a=(k,i)
  ·subst ha;rw[if_neg h1]at ih;split
   ·rename_i h0;rw[ih,if_pos (by simp),h0]
   ·simp[y1c,ih]
  ·have hn : ¬ (a.1=k/\a.2=i):=fun e=>ha (mq e.1 e.2)
   have hn2 : ¬ (k,i)=a:=fun e=>ha e.symm
   have e2:((k,i) ∈ a::r) ↔ ((k,i) ∈ r):=by simp[hn2]
   split
   ·rw[ih];simp[hn2]
   ·simp only[y1c];rw[if_neg hn,ih];simp[hn2]
theorem zy5{m:y41}(h:(y2i m).Nodup){k i:Int}:y1c k i (yau m)=y28 (k,i) m:=by
 unfold yau;rw[zlx ((z3i _).nodup_iff.2 h)];split
 ·rfl
 ·rename_i h1;rw[zqf]at h1;unfold y28;rw[zgu h1];rfl
def y1n(l:List Ent)(m:y41):y41:=l.foldl (fun m x=>yer (y5l x) x.amt m) m
theorem z6t{x:Ent}{l:List Ent}{m:y41}:y1n (x::l) m=y1n l (yer (y5l x) x.amt m):=rfl
theorem ze3{a b:List Ent}{m:y41}:y1n (a++b) m=y1n b (y1n a m):=fQ
theorem z40:∀{l:List Ent} {m:y41},(y2i m).Nodup->(y2i (y1n l m)).Nodup
 |[],m,h=>h
 |x::l,m,h=>z40 (l:=l) (zqr h)
theorem z4r{k i:Int}:∀{l:List Ent} {m:y41},y28 (k,i) (y1n l m)=y28 (k,i) m+y1c k i l
 |[],m=>by simp[y1n,y1c]
 |x::l,m=>by rw[z6t,z4r,zn5];simp only[y1c,y5l,Prod.mk.injEq];omega
theorem z65:∀{l:List Ent} {m:y41},(y1n l m).length<=m.length+l.length
 |[],m=>by simp[y1n]
 |x::l,m=>by rw[z6t];have h1:=z65 (l:=l) (m:=yer (y5l x) x.amt m);have h2:(yer (y5l x) x.amt m).length<=m.length+1:=ydl;simp only[aq];omega
theorem zfg{k i:Int}:∀{l:List Ent} {B:Int},(∀ x,x ∈ l -> -B<=x.amt/\x.amt<=B)->0<=B -> -(B*l.length)<=y1c k i l/\y1c k i l<=B*l.length
 |[],B,_,_=>by simp[y1c]
 |x::l,B,h,h0=>by
  have ih:=zfg (k:=k) (i:=i) (l:=l) (fun y hy=>h y (by simp[hy])) h0
  have hx:=h x (by simp)
  have e:B*((x::l).length:Nat)=B*l.length+B:=by rw[aq];push_cast;rw[Int.mul_add];omega
  rw[e];simp only[y1c];split <;> omega
def y6u(l:List Ent):List Ent:=yau (y1n l [])
theorem zkp{l:List Ent}:y5f (y6u l):=zss (z40 (by simp[y2i]))
theorem yh1{l:List Ent}:∀ e,e ∈ y6u l->e.amt ≠ 0:=fun e h=>(zf3 h).1
theorem zaz{l:List Ent}{k i:Int}:y1c k i (y6u l)=y1c k i l:=by
 unfold y6u;rw[zy5 (z40 (by simp[y2i])),z4r]
 simp[y28,y3s]
theorem zko{l r:List Ent}(h:y5f r)(hn:∀ e,e ∈ r->e.amt ≠ 0)(ha:∀ k i,y1c k i r=y1c k i l):y6u l=r:=
 zsr zkp h yh1 hn fun k i=>by rw[zaz,ha]
theorem zqu{l:List Ent}:y6u l=[] ↔ ∀ k i,y1c k i l=0:=by
 constructor
 ·intro h k i;rw[<- zaz,h];rfl
 ·intro h;exact zko (by simp[y5f]) (by simp) fun k i=>by rw[h];rfl
theorem zqv{l:List Ent}:(y6u l).length<=l.length:=by have h1:=(z86 (m:=y1n l []) (l:=y1t (y2i (y1n l [])))).length_le;have h2:=z65 (l:=l) (m:=[]);rw[z31]at h1;simp only[y2i,aD,aV]at h1 h2;unfold y6u yau;simp only[y2i];omega
theorem yh2{l:List Ent}{B:Int}(hB:∀ x,x ∈ l -> -B<=x.amt/\x.amt<=B)(h0:0<=B){x:Ent}(h:x ∈ y6u l) : -(B*l.length)<=x.amt/\x.amt<=B*l.length:=by
 have h1:=(zf3 h).2;have h2:=z4r (k:=x.kind) (i:=x.idx) (l:=l) (m:=[]);have h3:=zfg (k:=x.kind) (i:=x.idx) hB h0;rw[h1];show -(B*l.length)<=y28 (x.kind,x.idx) _/\y28 (x.kind,x.idx) _<=_
 rw[h2];simp only[y28,y3s,Option.getD_none,Int.zero_add];exact h3
theorem zk6{a:Key}{n:Int}:∀{m:y41},((y7y a n m).map fun e=>e.2).sum=(m.map fun e=>e.2).sum+n - y28 a m
 |[]=>by simp[y7y,y28,y3s]
 |e::r=>by
  have ih:=zk6 (a:=a) (n:=n) (m:=r);unfold y7y y28 y3s
  by_cases h:a=e.1
  ·rw[if_pos h,if_pos h];simp;omega
  ·rw[if_neg h,if_neg h];simp only[av,kI];rw[ih];unfold y28;omega
theorem zpl:∀{l:List Ent} {m:y41},((y1n l m).map fun e=>e.2).sum=(m.map fun e=>e.2).sum+y3x l
 |[],m=>by simp[y1n,y3x]
 |x::l,m=>by rw[z6t,zpl];unfold yer;rw[zk6];simp only[y3x];omega
theorem zr6{e:Key × Int}{r:y41}:y3s e.1 (e::r)=some e.2:=by unfold y3s;rw[if_pos rfl]
theorem yan:∀{m:y41},(y2i m).Nodup->((y2i m).map fun a=>y28 a m).sum=(m.map fun e=>e.2).sum
 |[],_=>rfl
 |e::r,h=>by
  simp only[y2i,av]at h;obtain⟨h1,h2⟩:=dO.1 h;have ih:=yan (m:=r) h2;simp only[y2i,av,kI];have e1:y28 e.1 (e::r)=e.2:=by unfold y28;rw[zr6];rfl
  have e2:(r.map fun e=>e.1).map (fun a=>y28 a (e::r))=(r.map fun e=>e.1).map fun a=>y28 a r:=by
   refine fE fun a ha=>?_
   have:a ≠ e.1:=fun h=>h1 (h ▸ ha)
   have h3:y3s a (e::r)=y3s a r:=by
    conv=>lhs;unfold y3s
    rw[if_neg this]
   unfold y28;rw[h3]
  rw[e1,e2];simp only[y2i]at ih;rw[ih]
theorem zk2{m:y41}:∀{l:List Key},y3x (y65 m l)=(l.map fun a=>y28 a m).sum
 |[]=>rfl
 |a::r=>by
  have ih:=zk2 (m:=m) (l:=r);unfold y65;split
  ·rename_i h;rw[ih];simp[h]
  ·simp only[y3x,av,kI,ih]
theorem zv5{a b:List Int}(h:a.Perm b):a.sum=b.sum:=by
 induction h with
 |nil=>rfl
 |cons x _ ih=>simp[ih]
 |swap x y l=>simp;omega
 |trans _ _ h1 h2=>exact h1.trans h2
theorem ydd{l:List Ent}:y3x (y6u l)=y3x l:=by
 unfold y6u yau;rw[zk2,zv5 ((z3i _).map _),yan (z40 (by simp[y2i])),zpl]
 simp
end Dv
namespace Dv
attribute [local simp] ah depth y22 y4y ya y16 y4t ye y2q y2f Ret
attribute [local congr] z1j z1k z19 z12 zw z1a zu
theorem zp3{n:Nat}(h:n<18446744073709551616):bI.wrap (n:Int)=n:=by simp[gt,gu,fS];omega
theorem zhs{n:Nat}:gY.wrap (n:Int)=((n % 256:Nat):Int):=by simp[gt,gu,fS]
theorem yl4{n:Nat}(h:n<256):ybw .u8 (n:Int) 128=((n % 128+128:Nat):Int):=by
 have key:∀ m:Fin 256,ybw .u8 ((m.val:Nat):Int) 128=((m.val % 128+128:Nat):Int):=by decide +kernel
 exact key ⟨n,h⟩
theorem z4a:bI.bits=64:=rfl
theorem shr7{n:Nat}:((n:Int).fdiv 128)=((n / 128:Nat):Int):=by rw[ee _ (by omega)];omega
theorem mk8{n:Nat}(h:n<256):(D.int .u8 (n:Int))=yd (cv n):=by unfold yd;rw[zif h]
theorem zkl{u:Nat}(h:u<18446744073709551616):(num u).length<=11:=by
 have key:∀(k u:Nat),u<2 ^ (7*k)->(num u).length<=k+1:=by
  intro k
  induction k with
  |zero=>intro u h;rw[zd1 (by omega)];simp
  |succ k ih=>
   intro u h
   by_cases h1:u<128
   ·rw[zd1 h1];simp
   ·rw[zkm h1];have:=ih (u / 128) (by
     rw[kf (by decide),show(128:Nat)=2 ^ 7 from rfl,<- pS]
     rwa [show 7*k+7=7*(k+1)from by omega])
    simp;omega
 have:(18446744073709551616:Nat)<=2 ^ (7*10):=by decide
 exact key 10 u (by omega)
theorem z8s{l:List UInt8}:y2j 1 (l.map yd)=true:=by
 unfold y2j;rw[ay];intro x hx;obtain⟨r,_,rfl⟩:=aK.1 hx
 rfl
theorem z23{l:List UInt8}{new:List D}(h:l.length+new.length<=1000000000000):y2o E 13 (l.map yd) new:=by
 refine⟨?_,?_,?_,z8s⟩ <;> simp[yg]
 omega
theorem s312{C:Nat}:∀(u:Nat) {hp:List Obj} {sp:yt} (l:List UInt8),u<18446744073709551616->l.length<=900000000000->y45 C hp sp l.length 1->C<=hp.length ->
  ∃ d hp',y1g E (dL E) 312 [.imm sp (l.map yd),.int .u64 u] hp=some (d,hp') /\ ∃ k,d=.imm (.tok k) ((l++num u).map yd)/\C<=k/\At hp' k (.tok (l++num u).length 1)/\y2n C C hp hp'/\hp.length<=hp'.length:=by
 intro u hp sp l hu hl R hC;refine z1i c312 (args:=[.imm sp (l.map yd),.int .u64 u]) (hp:=hp) (R:=fun d hp'=>∃ k,d=.imm (.tok k) ((l++num u).map yd)/\C<=k/\At hp' k (.tok (l++num u).length 1)/\y2n C C hp hp'/\hp.length<=hp'.length) (by simp) ?_
 conv in t312=>reduce;dsimp[ai]
 simp[t312,n312];have hlen:=zkl hu;refine⟨fun k env h=>∃(x3 x4 x5:D) (sp':yt) (l':List UInt8),env=[.imm sp' (l'.map yd),.int .u64 (k:Nat),.imm .exact [],x3,x4,x5]/\k<18446744073709551616/\l'++num k=l++num u/\y45 C h sp' l'.length 1/\y2n C C hp h/\hp.length<=h.length,u,⟨_,_,_,sp,l,rfl,hu,rfl,R,y2n.refl,aj _⟩,?_⟩
 rintro k env h ⟨x3,x4,x5,sp',l',rfl,hk,he,R',K',hh⟩;have htot:l'.length+(num k).length<=900000000000+11:=by have:=congrArg cM he;simp only[ar]at this;omega
 have hpos:=zik (u:=k)
 by_cases h128:128<=k
 ·have hn : ¬ k<128:=by omega
  have hI:(128:Int)<=(k:Int):=by omega
  have hap:∀ x:D,y2o E 13 (l'.map yd) [x]:=fun x=>z23 (by simp;omega)
  have e1:D.int .u8 (ybw .u8 ((k:Int) % 256) 128)=yd (cv (k % 128+128)):=by
   have h1:=yl4 (n:=k % 256) (by omega)
   rw[show k % 256 % 128+128=k % 128+128 from by omega,show((k % 256:Nat):Int)=(k:Int) % 256 from by omega]at h1
   rw[h1,mk8 (n:=k % 128+128) (by omega)]
  have e2:(k:Int).fdiv 128=((k / 128:Nat):Int):=shr7;rw[zkm hn]at he;obtain⟨c,hc⟩:∃ c,c=cv (k % 128+128):=⟨_,rfl⟩;rw[<- hc]at e1 he;have he':(l'++[c])++num (k / 128)=l++num u:=by simpa using he
  rcases R' with rfl | ⟨q,rfl,hq,hq2⟩
  ·simp[hI,y40,zo,zz,hap,zhs,e1,z4a,e2];exact⟨k / 128,by omega,_,_,_,_,l'++[c],⟨⟨rfl,by simp⟩,by omega,rfl,rfl,rfl⟩,by omega,he',.inr ⟨h.length,rfl,by omega,by simp[At]⟩,K'.trans y2n.app,by omega⟩
  ·simp[hI,y40,zo,z14,hap,zhs,e1,hq2.eq,z4a,e2];exact⟨k / 128,by omega,_,_,_,_,l'++[c],⟨⟨rfl,by simp⟩,by omega,rfl,rfl,rfl⟩,by omega,he',.inr ⟨h.length,rfl,by omega,by simp[At]⟩,(K'.trans (y2n.set (.inr hq))).trans y2n.app,by omega⟩
 ·have hI : ¬ (128:Int)<=(k:Int):=by omega
  have e0:=zhs (n:=k);rw[show k % 256=k from by omega]at e0
  have e3:=mk8 (n:=k) (by omega)
  have hap:∀ x:D,y2o E 13 (l'.map yd) [x]:=fun x=>z23 (by simp;omega)
  rw[zd1 (by omega)]at he
  obtain⟨c,hc⟩:∃ c,c=cv k:=⟨_,rfl⟩;rw[<- hc]at e3 he;have hm:l'.map yd++[yd c]=l.map yd++(num u).map yd:=by have:=congrArg (bO yd) he;simpa using this
  have hl2:l'.length+1=l.length+(num u).length:=by have:=congrArg cM he;simpa using this
  rcases R' with rfl | ⟨q,rfl,hq,hq2⟩
  ·simp[hI,y40,zo,zz,hap,e0,e3];exact⟨h.length,⟨rfl,hm⟩,by omega,by simp[At,hl2],K'.trans y2n.app,by omega⟩
  ·simp[hI,y40,zo,z14,hap,e0,e3,hq2.eq];exact⟨h.length,⟨rfl,hm⟩,by omega,by simp[At,hl2],(K'.trans (y2n.set (.inr hq))).trans y2n.app,by omega⟩
theorem zxe:aH.bits=64:=rfl
theorem z2k(m:Int):bI.wrap m=m % 18446744073709551616:=by simp[gt,gu,fS]
theorem zue{x:Nat}(h:x<18446744073709551616):y9t .u64 (x:Int) 0=x:=by
 unfold y9t;rw[z2k];have e:(cy bI.bits (x:Int) ^^^ cy bI.bits 0).toNat=x:=by
  rw[show bI.bits=64 from rfl]
  simp;omega
 rw[e];omega
theorem zuf{x:Nat}(h:x<18446744073709551616):y9t .u64 (x:Int) 18446744073709551615=((18446744073709551615 - x:Nat):Int):=by
 unfold y9t;rw[z2k];have e:(cy bI.bits (x:Int) ^^^ cy bI.bits 18446744073709551615).toNat=18446744073709551615 - x:=by
  rw[show bI.bits=64 from rfl]
  have:(cy 64 18446744073709551615)=BitVec.allOnes 64:=by decide
  rw[this,BitVec.xor_allOnes];simp;omega
 rw[e];omega
theorem zig{n:Int}(h:i64 n):y9t .u64 (bI.wrap (bI.wrap n*2)) (bI.wrap (n.fdiv 9223372036854775808))=(uns n:Nat):=by
 obtain⟨h1,h2⟩:=h;have hf:n.fdiv 9223372036854775808=n / 9223372036854775808:=ee _ (by omega)
 rw[hf,z2k,z2k,z2k];unfold uns
 by_cases h0:0<=n
 ·rw[if_pos h0,show n / 9223372036854775808 % 18446744073709551616=0 from by omega,show n % 18446744073709551616*2 % 18446744073709551616=((2*n.toNat:Nat):Int)from by omega]
  exact zue (by omega)
 ·rw[if_neg h0,show n / 9223372036854775808 % 18446744073709551616=18446744073709551615 from by omega,show n % 18446744073709551616*2 % 18446744073709551616=((18446744073709551616 - 2*(-n).toNat:Nat):Int)from by omega,zuf (by omega)]
  omega
theorem r311{n:Int}(h:i64 n):yu E (dL E) 311 [dI n]=some (.int .u64 (uns n:Nat)):=by
 refine zg c311 (by simp) ?_
 conv in t311=>reduce;dsimp[ai]
 have e:=zig h;simp[t311,n311,y40,z4a,zxe,e]
def y8w(C:Nat)(hp:List Obj)(l e:List UInt8)(d:D)(hp':List Obj):Prop:=
 ∃ k,d=.imm (.tok k) ((l++e).map yd)/\C<=k/\At hp' k (.tok (l++e).length 1)/\y2n C C hp hp'/\hp.length<=hp'.length
theorem zcf{C:Nat}{hp h2:List Obj}{l a e:List UInt8}{d:D}{hp':List Obj}(hk:y2n C C hp h2)(hl:hp.length<=h2.length)(w:y8w C h2 (l++a) e d hp'):y8w C hp l (a++e) d hp':=by obtain⟨k,w1,w2,w3,w4,w5⟩:=w;rw[bi]at w1 w3;exact⟨k,w1,w2,w3,hk.trans w4,aM hl w5⟩
theorem y8w.imm{C:Nat}{hp:List Obj}{l e:List UInt8}{d:D}{hp':List Obj}(w:y8w C hp l e d hp'):yy d=false:=by obtain⟨k,rfl,_⟩:=w;rfl
theorem ygr{C:Nat}(u:Nat){hp:List Obj}{sp:yt}(l:List UInt8)(hu:u<18446744073709551616)(hl:l.length<=900000000000)(R:y45 C hp sp l.length 1)(hC:C<=hp.length) :
  ∃ d hp',y1g E (dL E) 312 [.imm sp (l.map yd),.int .u64 u] hp=some (d,hp')/\yy d=false/\y8w C hp l (num u) d hp':=by
 obtain⟨d,hp',e,w⟩:=s312 u l hu hl R hC;have w:y8w C hp l (num u) d hp':=w;exact⟨d,hp',e,w.imm,w⟩
theorem z9p{C:Nat}{hp r:List Obj}{n k:Nat}(hC:C<=hp.length)(h:r[k]? = some (.tok n 1)):y45 C (hp++r) (.tok (hp.length+k)) n 1:=
 .inr ⟨hp.length+k,rfl,by omega,by rw[cJ];exact z1p.trans h⟩
theorem zef{C:Nat}{hp r:List Obj}{o:Obj}{n k q:Nat}(hC:C<=hp.length)(h:r[k]? = some (.tok n 1)):y45 C (hp.set q o++r) (.tok (hp.length+k)) n 1:=by
 have:=z9p (C:=C) (hp:=hp.set q o) (r:=r) (k:=k) (n:=n) (by simpa using hC) h
 simpa using this
theorem yf8{C:Nat}{hp:List Obj}{sp:yt}{l:List UInt8}{m k:Nat}(c:UInt8)(x:D)(hx:x=yd c)(hk:k<m)(R:y45 C hp sp l.length 1)(hC:C<=hp.length)(hl:l.length<=900000000000) :
  ∃ h2,y97 E (hp++ah m .dead) (hp.length+k) 30 30 (.imm sp (l.map yd)) (.imm .exact [x])=some (.imm (.tok (hp.length+k)) ((l++[c]).map yd),h2)/\y2n C C hp h2/\h2.length=hp.length+m/\y45 C h2 (.tok (hp.length+k)) (l++[c]).length 1:=by
 subst hx;have hap:∀ x:D,y2o E 13 (l.map yd) [x]:=fun x=>z23 (by simp;omega)
 have hr:(ah m Obj.dead).length=m:=by simp
 have hg:((ah m Obj.dead).set k (.tok (l.length+1) 1))[k]? = some (.tok (l.length+1) 1):=by simp[hk]
 rcases R with rfl | ⟨q,rfl,hq,hq2⟩
 ·refine⟨hp++(ah m Obj.dead).set k (.tok (l.length+1) 1),?_,y2n.app,by simp,?_⟩
  ·simp[zz,hap,hk,↓z42]
  ·have:=z9p (C:=C) hC hg;simpa using this
 ·have hlt:=hq2.lt;have hq3:(hp++ah m Obj.dead)[q]? = some (.tok (l.length*1) 1):=hq2.appE;rw[cJ]at hq3;refine⟨hp.set q .dead++(ah m Obj.dead).set k (.tok (l.length+1) 1),?_,(y2n.set (.inr hq)).trans y2n.app,by simp,?_⟩
  ·have e:((hp++ah m Obj.dead).set q .dead).set (hp.length+k) (.tok (l.length+1) 1)=hp.set q .dead++(ah m Obj.dead).set k (.tok (l.length+1) 1):=by rw[z1d hlt];have:=z42 (hp:=hp.set q Obj.dead) (r:=ah m Obj.dead) (k:=k) (x:=.tok (l.length+1) 1);rwa [bn]at this
   simp[z14,hap,hk,hq3];exact e
  ·have:=zef (C:=C) (o:=.dead) (q:=q) hC hg;simpa using this
theorem z9t{l:List UInt8}{c:UInt8}:(l++[c]).map yd=l.map yd++[.int .u8 c.toNat]:=by simp
theorem s298{C:Nat}{hp:List Obj}{sp:yt}(l:List UInt8)(n:Int)(hn:i64 n)(hl:l.length<=800000000000)(R:y45 C hp sp l.length 1)(hC:C<=hp.length) :
  ∃ d hp',y1g E (dL E) 298 [.imm sp (l.map yd),dV (.mk 1 n [] [])] hp=some (d,hp')/\y8w C hp l (enc (.mk 1 n [] [])) d hp':=by
 refine z1i c298 (args:=[.imm sp (l.map yd),dV (.mk 1 n [] [])]) (hp:=hp) (R:=y8w C hp l (enc (.mk 1 n [] []))) (by simp) ?_
 conv in t298=>reduce;dsimp[ai]
 have h311:=r311 hn;have hap:∀ x:D,y2o E 13 (l.map yd) [x]:=fun x=>z23 (by simp;omega)
 have he:enc (.mk 1 n [] [])=[1]++num (uns n):=by rw[enc,if_pos rfl];rfl
 rw[z3w,he];rcases R with rfl | ⟨q,rfl,hq,hq2⟩
 ·obtain⟨d,hp',e,hm,w⟩:=ygr (C:=C) (hp:=hp++[.dead,.dead,.tok (l.length+1) 1,.dead,.dead,.dead,.dead,.dead]) (sp:=.tok (hp.length+2)) (uns n) (l++[1]) (zpe hn) (by simp;omega) (by rw[ar];exact z9p hC rfl) (by simp;omega)
  have w':=zcf (hp:=hp) y2n.app (by simp) w
  rw[z9t]at e;simp at e;simp[t298,n298,zo,zz,hap,h311,e,hm];exact w'
 ·obtain⟨d,hp',e,hm,w⟩:=ygr (C:=C) (hp:=hp.set q .dead++[.dead,.dead,.tok (l.length+1) 1,.dead,.dead,.dead,.dead,.dead]) (sp:=.tok (hp.length+2)) (uns n) (l++[1]) (zpe hn) (by simp;omega) (by rw[ar];exact zef hC rfl) (by simp;omega)
  have w':=zcf (hp:=hp) ((y2n.set (.inr hq)).trans y2n.app) (by simp) w
  rw[z9t]at e;simp at e;have hq3:(hp++ah 8 Obj.dead)[q]? = some (.tok (l.length*1) 1):=hq2.appE;simp at hq3;have hlt:=hq2.lt;simp[t298,n298,zo,z14,hap,h311,e,hm,hq3,↓z1d hlt];exact w'
theorem s299{C:Nat}{hp:List Obj}{sp:yt}(l s:List UInt8)(hl:l.length+s.length<=800000000000)(R:y45 C hp sp l.length 1)(hC:C<=hp.length) :
  ∃ d hp',y1g E (dL E) 299 [.imm sp (l.map yd),dV (.mk 2 0 s [])] hp=some (d,hp')/\y8w C hp l (enc (.mk 2 0 s [])) d hp':=by
 refine z1i c299 (args:=[.imm sp (l.map yd),dV (.mk 2 0 s [])]) (hp:=hp) (R:=y8w C hp l (enc (.mk 2 0 s []))) (by simp) ?_
 conv in t299=>reduce;dsimp[ai]
 have hap:∀ x:D,y2o E 13 (l.map yd) [x]:=fun x=>z23 (by simp;omega)
 have he:enc (.mk 2 0 s [])=([2]++num s.length)++s:=by rw[enc,if_neg (by decide),if_pos rfl];rfl
 have hw:=zp3 (n:=s.length) (by omega)
 have hn:=zkl (u:=s.length) (by omega)
 rw[z3w,he];have fin:∀{d:D} {h2:List Obj},hp.length+12<=h2.length->y8w C hp l ([2]++num s.length) d h2->∃ k,d=.imm (.tok k) ((l++([2]++num s.length)).map yd)/\h2[k]? = some (.tok (l++([2]++num s.length)).length 1)/\y2o E 13 ((l++([2]++num s.length)).map yd) (s.map yd) /\
   y8w C hp l (([2]++num s.length)++s) (.imm (.tok (hp.length+10)) ((l++([2]++num s.length)).map yd++s.map yd)) ((h2.set k .dead).set (hp.length+10) (.tok ((l++([2]++num s.length)).length+s.length) 1)):=by
  rintro d h2 hh ⟨k,rfl,w2,w3,w4,w5⟩;refine⟨k,rfl,w3,z23 (by simp at hn ⊢;omega),hp.length+10,by simp,by omega,?_,(w4.trans (y2n.set (.inr w2))).trans (y2n.set (.inr (by omega))),by simp;omega⟩
  have:(l++(([2]++num s.length)++s)).length=(l++([2]++num s.length)).length+s.length:=by simp;omega
  rw[this];exact At.self (by simp;omega)
 rcases R with rfl | ⟨q,rfl,hq,hq2⟩
 ·obtain⟨d,hp',e,hm,w⟩:=ygr (C:=C) (hp:=hp++[.dead,.dead,.tok (l.length+1) 1,.dead,.dead,.dead,.dead,.dead,.dead,.dead,.dead,.dead]) (sp:=.tok (hp.length+2)) s.length (l++[2]) (by omega) (by simp;omega) (by rw[ar];exact z9p hC rfl) (by simp;omega)
  have hlen:hp.length+12<=hp'.length:=by have:=w.choose_spec.2.2.2.2;simpa using this
  have w':=zcf (hp:=hp) y2n.app (by simp) w
  obtain⟨k,rfl,f1,f2,f3⟩:=fin hlen w';rw[z9t]at e;simp at e f1 f2 f3;have h10:hp.length+10<hp'.length:=by omega
  simp[t299,n299,zo,zz,z14,hap,hw,y40,e,f1,f2,h10];simpa using f3
 ·obtain⟨d,hp',e,hm,w⟩:=ygr (C:=C) (hp:=hp.set q .dead++[.dead,.dead,.tok (l.length+1) 1,.dead,.dead,.dead,.dead,.dead,.dead,.dead,.dead,.dead]) (sp:=.tok (hp.length+2)) s.length (l++[2]) (by omega) (by simp;omega) (by rw[ar];exact zef hC rfl) (by simp;omega)
  have hlen:hp.length+12<=hp'.length:=by have:=w.choose_spec.2.2.2.2;simpa using this
  have w':=zcf (hp:=hp) ((y2n.set (.inr hq)).trans y2n.app) (by simp) w
  obtain⟨k,rfl,f1,f2,f3⟩:=fin hlen w';rw[z9t]at e;have hq3:(hp++ah 12 Obj.dead)[q]? = some (.tok (l.length*1) 1):=hq2.appE;simp at e f1 f2 f3 hq3;have hlt:=hq2.lt;have h10:hp.length+10<hp'.length:=by omega
  simp[t299,n299,zo,z14,hap,hw,y40,e,f1,f2,h10,hq3,↓z1d hlt];simpa using f3
structure Wrs(hp:List Obj)(A B:Nat):Prop where
 a:At hp A (.cells [.nilfn,.fn 298 [],.fn 299 [],.fn 300 [.loc B 0]])
 b:At hp B (.cells [.loc A 0])
theorem Wrs.keep{C:Nat}{hp hp':List Obj}{A B:Nat}(w:Wrs hp A B)(hA:A<C)(hB:B<C)(k:y2n C C hp hp'):Wrs hp' A B:=⟨k.at (by omega) hA w.a,k.at (by omega) hB w.b⟩
def wrF(k:Int):Nat:=if k=1 then 298 else if k=2 then 299 else 300
def wrC(k:Int)(B:Nat):List D:=if k=1 then[]else if k=2 then[]else[.loc B 0]
def y9o(v:CV)(k:Int):Prop:=∀{C A B:Nat} {hp:List Obj} {sp:yt} (l:List UInt8),Wrs hp A B->A<C->B<C->l.length+(enc v).length<=800000000000->y45 C hp sp l.length 1->C<=hp.length ->
 ∃ d hp',y1g E (dL E) (wrF k) (.imm sp (l.map yd)::dV v::wrC k B) hp=some (d,hp')/\y8w C hp l (enc v) d hp'
theorem s300(vs:List CV)(ih:∀ k n s l,CV.mk k n s l ∈ vs->(k=1\/k=2\/k=3)/\y9o (.mk k n s l) k):y9o (.mk 3 0 [] vs) 3:=by
 intro C A B hp sp l W hA hB hl R hC;have he:enc (.mk 3 0 [] vs)=([3]++num vs.length)++y4w vs:=by rw[enc,if_neg (by decide),if_neg (by decide)];rfl
 rw[he]at hl ⊢;have hvl:vs.length<=800000000000:=by have:=zf5 vs;simp at hl;omega
 show ∃ d hp',y1g E (dL E) 300 [.imm sp (l.map yd),dV (.mk 3 0 [] vs),.loc B 0] hp=some (d,hp')/\y8w C hp l (([3]++num vs.length)++y4w vs) d hp'
 refine z1i c300 (args:=[.imm sp (l.map yd),dV (.mk 3 0 [] vs),.loc B 0]) (hp:=hp) (R:=y8w C hp l (([3]++num vs.length)++y4w vs)) (by simp) ?_
 conv in t300=>reduce;dsimp[ai]
 have hap:∀ x:D,y2o E 13 (l.map yd) [x]:=fun x=>z23 (by simp at hl ⊢;omega)
 have hw:=zp3 (n:=vs.length) (by omega)
 rw[z3w];obtain⟨h2,e1,k1,l1,R1⟩:=yf8 (l:=l) (m:=9) (k:=2) 3 (.int .u8 3) rfl (by omega) R hC (by simp at hl;omega)
 obtain⟨d,h3,e2,hm,w⟩:=ygr (C:=C) (hp:=h2) vs.length (l++[3]) (by omega) (by simp at hl ⊢;omega) R1 (by omega)
 have w':=zcf (hp:=hp) k1 (by omega) w
 simp at e1 e2;simp[t300,n300,zo,hw,y40,e1,e2,hm];refine zl vs.length (fun i env h=>∃(x5 x6 x7 x11 x12 x13:D) (dd:D),env=[dd,.agg [dI 3,dI 0,.str [],.imm .none (vs.map dV)],.loc B 0,.iptr [dI 3,dI 0,.str [],.imm .none (vs.map dV)],.imm .exact [],x5,x6,x7,.imm .none (vs.map dV),dI vs.length,dI i,x11,x12,x13]/\y8w C hp l (([3]++num vs.length)++y4w (vs.take i)) dd h) 0 (by omega) ?_ ?_
 ·exact⟨_,_,_,_,_,_,d,rfl,by simpa[y4w]using w'⟩
 rintro i env h hi ⟨x5,x6,x7,x11,x12,x13,dd,rfl,wi⟩
 by_cases hlt:i<vs.length
 ·obtain⟨tk,rfl,w2,w3,w4,w5⟩:=wi;obtain⟨k,n,s,l',hv⟩:∃ k n s l',vs[i]=CV.mk k n s l':=by
   cases h:vs[i]with
   |mk k n s l'=>exact⟨k,n,s,l',rfl⟩
  have WA:=W.keep hA hB w4;obtain⟨hk,hwr⟩:=ih k n s l' (by rw[<- hv];exact au hlt)
  have a1:=WA.a;have b1:=WA.b;have hsp:y4w (vs.take (i+1))=y4w (vs.take i)++enc (.mk k n s l'):=by rw[List.take_add_one,ac hlt,hv,z73];simp[y4w]
  have htk:y4w vs=y4w (vs.take (i+1))++y4w (vs.drop (i+1)):=by rw[<- z73,List.take_append_drop]
  have hL:(l++([3]++num vs.length++y4w (vs.take i))).length+(enc (.mk k n s l')).length<=800000000000:=by rw[htk,hsp]at hl;simp only[ar]at hl ⊢;omega
  obtain⟨d',h5,e,w⟩:=hwr (C:=C) (A:=A) (B:=B) (sp:=.tok tk) (hp:=h++[.cells [dI k,dI n,.str s,.imm .none (l'.map dV)],.dead,.dead,.dead,.dead,.dead,.dead,.dead,.dead,.dead,.dead,.dead]) (l++([3]++num vs.length++y4w (vs.take i))) (WA.keep hA hB y2n.app) hA hB hL (.inr ⟨tk,rfl,w2,by rw[cJ];exact w3.app⟩) (by simp;omega)
  have hm':=w.imm;have w':=zcf (hp:=hp) (l:=l) (a:=[3]++num vs.length++y4w (vs.take i)) (w4.trans y2n.app) (by simp;omega) w
  have hf:([3]++num vs.length++y4w (vs.take i))++enc (.mk k n s l')=3::(num vs.length++y4w (vs.take (i+1))):=by rw[hsp];simp
  rw[hf]at w';have hup:=ze hlt (by omega)
  rw[z3w]at e;rcases hk with rfl | rfl | rfl
  ·simp[wrF,wrC]at e;simp[hlt,hv,z3w,a1.appE,b1.appE,e,hm',hup];exact⟨_,_,_,_,_,_,_,⟨rfl,rfl,rfl,rfl,rfl,rfl,rfl⟩,w'⟩
  ·simp[wrF,wrC]at e;simp[hlt,hv,z3w,a1.appE,b1.appE,e,hm',hup];exact⟨_,_,_,_,_,_,_,⟨rfl,rfl,rfl,rfl,rfl,rfl,rfl⟩,w'⟩
  ·simp[wrF,wrC]at e;simp[hlt,hv,z3w,a1.appE,b1.appE,e,hm',hup];exact⟨_,_,_,_,_,_,_,⟨rfl,rfl,rfl,rfl,rfl,rfl,rfl⟩,w'⟩
 ·have:i=vs.length:=by omega
  subst this;rw[bg]at wi;simp;simpa using wi
theorem zbk:∀{l:List CV},yby l->∀ v ∈ l,fmd v
 |[],_,v,h=>by simp at h
 |w::l,hf,v,h=>by
  rw[yby]at hf;rcases aA.1 h with rfl | h
  ·exact hf.1
  ·exact zbk hf.2 v h
theorem yho{k n:Int}{s:List UInt8}{l:List CV}(h:fmd (.mk k n s l)):k=1\/k=2\/k=3:=by rw[fmd]at h;rcases h with⟨h,_⟩ | ⟨h,_⟩ | ⟨h,_⟩ <;> simp[h]
theorem ybr:∀(m:Nat) (v:CV),sizeOf v<=m->fmd v->∀ k n s l,v=.mk k n s l->y9o v k:=by
 intro m
 induction m with
 |zero=>intro v hm;cases v;simp at hm
 |succ m ih=>
  intro v hm hf k n s l hv;subst hv;have hf':=hf;rw[fmd]at hf';rcases hf' with⟨rfl,hn,rfl,rfl⟩ | ⟨rfl,rfl,rfl⟩ | ⟨rfl,rfl,rfl,hl⟩
  ·intro C A B hp sp l W hA hB hl R hC;exact s298 l n hn (by omega) R hC
  ·intro C A B hp sp l' W hA hB hl R hC;have he:enc (.mk 2 0 s [])=2::(num s.length++s):=by rw[enc,if_neg (by decide),if_pos rfl]
   rw[he]at hl;exact s299 l' s (by simp at hl;omega) R hC
  ·have q:∀ k' n' s' l',CV.mk k' n' s' l' ∈ l->(k'=1\/k'=2\/k'=3)/\y9o (.mk k' n' s' l') k':=fun k' n' s' l' hmem=>⟨yho (zbk hl _ hmem),by
    have h1:=kg hmem;have h2:sizeOf (CV.mk k' n' s' l')<=m:=by rw[CV.mk.sizeOf_spec]at hm;omega
    intro C A B hp sp;exact ih _ h2 (zbk hl _ hmem) k' n' s' l' rfl⟩
   intro C A B hp sp;exact s300 l q
theorem zje:∀{l:List CV} {v:CV},v ∈ l->dep v<=y7t l
 |[],v,h=>by simp at h
 |w::l,v,h=>by
  rw[y7t];rcases aA.1 h with rfl | h
  ·exact Nat.le_max_left _ _
  ·exact aM (zje h) (Nat.le_max_right _ _)
theorem zyu{hp:List Obj}:∀(m:Nat) (v:CV),fmd v->dep v<=m->∀ n,2*m+2<=n->frz hp n (dV v)=some (dV v):=by
 intro m
 induction m with
 |zero=>
  intro v hf hd n hn;obtain⟨n,rfl⟩:∃ j,n=j+2:=⟨n - 2,by omega⟩
  obtain⟨k,x,s,l⟩:=v;rw[fmd]at hf;rw[dep]at hd;rcases hf with⟨rfl,_,rfl,rfl⟩ | ⟨rfl,rfl,rfl⟩ | ⟨rfl,_⟩
  ·rw[z3w];rfl
  ·rw[z3w];rfl
  ·simp at hd
 |succ m ih=>
  intro v hf hd n hn;obtain⟨n,rfl⟩:∃ j,n=j+3:=⟨n - 3,by omega⟩
  obtain⟨k,x,s,l⟩:=v;rw[fmd]at hf;rw[dep]at hd;rcases hf with⟨rfl,_,rfl,rfl⟩ | ⟨rfl,rfl,rfl⟩ | ⟨rfl,rfl,rfl,hl⟩
  ·rw[z3w];rfl
  ·rw[z3w];rfl
  ·rw[if_pos rfl]at hd;have e:y1h (frz hp (n+1)) (l.map dV)=some (l.map dV):=z1e fun v hv=>ih v (zbk hl v hv) (by have:=zje hv;omega) (n+1) (by omega)
   rw[z3w];have hs:frz hp (n+2) (.str [])=some (.str []):=rfl;simp only[z59,z1l,z4c,hs,z3v,e,al,zc,z3f]
theorem zt1{l:List CV}{i:Nat}(h:i<l.length):y7t (l.take (i+1))=Nat.max (y7t (l.take i)) (dep l[i]):=by
 induction l generalizing i with
 |nil=>simp at h
 |cons v l ih=>
  cases i with
  |zero=>simp[y7t]
  |succ i=>
   simp only[aq]at h;simp only[fF,y7t,dZ];rw[ih (by omega)]
   exact(Nat.max_assoc _ _ _).symm
theorem zlm:∀{l:List CV} {v:CV},v ∈ l->(enc v).length<=(y4w l).length
 |[],v,h=>by simp at h
 |w::l,v,h=>by
  rw[y4w,ar];rcases aA.1 h with rfl | h
  ·omega
  ·have:=zlm h;omega
structure y77(v:CV):Prop where
 f:fmd v
 d:dep v<=4
 n:(enc v).length<=800000000000
theorem y77.len{k n:Int}{s:List UInt8}{l:List CV}(h:y77 (.mk k n s l)):s.length<=800000000000/\l.length<=800000000000:=by
 have hf:=h.f;have hn:=h.n;rw[fmd]at hf;rcases hf with⟨rfl,_,rfl,rfl⟩ | ⟨rfl,rfl,rfl⟩ | ⟨rfl,rfl,rfl,hl⟩
 ·simp
 ·rw[enc,if_neg (by decide),if_pos rfl]at hn
  simp at hn ⊢;omega
 ·rw[enc,if_neg (by decide),if_neg (by decide)]at hn
  have:=zf5 l;simp at hn ⊢;omega
theorem y77.sub{n:Int}{s:List UInt8}{l:List CV}(h:y77 (.mk 3 n s l)){v:CV}(hv:v ∈ l):y77 v:=by
 have hf:=h.f;have hn:=h.n;have hd:=h.d;rw[fmd]at hf;rw[dep,if_pos rfl]at hd;rcases hf with⟨h3,_⟩ | ⟨h3,_⟩ | ⟨_,rfl,rfl,hl⟩
 ·omega
 ·omega
 ·rw[enc,if_neg (by decide),if_neg (by decide)]at hn
  have:=zlm hv;have:=zje hv;exact⟨zbk hl v hv,by omega,by simp at hn;omega⟩
theorem zez{hp:List Obj}{v:CV}(h:y77 v):frz hp 12 (dV v)=some (dV v):=zyu 4 v h.f h.d 12 (by decide)
theorem r297:∀(m:Nat) (v:CV),sizeOf v<=m->y77 v->yu E (dL E) 297 [dV v]=some (.tup [dI (dep v),.bool true]):=by
 intro m
 induction m with
 |zero=>intro v hm;cases v;simp at hm
 |succ m ih=>
  intro v hm hf;obtain⟨k,n,s,l⟩:=v;have hf':=hf.f;have hz:=zez (hp:=[]) hf;refine zg c297 (by simp) ?_
  conv in t297=>reduce;dsimp[ai]
  rw[fmd]at hf';rw[z3w];rcases hf' with⟨rfl,hn,rfl,rfl⟩ | ⟨rfl,rfl,rfl⟩ | ⟨rfl,rfl,rfl,hl⟩
  ·by_cases h0:n=0 <;> simp[t297,n297,h0,dep]
  ·by_cases h0:s=[] <;> simp[t297,n297,h0,dep]
  ·have hd:y7t l<=3:=by have:=hf.d;rw[dep,if_pos rfl]at this;omega
   have hln:=hf.len.2;have hdw:aH.wrap ((y7t l:Int)+1)=(y7t l:Int)+1:=za ⟨by omega,by omega⟩
   by_cases hb:((l.length:Int) == 0)=true
   all_goals
    simp[t297,n297,dep,hb];refine zl l.length (fun i env h=>∃(x0 x1 x3 x4 x5 x6 x7 x8 x9 x10 x14 x15 x16 x17:D) ,env=[x0,x1,dI (y7t (l.take i)),x3,x4,x5,x6,x7,x8,x9,x10,.imm .none (l.map dV),dI l.length,dI i,x14,x15,x16,x17]) 0 (by omega) ?_ ?_
    ·exact⟨_,_,_,_,_,_,_,_,_,_,_,_,_,_,rfl⟩
    rintro i env h hi ⟨x0,x1,x3,x4,x5,x6,x7,x8,x9,x10,x14,x15,x16,x17,rfl⟩
    by_cases hlt:i<l.length
    ·have hv:=hf.sub (au hlt);have e:=ih l[i] (by have:=kg (au hlt);rw[CV.mk.sizeOf_spec]at hm;omega) hv
     have hz':=zez (hp:=[]) hv;have hup:=ze hlt (by omega)
     obtain⟨k,n,s,l',hq⟩:∃ k n s l',l[i]=CV.mk k n s l':=by
      cases h:l[i]with
      |mk k n s l'=>exact⟨k,n,s,l',rfl⟩
     have hdt:=zt1 hlt;rw[hq]at e hz' hdt;rw[z3w]at e hz';simp[hlt,hq,z3w,e,hz',hup];rw[hdt];simp only[Nat.max_def];split <;> split <;> omega
    ·have:i=l.length:=by omega
     subst this;simp[hdw]
theorem z4u{E:Env}{cP:Nat->List D->Option D}{cS cY:Nat->List D->List Obj->Option (D × List Obj)}{hp:List Obj}{id:Nat}{g:Opd->D}{f:Opd}:yf E cP cS cY id g hp (.call 4 f [])=(match g f with | .fn k caps=>ob (y1h (frz [] depth) caps) (fun vs=>y75 cS k vs hp) | _=>none):=by
 simp only[yf,DOp.fin,yo];cases g f <;> try rfl
 rename_i k caps;simp only[];cases y1h (frz [] depth) caps <;> rfl
theorem s282(hp:List Obj):y1g E (dL E) 282 [] hp=some (.loc hp.length 0,hp++[.cells [.nilfn,.fn 298 [],.fn 299 [],.fn 300 [.loc (hp.length+1) 0]],.cells [.loc hp.length 0]]):=by
 have:∃ d hp',y1g E (dL E) 282 [] hp=some (d,hp')/\(d=.loc hp.length 0/\hp'=hp++[.cells [.nilfn,.fn 298 [],.fn 299 [],.fn 300 [.loc (hp.length+1) 0]],.cells [.loc hp.length 0]]):=by
  refine z1i c282 (args:=[]) (hp:=hp) (R:=fun d hp'=>d=.loc hp.length 0/\hp'=hp++[.cells [.nilfn,.fn 298 [],.fn 299 [],.fn 300 [.loc (hp.length+1) 0]],.cells [.loc hp.length 0]]) (by simp) ?_
  conv in t282=>reduce;dsimp[ai]
  simp[t282,n282]
 obtain⟨d,hp',e,rfl,rfl⟩:=this;exact e
theorem r281{v:CV}(h:y77 v):yu E (dL E) 281 [dV v]=some (dI 0):=by
 have e:=r297 (sizeOf v) v (aj _) h;have hz:=zez (hp:=[]) h;obtain⟨k,n,s,l⟩:=v;refine zg c281 (by simp) ?_
 conv in t281=>reduce;dsimp[ai]
 have hd:=h.d;rw[z3w]at e hz ⊢;simp[t281,n281,e,hz];omega
theorem r264{v:CV}(h:y77 v):yu E (dL E) 264 [dV v]=some (.tup [dBy (enc v),dI 0]):=by
 have e:=r281 h;have hz:=zez (hp:=[]) h;have e2:=s282 (ah 11 .dead);have hf:=h.f;have hn:=h.n;obtain⟨k,n,s,l⟩:=v;have hk:=yho hf;obtain⟨d,h5,e5,w⟩:=ybr (sizeOf (CV.mk k n s l)) (.mk k n s l) (aj _) hf k n s l rfl (C:=13) (A:=11) (B:=12) (sp:=.exact) (hp:=ah 11 .dead++[.cells [.nilfn,.fn 298 [],.fn 299 [],.fn 300 [.loc 12 0]],.cells [.loc 11 0]]) []
  ⟨by simp[At],by simp[At]⟩ (by omega) (by omega) (by simpa using hn) (.inl rfl) (by simp)
 have hm:=w.imm;obtain⟨tk,rfl,w2,w3,w4,w5⟩:=w;rw[bo]at w3 hm e5;have hfz:∀ l:List UInt8,y1h (frz h5 10) (l.map yd)=some (l.map yd):=fun l=>z1e fun x _=>rfl
 refine zg c264 (by simp) ?_
 conv in t264=>reduce;dsimp[ai]
 rw[z3w]at e hz e5 ⊢;simp at e2;rcases hk with rfl | rfl | rfl
 ·simp[wrF,wrC]at e5;simp[t264,n264,e,hz,z4u,y75,e2,e5,hfz,y18]
 ·simp[wrF,wrC]at e5;simp[t264,n264,e,hz,z4u,y75,e2,e5,hfz,y18]
 ·simp[wrF,wrC]at e5;simp[t264,n264,e,hz,z4u,y75,e2,e5,hfz,y18]
abbrev xI(n:Int):D:=.agg [dI 1,dI n,.str [],.imm .exact []]
theorem zx2{n:Int}:dV (cI n)=.agg [dI 1,dI n,.str [],.imm .none []]:=by unfold cI;rw[z3w];rfl
theorem yhi{hp:List Obj}{k:Nat}{n:Int}:frz hp (k+2) (xI n)=some (dV (cI n)):=by rw[zx2];rfl
def is4(x:D):Prop:=x.storable=true/\x.cellsL.length=4
theorem zc5{l new:List D}(h:l.length+new.length<=1000000)(hl:∀ x,x ∈ l->is4 x):y2o E 55 l new:=by
 refine⟨?_,?_,?_,?_⟩
 all_goals simp[yg]
 ·omega
 ·unfold y2j;rw[ay];intro x hx;obtain⟨h1,h2⟩:=hl x hx;simp[h1,h2]
def Lx(vs:List Int)(i:Nat):List D:=(vs.take i).map xI
theorem yfi{vs:List Int}:Lx vs 0=[]:=rfl
theorem yif{vs:List Int}:Lx vs vs.length=vs.map xI:=by unfold Lx;rw[bg]
theorem yie{vs:List Int}{i:Nat}(h:i<=vs.length):(Lx vs i).length=i:=by unfold Lx;rw[aD,aZ];omega
theorem Lx_s{vs:List Int}{i:Nat}(h:i<vs.length):Lx vs (i+1)=Lx vs i++[xI vs[i]]:=by unfold Lx;rw[aL h,bm];rfl
theorem zys{l:List Int}:∀ x,x ∈ l.map xI->is4 x:=by intro x hx;obtain⟨n,_,rfl⟩:=aK.1 hx;exact⟨rfl,rfl⟩
def LstI(hp:List Obj)(vs:List Int)(d:D)(hp':List Obj):Prop:=
 ∃ sp,d=.agg [dI 3,dI 0,.str [],.imm sp (vs.map xI)]/\y45 hp.length hp' sp vs.length 4/\y2n hp.length hp.length hp hp'/\hp.length<=hp'.length
theorem s366(vs:List Int)(sp0:yt)(hp:List Obj)(hv:vs.length<=100000):∃ d hp',y1g E (dL E) 366 [.imm sp0 (vs.map dI)] hp=some (d,hp')/\LstI hp vs d hp':=by
 refine z1i c366 (args:=[.imm sp0 (vs.map dI)]) (hp:=hp) (R:=LstI hp vs) (by simp) ?_
 conv in t366=>reduce;dsimp[ai]
 simp[t366,n366];refine zl vs.length (fun i env h=>∃(x3 x7 x8:D) (sp:yt),env=[.imm sp0 (vs.map dI),.loc hp.length 0,.loc (hp.length+1) 0,x3,.imm sp0 (vs.map dI),dI vs.length,dI i,x7,x8] /\
  At h hp.length (.cells [dI 0,dI 0,.str [],.imm .exact []])/\At h (hp.length+1) (.cells [dI 3,dI 0,.str [],.imm sp (Lx vs i)])/\y45 (hp.length+2) h sp i 4/\y2n hp.length hp.length hp h/\hp.length+2<=h.length) 0 (by omega) ?_ ?_
 ·rw[yfi];exact⟨_,_,_,.exact,rfl,by simp[At],by simp[At],.inl rfl,y2n.app,by simp⟩
 rintro i env h hi ⟨x3,x7,x8,sp,rfl,a1,a2,R,k,hlen⟩;have hL:(Lx vs i).length=i:=yie hi
 by_cases hlt:i<vs.length
 ·have hup:=ze hlt (by omega)
  have hap:∀ x:D,y2o E 55 (Lx vs i) [x]:=fun x=>zc5 (by rw[hL];simp;omega) zys
  have hsp:=Lx_s hlt;have h1:hp.length+1<h.length:=by omega
  rcases R with rfl | ⟨q,rfl,hq,hq2⟩
  ·simp[hlt,hup,a2.eq,a2.appE,zo,zz,hap,hL];refine⟨a1.app.ne (by omega),.tok h.length,by rw[hsp];exact At.self (by simp;omega),.inr ⟨h.length,rfl,by omega,?_⟩,(k.trans y2n.app).trans (y2n.set (.inr (by omega))),by omega⟩
   exact At.ne (by simp[At]) (by omega)
  ·have hq3:=hq2.eq;have a2':=a2.ne (j:=q) (x:=Obj.dead) (by omega)
   have a1':=a1.ne (j:=q) (x:=Obj.dead) (by omega)
   simp[hlt,hup,a2.eq,a2'.appE,zo,z14,hap,hL,hq3];refine⟨a1'.app.ne (by omega),.tok h.length,by rw[hsp];exact At.self (by simp;omega),.inr ⟨h.length,rfl,by omega,?_⟩,((k.trans (y2n.set (.inr (by omega)))).trans y2n.app).trans (y2n.set (.inr (by omega))),by omega⟩
   exact At.ne (by simp[At]) (by omega)
 ·have:i=vs.length:=by omega
  subst this;rw[yif]at a2;have h0:hp.length<h.length:=by omega
  have a3:∀ o,(h.set hp.length o)[hp.length]? = some o:=fun o=>At.self h0
  simp[a1.eq,a2.eq,a3];refine⟨sp,rfl,?_,k.trans (y2n.set (.inr (by omega))),by simp;omega⟩
  rcases R with rfl | ⟨q,rfl,hq,hq2⟩
  ·exact .inl rfl
  ·exact .inr ⟨q,rfl,by omega,hq2.ne (by omega)⟩
theorem zl9{A:Type}{f:D->Option D}{g g':A->D}:∀{l:List A},(∀ x,x ∈ l->f (g x)=some (g' x))->y1h f (l.map g)=some (l.map g')
 |[],_=>rfl
 |x::l,h=>by rw[av,av,z1l,h x (by simp),zl9 fun y hy=>h y (by simp[hy])];rfl
theorem yek{vs:List Int}:dV (cL (vs.map cI))=.agg [dI 3,dI 0,.str [],.imm .none (vs.map fun n=>dV (cI n))]:=by unfold cL;rw[z3w,gB];rfl
theorem r366(vs:List Int)(hv:vs.length<=100000):yu E (dL E) 366 [.imm .none (vs.map dI)]=some (dV (cL (vs.map cI))):=by
 obtain⟨d,hp',e,sp,rfl,_⟩:=s366 vs .none [] hv;unfold yu;have hk:E.keep 366=false:=rfl;have hz:frz hp' depth (.agg [dI 3,dI 0,.str [],.imm sp (vs.map xI)])=some (dV (cL (vs.map cI))):=by
  have:y1h (frz hp' 10) (vs.map xI)=some (vs.map fun n=>dV (cI n)):=zl9 fun n _=>yhi
  rw[yek];show frz hp' 12 _=_
  have hs:frz hp' 11 (.str [])=some (.str []):=rfl;simp[this,hs]
 simp[e,hk];exact hz
def yfu(a b:Ent):Int:=orI [y3q a.kind b.kind,y3q a.idx b.idx]
theorem r362(a b:Ent):yu E (dL E) 362 [y3g a.kind a.idx,y3g b.kind b.idx]=some (dI (yfu a b)):=by
 have h1:=r74 a.kind b.kind;have h2:=r74 a.idx b.idx;have h3:=yiq [y3q a.kind b.kind,y3q a.idx b.idx] (by simp)
 simp only[ya,av,aN]at h3;refine zg c362 (by simp) ?_
 conv in t362=>reduce;dsimp[ai]
 simp[t362,n362,h1,h2,h3]
 try rfl
theorem zt9{a b:Ent}:yfu a b<0 ↔ ltA a b:=by
 unfold yfu ltA y3q;simp only[orI]
 repeat' split
 all_goals omega
theorem yhf{P:Prop}[Decidable P]{b:Bool}:(if P then some (D.bool true)else some (D.bool b))=some (D.bool (decide P || b)):=by by_cases h:P <;> simp[h]
theorem zrl{a b:Bool}:yhc (.bool a) (some (.bool true)) (some (.bool b))=some (.bool (a || b)):=by cases a <;> rfl
def yfs(l:List Ent)(i:Nat):Prop:=(∀ j,∀ h:j<l.length,j<i->y7p l[j]) /\ ∀ j,∀ h:j+1<l.length,j+1<i->ltA l[j] l[j+1]
theorem zqn{l:List Ent}:yfs l 0:=⟨fun _ _ h=>absurd h (by omega),fun _ _ h=>absurd h (by omega)⟩
theorem zvc{l:List Ent}(h:yfs l l.length):(∀ x,x ∈ l->y7p x)/\yfr l:=by
 refine⟨fun x hx=>?_,fun j hj=>h.2 j hj hj⟩
 obtain⟨j,hj,rfl⟩:=List.mem_iff_getElem.1 hx;exact h.1 j hj hj
theorem zyq{l:List Ent}{i:Nat}(hi:i<l.length)(h:yfs l i)(hx:y7p l[i])(ho:∀ h:0<i,ltA (l[i - 1]'(by omega)) l[i]):yfs l (i+1):=by
 constructor
 ·intro j hj hji
  by_cases e:j=i
  ·subst e;exact hx
  ·exact h.1 j hj (by omega)
 ·intro j hj hji
  by_cases e:j+1=i
  ·subst e;exact ho (by omega)
  ·exact h.2 j hj (by omega)
theorem zyj{l:List Ent}{i:Nat}(h:i<l.length):y3x (l.take (i+1))=y3x (l.take i)+l[i].amt:=by rw[aL h,z6u];simp[y3x]
theorem ycn{l:List Ent}{i:Nat}(h:yfs l i):i<=l.length -> -(i*1099511627776:Int)<=y3x (l.take i)/\y3x (l.take i)<=(i*1099511627776:Int):=by
 induction i with
 |zero=>intro _;simp[y3x]
 |succ i ih=>
  intro hi;have h1:=ih ⟨fun j hj hji=>h.1 j hj (by omega),fun j hj hji=>h.2 j hj (by omega)⟩ (by omega)
  have h2:=h.1 i hi (by omega)
  rw[zyj hi];obtain⟨_,_,_,h3,h4⟩:=h2
  push_cast
  omega
theorem zek{p:Pst}(h : ¬ fmP p):y6t p=410:=by unfold y6t;rw[if_neg h]
theorem ykv(p:Pst)(h32:p.prev.length=32)(hl:p.ents.length<=1000000):yu E (dL E) 355 [y51 p]=some (dI (y6t p)):=by
 refine zg c355 (by simp) ?_
 conv in t355=>reduce;dsimp[ai]
 obtain⟨no,minute,corrects,ents,prev⟩:=p;simp only at h32 hl;simp[t355,n355,h32,yhf,zrl];split
 ·rename_i hb;rw[zek];rintro⟨h1,h2,h3,⟨h4,h5,h6,h7⟩⟩;simp only at h1 h2 h3 h4 h5;omega
 rename_i hg;refine zl ents.length (fun i env h=>∃(x0 x2 x4 x5 x6 x10 x11 x12 x13 x14:D) ,env=[x0,.iptr (dI no::dI minute::dI corrects :: .imm .none (ents.map y2k)::prev.map yd),x2,dI (y3x (ents.take i)),x4,x5,x6,.imm .none (ents.map y2k),dI ents.length,dI i,x10,x11,x12,x13,x14]/\yfs ents i) 0 (by omega) ?_ ?_
 ·exact⟨_,_,_,_,_,_,_,_,_,_,rfl,zqn⟩
 rintro i env h hi ⟨x0,x2,x4,x5,x6,x10,x11,x12,x13,x14,rfl,ok⟩
 by_cases hlt:i<ents.length
 ·have hup:=ze hlt (by omega)
  have hbad : ¬ y7p ents[i]->y6t { no:=no,minute:=minute,corrects:=corrects,ents:=ents,prev:=prev }=410:=fun hx=>zek fun f=>hx (f.ents.ok _ (au hlt))
  have hs:=zyj hlt;have hsb:=ycn ok hi;simp[hlt,hup,yhf,zrl];split
  ·rename_i hb;refine(hbad fun hx=>?_).symm
   obtain⟨h1,h2,h3,h4,h5⟩:=hx;omega
  rename_i hb;have hx:y7p ents[i]:=⟨by omega,by omega,by omega,by omega,by omega⟩
  have hsw:aH.wrap (y3x (ents.take i)+ents[i].amt)=y3x (ents.take (i+1)):=by rw[hs];refine za ⟨?_,?_⟩ <;> omega
  by_cases h0:i=0
  ·have ok':=zyq hlt ok hx (fun h=>absurd h (by omega))
   subst h0;simp at hsw;have h1:aH.wrap 1=1:=by decide
   simp[hsw,h1,hlt];exact ok'
  ·have hw:aH.wrap ((i:Int) - 1)=((i - 1:Nat):Int):=by rw[za ⟨by omega,by omega⟩];omega
   have hlt':i - 1<ents.length:=by omega
   have h0':0<i:=by omega
   have hc:=r362 ents[i - 1] ents[i]
   by_cases hq:ltA ents[i - 1] ents[i]
   ·have ok':=zyq hlt ok hx (fun _=>hq)
    have hn : ¬ 0<=yfu ents[i - 1] ents[i]:=by have:=zt9.2 hq;omega
    simp[h0',hw,hlt',hc,hn,hsw,hup];exact ok'
   ·have hn:0<=yfu ents[i - 1] ents[i]:=by
     by_cases h:yfu ents[i - 1] ents[i]<0
     ·exact absurd (zt9.1 h) hq
     ·omega
    simp[h0',hw,hlt',hc,hn];refine(zek fun f=>hq ?_).symm
    have:=f.ents.ord (i - 1) (by simp only;omega)
    simp only[show i - 1+1=i from by omega]at this
    exact this
 ·have:i=ents.length:=by omega
  subst this;rw[bg];obtain⟨o1,o2⟩:=zvc ok;have hf:fmP { no:=no,minute:=minute,corrects:=corrects,ents:=ents,prev:=prev }:=⟨by simp only;omega,by simp only;omega,by simp only;omega,by simp only;omega,by simp only;omega,o1,o2⟩
  unfold y6t;rw[if_pos hf]
  by_cases h0:y3x ents=0 <;> simp[h0]
def Le(l:List Ent)(i:Nat):List D:=(l.take i).map fun x=>dV (y6w x)
theorem yfk{l:List Ent}:Le l 0=[]:=rfl
theorem yih{l:List Ent}:Le l l.length=l.map fun x=>dV (y6w x):=by unfold Le;rw[bg]
theorem yig{l:List Ent}{i:Nat}(h:i<=l.length):(Le l i).length=i:=by unfold Le;rw[aD,aZ];omega
theorem Le_s{l:List Ent}{i:Nat}(h:i<l.length):Le l (i+1)=Le l i++[dV (y6w l[i])]:=by unfold Le;rw[aL h,bm];rfl
theorem Le_4{l:List Ent}{i:Nat}:∀ x,x ∈ Le l i->is4 x:=by
 intro x hx;obtain⟨e,_,rfl⟩:=aK.1 hx;constructor
 ·rw[y6w,cL,z3w];rfl
 ·rw[y6w,cL,z3w];rfl
theorem At.dif{hp:List Obj}{i j:Nat}{a b:Obj}(h:At hp i a)(h':At hp j b)(hn:a ≠ b):i ≠ j:=by rintro rfl;unfold At at h h';rw[h]at h';exact hn (cr h')
theorem yhk{hp:List Obj}{n:Nat}{l:List Ent}(h:∀ x,x ∈ l->i64 x.kind/\i64 x.idx/\i64 x.amt):y1h (frz hp (n+4)) (Le l l.length)=some (l.map fun x=>dV (y6w x)):=by rw[yih];exact z1e fun x hx=>zyu 1 (y6w x) (zsc (h x hx)) (by rw[zt0];omega) (n+4) (by omega)
theorem yhu{p:Pst}:dV (ybe p)=.agg [dI 3,dI 0,.str [],.imm .none [dV (cI p.no),dV (cI p.minute),dV (cI p.corrects),.agg [dI 3,dI 0,.str [],.imm .none (p.ents.map fun x=>dV (y6w x))],.agg [dI 2,dI 0,.str p.prev,.imm .none []]]]:=by
 unfold ybe cL cT;rw[z3w];simp only[av,aN,z3w,gB]
 rfl
theorem zsd{p:Pst}(h:yit p)(hl:p.ents.length<=1000000)(h32:p.prev.length=32):y77 (ybe p):=by
 have:=zll h hl (by omega)
 unfold ya2 at this;exact⟨ye9 h,by have:=yej (p:=p);omega,by omega⟩
theorem zal{l:List UInt8}(h:l.length=32):y12 E 73 (.iptr (l.map yd)) none none none=some (.imm .none (l.map yd)):=by unfold y12;simp[h,bnd];rw[ba (by simp[h])]
noncomputable def ylo(p:Pst):D:=if y6t p=0 then .tup [dBy (ya2 p),dI 0]else .tup [.imm .none [],dI (y6t p)]
theorem z2l:∀(n k:Nat) (cs:List D),cs.length=k+n->y2b cs k n=some (cs.drop k)
 | 0,k,cs,h=>by rw[y2b,List.drop_of_length_le (by omega)]
 |n+1,k,cs,h=>by
  have hk:k<cs.length:=by omega
  rw[y2b,z2l n (k+1) cs (by omega),ac hk,List.drop_eq_getElem_cons hk]
theorem zrr{p:Pst}(h32:p.prev.length=32):y8c E 71 (.iptr (dI p.no::dI p.minute::dI p.corrects :: .imm .none (p.ents.map y2k)::p.prev.map yd))=some (y51 p):=by
 rw[zbd];have e:=z2l 36 0 (dI p.no::dI p.minute::dI p.corrects :: .imm .none (p.ents.map y2k)::p.prev.map yd) (by simp[h32])
 rw[show(E.ty 71).size=36 from rfl,e]
 rfl
theorem zk{hp:List Obj}{n:Nat}{l:List UInt8}:y1h (frz hp (n+1)) (l.map yd)=some (l.map yd):=z1e fun x _=>rfl
theorem z2j{hp:List Obj}{n:Nat}{l:List Ent}:y1h (frz hp (n+2)) (l.map y2k)=some (l.map y2k):=z1e fun x _=>rfl
theorem ye6{hp:List Obj}{n:Nat}{p:Pst}:frz hp (n+5) (y51 p)=some (y51 p):=by
 show frz hp (n+5) (.agg _)=_
 rw[z59];simp only[z1l,z4c,z3v,z2j,al,zc,zk]
theorem yeg{hp r:List Obj}{k:Nat}{o:Obj}(h:At r k o)(hk:hp.length<=k):At (hp++r.drop hp.length) k o:=by
 unfold At at h ⊢;rw[List.getElem?_append_right hk,List.getElem?_drop];rw[show hp.length+(k - hp.length)=k from by omega]
 exact h
theorem yh6(vs:List Int)(sp0:yt)(hp:List Obj)(hv:vs.length<=100000):∃ d sp r,y75 (y1g E (dL E)) 366 [.imm sp0 (vs.map dI)] hp=some (d,hp++r)/\d=.agg [dI 3,dI 0,.str [],.imm sp (vs.map xI)]/\y45 hp.length (hp++r) sp vs.length 4:=by
 obtain⟨d,h',e,sp,rfl,R,k,hl⟩:=s366 vs sp0 (ah hp.length .dead) hv;rw[List.length_replicate]at R k hl;refine⟨_,sp,h'.drop hp.length,?_,rfl,?_⟩
 ·unfold y75;rw[e]
  rfl
 ·rcases R with rfl | ⟨q,rfl,hq,hq2⟩
  ·exact .inl rfl
  ·exact .inr ⟨q,rfl,hq,yeg hq2 hq⟩
theorem r334(p:Pst)(h32:p.prev.length=32)(hl:p.ents.length<=1000000):yu E (dL E) 334 [y51 p]=some (ylo p):=by
 refine zg c334 (by simp) ?_
 conv in t334=>reduce;dsimp[ai]
 have h355:=ykv p h32 hl;unfold ylo;obtain⟨no,minute,corrects,ents,prev⟩:=p;simp only at h32 hl;have hil:=zrr (p:={ no:=no,minute:=minute,corrects:=corrects,ents:=ents,prev:=prev }) h32;simp only at hil
 by_cases hg:y6t { no:=no,minute:=minute,corrects:=corrects,ents:=ents,prev:=prev }=0
 ·rw[if_pos hg];rw[hg]at h355;obtain⟨d1,sp1,r1,e1,rfl,R1⟩:=yh6 [no,minute,corrects] .none [] (by simp)
  obtain⟨d2,sp2,r2,e2,rfl,R2⟩:=yh6 [] .none r1 (by simp)
  have g1:=(z4k.1 hg).fm;have hln:ents.length<=4096:=g1.ents.most;rw[bo]at e1 R1;have S1:∃ G:List Obj,G=r1++r2 /\ ∀ k,sp1=.tok k->At G k (.tok 12 4)/\k<r1.length:=⟨_,rfl,fun k hk=>by
   rcases R1 with rfl | ⟨q,rfl,_,hq⟩
   ·cases hk
   ·cases hk;exact⟨At.app hq,At.lt hq⟩⟩
  have R1':sp1=.exact \/ ∃ k,sp1=.tok k:=by
   rcases R1 with h | ⟨q,h,_⟩
   ·exact .inl h
   ·exact .inr ⟨q,h⟩
  obtain⟨G,hG,T⟩:=S1;rw[<- hG]at e2 R2;have hG1:r1.length<=G.length:=by rw[hG];simp
  clear hG R1;simp at e1 e2 R2;have w1:∀ x y:Obj,(G++[x,y])[G.length+1]? = some y:=fun x y=>by simp
  have w2:∀ x y z:Obj,(G++[x,y]).set (G.length+1) z=G++[x,z]:=fun x y z=>by simp
  simp[t334,n334,h32,h355,z7h,↓hil,z2j,zk,e1,e2,↓w1,↓w2];refine zl ents.length (fun i env h=>∃(x0 x2 x3 x4 x7 x8 x9 x10 x14 x15 x16 x17 x18:D) (sp:yt),env=[x0,.iptr (dI no::dI minute::dI corrects :: .imm .none (ents.map y2k)::prev.map yd),x2,x3,x4,.loc G.length 0,.loc (G.length+1) 0,x7,x8,x9,x10,.imm .none (ents.map y2k),dI ents.length,dI i,x14,x15,x16,x17,x18] /\
   At h G.length (.cells [dI 3,dI 0,.str [],.imm sp1 [xI no,xI minute,xI corrects]])/\At h (G.length+1) (.cells [dI 3,dI 0,.str [],.imm sp (Le ents i)])/\(∀ k,sp1=.tok k->At h k (.tok 12 4))/\y45 r1.length h sp i 4/\G.length+2<=h.length) 0 (by omega) ?_ ?_
  ·refine⟨_,_,_,_,_,_,_,_,_,_,_,_,_,sp2,rfl,by simp[At],by simp[At,yfk],fun k hk=>(T k hk).1.app,?_,by simp⟩
   rcases R2 with h | ⟨q,h,hq,hq2⟩
   ·exact .inl h
   ·exact .inr ⟨q,h,hq,hq2.app⟩
  rintro i env h hi ⟨x0,x2,x3,x4,x7,x8,x9,x10,x14,x15,x16,x17,x18,sp,rfl,a1,a2,T1,T3,hlen⟩;have hL:(Le ents i).length=i:=yig hi
  by_cases hlt:i<ents.length
  ·have hup:=ze hlt (by omega)
   have e4:=r366 [ents[i].kind,ents[i].idx,ents[i].amt] (by simp)
   simp only[av,aN]at e4;have hap:∀ x:D,y2o E 55 (Le ents i) [x]:=fun x=>zc5 (by rw[hL];simp;omega) Le_4
   have hv:dV (cL [cI ents[i].kind,cI ents[i].idx,cI ents[i].amt])=dV (y6w ents[i]):=rfl;have h4:is4 (dV (y6w ents[i])):=Le_4 (l:=ents) (i:=i+1) _ (by rw[Le_s hlt];simp)
   have hsp:=Le_s hlt;have nt:∀(i:Nat) (l:List D) (a b:Nat),Obj.tok a b ≠ .cells l:=fun _ _ _ _ e=>by cases e
   have T2:∀ k,sp1=.tok k->k<r1.length:=fun k hk=>(T k hk).2
   have T4:∀ k,sp1=.tok k->k<h.length/\k ≠ G.length/\k ≠ G.length+1:=fun k hk=>⟨(T1 k hk).lt,(T1 k hk).dif a1 (nt 0 _ _ _),(T1 k hk).dif a2 (nt 0 _ _ _)⟩
   rcases T3 with rfl | ⟨q,rfl,hq,hq2⟩
   ·have a3:∀ X o,((h++X).set (h.length+1+13) o)[G.length+1]? = some (.cells [dI 3,dI 0,.str [],.imm .exact (Le ents i)]):=fun X o=>(a2.app (r:=X)).ne (by omega)
    simp[hlt,hup,a2.appE,zo,zz,hap,hL,e4,hv,h4.1,h4.2,↓a3];refine⟨((a1.app).ne (by omega)).ne (by omega),.tok (h.length+1+13),by rw[hsp];exact At.self (by simp;omega),fun k hk=>?_,.inr ⟨_,rfl,by omega,?_⟩,by omega⟩
    ·obtain⟨k1,k2,k3⟩:=T4 k hk;exact(((T1 k hk).app).ne (by omega)).ne (by omega)
    ·exact(At.self (by simp)).ne (by omega)
   ·have q1:q ≠ G.length:=hq2.dif a1 (nt 0 _ _ _);have q2:q ≠ G.length+1:=hq2.dif a2 (nt 0 _ _ _);have hq3:∀ X,(h++X)[q]? = some (.tok (i*4) 4):=fun X=>hq2.app (r:=X)
    have hql:=hq2.lt;have a2':At (h.set q .dead) (G.length+1) (.cells [dI 3,dI 0,.str [],.imm (.tok q) (Le ents i)]):=a2.ne (by omega)
    have a1':=a1.ne (j:=q) (x:=.dead) (by omega)
    have a3:∀ X o,((h.set q .dead++X).set (h.length+1+13) o)[G.length+1]? = some (.cells [dI 3,dI 0,.str [],.imm (.tok q) (Le ents i)]):=fun X o=>(a2'.app (r:=X)).ne (by omega)
    have hs:∀ X o,(h++X).set q o=h.set q o++X:=fun X o=>z1d hql
    simp[hlt,hup,a2.appE,zo,z14,hap,hL,e4,hv,h4.1,h4.2,↓a3,hq3,↓hs];refine⟨((a1'.app).ne (by omega)).ne (by omega),.tok (h.length+1+13),by rw[hsp];exact At.self (by simp;omega),fun k hk=>?_,.inr ⟨_,rfl,by omega,?_⟩,by omega⟩
    ·obtain⟨k1,k2,k3⟩:=T4 k hk;have:=T2 k hk;exact((((T1 k hk).ne (by omega)).app).ne (by omega)).ne (by omega)
    ·exact(At.self (by simp)).ne (by omega)
  ·have:i=ents.length:=by omega
   subst this;have hap:∀ x y:D,y2o E 55 [xI no,xI minute,xI corrects] [x,y]:=fun x y=>zc5 (by simp) fun z hz=>zys (l:=[no,minute,corrects]) z hz
   have hsl:=zal h32;have hi64:=zru g1;have hz:=yhk (hp:=[]) (n:=4) hi64.ents;have hst:∀ n s,frz [] (n+1) (.str s)=some (.str s):=fun _ _=>rfl
   have e64:=r264 (zsd hi64 hl h32);rw[yhu,zx2,zx2,zx2]at e64;simp only at hz e64;have hGl:G.length<h.length:=by omega
   have hr:∀(X:List Obj) (o:Obj),((h++X).set G.length o)[G.length]? = some o:=fun X o=>At.self (by simp;omega)
   rcases R1' with rfl | ⟨k1,rfl⟩
   ·simp[a1.appE,a2.appE,hsl,zff,zo,zz,hap,↓hr,hz,hst,e64,zk]
    rfl
   ·have hk:=(T1 k1 rfl);have hk1:k1 ≠ G.length:=hk.dif a1 (fun e=>by cases e)
    have hkl:=hk.lt;have hk2:∀ X:List Obj,(h++X)[k1]? = some (.tok 12 4):=fun X=>hk.app (r:=X)
    have hs:∀(X:List Obj) (o:Obj),(h++X).set k1 o=h.set k1 o++X:=fun X o=>z1d hkl
    have a1':=a1.ne (j:=k1) (x:=.dead) (by omega)
    have hw:∀ X:List Obj,(h.set k1 .dead++X)[G.length]? = some (.cells [dI 3,dI 0,.str [],.imm (.tok k1) [xI no,xI minute,xI corrects]]):=fun X=>a1'.app (r:=X)
    have hr':∀(X:List Obj) (o:Obj),((h.set k1 .dead++X).set G.length o)[G.length]? = some o:=fun X o=>At.self (by simp;omega)
    simp[a1.appE,a2.appE,hsl,zff,zo,z14,hap,↓hk2,↓hs,hw,↓hr',hz,hst,e64,zk]
    rfl
 ·rw[if_neg hg];simp[t334,n334,h32,h355,hg,↓hil,z2j,zk]
abbrev Wd:=BitVec 32
abbrev dW(w:Wd):D:=.int .u32 (w.toNat:Int)
theorem z63(m:Int):eA.wrap m=m % 4294967296:=by simp[gt,gu,fS]
theorem zfd:eA.bits=32:=rfl
theorem zmv{w:Wd}:cy 32 (w.toNat:Int)=w:=by simp
theorem zzr{a b:Wd}:eA.wrap ((a.toNat:Int)+b.toNat)=((a+b).toNat:Nat):=by rw[z63,BitVec.toNat_add];omega
theorem yga{w:Wd}:w.toNat<4294967296:=w.isLt
theorem zzq{w:Wd}:((w.toNat:Nat):Int) % 4294967296=w.toNat:=by have:=yga (w:=w);omega
theorem zzo{a b:Wd}:y9t .u32 (a.toNat:Int) b.toNat=((a ^^^ b).toNat:Nat):=by unfold y9t;rw[z63,show eA.bits=32 from rfl,zmv,zmv,zzq]
theorem yj0{a b:Wd}:yfc .u32 (a.toNat:Int) b.toNat=((a &&& b).toNat:Nat):=by unfold yfc;rw[z63,show eA.bits=32 from rfl,zmv,zmv,zzq]
theorem yiz{a b:Wd}:ybw .u32 (a.toNat:Int) b.toNat=((a ||| b).toNat:Nat):=by unfold ybw;rw[z63,show eA.bits=32 from rfl,zmv,zmv,zzq]
theorem yg9{a:Wd}{n:Nat}(h:n<=32):eA.wrap ((a.toNat:Int)*2 ^ (min n 32))=((a <<< n).toNat:Nat):=by
 rw[z63,gU,Nat.shiftLeft_eq,bS h];have e:(a.toNat:Int)*2 ^ n=((a.toNat*2 ^ n:Nat):Int):=by rw[Int.natCast_mul,jG];rfl
 rw[e,show(2:Nat) ^ 32=4294967296 from rfl]
 omega
theorem zzp{a:Wd}{n:Nat}(h:n<=32):(a.toNat:Int).fdiv (2 ^ (min n 32))=((a >>> n).toNat:Nat):=by
 rw[gC,Nat.shiftRight_eq_div_pow,bS h,ee _ (kh (by decide)),mr,jG]
 rfl
def y9e(x:Wd)(s:Nat):Wd:=(x <<< s) ||| (x >>> (32 - s))
theorem ygi(k:Int):yfc .u64 (bI.wrap k) 31=k % 32:=by
 unfold yfc;rw[z2k,z2k,show bI.bits=64 from rfl]
 have:(cy 64 (k % 18446744073709551616) &&& cy 64 31).toNat=(k % 18446744073709551616).toNat % 32:=by
  rw[BitVec.toNat_and];have h1:(cy 64 31).toNat=31:=by decide
  rw[h1];have h2:(cy 64 (k % 18446744073709551616)).toNat=(k % 18446744073709551616).toNat:=by
   rw[BitVec.toNat_ofInt];show((k % 18446744073709551616) % 18446744073709551616).toNat=_
   omega
  rw[h2];exact Nat.and_two_pow_sub_one_eq_mod _ 5
 rw[this];omega
theorem yd3(x:Wd)(k:Int)(h:i64 k):yu E (dL E) 406 [dW x,dI k]=some (dW (y9e x (k % 32).toNat)):=by
 refine zg c406 (by simp) ?_
 conv in t406=>reduce;dsimp[ai]
 have e:=ygi k;obtain⟨s,hs⟩:∃ s:Nat,k % 32=s:=⟨(k % 32).toNat,by omega⟩
 have hs32:s<32:=by omega
 rw[hs]at e ⊢;have hw:bI.wrap (32 - (s:Int))=((32 - s:Nat):Int):=by rw[z2k];omega
 have e1:=yg9 (a:=x) (n:=s) (by omega)
 have e2:=zzp (a:=x) (n:=32 - s) (by omega)
 have e3:=yiz (a:=x <<< s) (b:=x >>> (32 - s));rw[bS (by omega)]at e1 e2
 have m1:min s 32=s:=bS (by omega)
 have m2:min (32 - s) 32=32 - s:=bS (by omega)
 simp[t406,n406,y40,zfd,e,hw,m1,m2,e1,e2,e3,-gU,-gC,-jH]
 rfl
theorem r407(x:Wd)(a b c:Int)(ha:0<=a/\a<=100)(hb:0<=b/\b<=100)(hc:0<=c/\c<=100) :
  yu E (dL E) 407 [dW x,dI a,dI b,dI c]=some (dW (y9e x (-a % 32).toNat ^^^ y9e x (-b % 32).toNat ^^^ y9e x (-c % 32).toNat)):=by
 refine zg c407 (by simp) ?_
 conv in t407=>reduce;dsimp[ai]
 have e1:=yd3 x (-a) ⟨by omega,by omega⟩
 have e2:=yd3 x (-b) ⟨by omega,by omega⟩
 have e3:=yd3 x (-c) ⟨by omega,by omega⟩
 have h1:aH.wrap (-a) = -a:=za ⟨by omega,by omega⟩
 have h2:aH.wrap (-b) = -b:=za ⟨by omega,by omega⟩
 have h3:aH.wrap (-c) = -c:=za ⟨by omega,by omega⟩
 simp[t407,n407,e1,e2,e3,h1,h2,h3,zzo,-BitVec.toNat_xor]
def yaf(b:List UInt8)(n:Nat):Wd:=(b.take n).foldl (fun w c=>(w <<< 8) ||| jv 32 c.toNat) 0
theorem yg3{b:List UInt8}{n:Nat}(h:n<b.length):yaf b (n+1)=(yaf b n <<< 8) ||| jv 32 b[n].toNat:=by unfold yaf;rw[aL h,fQ];rfl
theorem zl2{l:List UInt8}:y2u 1 (l.map yd)=true:=by cases l <;> rfl
theorem zk8{b:List UInt8}{i:Nat}(h:i<=b.length):y12 E 30 (.imm .none (b.map yd)) none (some (dI i)) none=some (.imm .none ((b.take i).map yd)):=by unfold y12;simp[bnd];exact⟨⟨h,zl2⟩,by unfold y25;simp⟩
theorem z2f{E:Env}{cP:Nat->List D->Option D}{env:List D}{hp:List Obj}{a t:Nat}{d:D}{x:Xp}:xv E cP env hp (.n (.slice t (.t a) none (some (.c d)) none) (.cons a x .nil))=ob (xv E cP env hp x) fun u=>y12 E t u none (some d) none:=by
 simp only[xv,xvs];cases xv E cP env hp x <;> try rfl
 simp only[yb,gOf,kv,if_true,zc];exact z17
theorem r405(b:List UInt8)(h:4<=b.length):yu E (dL E) 405 [.imm .none (b.map yd)]=some (dW (yaf b 4)):=by
 refine zg c405 (by simp) ?_
 conv in t405=>reduce;dsimp[ai]
 have e:=zk8 h;have hl:((b.take 4).map yd).length=4:=by simp;omega
 have e:y12 E 30 (.imm .none (b.map yd)) none (some (.int .i64 4)) none=some (.imm .none ((b.take 4).map yd)):=e;simp[t405,n405,e,z2f];rw[bS h];refine zl 4 (fun i env h=>∃(x0 x2 x6:D) ,env=[x0,dW (yaf b i),x2,.imm .none ((b.map yd).take 4),dI 4,dI i,x6]) 0 (by omega) ?_ ?_
 ·exact⟨_,_,_,rfl⟩
 rintro i env hp hi ⟨x0,x2,x6,rfl⟩
 by_cases hlt:i<4
 ·have hup:=ze hlt (by omega)
  have hib:i<b.length:=by omega
  have hs:=yg3 hib;have e1:=yg9 (a:=yaf b i) (n:=8) (by omega)
  have hc:b[i].toNat<256:=b[i].toNat_lt;have e2:eA.wrap (b[i].toNat:Int)=((jv 32 b[i].toNat).toNat:Nat):=by rw[z63,lv];omega
  have e3:=yiz (a:=yaf b i <<< 8) (b:=jv 32 b[i].toNat);have hi4:(i:Int)<4:=by omega
  rw[bS (by omega)]at e1
  have e1:eA.wrap (((yaf b i).toNat:Int)*256)=((yaf b i <<< 8).toNat:Nat):=e1;simp[hi4,hlt,hup,y40,zfd,e1,e2,e3,hs,hib,-gU,-jH,-lv]
 ·have:i=4:=by omega
  subst this;simp
def y7g(m:List UInt8)(off n v:Nat):Nat->List UInt8
 | 0=>m
 |i+1=>(y7g m off n v i).set (off+(n - 1 - i)) (cv (v / 2 ^ (8*i)))
theorem z68{m:List UInt8}{off n v:Nat}:∀{i:Nat},(y7g m off n v i).length=m.length
 | 0=>rfl
 |i+1=>by rw[y7g,bn,z68]
theorem zpf(m:Int):gY.wrap m=m % 256:=by simp[gt,gu,fS]
theorem zv1{v i:Nat}(h:i<8):gY.wrap ((v:Int).fdiv (2 ^ (min (8*i) 64)))=((cv (v / 2 ^ (8*i))).toNat:Nat):=by
 rw[zpf,bS (by omega),ee _ (kh (by decide)),lu]
 have e:(v:Int) / 2 ^ (8*i)=((v / 2 ^ (8*i):Nat):Int):=by rw[mr,jG];rfl
 rw[e];omega
theorem z7i{hp:List Obj}{id:Nat}{o:Obj}(h:At hp id o):hp.set id o=hp:=by
 apply List.ext_getElem?;intro j
 by_cases hj:j=id
 ·subst hj;rw[aQ h.lt];exact h.symm
 ·rw[List.getElem?_set_ne (by omega)]
def Bys(hp:List Obj)(id:Nat)(m:List UInt8):Prop:=At hp id (.cells (m.map yd))
theorem yil{hp:List Obj}{id off n:Nat}{gr:Bool}{m:List UInt8}(v:Nat)(hv:v<18446744073709551616)(hn:n<=8)(ho:off+n<=m.length)(B:Bys hp id m) :
  ∃ d hp',y1g E (dL E) 383 [.sl id off n 1 false gr,.int .u64 v] hp=some (d,hp')/\(d=.tup []/\hp'=hp.set id (.cells ((y7g m off n v n).map yd))):=by
 refine z1i c383 (args:=[.sl id off n 1 false gr,.int .u64 v]) (hp:=hp) (R:=fun d hp'=>d=.tup []/\hp'=hp.set id (.cells ((y7g m off n v n).map yd))) (by simp) ?_
 conv in t383=>reduce;dsimp[ai]
 have hid:=At.lt B;simp[t383,n383];refine zl n (fun i env h=>∃(x2 x5:D) ,env=[.sl id off n 1 false gr,.int .u64 v,x2,dI n,dI i,x5]/\h=hp.set id (.cells ((y7g m off n v i).map yd))) 0 (by omega) ?_ ?_
 ·refine⟨_,_,rfl,?_⟩;rw[y7g];exact(z7i B).symm
 rintro i env h hi ⟨x2,x5,rfl,rfl⟩;have hset:∀ o:Obj,(hp.set id o)[id]? = some o:=fun o=>At.self hid
 by_cases hlt:i<n
 ·have hup:=ze hlt (by omega)
  have hb:=zv1 (v:=v) (i:=i) (by omega)
  have h1:aH.wrap ((n:Int) - 1)=(n:Int) - 1:=za ⟨by omega,by omega⟩
  have h2:aH.wrap ((n:Int) - 1 - i)=((n - 1 - i:Nat):Int):=by rw[za ⟨by omega,by omega⟩];omega
  have h3:aH.wrap (8*(i:Int))=((8*i:Nat):Int):=by rw[za ⟨by omega,by omega⟩];omega
  have h4:(n - 1 - i:Nat)<n:=by omega
  have h5:off+(n - 1 - i)+1<=m.length:=by omega
  have h0:(8*(i:Int)).toNat=8*i:=by omega
  have h6:off+(n - 1 - i)<(y7g m off n v i).length:=by rw[z68];omega
  have h8:(0:Int)<=8*(i:Int):=by omega
  simp[hlt,hup,hset,z4a,y40,h1,h2,h3,h4,h5,hb,h0,h8,z68,y7g];have hbe:yd (cv (v / 2 ^ (8*i)))=.int .u8 ((v:Int) / 2 ^ (8*i) % 256):=by
   show D.int .u8 ((cv (v / 2 ^ (8*i))).toNat:Int)=_
   rw[<- hb,zpf,bS (by omega),ee _ (kh (by decide))]
  rw[hbe]
 ·have:i=n:=by omega
  subst this;simp
end Dv
