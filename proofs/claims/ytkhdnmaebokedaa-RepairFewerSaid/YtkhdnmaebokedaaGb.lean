/- Texts that a proof of this claim uses, joined: Lw.W58, Lw.W59, Lw.W60, Lw.W61, Lw.W62, Lw.W63, Lw.S29, Lw.W67, Lw.W85, Lw.W86, Lw.W87, Lw.W41, Lw.W43, Lw.W90, Lw.W140, Lw.W141, Lw.W142, Lw.Pieces, Lw.S30, Lw.W91, Lw.W92, Lw.W93, Lw.W94, Lw.W69, Lw.W71, Lw.W73, Lw.W95, Lw.W96, Lw.W143, Lw.W144, Lw.W145, Lw.W146, Lw.W147, Lw.W97, Lw.W98, Lw.W148. -/
import Derived.Test.YtkhdnmaebokedaaGa
import Derived.Test.YtkhdnmaebokedaaTc
import Derived.Test.YtkhdnmaebokedaaDvd
import Derived.KernelRfl
set_option linter.all false
set_option maxHeartbeats 16000000
namespace Dv
attribute [local simp] wT_skip wK wT_ret wT_exit wR wRp wT_seq wC wT_block rTS_nil rTS_asg rTS_eff rTS_effk rTS_effg gdV_b binD_and binD_or binD_xor stepOp_call3 closed_bool closed_int closed_tup flatB_bool flatB_int frzX_tup frzX_exact frz1_exact frz1_none frz1_int ob_some obP_some iteD_b condP_b xv_v xv_c xv_ite xv_bin_tt xv_bin_tc xv_bin_ct xv_bin_cc xv_un_t xv_conv_t xv_load xv_len xv_faddr xv_field xv_iaddr_tt xv_iaddr_tc xv_index_tt xv_index_tc xv_lookup_tt xv_max_tt xv_max_tc xv_max_ct xv_min_tt xv_min_tc xv_min_ct xv_slice_lo_t xv_slice_lo_c xv_slice_hi_t xv_slice_all xv_call xv_bslice bsliceV xv_build buildV xv_mkfn zeroE fillE buildD fillD List.replicate xvs_nil xvs_cons callV_fn frz_bool frz_int frz_imm frz_agg frz_tup frz_fn frz_iptr frzL_nil frzL_one frzL_dI frzL_cell frzL_use frzL_ints frzL_choice frzL_var depth dCell dUse dInts dChoice dVar dProb tStart addO Ret flat_dI flat_rep chunk_dI
 binD_add binD_sub binD_mul binD_eql binD_neq binD_lss binD_leq binD_gtr binD_geq binD_rem binD_bneq unD_not unD_neg lenD_imm lenD_sl readO_cells readO_frozen loadD_loc loadD_iptr iaddrD_imm iaddrD_sl iaddrD_loc faddrD_loc faddrD_iptr fieldD_agg cellsL_bool stor_bool atom_bool cellsL_int stor_int atom_int cellsL_str stor_str atom_str cellsL_imm stor_imm atom_imm cellsL_sl stor_sl atom_sl cellsL_loc stor_loc atom_loc cellsL_iptr stor_iptr atom_iptr cellsL_map stor_map atom_map cellsL_fn stor_fn atom_fn cellsL_agg stor_agg cellsL_nilfn stor_nilfn atom_nilfn cellsL_nilp stor_nilp atom_nilp takeC_z takeC_s ofCells_ag ofCells_one ag_bool ag_int ag_str ag_slice ag_struct ag_arr ag_map ag_ptr ag_func gOf_t gOf_c gOf_f kv_cons putE_some putE_none oneRes_one oneRes_two oneRes_three getAll_nil getAll_v getAll_c maxiD_two miniD_two extV_tup xv_ext stepOp_box stepOp_alloc stepOp_store writeO_cells storeD_loc setCells_nil setCells_cons stepOp_mkmap stepOp_mapset stepOp_call1 stepOp_call2 stepOp_app2 stepOp_app1 stepOp_mkslice mapO_map lookupD_some mapsetD_some keyOk_agg kindsL_nil kindsL_bool kindsL_int eqL_nil atomEq_bool frz_sl tokO_tok app0_step app0_exact app0_tok frz_loc oneRes_nil listOf_imm
 isMark_bool isMark_int isMark_str isMark_imm isMark_sl isMark_fn isMark_loc isMark_undef isMark_tup isMark_tup0 isMark_agg0 isU_undef isU_bool isU_int isU_str isU_imm isU_agg isU_fn isU_loc isU_sl noMark_s markP_t markP_f wI wT_dead stepOp_call5 stepOp_call6 nilcD_loc nilcD_iptr xv_nilc xv_mark_t markV_int markV_agg ty_0 ty_1 ty_2 ty_3 ty_4 ty_6 ty_7 ty_9 ty_10 ty_11 ty_12 ty_13 ty_14 ty_15 ty_16 ty_17 ty_18 ty_19 ty_20 ty_21 ty_22 ty_23 ty_24 ty_25 ty_26 ty_27 ty_29 ty_31 ty_32 ty_41 ty_42 ty_43 ty_44 ty_45 ty_47 ty_48 ty_49 ty_50 ty_51 ty_52 mp_228 mp_229 mp_241 mp_242 mp_243 mp_246
attribute [local congr] wT_congr ob_congr obP_congr iteD_congr condP_congr gdV_congr markP_congr


def qI (q : Bool) : Int:=if q then 1 else 0

theorem r115 (p : Prob) (b : List Int) (g : Int) (m : List (List Int)) (v : Var) (c : Choice) (q : Bool) (S : Small p) (ok : OkP p) (M : OkM p m) (hv : OkVar p v) (hl8 : v.leaves.length <= 8) (hcv : c ∈ v.choices) (hu : ∀ c,c ∈ v.choices -> c.uses.length <= 12) :
  runP E (dL E) 115 [dChoice c,.iptr [.bool q],.iptr (dVar v).cellsL,.iptr (dWork p b g m).cellsL] = some (dI (costOf p m v (qI q) c)):=by
 refine runP_T c115 (by simp) ?_
 have hc:=hv.choices c hcv
 have hub : ∀ u,u ∈ c.uses -> 0 <= u.places /\ u.places <= 8:=fun u hu=>(hc.uses u hu).places |> fun h=>by unfold wi at h; omega
 have htot:=prC_bd M hl8 hub
 have hul:=hu c hcv
 have hcost:=hc.cost
 unfold wi at hcost
 have hcl:=mul_bd hcost.1 hcost.2 (n:=(v.leaves.length : Int)) (by omega) (by omega)
 have w1:=wrap_i64 (n:=c.cost * v.leaves.length) ⟨by omega,by omega⟩
 unfold costOf
 obtain ⟨P,hP⟩ : ∃ P,P = prC p m v.leaves c.uses:=⟨_,rfl⟩
 rw [<- hP] at htot ⊢
 obtain ⟨Z,hZ⟩ : ∃ Z,Z = qI q * c.cost * v.leaves.length:=⟨_,rfl⟩
 have hZb : 0 <= Z /\ Z <= 8388608:=by
  rw [hZ]
  cases q
  ·simp [qI]
  ·simp only [qI,if_true,Int.one_mul]; omega
 rw [<- hZ]
 have e0 : q = false -> Z = 0:=fun h=>by rw [hZ,h]; simp [qI]
 have e1 : q = true -> Z = c.cost * v.leaves.length:=fun h=>by rw [hZ,h]; simp [qI]
 have main : ∀ (n0 : Int) (env : List D),n0 = Z -> (∃ (x6 x7 x8 x9 x13 x14 x15 x16 x17 x18 : D) ,env = [dChoice c,.iptr [.bool q],.iptr (dVar v).cellsL,.iptr (dWork p b g m).cellsL,.loc 0 0,dI n0,x6,x7,x8,x9,.imm .none (c.uses.map dUse),dI c.uses.length,dI 0,x13,x14,x15,x16,x17,x18]) ->
   wT E (match t115 with | .seq _ (.seq _ (.seq (.seq _ (.block _ l)) _))=>l | _=>.skip) (fun ex env' hp'=>ex = .exit 0 /\ env'[5]? = some (dI (Z + P))) env [.cells (dChoice c).cellsL]:=by
  rintro n0 env rfl ⟨x6,x7,x8,x9,x13,x14,x15,x16,x17,x18,rfl⟩
  simp [t115]
  refine wT_up c.uses.length (fun i env hp=>∃ (x6 x7 x8 x9 x13 x14 x15 x16 x17 x18 : D) (n : Int) (h : List Obj),env = [dChoice c,.iptr [.bool q],.iptr (dVar v).cellsL,.iptr (dWork p b g m).cellsL,.loc 0 0,dI n,x6,x7,x8,x9,.imm .none (c.uses.map dUse),dI c.uses.length,dI i,x13,x14,x15,x16,x17,x18] /\
   hp = .cells (dChoice c).cellsL :: h /\ 0 <= n /\ n + prC p m v.leaves (c.uses.drop i) = n0 + P) 0 (by omega) ⟨_,_,_,_,_,_,_,_,_,_,n0,_,rfl,rfl,by omega,by simp [hP]⟩ ?_
  rintro i env hp hi ⟨x6,x7,x8,x9,x13,x14,x15,x16,x17,x18,n,h,rfl,rfl,hn0,hn⟩
  by_cases hlt : i < c.uses.length
  rotate_left
  ·have : i = c.uses.length:=by omega
   subst this
   rw [List.drop_length] at hn
   simp only [prC,Int.add_zero] at hn
   subst hn
   simp
  rw [drop_cons hlt] at hn
  simp only [prC] at hn
  have hru:=prC_bd M hl8 (us:=c.uses.drop (i + 1)) fun u hu=>hub u (List.mem_of_mem_drop hu)
  have hui:=hc.uses _ (List.getElem_mem hlt)
  have hpl:=hub _ (List.getElem_mem hlt)
  have h98:=r98 p b g m c.uses[i].cell S ok hui.known
  have hat:=atS_le (i:=0) hui.known
  obtain ⟨k,hk⟩ : ∃ k : Nat,atS c.uses[i].cell p.cells 0 = k:=⟨(atS c.uses[i].cell p.cells 0).toNat,by omega⟩
  have hkc : k < p.cells.length:=by omega
  rw [hk] at h98
  rw [hk,Int.toNat_natCast] at hn
  obtain ⟨R,hR⟩ : ∃ R,R = prC p m v.leaves (c.uses.drop (i + 1)):=⟨_,rfl⟩
  rw [<- hR] at hn hru
  simp only [dWork,dCell] at h98
  simp [hlt,h98,get_mid,set_mid]
  refine wT_up v.leaves.length (fun j env hp=>∃ (x8 x9 x13 x14 x18 : D) (n : Int) (h2 : List Obj),env = [dChoice c,.iptr [.bool q],.iptr (dVar v).cellsL,.iptr (dWork p b g m).cellsL,.loc 0 0,dI n,.loc (h.length + 1) 0,dI k,x8,x9,.imm .none (c.uses.map dUse),dI c.uses.length,dI i,x13,x14,dInts v.leaves,dI v.leaves.length,dI j,x18] /\
   hp = .cells (dChoice c).cellsL :: (h ++ .cells (dUse c.uses[i]).cellsL :: h2) /\ 0 <= n /\ n + (prL m k c.uses[i].places (v.leaves.drop j) + R) = n0 + P) 0 (by omega) ⟨_,_,_,_,_,n,[],rfl,rfl,hn0,by simpa using hn⟩ ?_
  rintro j env hp hj ⟨x8,x9,x13,x14,x18,n,h2,rfl,rfl,hn0,hn⟩
  by_cases hlt2 : j < v.leaves.length
  rotate_left
  ·have : j = v.leaves.length:=by omega
   subst this
   rw [List.drop_length] at hn
   simp only [prL,Int.zero_add] at hn
   simp [wrap_up hlt (by omega)]
   exact ⟨_,_,_,_,_,_,_,_,_,_,n,⟨rfl,rfl,rfl,rfl,rfl,rfl,rfl,rfl,rfl,rfl,rfl⟩,hn0,by rw [<- hR]; exact hn⟩
  rw [drop_cons hlt2] at hn
  simp only [prL] at hn
  have hrl:=prL_bd M hpl (k:=k) (l:=v.leaves.drop (j + 1))
  have hleaf:=hv.leaves _ (List.getElem_mem hlt2)
  unfold wi at hleaf
  obtain ⟨r,hr⟩ : ∃ r : Nat,v.leaves[j] = r:=⟨v.leaves[j].toNat,by omega⟩
  have hqc : r < p.capacity.length:=by omega
  obtain ⟨g1,g2,g3⟩:=mu_get M hqc hkc
  rw [hr] at hn
  have hmb:=mul8 (mu_bd M (leaf:=(r : Int)) (k:=k)) hpl
  obtain ⟨x,hx⟩ : ∃ x,x = mu m r k:=⟨_,rfl⟩
  rw [<- hx] at g3 hn hmb
  have w2:=wrap_i64 (n:=x * c.uses[i].places) ⟨by omega,by omega⟩
  have w3:=wrap_i64 (n:=n + x * c.uses[i].places) ⟨by omega,by omega⟩
  simp [hlt2,hr,g1,g2,g3,w2,w3,wrap_up hlt2 (by omega),get_mid]
  exact ⟨_,_,_,_,_,_,⟨rfl,rfl,rfl,rfl,rfl,rfl⟩,by omega,by omega⟩
 cases q with
 | false=>
  simp [t115,n115]
  refine wT_mono (fun ex env hp h=>?_) (main 0 _ (e0 rfl).symm ⟨_,_,_,_,_,_,_,_,_,_,rfl⟩)
  obtain ⟨rfl,h5⟩:=h
  have hlt:=lt_get h5
  have e5 : ∀ hh,env[5]'hh = dI (Z + P):=fun hh=>by
   rw [List.getElem?_eq_getElem hh] at h5
   exact Option.some.inj h5
  simp [hlt,e5]
 | true=>
  simp [t115,n115,w1]
  refine wT_mono (fun ex env hp h=>?_) (main _ _ (e1 rfl).symm ⟨_,_,_,_,_,_,_,_,_,_,rfl⟩)
  obtain ⟨rfl,h5⟩:=h
  have hlt:=lt_get h5
  have e5 : ∀ hh,env[5]'hh = dI (Z + P):=fun hh=>by
   rw [List.getElem?_eq_getElem hh] at h5
   exact Option.some.inj h5
  simp [hlt,e5]

theorem r114 (p : Prob) (b : List Int) (g : Int) (m : List (List Int)) (i : Int) : runP E (dL E) 114 [dWork p b g m,dI i] = some (.fn 124 [.iptr (dWork p b g m).cellsL,.iptr [dI i]]):=by
 refine runP_T c114 (by simp) ?_
 simp [t114,n114,dWork]

theorem i124 (p : Prob) (b : List Int) (g : Int) (m : List (List Int)) (S : Small p) (hb : b.length <= 20) {i : Nat} (hi : i < p.vars.length) (l : Nat) (J : List (Nat × Choice) -> List Obj -> Prop) (Fin : List Obj -> Prop)
  (hext : ∀ rem hp r,J rem hp -> J rem (hp ++ r))
  (hy : ∀ x rem hp,J (x :: rem) hp -> ∃ t hp',runY (dL E) l [dChoice x.2] hp = some (.bool t,hp') /\ (t = true -> J rem hp') /\ (t = false -> Fin hp')) {hp : List Obj}
  (h0 : J (candL b g i 0 p.vars[i].choices) hp) :
  ∃ d hp',runS E (dL E) 124 [.yld l,.iptr (dWork p b g m).cellsL,.iptr [dI i]] hp = some (d,hp') /\ (J [] hp' \/ Fin hp'):=by
 refine runS_T c124 (R:=fun _ hp'=>J [] hp' \/ Fin hp') (by simp) ?_
 have s3:=S.vars
 have l2:=S.choices _ (List.getElem_mem hi)
 simp [t124,n124,dWork,hi]
 obtain ⟨cs,hcs⟩ : ∃ cs,cs = p.vars[i].choices:=⟨_,rfl⟩
 rw [<- hcs] at h0 l2
 simp only [<- hcs]
 refine wT_up cs.length (fun k env hp=>∃ (x3 x4 x8 x9 x10 x11 x12 : D) ,env = [.yld l,.iptr (dWork p b g m).cellsL,.iptr [dI i],x3,x4,.imm .none (cs.map dChoice),dI cs.length,dI k,x8,x9,x10,x11,x12] /\
  J (candL b g i k (cs.drop k)) hp) 0 (by omega) ⟨_,_,_,_,_,_,_,rfl,by simpa using h0⟩ ?_
 rintro k env hp hk ⟨x3,x4,x8,x9,x10,x11,x12,rfl,hJ⟩
 by_cases hlt : k < cs.length
 rotate_left
 ·have : k = cs.length:=by omega
  subst this
  rw [List.drop_length] at hJ
  simp only [candL] at hJ
  simp [hJ]
 rw [drop_cons hlt] at hJ
 simp only [candL] at hJ
 have hcnt : cntB b g i k cs[k] = (decide (cs[k].delay <= g) && (decide (b.length <= i) || decide (b.getD i 0 = (k : Int)))):=rfl
 have hyield : cntB b g i k cs[k] = true -> ∀ H r,hp ++ r = H -> ∃ t hp',runY (dL E) l [dChoice cs[k]] H = some (.bool t,hp') /\ (t = true -> J (candL b g i (k + 1) (cs.drop (k + 1))) hp') /\ (t = false -> Fin hp'):=by
  intro hc H r hH
  rw [if_pos hc] at hJ
  exact hy (k,cs[k]) _ H (ext_to hext hH hJ)
 have hskip : cntB b g i k cs[k] = false -> ∀ r,J (candL b g i (k + 1) (cs.drop (k + 1))) (hp ++ r):=by
  intro hc r
  have hc' : ¬ cntB b g i k cs[k] = true:=by rw [hc]; simp
  rw [if_neg hc'] at hJ
  exact hext _ _ _ hJ
 by_cases c1 : cs[k].delay <= g
 rotate_left
 ·have hc : cntB b g i k cs[k] = false:=by rw [hcnt]; simp [c1]
  have hs:=hskip hc [.cells (dChoice cs[k]).cellsL]
  simp [hlt,get_app2,get_mid,set_mid,c1,rTS_effh,gdD_b,wrap_up hlt (by omega)]
  exact hs
 by_cases c2 : b.length <= i
 ·have hc : cntB b g i k cs[k] = true:=by rw [hcnt]; simp [c1,c2]
  obtain ⟨t,hp2,y1,y2,y3⟩:=hyield hc _ [.cells (dChoice cs[k]).cellsL] rfl
  simp at y1
  cases t with
  | true=>
   have hJ2:=y2 rfl
   simp [hlt,get_mid,set_mid,c1,c2,rTS_effh,gdD_b,y1,wrap_up hlt (by omega),hJ2]
  | false=>
   have hF:=y3 rfl
   simp [hlt,get_mid,set_mid,c1,c2,rTS_effh,gdD_b,y1,hF]
 have c3 : i < b.length:=by omega
 have e : b.getD i 0 = b[i]:=by rw [List.getD_eq_getElem?_getD,List.getElem?_eq_getElem c3,Option.getD_some]
 by_cases c4 : b[i] = (k : Int)
 ·have hc : cntB b g i k cs[k] = true:=by rw [hcnt,e]; simp [c1,c4]
  obtain ⟨t,hp2,y1,y2,y3⟩:=hyield hc _ [.cells (dChoice cs[k]).cellsL] rfl
  simp at y1
  cases t with
  | true=>
   have hJ2:=y2 rfl
   simp [hlt,get_mid,set_mid,c1,c2,c3,c4,rTS_effh,gdD_b,y1,wrap_up hlt (by omega),hJ2]
  | false=>
   have hF:=y3 rfl
   simp [hlt,get_mid,set_mid,c1,c2,c3,c4,rTS_effh,gdD_b,y1,hF]
 ·have hc : cntB b g i k cs[k] = false:=by rw [hcnt,e]; simp [c2,c4]
  have hs:=hskip hc [.cells (dChoice cs[k]).cellsL]
  simp [hlt,get_mid,set_mid,c1,c2,c3,c4,rTS_effh,gdD_b,wrap_up hlt (by omega)]
  exact hs

def chOf (s : Option ((Nat × Choice) × Int)) : Choice:=match s with
 | none=>⟨0,0,0,[]⟩
 | some (y,_)=>y.2
def okOf (s : Option ((Nat × Choice) × Int)) : Bool:=match s with
 | none=>false
 | some _=>true

def resM (s : Option ((Nat × Choice) × Int)) : D:=.tup [dChoice (chOf s),dI (leastOf s),.bool (okOf s)]

theorem r116 (p : Prob) (b : List Int) (g : Int) (m : List (List Int)) (q : Bool) (S : Small p) (hb : b.length <= 20) (ok : OkP p) (M : OkM p m) {i : Nat} (hi : i < p.vars.length) :
  runP E (dL E) 116 [.fn 124 [.iptr (dWork p b g m).cellsL,.iptr [dI i]],.fn 115 [.iptr [.bool q],.iptr (dVar p.vars[i]).cellsL,.iptr (dWork p b g m).cellsL]] =
   some (resM (bestK (costOf p m p.vars[i] (qI q)) (candL b g i 0 p.vars[i].choices))):=by
 refine runP_T c116 (by simp) ?_
 have okv:=ok.vars _ (List.getElem_mem hi)
 have l1:=S.leaves _ (List.getElem_mem hi)
 have l3:=S.uses _ (List.getElem_mem hi)
 have h115:=fun c (hc : c ∈ p.vars[i].choices)=>r115 p b g m p.vars[i] c q S ok M okv l1 hc l3
 have key0:=fun l J Fin=>i124 p b g m S hb hi l J Fin
 obtain ⟨f,hf⟩ : ∃ f,f = costOf p m p.vars[i] (qI q):=⟨_,rfl⟩
 simp only [<- hf] at h115 ⊢
 obtain ⟨B,hB⟩ : ∃ B,B = bestK f (candL b g i 0 p.vars[i].choices):=⟨_,rfl⟩
 rw [<- hB]
 unfold bestK at hB
 have hmem : ∀ x,x ∈ candL b g i 0 p.vars[i].choices -> x.2 ∈ p.vars[i].choices:=fun x hx=>(cand_mem hx).1
 obtain ⟨v,hv⟩ : ∃ v,v = p.vars[i]:=⟨_,rfl⟩
 simp only [<- hv] at hB h115 hmem key0 ⊢
 obtain ⟨WK,hWK⟩ : ∃ WK,WK = (dWork p b g m).cellsL:=⟨_,rfl⟩
 have hfz : frzL (frz [] 11) WK = some WK:=by rw [hWK]; simp [dWork]
 simp only [<- hWK] at h115 key0 ⊢
 clear hWK
 simp only [dChoice] at h115
 simp at h115
 simp [t116,n116]
 refine ⟨124,_,rfl,?_⟩
 intro L hL hcb
 obtain ⟨J,hJ⟩ : ∃ J : List (Nat × Choice) -> List Obj -> Prop,J = fun rem hp'=>∃ (s : Option ((Nat × Choice) × Int)) (sp : Spare) (h' : List Obj),
  hp' = .cells [.fn 115 [.iptr [.bool q],.iptr (dVar v).cellsL,.iptr WK]] :: .cells [dI (chOf s).delay,dI (chOf s).cost,dI (chOf s).changes,.imm sp ((chOf s).uses.map dUse)] :: .cells [dI (leastOf s)] :: .cells [.bool (okOf s)] :: h' /\
  At h' 0 (L false none) /\ rem.foldl (stepK f) s = B /\ (∀ x,x ∈ rem -> x.2 ∈ v.choices):=⟨_,rfl⟩
 have key:=key0 4 J (fun _=>False) (by
   rw [hJ]
   rintro rem hp' r ⟨s,sp,h',rfl,a1,a2⟩
   exact ⟨s,sp,h' ++ r,rfl,a1.app,a2⟩) (by
   intro x rem hp1 hj
   rw [hJ] at hj
   obtain ⟨s,sp,h',rfl,a1,a2,a3⟩:=hj
   have hx:=a3 x (by simp)
   have hcx:=h115 x.2 hx
   have hl1:=a1.lt
   have T1:=At.self (o:=L true none) hl1
   rw [List.foldl_cons] at a2
   have LU : ∀ r,(h'.set 0 (L true none) ++ r)[h'.length]? = r[0]?:=fun r=>by
    have:=get_app2 (hp:=h'.set 0 (L true none)) (r:=r) (k:=0)
    simpa using this
   obtain ⟨t,hp2,e1,e2⟩:=hcb [dChoice x.2] (.cells [.fn 115 [.iptr [.bool q],.iptr (dVar v).cellsL,.iptr WK]] :: .cells [dI (chOf s).delay,dI (chOf s).cost,dI (chOf s).changes,.imm sp ((chOf s).uses.map dUse)] :: .cells [dI (leastOf s)] :: .cells [.bool (okOf s)] :: h') (fun t hp'=>t = true /\ J rem hp') rfl (by simpa [At] using a1) (by
    have hA0 : ∀ (r : List Obj) (h : 0 < (h' ++ r).length),(h' ++ r)[0]'h = L false none:=fun r h=>by
     have:=a1.appE (r:=r)
     rw [List.getElem?_eq_getElem h] at this
     exact Option.some.inj this
    have hA1 : ∀ (r : List Obj) (h : 0 < (h'.set 0 (L true none) ++ r).length),(h'.set 0 (L true none) ++ r)[0]'h = L true none:=fun r h=>by
     have:=T1.appE (r:=r)
     rw [List.getElem?_eq_getElem h] at this
     exact Option.some.inj this
    cases s with
    | none=>
     simp only [stepK] at a2
     simp [setAll,set_app1 hl1,LU,hA0,hcx,hfz,okOf]
     refine ⟨hA1 _ _,?_⟩
     rw [set_app1 T1.lt,hJ]
     exact ⟨some (x,f x.2),.none,_,rfl,(At.self T1.lt).app,a2,fun z hz=>a3 z (by simp [hz])⟩
    | some y=>
     obtain ⟨y,n⟩:=y
     simp only [stepK] at a2
     by_cases hlt : f x.2 < n
     ·rw [if_pos hlt] at a2
      simp [setAll,set_app1 hl1,LU,hA0,hcx,hfz,okOf,leastOf,hlt]
      refine ⟨hA1 _ _,?_⟩
      rw [set_app1 T1.lt,hJ]
      exact ⟨some (x,f x.2),.none,_,rfl,(At.self T1.lt).app,a2,fun z hz=>a3 z (by simp [hz])⟩
     ·rw [if_neg hlt] at a2
      simp [setAll,set_app1 hl1,LU,hA0,hcx,hfz,okOf,leastOf,hlt]
      refine ⟨hA1 _ _,?_⟩
      rw [set_app1 T1.lt,hJ]
      exact ⟨some (y,n),sp,_,rfl,(At.self T1.lt).app,a2,fun z hz=>a3 z (by simp [hz])⟩)
   obtain ⟨rfl,e3⟩:=e2
   exact ⟨true,hp2,e1,fun _=>e3,fun h=>by cases h⟩) (hp:=.cells [.fn 115 [.iptr [.bool q],.iptr (dVar v).cellsL,.iptr WK]] :: .cells [dI 0,dI 0,dI 0,.imm .exact []] :: .cells [dI 0] :: .cells [.bool false] :: [L false none]) (by
   rw [hJ]
   exact ⟨none,.exact,_,rfl,rfl,hB.symm,hmem⟩)
 obtain ⟨d,hp',h1,h2⟩:=key
 rcases h2 with h2 | h2
 rotate_left
 ·exact h2.elim
 rw [hJ] at h2
 obtain ⟨s,sp,h',rfl,a1,a2,a3⟩:=h2
 simp only [List.foldl_nil] at a2
 subst a2
 refine ⟨d,_,h1,.inl ⟨a1,?_⟩⟩
 simp [chkT_cons,chkT_nil,chk1,did,idsNe,resM]

theorem ids_frz {hp hp' : List Obj} : ∀ (k : Nat) {d d' : D},frz hp k d = some d' -> ∀ n,ids hp' n d' = []:=by
 intro k
 induction k with
 | zero=>intro d d' h; simp [frz] at h
 | succ k ih=>
  have ihL : ∀ {l l' : List D},frzL (frz hp k) l = some l' -> ∀ n,l'.flatMap (ids hp' n) = []:=by
   intro l
   induction l with
   | nil=>intro l' h n; simp [frzL] at h; subst h; rfl
   | cons x l ihl=>
    intro l' h n
    rw [frzL_one] at h
    cases hx : frz hp k x with
    | none=>rw [hx] at h; cases h
    | some x'=>
     rw [hx] at h
     simp only [ob_some] at h
     cases hl : frzL (frz hp k) l with
     | none=>rw [hl] at h; cases h
     | some r=>
      rw [hl] at h
      simp only [ob_some,Option.some.injEq] at h
      subst h
      rw [List.flatMap_cons,ih hx n,ihl hl n]; rfl
  have mapI : ∀ {l : List D} {g : List D -> D} {d' : D},(frzL (frz hp k) l).map g = some d' -> ∃ l',d' = g l' /\ ∀ n,l'.flatMap (ids hp' n) = []:=by
   intro l g d' h
   cases hl : frzL (frz hp k) l with
   | none=>rw [hl] at h; cases h
   | some r=>
    rw [hl] at h
    simp only [Option.map_some,Option.some.injEq] at h
    exact ⟨r,h.symm,ihL hl⟩
  intro d d' h n
  cases n with
  | zero=>rfl
  | succ n=>
   cases d with
   | undef=>simp [frz] at h
   | bool b=>simp [frz] at h; subst h; rfl
   | int _ _=>simp [frz] at h; subst h; rfl
   | str _=>simp [frz] at h; subst h; rfl
   | nilp=>simp [frz] at h; subst h; rfl
   | nilfn=>simp [frz] at h; subst h; rfl
   | yld _=>simp [frz] at h
   | map m=>cases m <;> simp [frz] at h; subst h; rfl
   | imm sp els=>obtain ⟨l',rfl,h1⟩:=mapI (g:=.imm .none) h; exact h1 n
   | agg els=>obtain ⟨l',rfl,h1⟩:=mapI (g:=.agg) h; exact h1 n
   | tup els=>obtain ⟨l',rfl,h1⟩:=mapI (g:=.tup) h; exact h1 n
   | fn f els=>obtain ⟨l',rfl,h1⟩:=mapI (g:=.fn f) h; exact h1 n
   | iptr els=>obtain ⟨l',rfl,h1⟩:=mapI (g:=.iptr) h; exact h1 n
   | sl id off len sz ag gr=>
    simp only [frz] at h
    split at h
    ·split at h
     ·obtain ⟨l',rfl,h1⟩:=mapI (g:=.imm .none) h; exact h1 n
     ·cases h
    ·cases h
   | loc id off=>
    simp only [frz] at h
    split at h
    ·obtain ⟨l',rfl,h1⟩:=mapI (g:=.iptr) h; exact h1 n
    ·cases h

theorem ids_pure {hp : List Obj} {n : Nat} {d : D} (h : frz [] 12 d = some d) : ids hp n d = []:=ids_frz 12 h n

theorem freeze1_other {hp : List Obj} {i j : Nat} (h : j ≠ i) : (freeze1 hp j)[i]? = hp[i]?:=by
 unfold freeze1
 split
 ·rw [List.getElem?_set_ne h]
 ·rfl
theorem freezeAll_other {i : Nat} : ∀ {l : List Nat} {hp : List Obj},i ∉ l -> (freezeAll hp l)[i]? = hp[i]?
 | [],_,_=>rfl
 | j :: l,hp,h=>by
  simp only [List.mem_cons,not_or] at h
  show (freezeAll (freeze1 hp j) l)[i]? = hp[i]?
  rw [freezeAll_other h.2,freeze1_other (Ne.symm h.1)]

theorem ids_loc {hp : List Obj} {n id : Nat} {cs : List D} (h : rowOf hp id = some cs) (hc : ∀ c,c ∈ cs -> frz [] 12 c = some c) : ids hp (n + 1) (.loc id 0) = [id]:=by
 simp only [ids,h,List.drop_zero]
 have : cs.flatMap (ids hp n) = []:=by
  rw [List.flatMap_eq_nil_iff]
  intro c hcm
  exact ids_pure (hc c hcm)
 rw [this]

theorem r97 (p : Prob) (b : List Int) (g : Int) (m : List (List Int)) (q : Bool) (S : Small p) (hb : b.length <= 20) (ok : OkP p) (M : OkM p m) {i : Nat} (hi : i < p.vars.length) :
  runP E (dL E) 97 [dWork p b g m,dI i,.bool q] = some (resM (bestK (costOf p m p.vars[i] (qI q)) (candL b g i 0 p.vars[i].choices))):=by
 refine runP_T c97 (by simp) ?_
 have h114:=r114 p b g m i
 have h116:=r116 p b g m q S hb ok M hi
 obtain ⟨B,hB⟩ : ∃ B,B = bestK (costOf p m p.vars[i] (qI q)) (candL b g i 0 p.vars[i].choices):=⟨_,rfl⟩
 rw [<- hB] at h116 ⊢
 simp only [dWork] at h114 h116
 simp at h114 h116
 simp [t97,n97,hi,h114,h116,resM]
 generalize hF : freezeAll _ _ = F
 have hF2 : F[2]? = some (.cells [.int .i64 0,.int .i64 0,.int .i64 0,.imm .exact []]):=by
  rw [<- hF,freezeAll_other]
  ·rfl
  ·rw [List.mem_append,not_or]
   refine ⟨?_,?_⟩
   ·rw [ids_pure (by simp)]; simp
   ·show 2 ∉ ([D.loc 1 0,.loc 3 0,.loc 0 0]).flatMap (ids _ 11)
    simp only [List.flatMap_cons,List.flatMap_nil]
    rw [ids_loc (cs:=[.bool q]) rfl (fun c hc=>by simp at hc; subst hc; rfl),ids_loc (cs:=(dVar p.vars[i]).cellsL) rfl (fun c hc=>by
     simp at hc
     rcases hc with rfl | rfl | rfl | rfl <;> simp),ids_loc (cs:=(dWork p b g m).cellsL) rfl (fun c hc=>by
     simp at hc
     rcases hc with rfl | rfl | rfl | rfl | rfl | rfl <;> simp)]
    simp
 have hF2l:=lt_get hF2
 simp [↓hF2,hF2l,↓get_set1]

theorem r90 (p : Prob) (b : List Int) (g : Int) (m : List (List Int)) (q : Bool) (S : Small p) (hb : b.length <= 20) (ok : OkP p) (M : OkM p m) :
  runP E (dL E) 90 [dWork p b g m,.bool q] = some (resS (sumD p b g m (qI q))):=by
 refine runP_T c90 (by simp) ?_
 have s1:=S.cells
 have s2:=S.cap
 have s3:=S.vars
 have m1:=M.len
 have hq : qI q = 0 \/ qI q = 1:=by cases q <;> simp [qI]
 have hrows : ∀ l,l ∈ m -> l.length <= 12 /\ ∀ x,x ∈ l -> 0 <= x /\ x <= 65536:=fun l hl=>by
  obtain ⟨a1,a2⟩:=M.rows l hl
  exact ⟨by omega,a2⟩
 have hcaps : ∀ l,l ∈ p.capacity -> ∀ x,x ∈ l -> 0 <= x /\ x <= 4096:=fun l hl x hx=>(ok.cap l hl).2 x hx |> fun h=>by unfold wi at h; omega
 have hdot:=dotL_bd hrows hcaps
 unfold sumD
 obtain ⟨T,hT⟩ : ∃ T,T = dotL m p.capacity:=⟨_,rfl⟩
 rw [<- hT] at hdot ⊢
 obtain ⟨R,hR⟩ : ∃ R,R = (sumV p b g m (qI q) 0 p.vars).map (-T + ·):=⟨_,rfl⟩
 rw [<- hR]
 simp [t90,n90,dWork]
 refine wT_up m.length (fun i env hp=>∃ (x5 x6 x7 x8 x9 x10 x11 x12 x16 x17 x18 x19 x20 x21 x22 x23 x24 x25 : D) (n : Int) (h : List Obj),env = [dWork p b g m,.bool q,.loc 0 0,dI n,.bool false,x5,x6,x7,x8,x9,x10,x11,x12,.imm .none (m.map dInts),dI m.length,dI i,x16,x17,x18,x19,x20,x21,x22,x23,x24,x25] /\
  hp = .cells (dWork p b g m).cellsL :: h /\ -T <= n /\ n <= 0 /\ n - dotL (m.drop i) (p.capacity.drop i) = -T) 0 (by omega) ⟨_,_,_,_,_,_,_,_,_,_,_,_,_,_,_,_,_,_,0,_,rfl,rfl,by omega,by omega,by simp [hT]⟩ ?_
 rintro i env hp hi ⟨x5,x6,x7,x8,x9,x10,x11,x12,x16,x17,x18,x19,x20,x21,x22,x23,x24,x25,n,h,rfl,rfl,hn0,hn1,hn⟩
 by_cases hlt : i < m.length
 ·have hic : i < p.capacity.length:=by omega
  rw [drop_cons hlt,drop_cons hic] at hn
  simp only [dotL] at hn
  have hrest:=dotL_bd (a:=m.drop (i + 1)) (b:=p.capacity.drop (i + 1)) (fun l hl=>hrows l (List.mem_of_mem_drop hl)) (fun l hl=>hcaps l (List.mem_of_mem_drop hl))
  obtain ⟨W,hW⟩ : ∃ W,W = dotL (m.drop (i + 1)) (p.capacity.drop (i + 1)):=⟨_,rfl⟩
  rw [<- hW] at hn hrest
  have hrm:=(M.rows _ (List.getElem_mem hlt)).1
  have hrc:=(ok.cap _ (List.getElem_mem hic)).1
  simp [hlt]
  refine wT_up m[i].length (fun k env hp=>∃ (x6 x7 x8 x9 x10 x11 x12 x16 x20 x21 x22 x23 x24 x25 : D) (n : Int) (h : List Obj),env = [dWork p b g m,.bool q,.loc 0 0,dI n,.bool false,dI i,x6,x7,x8,x9,x10,x11,x12,.imm .none (m.map dInts),dI m.length,dI i,x16,dInts m[i],dI m[i].length,dI k,x20,x21,x22,x23,x24,x25] /\
   hp = .cells (dWork p b g m).cellsL :: h /\ -T <= n /\ n <= 0 /\ n - (dotR (m[i].drop k) (p.capacity[i].drop k) + W) = -T) 0 (by omega) ⟨_,_,_,_,_,_,_,_,_,_,_,_,_,_,n,_,rfl,rfl,hn0,hn1,by simpa using hn⟩ ?_
  rintro k env hp hk ⟨x6,x7,x8,x9,x10,x11,x12,x16,x20,x21,x22,x23,x24,x25,n,h,rfl,rfl,hn0,hn1,hn⟩
  by_cases hlt2 : k < m[i].length
  ·have hkc : k < p.capacity[i].length:=by omega
   rw [drop_cons hlt2,drop_cons hkc] at hn
   simp only [dotR] at hn
   have hr2:=dotR_bd (a:=m[i].drop (k + 1)) (b:=p.capacity[i].drop (k + 1)) (fun x hx=>(hrows _ (List.getElem_mem hlt)).2 x (List.mem_of_mem_drop hx)) (fun x hx=>hcaps _ (List.getElem_mem hic) x (List.mem_of_mem_drop hx))
   have hmc:=mulC ((hrows _ (List.getElem_mem hlt)).2 _ (List.getElem_mem hlt2)) (hcaps _ (List.getElem_mem hic) _ (List.getElem_mem hkc))
   obtain ⟨X,hX⟩ : ∃ X,X = m[i][k] * p.capacity[i][k]:=⟨_,rfl⟩
   rw [<- hX] at hn hmc
   have w1:=wrap_i64 (n:=X) ⟨by omega,by omega⟩
   have w2:=wrap_i64 (n:=n - X) ⟨by omega,by omega⟩
   simp [hlt2,hic,hkc,<- hX,w1,w2,wrap_up hlt2 (by omega)]
   exact ⟨_,_,_,_,_,_,_,_,_,_,_,_,_,_,_,⟨rfl,rfl,rfl,rfl,rfl,rfl,rfl,rfl,rfl,rfl,rfl,rfl,rfl,rfl,rfl⟩,by omega,by omega,by omega⟩
  ·have : k = m[i].length:=by omega
   subst this
   have e : p.capacity[i].drop m[i].length = []:=by rw [hrm,<- hrc,List.drop_length]
   rw [List.drop_length] at hn
   simp only [dotR,Int.zero_add] at hn
   simp [hlt,wrap_up hlt (by omega)]
   exact ⟨_,_,_,_,_,_,_,_,_,_,_,_,_,_,_,_,_,_,n,⟨rfl,rfl,rfl,rfl,rfl,rfl,rfl,rfl,rfl,rfl,rfl,rfl,rfl,rfl,rfl,rfl,rfl,rfl,rfl⟩,hn0,hn1,by rw [<- hW]; exact hn⟩
 have hi2 : i = m.length:=by omega
 subst hi2
 rw [List.drop_length] at hn
 simp only [dotL] at hn
 have hnT : n = -T:=by omega
 subst hnT
 simp
 refine wT_up p.vars.length (fun i env hp=>∃ (x5 x6 x7 x8 x9 x10 x11 x12 x13 x14 x15 x16 x17 x18 x19 x20 x23 x24 x25 : D) (n : Int) (h : List Obj),env = [dWork p b g m,.bool q,.loc 0 0,dI n,.bool false,x5,x6,x7,x8,x9,x10,x11,x12,x13,x14,x15,x16,x17,x18,x19,x20,dI p.vars.length,dI i,x23,x24,x25] /\
  hp = .cells (dWork p b g m).cellsL :: h /\ -20000000000 <= n /\ n <= 60000000 * i /\ (sumV p b g m (qI q) i (p.vars.drop i)).map (n + ·) = R) 0 (by omega) ⟨_,_,_,_,_,_,_,_,_,_,_,_,_,_,_,_,_,_,_,-T,_,rfl,rfl,by omega,by omega,by simpa using hR.symm⟩ ?_
 rintro i env hp hi ⟨x5,x6,x7,x8,x9,x10,x11,x12,x13,x14,x15,x16,x17,x18,x19,x20,x23,x24,x25,n,h,rfl,rfl,hn0,hn1,hnR⟩
 by_cases hlt : i < p.vars.length
 rotate_left
 ·have : i = p.vars.length:=by omega
  subst this
  rw [List.drop_length] at hnR
  simp only [sumV,Option.map_some,Int.add_zero] at hnR
  subst hnR
  simp [resS]
 rw [drop_cons hlt] at hnR
 simp only [sumV] at hnR
 have h97:=r97 p b g m q S hb ok M hlt
 cases hbest : bestK (costOf p m p.vars[i] (qI q)) (candL b g i 0 p.vars[i].choices) with
 | none=>
  rw [hbest] at hnR h97
  simp only [Option.map_none] at hnR
  subst hnR
  simp only [dWork,resM,chOf,leastOf,okOf] at h97
  simp at h97
  simp [hlt,h97,resS]
 | some y=>
  obtain ⟨y,N⟩:=y
  rw [hbest] at hnR h97
  simp only [Option.map_map] at hnR
  obtain ⟨e1,e2,e3,e4⟩:=bestK_mem hbest
  have okv:=ok.vars _ (List.getElem_mem hlt)
  have hcb:=costOf_bd M okv (S.leaves _ (List.getElem_mem hlt)) (S.uses _ (List.getElem_mem hlt)) hq e2
  rw [<- e1] at hcb
  have w1:=wrap_i64 (n:=n + N) ⟨by omega,by omega⟩
  simp only [dWork,resM,chOf,leastOf,okOf] at h97
  simp at h97
  simp [hlt,h97,w1,wrap_up hlt (by omega)]
  refine ⟨_,_,_,_,_,_,_,_,_,_,_,_,_,_,_,_,_,_,_,n + N,⟨rfl,rfl,rfl,rfl,rfl,rfl,rfl,rfl,rfl,rfl,rfl,rfl,rfl,rfl,rfl,rfl,rfl,rfl,rfl,rfl⟩,by omega,by omega,?_⟩
  rw [<- hnR]
  congr 1
  funext z
  simp only [Function.comp]
  omega

theorem r37 (p : Prob) (b : List Int) (g : Int) (m : List (List Int)) (S : Small p) (hb : b.length <= 20) (SM : SmallM m) : runP E (dL E) 37 [dProb p,dInts b,dI g,.imm .none (m.map dInts)] = some (resDB p b g m):=by
 refine runP_T c37 (by simp) ?_
 have h89:=r89 p b m S hb SM
 simp only [dProb,dInts] at h89
 simp [t37,n37,h89]
 by_cases h0 : dk p b m = 0
 rotate_left
 ·simp [h0,resDB]
 obtain ⟨ok,M,okb⟩:=dk_ok h0
 have h90:=r90 p b g m true S hb ok M
 simp only [dWork,dProb,dInts,qI,if_true] at h90
 have hr : resDB p b g m = (match sumD p b g m 1 with
  | none=>.tup [dI 0,.bool false,dI 0]
  | some n=>.tup [dI n,.bool true,dI 0]):=by unfold resDB; rw [if_pos h0]; cases sumD p b g m 1 <;> rfl
 rw [hr]
 cases hs : sumD p b g m 1 with
 | none=>
  rw [hs] at h90
  simp only [resS] at h90
  simp [h0,h90]
 | some n=>
  rw [hs] at h90
  simp only [resS] at h90
  simp [h0,h90]

theorem r39 (p : Prob) (b : List Int) (g : Int) (m : List (List Int)) (S : Small p) (hb : b.length <= 20) (SM : SmallM m) : runP E (dL E) 39 [dProb p,dInts b,dI g,.imm .none (m.map dInts)] = some (resDP p b g m):=by
 refine runP_T c39 (by simp) ?_
 have h89:=r89 p b m S hb SM
 simp only [dProb,dInts] at h89
 simp [t39,n39,h89]
 by_cases h0 : dk p b m = 0
 rotate_left
 ·simp [h0,resDP]
 obtain ⟨ok,M,okb⟩:=dk_ok h0
 have h90:=r90 p b g m false S hb ok M
 simp only [dWork,dProb,dInts,qI,Bool.false_eq_true,if_false] at h90
 have hr : resDP p b g m = .tup [.bool (provD (sumD p b g m 0)),dI 0]:=by unfold resDP; rw [if_pos h0]
 rw [hr]
 cases hs : sumD p b g m 0 with
 | none=>
  rw [hs] at h90
  simp only [resS] at h90
  simp [h0,h90,provD]
 | some n=>
  rw [hs] at h90
  simp only [resS] at h90
  simp [h0,h90,provD]

end Dv

namespace Dv


def wholeOk (p : Prob) (best : List Int) (b : List Int) : Prop:=Whole p b /\ ¬ betterI p b best < 0
def boundOk (p : Prob) (best : List Int) (b : List Int) : Prop:=OkB p b /\ (0 < cmpL (boundL p b) (boundL p best) \/ cmpL (boundL p b) (boundL p best) = 0 /\ 0 <= cmpL (firstL p b) best)
def dualOk (p : Prob) (best : List Int) (b : List Int) (m : List (List Int)) : Prop:=
 OkB p b /\ ov p best = 0 /\ (boundL p best).getD 1 0 <= (boundL p b).getD 1 0 /\ dk p b m = 0 /\
 (provD (sumD p b ((boundL p best).getD 1 0) m 0) = true \/ ∃ n,sumD p b ((boundL p best).getD 1 0) m 1 = some n /\ (boundL p best).getD 2 0 < n)

def leafOk (p : Prob) (best : List Int) (l : Leaf) : Prop:=
 l.kind = 1 /\ wholeOk p best l.branch \/ l.kind = 2 /\ boundOk p best l.branch \/ l.kind = 3 /\ dualOk p best l.branch l.mult

theorem first_pre {p : Prob} {b x : List Int} (hx : Whole p x) (h : b <+: x) : cmpL (firstL p b) x <= 0:=by
 obtain ⟨u,rfl⟩:=h
 have h1:=first_below hx (k:=b.length) (by simp)
 have hl:=hx.2.2
 rw [List.take_left' rfl] at h1
 exact cmpL_below (by rw [hl]; simp [firstL]; rw [List.length_append] at hl; omega) h1

theorem maxD_le : ∀ {l : List (Int × Choice)} {a g : Int},maxD a l <= g -> ∀ y,y ∈ l -> y.2.delay <= g
 | [],_,_,_,y,hy=>by cases hy
 | z :: l,a,g,h,y,hy=>by
  rw [maxD_cons] at h
  rcases List.mem_cons.1 hy with rfl | hy
  ·exact Int.le_trans (Int.le_trans (by unfold mx; split <;> omega) maxD_ge) h
  ·exact maxD_le h y hy
theorem picks_get : ∀ {vs : List Var} {b : List Int} {i : Nat} (h : i < vs.length) (h' : i < b.length),((vs[i].leaves.length : Int),vs[i].choices.getD b[i].toNat ⟨0,0,0,[]⟩) ∈ picks vs b
 | v :: vs,n :: b,0,_,_=>by simp [picks,pick]
 | v :: vs,n :: b,i + 1,h,h'=>by
  have:=picks_get (vs:=vs) (b:=b) (i:=i) (by simpa using h) (by simpa using h')
  simp only [picks,List.tail_cons,List.getElem_cons_succ]
  exact List.mem_cons_of_mem _ this

theorem cmp4 {a b c d a' b' c' d' : Int} (h : cmpL [a,b,c,d] [a',b',c',d'] <= 0) : a <= a' /\ (a = a' -> b <= b' /\ (b = b' -> c <= c')):=by
 simp only [cmpL] at h
 have e1 : ∀ x y : Int,cmpI x y = 0 ↔ x = y:=fun x y=>cmpI_zero
 have e2 : ∀ x y : Int,cmpI x y < 0 ↔ x < y:=fun x y=>cmpI_lt
 by_cases h1 : cmpI a a' = 0
 ·rw [if_pos h1] at h
  have:=(e1 _ _).1 h1
  refine ⟨by omega,fun _=>?_⟩
  by_cases h2 : cmpI b b' = 0
  ·rw [if_pos h2] at h
   have:=(e1 _ _).1 h2
   refine ⟨by omega,fun _=>?_⟩
   by_cases h3 : cmpI c c' = 0
   ·have:=(e1 _ _).1 h3; omega
   ·rw [if_neg h3] at h
    have:=(e2 c c').1 (by omega); omega
  ·rw [if_neg h2] at h
   have:=(e2 b b').1 (by omega)
   exact ⟨by omega,fun e=>by omega⟩
 ·rw [if_neg h1] at h
  have:=(e2 a a').1 (by omega)
  exact ⟨by omega,fun e=>by omega⟩

theorem leaf_proves {p : Prob} (S : Small p) {best x : List Int} (hb : Whole p best) (hx : Whole p x) {l : Leaf} (h : leafOk p best l) (hp : l.branch <+: x) : 0 <= betterI p x best:=by
 have h4:=bound_pre S hx hp
 rcases h with ⟨_,w,h⟩ | ⟨_,okb,h⟩ | ⟨_,okb,h0,h1,hk,h2⟩
 ·rw [<- pre_whole hx w.2.2 hp]; omega
 ·rcases h with h | ⟨h,hf⟩
  ·have h5 : cmpL (boundL p best) (boundL p l.branch) < 0:=by rw [cmpL_anti]; omega
   have h6 : cmpL (boundL p best) (boundL p x) < 0:=by
    by_cases e : cmpL (boundL p l.branch) (boundL p x) = 0
    ·rw [<- (cmpL_zero (a:=boundL p l.branch) (b:=boundL p x) rfl).1 e]; exact h5
    ·exact cmpL_trans h5 (by omega)
   have h7 : 0 < cmpL (boundL p x) (boundL p best):=by rw [cmpL_anti]; omega
   unfold betterI
   rw [if_neg (by omega)]; omega
  ·have e:=(cmpL_zero (a:=boundL p l.branch) (b:=boundL p best) rfl).1 h
   rw [e] at h4
   have h7 : 0 <= cmpL (boundL p x) (boundL p best):=by rw [cmpL_anti]; omega
   unfold betterI
   split
   ·have h8:=first_pre hx hp
    have h9 : cmpL best (firstL p l.branch) <= 0:=by rw [cmpL_anti]; omega
    have hlf : (firstL p l.branch).length = p.vars.length:=by have:=okb.len; simp [firstL]; omega
    have:=cmpL_le (a:=best) (b:=firstL p l.branch) (c:=x) (hb.2.2.trans hlf.symm) (hlf.trans hx.2.2.symm) h9 h8
    rw [cmpL_anti]; omega
   ·exact h7
 ·refine Int.not_lt.1 fun hlt=>?_
  have h5 : cmpL (boundL p x) (boundL p best) <= 0:=by
   unfold betterI at hlt
   split at hlt <;> omega
  unfold boundL at h5 h4 h1 h2
  simp only [List.getD_cons_succ,List.getD_cons_zero] at h1 h2
  obtain ⟨a1,a2⟩:=cmp4 h5
  have hox : 0 <= ov p x:=ovL_pos
  obtain ⟨a3,a4⟩:=a2 (by omega)
  have hbl : maxD 0 (picks p.vars l.branch) <= maxD 0 (picks p.vars x):=by
   obtain ⟨u,hu⟩:=hp
   have:=bound_le S hx u.length l.branch.length (by rw [<- hu]; simp) 1
   rw [<- hu,List.take_left' rfl,hu] at this
   simpa [boundL] using this
  have a5:=a4 (by omega)
  have hkeep : Keeps p l.branch (maxD 0 (picks p.vars best)) x:=by
   refine ⟨hx,by omega,hp.length_le,fun i h h'=>?_,fun i h h'=>?_⟩
   ·obtain ⟨u,rfl⟩:=hp
    rw [List.getElem_append_left h]
   ·exact maxD_le a3 _ (picks_get h h')
  obtain ⟨_,M,_⟩:=dk_ok hk
  rcases h2 with h2 | ⟨n,h2,hn⟩
  ·obtain ⟨k,e,hk0⟩:=weak (q:=0) S M hkeep
   rw [e] at h2
   simp only [provD,decide_eq_true_eq] at h2
   omega
  ·obtain ⟨k,e,hk1⟩:=weak (q:=1) S M hkeep
   rw [e] at h2
   have:=Option.some.inj h2
   omega


def cntB' (l : List (List Int)) (x : List Int) : Nat:=l.countP fun b=>b.isPrefixOf x

def divD (p : Prob) : Nat -> Nat -> List (List Int) -> Bool
 | 0,_,_=>false
 | f + 1,depth,l=>if l.any (fun b=>decide (b.length = depth)) then decide (l.length = 1) else if l.isEmpty then false else
   (List.range (p.vars.getD depth ⟨0,0,[],[]⟩).choices.length).all fun k=>divD p f (depth + 1) (l.filter fun b=>decide (b.getD depth 0 = (k : Int)))

theorem filter_cnt {depth : Nat} {x : List Int} : ∀ {l : List (List Int)},(∀ b,b ∈ l -> depth < b.length) -> depth < x.length -> cntB' (l.filter fun b=>decide (b.getD depth 0 = x.getD depth 0)) x = cntB' l x
 | [],_,_=>rfl
 | b :: l,h,hx=>by
  have ih:=filter_cnt (l:=l) (fun c hc=>h c (by simp [hc])) hx
  unfold cntB' at ih ⊢
  have hb:=h b (by simp)
  by_cases e : b.getD depth 0 = x.getD depth 0
  ·rw [List.filter_cons_of_pos (by simpa using e),List.countP_cons,List.countP_cons,ih]
  ·rw [List.filter_cons_of_neg (by simpa using e),List.countP_cons,ih]
   have : b.isPrefixOf x = false:=by
    cases hh : b.isPrefixOf x with
    | false=>rfl
    | true=>
     obtain ⟨u,rfl⟩:=isPre.1 hh
     exact absurd (by simp only [List.getD_eq_getElem?_getD]; rw [List.getElem?_append_left hb]) e
   rw [this]; simp

theorem div_one {p : Prob} {x : List Int} (hx : Whole p x) : ∀ {f depth : Nat} {l : List (List Int)},(∀ b,b ∈ l -> OkB p b /\ depth <= b.length /\ b.take depth = x.take depth) -> divD p f depth l = true -> cntB' l x = 1
 | 0,_,_,_,h=>by simp [divD] at h
 | f + 1,depth,l,hl,h=>by
  unfold divD at h
  by_cases hd : l.any (fun b=>decide (b.length = depth)) = true
  ·rw [if_pos hd] at h
   simp only [decide_eq_true_eq] at h
   obtain ⟨b,hb,hbd⟩:=List.any_eq_true.1 hd
   match l,h,hb with
   | [c],_,hb=>
    rw [List.mem_singleton.1 hb] at hbd
    simp only [decide_eq_true_eq] at hbd
    have h3:=(hl c (by simp)).2.2
    rw [List.take_of_length_le (by omega)] at h3
    unfold cntB'
    rw [List.countP_singleton,if_pos (isPre.2 (by rw [h3]; exact List.take_prefix _ _))]
  ·rw [if_neg hd] at h
   by_cases he : l.isEmpty = true
   ·rw [if_pos he] at h; cases h
   ·rw [if_neg he,List.all_eq_true] at h
    have hgt : ∀ b,b ∈ l -> depth < b.length:=fun b hb=>by
     have h1:=(hl b hb).2.1
     have h2 : b.length ≠ depth:=fun e=>hd (List.any_eq_true.2 ⟨b,hb,by simp [e]⟩)
     omega
    have hne : l ≠ []:=fun e=>he (by rw [e]; rfl)
    obtain ⟨b0,hb0⟩:=List.exists_mem_of_ne_nil l hne
    have hdv : depth < p.vars.length:=by have:=hgt b0 hb0; have:=(hl b0 hb0).1.len; omega
    have hdx : depth < x.length:=by rw [hx.2.2]; exact hdv
    rw [getD_lt hdv] at h
    have hw:=hx.2.1.each depth hdx hdv
    unfold wi at hw
    have hxd : x.getD depth 0 = x[depth]:=by rw [List.getD_eq_getElem?_getD,List.getElem?_eq_getElem hdx,Option.getD_some]
    have hk:=h x[depth].toNat (List.mem_range.2 (by omega))
    have hcast : ((x[depth].toNat : Nat) : Int) = x.getD depth 0:=by rw [hxd]; omega
    rw [hcast] at hk
    rw [<- filter_cnt hgt hdx]
    refine div_one hx (fun b hb=>?_) hk
    rw [List.mem_filter] at hb
    obtain ⟨hb,hbe⟩:=hb
    simp only [decide_eq_true_eq] at hbe
    obtain ⟨h1,h2,h3⟩:=hl b hb
    have hbl:=hgt b hb
    refine ⟨h1,hbl,?_⟩
    rw [List.take_succ_eq_append_getElem hbl,List.take_succ_eq_append_getElem hdx,h3]
    rw [hxd,List.getD_eq_getElem?_getD,List.getElem?_eq_getElem hbl,Option.getD_some] at hbe
    rw [hbe]
theorem div_top {p : Prob} {x : List Int} (hx : Whole p x) {f : Nat} {l : List (List Int)} (hl : ∀ b,b ∈ l -> OkB p b) (h : divD p f 0 l = true) : cntB' l x = 1:=
 div_one hx (fun b hb=>⟨hl b hb,by omega,by simp⟩) h

theorem cert_proves {p : Prob} (S : Small p) {best : List Int} (hb : Whole p best) {ls : List Leaf} {f : Nat} (hl : ∀ l,l ∈ ls -> leafOk p best l /\ OkB p l.branch) (hd : divD p f 0 (ls.map (·.branch)) = true) {x : List Int} (hx : Whole p x) : 0 <= betterI p x best:=by
 have h1:=div_top hx (fun b hb=>by
  obtain ⟨l,hl',rfl⟩:=List.mem_map.1 hb
  exact (hl l hl').2) hd
 have h2 : 0 < cntB' (ls.map (·.branch)) x:=by omega
 obtain ⟨b,hbm,hbp⟩:=List.countP_pos_iff.1 h2
 obtain ⟨l,hlm,rfl⟩:=List.mem_map.1 hbm
 exact leaf_proves S hb hx (hl l hlm).1 (isPre.1 hbp)

end Dv

namespace Dv

structure RepS where
 best : List Int
 value : List Int
 known : Bool
 leaves : List Leaf

open Classical in
noncomputable def betR (p : Prob) (x : List Int) (s : RepS) : RepS:=
 if Whole p x /\ (s.known = false \/ cmpL (boundL p x) s.value < 0 \/ cmpL (boundL p x) s.value = 0 /\ cmpL x s.best < 0) then ⟨x,boundL p x,true,s.leaves⟩ else s
def worse (p : Prob) (b : List Int) (s : RepS) : Bool:=if cmpL (boundL p b) s.value = 0 then decide (0 <= cmpL (firstL p b) s.best) else decide (0 < cmpL (boundL p b) s.value)
def addL (s : RepS) (b : List Int) (k : Int) : RepS:=⟨s.best,s.value,s.known,s.leaves ++ [⟨b,k,[]⟩]⟩

noncomputable def exR (p : Prob) : Nat -> List Int -> RepS -> RepS
 | 0,_,s=>s
 | f + 1,b,s=>if b.length = p.vars.length then addL (betR p b s) b 1 else if (s.known && worse p b s) = true then addL s b 2 else (nextL p b).foldl (fun s x=>exR p f x s) s

def okRep (p : Prob) (s : RepS) : Prop:=s.known = true -> Whole p s.best /\ s.value = boundL p s.best
def leRep (p : Prob) (t s : RepS) : Prop:=s.known = true -> t.known = true /\ betterI p t.best s.best <= 0

theorem leRep_refl {p : Prob} {s : RepS} : leRep p s s:=fun h=>⟨h,by rw [(better_zero rfl).2 rfl]; exact Int.le_refl _⟩
theorem leRep_trans {p : Prob} {s t u : RepS} (hs : okRep p s) (ht : okRep p t) (hu : okRep p u) (h1 : leRep p t s) (h2 : leRep p u t) : leRep p u s:=fun h=>by
 obtain ⟨a1,a2⟩:=h1 h
 obtain ⟨b1,b2⟩:=h2 a1
 exact ⟨b1,better_le ((hu b1).1.2.2.trans (ht a1).1.2.2.symm) ((ht a1).1.2.2.trans (hs h).1.2.2.symm) b2 a2⟩

theorem betR_ok {p : Prob} {x : List Int} {s : RepS} (h : okRep p s) : okRep p (betR p x s):=by
 unfold betR
 split
 ·rename_i hc; exact fun _=>⟨hc.1,rfl⟩
 ·exact h
theorem betR_le {p : Prob} {x : List Int} {s : RepS} (h : okRep p s) : leRep p (betR p x s) s:=by
 unfold betR
 split
 ·rename_i hc
  intro hk
  refine ⟨rfl,?_⟩
  obtain ⟨w,e⟩:=h hk
  rcases hc.2 with h1 | h1 | ⟨h1,h2⟩
  ·rw [hk] at h1; cases h1
  ·rw [e] at h1
   unfold betterI
   simp only []
   rw [if_neg (by omega)]; omega
  ·rw [e] at h1
   unfold betterI
   simp only []
   rw [if_pos h1]; omega
 ·exact leRep_refl
theorem betR_dom {p : Prob} {x : List Int} {s : RepS} (h : okRep p s) (hx : Whole p x) : (betR p x s).known = true /\ betterI p (betR p x s).best x <= 0:=by
 unfold betR
 split
 ·exact ⟨rfl,by rw [(better_zero rfl).2 rfl]; exact Int.le_refl _⟩
 ·rename_i hc
  have hk : s.known = true:=by
   cases hk : s.known with
   | true=>rfl
   | false=>exact absurd ⟨hx,.inl hk⟩ hc
  obtain ⟨w,e⟩:=h hk
  refine ⟨hk,?_⟩
  have h1 : ¬ cmpL (boundL p x) s.value < 0:=fun h1=>hc ⟨hx,.inr (.inl h1)⟩
  rw [e] at h1 hc
  rw [better_anti]
  unfold betterI
  split
  ·rename_i h2
   have : ¬ cmpL x s.best < 0:=fun h3=>hc ⟨hx,.inr (.inr ⟨h2,h3⟩)⟩
   omega
  ·omega
theorem betR_leaves {p : Prob} {x : List Int} {s : RepS} : (betR p x s).leaves = s.leaves:=by unfold betR; split <;> rfl

theorem leaf_mono {p : Prob} {b : List Int} {best best' : List Int} (w : Whole p best) (w' : Whole p best') (h : betterI p best' best <= 0) {l : Leaf} (hl : l.kind = 1 /\ wholeOk p best l.branch \/ l.kind = 2 /\ boundOk p best l.branch) :
  l.kind = 1 /\ wholeOk p best' l.branch \/ l.kind = 2 /\ boundOk p best' l.branch:=by
 rcases hl with ⟨k,wl,h1⟩ | ⟨k,okb,h1⟩
 ·refine .inl ⟨k,wl,fun h2=>?_⟩
  have h3 : betterI p best l.branch <= 0:=by rw [better_anti]; omega
  have h4:=better_le (w'.2.2.trans w.2.2.symm) (w.2.2.trans wl.2.2.symm) h h3
  rw [better_anti] at h4; omega
 ·refine .inr ⟨k,okb,?_⟩
  have hlf : (firstL p l.branch).length = p.vars.length:=by have:=okb.len; simp [firstL]; omega
  have hv : cmpL (boundL p best') (boundL p best) <= 0:=by
   unfold betterI at h
   split at h
   ·omega
   ·exact h
  have h0 : 0 <= cmpL (boundL p l.branch) (boundL p best):=by rcases h1 with h1 | ⟨h1,_⟩ <;> omega
  have h2 : cmpL (boundL p best') (boundL p l.branch) <= 0:=cmpL_le (a:=boundL p best') (b:=boundL p best) (c:=boundL p l.branch) rfl rfl hv (by rw [cmpL_anti]; omega)
  by_cases e : cmpL (boundL p l.branch) (boundL p best') = 0
  ·refine .inr ⟨e,?_⟩
   have e1:=(cmpL_zero (a:=boundL p l.branch) (b:=boundL p best') rfl).1 e
   have e2 : cmpL (boundL p best) (boundL p l.branch) <= 0:=by rw [cmpL_anti]; omega
   rw [e1] at e2
   have e3 : cmpL (boundL p best') (boundL p best) = 0:=by
    have : cmpL (boundL p best') (boundL p best) = - cmpL (boundL p best) (boundL p best'):=cmpL_anti
    omega
   have e4:=(cmpL_zero (a:=boundL p best') (b:=boundL p best) rfl).1 e3
   rcases h1 with h1 | ⟨_,h1⟩
   ·rw [e1,e3] at h1; omega
   ·unfold betterI at h
    rw [if_pos e3] at h
    have h5 : cmpL best (firstL p l.branch) <= 0:=by rw [cmpL_anti]; omega
    have h6:=cmpL_le (a:=best') (b:=best) (c:=firstL p l.branch) (w'.2.2.trans w.2.2.symm) (w.2.2.trans hlf.symm) h h5
    rw [cmpL_anti]; omega
  ·refine .inl ?_
   have : cmpL (boundL p best') (boundL p l.branch) = - cmpL (boundL p l.branch) (boundL p best'):=cmpL_anti
   omega

structure ExR (p : Prob) (b : List Int) (s t : RepS) : Prop where
 ok : okRep p t
 le : leRep p t s
 dom : ∀ x,Whole p x -> b <+: x -> t.known = true /\ betterI p t.best x <= 0
 more : ∃ r : List Leaf,t.leaves = s.leaves ++ r /\ (∀ l,l ∈ r -> OkB p l.branch /\ b <+: l.branch /\ l.mult = [] /\ t.known = true /\ (l.kind = 1 /\ wholeOk p t.best l.branch \/ l.kind = 2 /\ boundOk p t.best l.branch)) /\ r ≠ [] /\
  divD p (p.vars.length - b.length + 1) b.length (r.map (·.branch)) = true

theorem worse_bound {p : Prob} {b : List Int} {s : RepS} (okb : OkB p b) (e : s.value = boundL p s.best) (h : worse p b s = true) : boundOk p s.best b:=by
 unfold worse at h
 rw [e] at h
 refine ⟨okb,?_⟩
 split at h
 ·rename_i h0; exact .inr ⟨h0,of_decide_eq_true h⟩
 ·exact .inl (of_decide_eq_true h)

def nxt (b : List Int) (i n : Nat) : List (List Int):=(List.range' i n).map fun (k : Nat)=>b ++ [(k : Int)]
theorem nxt_all {p : Prob} {b : List Int} (h : b.length < p.vars.length) : nextL p b = nxt b 0 p.vars[b.length].choices.length:=by
 unfold nextL nxt
 rw [getD_lt h,List.range_eq_range']

theorem pre_get {b c : List Int} {k : Int} (h : b ++ [k] <+: c) : b.length < c.length /\ c.getD b.length 0 = k:=by
 obtain ⟨u,rfl⟩:=h
 refine ⟨by simp,?_⟩
 rw [List.getD_eq_getElem?_getD,List.append_assoc,List.getElem?_append_right (Nat.le_refl _)]
 simp

theorem exR_next {p : Prob} {f : Nat} {b : List Int} (hlt : b.length < p.vars.length) (okb : OkB p b)
  (ih : ∀ (c : List Int) (s : RepS),OkB p c -> c.length = b.length + 1 -> okRep p s -> ExR p c s (exR p f c s)) :
  ∀ (n i : Nat) (s : RepS),i + n = p.vars[b.length].choices.length -> okRep p s ->
   okRep p ((nxt b i n).foldl (fun s x=>exR p f x s) s) /\ leRep p ((nxt b i n).foldl (fun s x=>exR p f x s) s) s /\
   (∀ x,Whole p x -> (∃ k,i <= k /\ b ++ [((k : Nat) : Int)] <+: x) -> ((nxt b i n).foldl (fun s x=>exR p f x s) s).known = true /\ betterI p ((nxt b i n).foldl (fun s x=>exR p f x s) s).best x <= 0) /\
   ∃ r : List Leaf,((nxt b i n).foldl (fun s x=>exR p f x s) s).leaves = s.leaves ++ r /\
    (∀ l,l ∈ r -> OkB p l.branch /\ (∃ k,i <= k /\ b ++ [((k : Nat) : Int)] <+: l.branch) /\ l.mult = [] /\ ((nxt b i n).foldl (fun s x=>exR p f x s) s).known = true /\
     (l.kind = 1 /\ wholeOk p ((nxt b i n).foldl (fun s x=>exR p f x s) s).best l.branch \/ l.kind = 2 /\ boundOk p ((nxt b i n).foldl (fun s x=>exR p f x s) s).best l.branch)) /\ (0 < n -> r ≠ []) /\
    ∀ k,i <= k -> k < i + n -> divD p (p.vars.length - b.length) (b.length + 1) ((r.map (·.branch)).filter fun c=>decide (c.getD b.length 0 = (k : Int))) = true
 | 0,i,s,hn,hs=>by
  refine ⟨hs,leRep_refl,fun x hx ⟨k,hk,hp⟩=>?_,[],by simp [nxt],by simp,by omega,fun k h1 h2=>by omega⟩
  exfalso
  obtain ⟨h1,h2⟩:=pre_get hp
  have hw:=hx.2.1.each b.length h1 hlt
  unfold wi at hw
  rw [List.getD_eq_getElem?_getD,List.getElem?_eq_getElem h1,Option.getD_some] at h2
  omega
 | n + 1,i,s,hn,hs=>by
  have okc:=okb_snoc okb hlt (i:=i) (by omega)
  have E:=ih (b ++ [(i : Int)]) s okc (by simp) hs
  obtain ⟨s1,hs1⟩ : ∃ s1,s1 = exR p f (b ++ [(i : Int)]) s:=⟨_,rfl⟩
  rw [<- hs1] at E
  obtain ⟨a1,a2,a3,r2,a4,a5,a6,a7⟩:=exR_next hlt okb ih n (i + 1) s1 (by omega) E.ok
  have e : (nxt b i (n + 1)).foldl (fun s x=>exR p f x s) s = (nxt b (i + 1) n).foldl (fun s x=>exR p f x s) s1:=by
   unfold nxt
   rw [List.range'_succ,List.map_cons,List.foldl_cons,hs1]
  rw [e]
  obtain ⟨t,ht⟩ : ∃ t,t = (nxt b (i + 1) n).foldl (fun s x=>exR p f x s) s1:=⟨_,rfl⟩
  rw [<- ht] at a1 a2 a3 a4 a5 ⊢
  obtain ⟨r1,b1,b2,b3,b4⟩:=E.more
  refine ⟨a1,leRep_trans hs E.ok a1 E.le a2,fun x hx ⟨k,hk,hp⟩=>?_,r1 ++ r2,by rw [a4,b1,List.append_assoc],fun l hl=>?_,fun _ h=>b3 (List.append_eq_nil_iff.1 h).1,fun k h1 h2=>?_⟩
  ·by_cases hki : k = i
   ·subst hki
    obtain ⟨c1,c2⟩:=E.dom x hx hp
    obtain ⟨d1,d2⟩:=a2 c1
    exact ⟨d1,better_le ((a1 d1).1.2.2.trans (E.ok c1).1.2.2.symm) ((E.ok c1).1.2.2.trans hx.2.2.symm) d2 c2⟩
   ·exact a3 x hx ⟨k,by omega,hp⟩
  ·rcases List.mem_append.1 hl with hl | hl
   ·obtain ⟨c1,c2,c3,c4,c5⟩:=b2 l hl
    obtain ⟨d1,d2⟩:=a2 c4
    exact ⟨c1,⟨i,Nat.le_refl _,c2⟩,c3,d1,leaf_mono (b:=b) (E.ok c4).1 (a1 d1).1 d2 c5⟩
   ·obtain ⟨c1,⟨k,ck,c2⟩,c3⟩:=a5 l hl
    exact ⟨c1,⟨k,by omega,c2⟩,c3⟩
  ·rw [List.map_append,List.filter_append]
   have g1 : ∀ c,c ∈ r1.map (·.branch) -> c.getD b.length 0 = (i : Int):=fun c hc=>by
    obtain ⟨l,hl,rfl⟩:=List.mem_map.1 hc
    exact (pre_get (b2 l hl).2.1).2
   have g2 : ∀ c,c ∈ r2.map (·.branch) -> ∃ k : Nat,i < k /\ c.getD b.length 0 = (k : Int):=fun c hc=>by
    obtain ⟨l,hl,rfl⟩:=List.mem_map.1 hc
    obtain ⟨_,⟨k,ck,c2⟩,_⟩:=a5 l hl
    exact ⟨k,by omega,(pre_get c2).2⟩
   by_cases hki : k = i
   ·subst hki
    have f1 : (r1.map (·.branch)).filter (fun c=>decide (c.getD b.length 0 = (k : Int))) = r1.map (·.branch):=List.filter_eq_self.2 fun c hc=>by have:=g1 c hc; simpa using this
    have f2 : (r2.map (·.branch)).filter (fun c=>decide (c.getD b.length 0 = (k : Int))) = []:=List.filter_eq_nil_iff.2 fun c hc=>by
     obtain ⟨j,hj,e⟩:=g2 c hc
     intro h
     have:=of_decide_eq_true h
     omega
    rw [f1,f2,List.append_nil]
    have e2 : (b ++ [(k : Int)]).length = b.length + 1:=by simp
    rw [e2,show p.vars.length - (b.length + 1) + 1 = p.vars.length - b.length from by omega] at b4
    exact b4
   ·have f1 : (r1.map (·.branch)).filter (fun c=>decide (c.getD b.length 0 = (k : Int))) = []:=List.filter_eq_nil_iff.2 fun c hc=>by
     have h3:=g1 c hc
     intro h
     have:=of_decide_eq_true h
     omega
    rw [f1,List.nil_append]
    exact a7 k (by omega) (by omega)

theorem exR_all {p : Prob} (S : Small p) (ok : OkP p) : ∀ (f : Nat) (b : List Int) (s : RepS),OkB p b -> p.vars.length - b.length < f -> okRep p s -> ExR p b s (exR p f b s)
 | 0,b,s,_,hf,_=>by omega
 | f + 1,b,s,okb,hf,hs=>by
  have hbl:=okb.len
  have one : ∀ k : Int,divD p (p.vars.length - b.length + 1) b.length (([⟨b,k,[]⟩] : List Leaf).map (·.branch)) = true:=fun k=>by simp [divD]
  unfold exR
  by_cases e : b.length = p.vars.length
  ·rw [if_pos e]
   have wb : Whole p b:=⟨ok,okb,e⟩
   have d:=betR_dom hs wb
   refine ⟨betR_ok (x:=b) hs,betR_le (x:=b) hs,fun x hx hp=>?_,[⟨b,1,[]⟩],by simp [addL,betR_leaves],fun l hl=>?_,by simp,one 1⟩
   ·rw [<- pre_whole hx e hp]; exact d
   ·rw [List.mem_singleton.1 hl]
    refine ⟨okb,List.prefix_refl _,rfl,d.1,.inl ⟨rfl,wb,fun h=>?_⟩⟩
    have h2:=d.2
    rw [better_anti] at h2
    simp only [addL] at h
    omega
  ·rw [if_neg e]
   by_cases hw : (s.known && worse p b s) = true
   ·rw [if_pos hw]
    rw [Bool.and_eq_true] at hw
    obtain ⟨hk,hw⟩:=hw
    obtain ⟨w,ev⟩:=hs hk
    have hbd:=worse_bound okb ev hw
    refine ⟨fun _=>⟨w,ev⟩,fun h=>leRep_refl h,fun x hx hp=>⟨hk,?_⟩,[⟨b,2,[]⟩],rfl,fun l hl=>?_,by simp,one 2⟩
    ·have:=leaf_proves S w hx (l:=⟨b,2,[]⟩) (.inr (.inl ⟨rfl,hbd⟩)) hp
     rw [better_anti]
     show -betterI p x s.best <= 0
     omega
    ·rw [List.mem_singleton.1 hl]
     exact ⟨okb,List.prefix_refl _,rfl,hk,.inr ⟨rfl,hbd⟩⟩
   ·rw [if_neg hw]
    have hlt : b.length < p.vars.length:=by omega
    rw [nxt_all hlt]
    obtain ⟨a1,a2,a3,r,a4,a5,a6,a7⟩:=exR_next hlt okb (fun c s hc hl hs=>exR_all S ok f c s hc (by omega) hs) p.vars[b.length].choices.length 0 s (by omega) hs
    have hone:=(ok.vars _ (List.getElem_mem hlt)).one
    refine ⟨a1,a2,fun x hx hp=>?_,r,a4,fun l hl=>?_,a6 (by omega),?_⟩
    ·obtain ⟨k,_,hk⟩:=pre_next hx hlt hp
     exact a3 x hx ⟨k,by omega,hk⟩
    ·obtain ⟨c1,⟨k,_,c2⟩,c3⟩:=a5 l hl
     exact ⟨c1,List.IsPrefix.trans (List.prefix_append _ _) c2,c3⟩
    ·rw [divD]
     have h1 : ¬ (r.map (·.branch)).any (fun c=>decide (c.length = b.length)) = true:=fun h=>by
      obtain ⟨c,hc,h⟩:=List.any_eq_true.1 h
      obtain ⟨l,hl,rfl⟩:=List.mem_map.1 hc
      obtain ⟨_,⟨k,_,c2⟩,_⟩:=a5 l hl
      have:=(pre_get c2).1
      have:=of_decide_eq_true h
      omega
     have h2 : ¬ (r.map (·.branch)).isEmpty = true:=fun h=>a6 (by omega) (by simpa using h)
     rw [if_neg h1,if_neg h2,getD_lt hlt,List.all_eq_true]
     intro k hk
     exact a7 k (by omega) (by have:=List.mem_range.1 hk; omega)

noncomputable def repS (p : Prob) (old : List Int) : RepS:=exR p (p.vars.length + 1) [] (betR p old ⟨[],[],false,[]⟩)
theorem repS_best {p : Prob} (S : Small p) (ok : OkP p) {old : List Int} : Whole p (repS p old).best /\ (repS p old).value = boundL p (repS p old).best /\ (repS p old).best = (solveS p).best /\
  (∀ l,l ∈ (repS p old).leaves -> leafOk p (repS p old).best l /\ OkB p l.branch /\ l.mult = []) /\ divD p (p.vars.length + 1) 0 ((repS p old).leaves.map (·.branch)) = true:=by
 have h0 : okRep p ⟨[],[],false,[]⟩:=fun h=>by cases h
 have E:=exR_all S ok (p.vars.length + 1) [] _ okb_nil (by simp) (betR_ok (x:=old) h0)
 have hd:=E.dom _ (first_nil ok) List.nil_prefix
 obtain ⟨w,e⟩:=E.ok hd.1
 obtain ⟨r,a1,a2,a3,a4⟩:=E.more
 have a5 : (repS p old).leaves = r:=by
  have : (betR p old ⟨[],[],false,[]⟩).leaves = []:=betR_leaves
  rw [this,List.nil_append] at a1
  exact a1
 refine ⟨w,e,solve_only S ok w fun y hy=>(E.dom y hy List.nil_prefix).2,fun l hl=>?_,?_⟩
 ·rw [a5] at hl
  obtain ⟨c1,_,c3,_,c5⟩:=a2 l hl
  refine ⟨?_,c1,c3⟩
  rcases c5 with c5 | c5
  ·exact .inl c5
  ·exact .inr (.inl c5)
 ·rw [a5]; exact a4

end Dv

namespace Dv
attribute [local simp] wT_skip wK wT_ret wT_exit wR wRp wT_seq wC wT_block rTS_nil rTS_asg rTS_eff rTS_effk rTS_effg gdV_b binD_and binD_or binD_xor stepOp_call3 closed_bool closed_int closed_tup flatB_bool flatB_int frzX_tup frzX_exact frz1_exact frz1_none frz1_int ob_some obP_some iteD_b condP_b xv_v xv_c xv_ite xv_bin_tt xv_bin_tc xv_bin_ct xv_bin_cc xv_un_t xv_conv_t xv_load xv_len xv_faddr xv_field xv_iaddr_tt xv_iaddr_tc xv_index_tt xv_index_tc xv_lookup_tt xv_max_tt xv_max_tc xv_max_ct xv_min_tt xv_min_tc xv_min_ct xv_slice_lo_t xv_slice_lo_c xv_slice_hi_t xv_slice_all xv_call xv_bslice bsliceV xv_build buildV xv_mkfn zeroE fillE buildD fillD List.replicate xvs_nil xvs_cons callV_fn frz_bool frz_int frz_imm frz_agg frz_tup frz_fn frz_iptr frzL_nil frzL_one frzL_dI frzL_cell frzL_use frzL_ints frzL_choice frzL_var depth dCell dUse dInts dChoice dVar dProb tStart addO Ret flat_dI flat_rep chunk_dI
 binD_add binD_sub binD_mul binD_eql binD_neq binD_lss binD_leq binD_gtr binD_geq binD_rem binD_bneq unD_not unD_neg lenD_imm lenD_sl readO_cells readO_frozen loadD_loc loadD_iptr iaddrD_imm iaddrD_sl iaddrD_loc faddrD_loc faddrD_iptr fieldD_agg cellsL_bool stor_bool atom_bool cellsL_int stor_int atom_int cellsL_str stor_str atom_str cellsL_imm stor_imm atom_imm cellsL_sl stor_sl atom_sl cellsL_loc stor_loc atom_loc cellsL_iptr stor_iptr atom_iptr cellsL_map stor_map atom_map cellsL_fn stor_fn atom_fn cellsL_agg stor_agg cellsL_nilfn stor_nilfn atom_nilfn cellsL_nilp stor_nilp atom_nilp takeC_z takeC_s ofCells_ag ofCells_one ag_bool ag_int ag_str ag_slice ag_struct ag_arr ag_map ag_ptr ag_func gOf_t gOf_c gOf_f kv_cons putE_some putE_none oneRes_one oneRes_two oneRes_three getAll_nil getAll_v getAll_c maxiD_two miniD_two extV_tup xv_ext stepOp_box stepOp_alloc stepOp_store writeO_cells storeD_loc setCells_nil setCells_cons stepOp_mkmap stepOp_mapset stepOp_call1 stepOp_call2 stepOp_app2 stepOp_app1 stepOp_mkslice mapO_map lookupD_some mapsetD_some keyOk_agg kindsL_nil kindsL_bool kindsL_int eqL_nil atomEq_bool frz_sl tokO_tok app0_step app0_exact app0_tok frz_loc oneRes_nil listOf_imm
 isMark_bool isMark_int isMark_str isMark_imm isMark_sl isMark_fn isMark_loc isMark_undef isMark_tup isMark_tup0 isMark_agg0 isU_undef isU_bool isU_int isU_str isU_imm isU_agg isU_fn isU_loc isU_sl noMark_s markP_t markP_f wI wT_dead stepOp_call5 stepOp_call6 nilcD_loc nilcD_iptr xv_nilc xv_mark_t markV_int markV_agg ty_0 ty_1 ty_2 ty_3 ty_4 ty_6 ty_7 ty_9 ty_10 ty_11 ty_12 ty_13 ty_14 ty_15 ty_16 ty_17 ty_18 ty_19 ty_20 ty_21 ty_22 ty_23 ty_24 ty_25 ty_26 ty_27 ty_29 ty_31 ty_32 ty_41 ty_42 ty_43 ty_44 ty_45 ty_47 ty_48 ty_49 ty_50 ty_51 ty_52 mp_228 mp_229 mp_241 mp_242 mp_243 mp_246
attribute [local congr] wT_congr ob_congr obP_congr iteD_congr condP_congr gdV_congr markP_congr


theorem long_not {p : Prob} {b : List Int} (S : Small p) (h : ¬ b.length <= 20) : ¬ OkB p b:=fun ok=>by have:=ok.len; have:=S.vars; omega
theorem q66 (p : Prob) (b : List Int) (S : Small p) : runP E (dL E) 66 [dProb p,dInts b] = some (dI (bk p b 270)):=by
 by_cases hb : b.length <= 20
 ·exact r66 p b S hb
 refine runP_T c66 (by simp) ?_
 have s3:=S.vars
 have h1 : p.vars.length < b.length:=by omega
 have h15:=r15 p S
 simp only [dProb] at h15
 by_cases h0 : OkP p
 ·have e : ck p = 0:=by simp [ck,h0]
  have e2 : bk p b 270 = 270:=by simp [bk,h0,long_not S hb]
  simp [t66,n66,h15,e,e2,h1]
 ·have e : ck p = 270:=by simp [ck,h0]
  have e2 : bk p b 270 = 270:=by simp [bk,h0]
  simp [t66,n66,h15,e,e2]

@[simp] theorem markP_tup0 {a b : Prop} : markP (.tup []) a b = b:=markP_f rfl
@[simp] theorem markP_boo {x : Bool} {a b : Prop} : markP (.bool x) a b = b:=markP_f rfl
@[simp] theorem markP_num {k : Go.IntKind} {n : Int} {a b : Prop} : markP (.int k n) a b = b:=markP_f rfl
@[simp] theorem markP_mk {r : List D} {a b : Prop} : markP (.tup (.undef :: r)) a b = a:=markP_t rfl

abbrev dLeaf' (l : Leaf) : D:=.agg [dInts l.branch,dI l.kind,.imm .none (l.mult.map dInts)]
abbrev dClaim (p : Prob) (best value : List Int) : D:=.agg [.imm .none (p.cells.map dCell),.imm .none (p.capacity.map dInts),.imm .none (p.vars.map dVar),dInts best,dInts value]
abbrev mkE (e : Int) : D:=.tup [.undef,.agg [dI e]]

theorem q229t (e : Int) : markR (runS E (dL E) 229 [.bool true,dI e] []) = some (.tup []):=by
 refine runM_T c229 (by simp) ?_
 simp [t229,n229,RetM,panX,List.idxOf_cons]
theorem q229f (e : Int) : markR (runS E (dL E) 229 [.bool false,dI e] []) = some (mkE e):=by
 refine runM_T c229 (by simp) ?_
 simp [t229,n229,RetM,panX,List.idxOf_cons]
theorem q228z : markR (runS E (dL E) 228 [dI 0] []) = some (.tup []):=by
 refine runM_T c228 (by simp) ?_
 simp [t228,n228,RetM,q229t]
theorem q228n (e : Int) (h : e ≠ 0) : markR (runS E (dL E) 228 [dI e] []) = some (mkE e):=by
 have h0 : (e == 0) = false:=by simp [h]
 refine runM_T c228 (by simp) ?_
 simp [t228,n228,RetM,panX,List.idxOf_cons,q229f,h0]

theorem q246 (a b : List Int) (ha : a.length <= 1000000) (hl : a.length = b.length) : markR (runS E (dL E) 246 [dInts a,dInts b] []) = some (dI (cmpL a b)):=by
 refine runM_T c246 (by simp) ?_
 have h30:=r30 a b ha (by omega)
 simp only [dInts] at h30
 rw [resC,if_pos hl] at h30
 simp [t246,n246,RetM,h30,q229t]

open Classical in
theorem q241 (p : Prob) (best value : List Int) (l : Leaf) (S : Small p) (hb : l.branch.length <= 20) (w : Whole p best) :
  markR (runS E (dL E) 241 [dClaim p best value,dLeaf' l] []) = some (.bool (decide (wholeOk p best l.branch))):=by
 refine runM_T c241 (by simp) ?_
 have h24:=r24 p l.branch best S hb (by have:=w.2.2; have:=S.vars; omega)
 simp only [dProb,dInts] at h24
 unfold resBt at h24
 unfold wholeOk
 by_cases h : Whole p l.branch
 ·rw [if_pos ⟨h,w⟩] at h24
  by_cases h2 : betterI p l.branch best < 0 <;> simp [t241,n241,RetM,h24,h,h2]
 ·rw [if_neg fun x=>h x.1] at h24
  simp [t241,n241,RetM,h24,h]


open Classical in
theorem q242 (p : Prob) (best : List Int) (l : Leaf) (S : Small p) (hb : l.branch.length <= 20) (w : Whole p best) :
  markR (runS E (dL E) 242 [dClaim p best (boundL p best),dLeaf' l] []) = some (.bool (decide (boundOk p best l.branch))):=by
 refine runM_T c242 (by simp) ?_
 have h3:=r3 p l.branch S hb
 have h9:=r9 p l.branch S hb
 have ok:=w.1
 simp only [dProb,dInts] at h3 h9
 unfold resB at h3
 unfold resL at h9
 unfold boundOk
 by_cases h : OkB p l.branch
 rotate_left
 ·have e : bk p l.branch 280 = 280:=by simp [bk,ok,h]
  rw [e] at h3
  simp [t242,n242,RetM,h3,h]
 have e : bk p l.branch 280 = 0:=bk_pos ok h
 rw [if_pos e] at h3 h9
 have hlf : (firstL p l.branch).length = best.length:=by have:=h.len; have:=w.2.2; simp [firstL]; omega
 have h1:=q246 (boundL p l.branch) (boundL p best) (by simp [boundL]) rfl
 have h2:=q246 (firstL p l.branch) best (by have:=w.2.2; have:=S.vars; omega) hlf
 obtain ⟨A,hA⟩ : ∃ A,A = boundL p l.branch:=⟨_,rfl⟩
 obtain ⟨B,hB⟩ : ∃ B,B = boundL p best:=⟨_,rfl⟩
 obtain ⟨F,hF⟩ : ∃ F,F = firstL p l.branch:=⟨_,rfl⟩
 rw [<- hA,<- hB] at h1
 rw [<- hF] at h2
 rw [<- hA] at h3
 rw [<- hF] at h9
 rw [<- hA,<- hB,<- hF]
 simp only [dInts] at h1 h2
 obtain ⟨c,hc⟩ : ∃ c,c = cmpL A B:=⟨_,rfl⟩
 rw [<- hc] at h1 ⊢
 by_cases h0 : c = 0
 ·by_cases h4 : 0 <= cmpL F best <;> simp [t242,n242,RetM,h3,h9,h1,h2,h,h0,h4]
 ·by_cases h4 : 0 < c <;> simp [t242,n242,RetM,h3,h9,h1,h2,h,h0,h4]

open Classical in
theorem r240 (p : Prob) (b : List Int) (S : Small p) (hb : b.length <= 20) (ok : OkP p) : runP E (dL E) 240 [dProb p,dInts b] = some (.bool (decide (OkB p b))):=by
 refine runP_T c240 (by simp) ?_
 have h14:=r14 p b 0 S hb
 simp only [dProb,dInts] at h14
 unfold resQ at h14
 by_cases h : OkB p b
 ·have hc : (0 : Int) <= 0 /\ (0 : Int) <= p.capacity.length - 1:=⟨by omega,by have:=ok.some; omega⟩
  rw [if_pos (bk_pos ok h),if_pos hc] at h14
  simp [t240,n240,h14,h]
 ·have e : ¬ bk p b 270 = 0:=fun e=>h (bk_ok e (by decide)).2
  rw [if_neg e] at h14
  simp [t240,n240,h14,h]

open Classical in
theorem q243 (p : Prob) (best : List Int) (l : Leaf) (S : Small p) (hb : l.branch.length <= 20) (M : SmallM l.mult) (w : Whole p best) :
  markR (runS E (dL E) 243 [dClaim p best (boundL p best),dLeaf' l] []) = some (.bool (decide (dualOk p best l.branch l.mult))):=by
 refine runM_T c243 (by simp) ?_
 have h3:=r3 p l.branch S hb
 have h37:=fun g=>r37 p l.branch g l.mult S hb M
 have h39:=fun g=>r39 p l.branch g l.mult S hb M
 have ok:=w.1
 simp only [dProb,dInts] at h3 h37 h39
 unfold resB at h3
 unfold resDB at h37
 unfold resDP at h39
 obtain ⟨b0,b1,b2,b3,hB⟩ : ∃ b0 b1 b2 b3,boundL p best = [b0,b1,b2,b3]:=⟨_,_,_,_,rfl⟩
 obtain ⟨a0,a1,a2,a3,hA⟩ : ∃ b0 b1 b2 b3,boundL p l.branch = [b0,b1,b2,b3]:=⟨_,_,_,_,rfl⟩
 have hb0 : ov p best = b0:=by unfold boundL at hB; simp at hB; exact hB.1
 unfold dualOk
 rw [hb0,hB,hA]
 rw [hA] at h3
 simp only [List.getD_cons_succ,List.getD_cons_zero]
 by_cases h : OkB p l.branch
 rotate_left
 ·have e : bk p l.branch 280 = 280:=by simp [bk,ok,h]
  rw [e] at h3
  simp [t243,n243,RetM,h3,h]
 have e : bk p l.branch 280 = 0:=bk_pos ok h
 rw [if_pos e] at h3
 by_cases h0 : b0 = 0
 rotate_left
 ·simp [t243,n243,RetM,h3,h,h0]
 by_cases h1 : b1 <= a1
 rotate_left
 ·have h1' : a1 < b1:=by omega
  simp [t243,n243,RetM,h3,h,h0,h1,h1']
 have h1' : ¬ a1 < b1:=by omega
 by_cases hk : dk p l.branch l.mult = 0
 rotate_left
 ·simp only [if_neg hk] at h37 h39
  simp [t243,n243,RetM,h3,h,h0,h1,h1',h37,h39,hk]
 simp only [if_pos hk] at h37 h39
 obtain ⟨x,hx⟩ : ∃ x,x = provD (sumD p l.branch b1 l.mult 0):=⟨_,rfl⟩
 have h39:=h39 b1
 have h37:=h37 b1
 rw [<- hx] at h39 ⊢
 obtain ⟨y,hy⟩ : ∃ y,y = sumD p l.branch b1 l.mult 1:=⟨_,rfl⟩
 rw [<- hy] at h37 ⊢
 cases x <;> cases y <;> simp at h37 <;> simp [t243,n243,RetM,h3,h,h0,h1,h1',h37,h39,hk]

open Classical in
noncomputable def lk (p : Prob) (best : List Int) (l : Leaf) : Int:=if Whole p best then (if leafOk p best l then 0 else 310) else 270

theorem leafOk_br {p : Prob} {best : List Int} {l : Leaf} (h : leafOk p best l) : OkB p l.branch:=by
 rcases h with ⟨_,h,_⟩ | ⟨_,h,_⟩ | ⟨_,h,_⟩
 ·exact h.2.1
 ·exact h
 ·exact h

structure SmL (l : Leaf) : Prop where
 branch : l.branch.length <= 20
 mult : SmallM l.mult

open Classical in
theorem r231 (p : Prob) (best : List Int) (l : Leaf) (S : Small p) (hb : best.length <= 20) (L : SmL l) :
  runP E (dL E) 231 [dProb p,dInts best,dLeaf' l] = some (dI (lk p best l)):=by
 refine runP_T c231 (by simp) ?_
 have h22:=r22 p best S hb
 simp only [dProb,dInts] at h22
 unfold resV at h22
 unfold lk
 by_cases w : Whole p best
 rotate_left
 ·rw [if_neg w] at h22
  have e:=q228n 270 (by decide)
  simp [t231,n231,h22,w,e]
 have ok:=w.1
 rw [if_pos w] at h22
 have h240:=r240 p l.branch S L.branch ok
 have h241:=q241 p best (boundL p best) l S L.branch w
 have h242:=q242 p best l S L.branch w
 have h243:=q243 p best l S L.branch L.mult w
 obtain ⟨B,hB⟩ : ∃ B,B = boundL p best:=⟨_,rfl⟩
 rw [<- hB] at h22 h241 h242 h243
 simp only [dProb,dClaim,dLeaf',dInts] at h240 h241 h242 h243
 by_cases h : OkB p l.branch
 rotate_left
 ·have h2 : ¬ leafOk p best l:=fun x=>h (leafOk_br x)
  simp [t231,n231,h22,w,h240,h,h2,q228z,q229f]
 by_cases k1 : l.kind = 1
 ·have e : leafOk p best l ↔ wholeOk p best l.branch:=by unfold leafOk; simp [k1]
  simp only [e]
  rw [k1] at h241
  by_cases h2 : wholeOk p best l.branch <;> simp [t231,n231,h22,w,h240,h,q228z,q229f,q229t,k1,h241,h2]
 by_cases k2 : l.kind = 2
 ·have e : leafOk p best l ↔ boundOk p best l.branch:=by unfold leafOk; simp [k2]
  simp only [e]
  rw [k2] at h242
  by_cases h2 : boundOk p best l.branch <;> simp [t231,n231,h22,w,h240,h,q228z,q229f,q229t,k2,h242,h2]
 by_cases k3 : l.kind = 3
 ·have e : leafOk p best l ↔ dualOk p best l.branch l.mult:=by unfold leafOk; simp [k3]
  simp only [e]
  rw [k3] at h243
  by_cases h2 : dualOk p best l.branch l.mult <;> simp [t231,n231,h22,w,h240,h,q228z,q229f,q229t,k3,h243,h2]
 have e : ¬ leafOk p best l:=by unfold leafOk; simp [k1,k2,k3]
 by_cases h4 : 1 <= l.kind
 ·have h5 : ¬ l.kind <= 3:=by omega
  simp [t231,n231,h22,w,h240,h,q228z,q229f,q229t,h4,h5,e]
 ·simp [t231,n231,h22,w,h240,h,q228z,q229f,q229t,h4,e]

abbrev dLeaf (l : Leaf) : D:=.agg [dInts l.branch,dI l.kind,.imm .none (l.mult.map dInts)]
theorem frzL_leaf {hp : List Obj} {n : Nat} {l : List Leaf} : frzL (frz hp (n + 4)) (l.map dLeaf) = some (l.map dLeaf):=frzL_map fun x _=>by
 rw [frz_agg]
 simp only [frzL_one,frz_int,ob_some,frz_imm,frzL_ints,frzL_dI,Option.map_some,frzL_nil]

theorem r173 (l : List (List Int)) (k : Nat) (caps : List D) (f : List Int -> Bool) (hc : frzL (frz [] 11) caps = some caps) (hd : frzL (frz [] 12) caps = some caps) (hf : ∀ x,runP E (dL E) k (dInts x :: caps) = some (.bool (f x))) (hl : l.length <= 1000000000) :
  runP E (dL E) 173 [.imm .none (l.map dInts),.fn k caps] = some (dI (idxI f l 0)):=by
 refine runP_T c173 (by simp) ?_
 simp [t173,n173]
 refine wT_up l.length (fun i env hp=>∃ (x3 x6 x7 : D) ,env = [.imm .none (l.map dInts),.fn k caps,dI 0,x3,dI l.length,dI i,x6,x7] /\ idxI f (l.drop i) i = idxI f l 0) 0 (by omega) ⟨_,_,_,rfl,rfl⟩ ?_
 rintro i env hp hi ⟨x3,x6,x7,rfl,hm⟩
 by_cases hlt : i < l.length
 ·rw [drop_cons hlt] at hm
  have hk:=hf l[i]
  simp only [dInts] at hk
  cases h0 : f l[i] with
  | true=>
   simp [idxI,h0] at hm
   simp [hlt,hk,hd,h0,<- hm]
  | false=>
   simp [idxI,h0] at hm
   simp [hlt,hk,hd,h0,wrap_up hlt (by omega),hm]
 ·have : i = l.length:=by omega
  subst this
  simp [idxI] at hm
  simp [<- hm]

theorem r159 (l : List (List Int)) (k : Nat) (caps : List D) (f : List Int -> Bool) (hc : frzL (frz [] 11) caps = some caps) (hd : frzL (frz [] 12) caps = some caps) (hf : ∀ x,runP E (dL E) k (dInts x :: caps) = some (.bool (f x))) (hl : l.length <= 1000000000) :
  runP E (dL E) 159 [.imm .none (l.map dInts),.fn k caps] = some (.bool (l.any f)):=by
 refine runP_T c159 (by simp) ?_
 simp [t159,n159,r173 l k caps f hc hd hf hl,hc,idxI_any]

theorem r162 (a b : List Int) (hl : a.length <= 1000000000) : runP E (dL E) 162 [dInts a,dInts b] = some (.bool (decide (a = b))):=by
 refine runP_T c162 (by simp) ?_
 generalize hB : decide (a = b) = B
 have hBf : a ≠ b -> B = false:=by intro h; rw [<- hB]; simp [h]
 have hBt : a = b -> B = true:=by intro h; rw [<- hB]; simp [h]
 simp [t162,n162]
 by_cases h : (a.length : Int) = b.length
 rotate_left
 ·have hb:=hBf (fun e=>h (by rw [e]))
  simp [h,hb]
 simp [h]
 have h' : a.length = b.length:=by omega
 refine wT_all b.length (fun i=>a[i]? = b[i]?)
  (fun i env hp=>∃ (x2 x3 x4 x7 x8 : D) ,env = [dInts a,dInts b,x2,x3,x4,dI b.length,dI i,x7,x8])
  ⟨_,_,_,_,_,rfl⟩ ?_ ?_
 ·rintro i env hp hi ⟨x2,x3,x4,x7,x8,rfl⟩ hall
  have hi' : i < a.length:=by omega
  by_cases k1 : a[i] = b[i]
  ·have hPi : a[i]? = b[i]?:=by simp [hi,hi',k1]
   simp [hi,hi',k1,wrap_up hi (by omega),hPi]
  ·have hb:=hBf (fun e=>k1 (by subst e; rfl))
   simp [hi,hi',k1,hb]
 ·rintro env hp ⟨x2,x3,x4,x7,x8,rfl⟩ hall
  have e : a = b:=List.ext_getElem? fun i=>by
   by_cases hi : i < a.length
   ·exact hall i (by omega)
   ·rw [List.getElem?_eq_none (by omega),List.getElem?_eq_none (by omega)]
  simp [hBt e]

theorem wO_ge {p : Prob} : ∀ {l : List (List Int)},l.length <= wO p l
 | []=>by simp [wO]
 | b :: l=>by
  have h1:=wB_pos (p:=p) (b:=b)
  have h2:=wO_ge (p:=p) (l:=l)
  simp only [wO,List.length_cons]; omega
open Classical in
theorem any_not {A : Type} {P : A -> Prop} {l : List A} : l.any (fun x=>!decide (P x)) = !decide (∀ x,x ∈ l -> P x):=by
 rw [Bool.eq_iff_iff]
 simp

structure Cert where
 best : List Int
 value : List Int
 leaves : List Leaf
abbrev dCert (c : Cert) : D:=.agg [dInts c.best,dInts c.value,.imm .none (c.leaves.map dLeaf)]
def cert0 : Cert:=⟨[],[],[]⟩

def lightB (p : Prob) : Bool:=fewB p && decide (manyP p 400 <= 300)
theorem r129 (p : Prob) : runP E (dL E) 129 [dProb p] = some (.bool (lightB p)):=by
 refine runP_T c129 (by simp) ?_
 have h2:=r2 p
 simp only [dProb] at h2
 cases hf : fewB p with
 | false=>simp [t129,n129,h2,hf,lightB]
 | true=>
  have S:=few_small hf
  have h61:=r61 p 400 (fun v hv=>S.choices v hv) (by decide) S.vars
  simp only [dProb] at h61
  simp [t129,n129,h2,hf,h61,lightB]

end Dv

namespace Dv


def hd (n id : Nat) : D:=if n = 0 then .imm .exact [] else .sl id 0 n 1 false true
end Dv

namespace Dv
attribute [local simp] wT_skip wK wT_ret wT_exit wR wRp wT_seq wC wT_block rTS_nil rTS_asg rTS_eff rTS_effk rTS_effg gdV_b binD_and binD_or binD_xor stepOp_call3 closed_bool closed_int closed_tup flatB_bool flatB_int frzX_tup frzX_exact frz1_exact frz1_none frz1_int ob_some obP_some iteD_b condP_b xv_v xv_c xv_ite xv_bin_tt xv_bin_tc xv_bin_ct xv_bin_cc xv_un_t xv_conv_t xv_load xv_len xv_faddr xv_field xv_iaddr_tt xv_iaddr_tc xv_index_tt xv_index_tc xv_lookup_tt xv_max_tt xv_max_tc xv_max_ct xv_min_tt xv_min_tc xv_min_ct xv_slice_lo_t xv_slice_lo_c xv_slice_hi_t xv_slice_all xv_call xv_bslice bsliceV xv_build buildV xv_mkfn zeroE fillE buildD fillD List.replicate xvs_nil xvs_cons callV_fn frz_bool frz_int frz_imm frz_agg frz_tup frz_fn frz_iptr frzL_nil frzL_one frzL_dI frzL_cell frzL_use frzL_ints frzL_choice frzL_var depth dCell dUse dInts dChoice dVar dProb tStart addO Ret flat_dI flat_rep chunk_dI
 binD_add binD_sub binD_mul binD_eql binD_neq binD_lss binD_leq binD_gtr binD_geq binD_rem binD_bneq unD_not unD_neg lenD_imm lenD_sl readO_cells readO_frozen loadD_loc loadD_iptr iaddrD_imm iaddrD_sl iaddrD_loc faddrD_loc faddrD_iptr fieldD_agg cellsL_bool stor_bool atom_bool cellsL_int stor_int atom_int cellsL_str stor_str atom_str cellsL_imm stor_imm atom_imm cellsL_sl stor_sl atom_sl cellsL_loc stor_loc atom_loc cellsL_iptr stor_iptr atom_iptr cellsL_map stor_map atom_map cellsL_fn stor_fn atom_fn cellsL_agg stor_agg cellsL_nilfn stor_nilfn atom_nilfn cellsL_nilp stor_nilp atom_nilp takeC_z takeC_s ofCells_ag ofCells_one ag_bool ag_int ag_str ag_slice ag_struct ag_arr ag_map ag_ptr ag_func gOf_t gOf_c gOf_f kv_cons putE_some putE_none oneRes_one oneRes_two oneRes_three getAll_nil getAll_v getAll_c maxiD_two miniD_two extV_tup xv_ext stepOp_box stepOp_alloc stepOp_store writeO_cells storeD_loc setCells_nil setCells_cons stepOp_mkmap stepOp_mapset stepOp_call1 stepOp_call2 stepOp_app2 stepOp_app1 stepOp_mkslice mapO_map lookupD_some mapsetD_some keyOk_agg kindsL_nil kindsL_bool kindsL_int eqL_nil atomEq_bool frz_sl tokO_tok app0_step app0_exact app0_tok frz_loc oneRes_nil listOf_imm
 isMark_bool isMark_int isMark_str isMark_imm isMark_sl isMark_fn isMark_loc isMark_undef isMark_tup isMark_tup0 isMark_agg0 isU_undef isU_bool isU_int isU_str isU_imm isU_agg isU_fn isU_loc isU_sl noMark_s markP_t markP_f wI wT_dead stepOp_call5 stepOp_call6 nilcD_loc nilcD_iptr xv_nilc xv_mark_t markV_int markV_agg ty_0 ty_1 ty_2 ty_3 ty_4 ty_6 ty_7 ty_9 ty_10 ty_11 ty_12 ty_13 ty_14 ty_15 ty_16 ty_17 ty_18 ty_19 ty_20 ty_21 ty_22 ty_23 ty_24 ty_25 ty_26 ty_27 ty_29 ty_31 ty_32 ty_41 ty_42 ty_43 ty_44 ty_45 ty_47 ty_48 ty_49 ty_50 ty_51 ty_52 mp_228 mp_229 mp_241 mp_242 mp_243 mp_246
attribute [local congr] wT_congr ob_congr obP_congr iteD_congr condP_congr gdV_congr markP_congr


theorem fitsA_ints {l : List (List Int)} : fitsE 1 (l.map dInts) = true:=by
 unfold fitsE
 rw [List.all_eq_true]
 intro x hx
 obtain ⟨r,_,rfl⟩:=List.mem_map.1 hx
 rfl
theorem flat_nil : flat [] = []:=rfl

def Room (C : Nat) (hp : List Obj) (sp : Spare) (n sz : Nat) : Prop:=sp = .exact \/ ∃ k,sp = .tok k /\ C <= k /\ At hp k (.tok (n * sz) sz)
def Keep (i C : Nat) (hp hp' : List Obj) : Prop:=∀ J : List Obj -> Prop,(∀ hp r,J hp -> J (hp ++ r)) -> (∀ hp j o,J hp -> (j = i \/ C <= j) -> J (hp.set j o)) -> J hp -> J hp'
theorem Keep.at {i C : Nat} {hp hp' : List Obj} (h : Keep i C hp hp') {j : Nat} {o : Obj} (hj : j ≠ i) (hC : j < C) (g : At hp j o) : At hp' j o:=
 h (fun hp=>At hp j o) (fun _ _ h=>h.app) (fun _ k _ h hk=>h.ne (by rcases hk with rfl | hk; exact fun e=>hj e.symm; omega)) g
theorem Keep.refl {i C : Nat} {hp : List Obj} : Keep i C hp hp:=fun _ _ _ h=>h
theorem Keep.trans {i C : Nat} {hp hp' hp'' : List Obj} (h : Keep i C hp hp') (h' : Keep i C hp' hp'') : Keep i C hp hp'':=fun J h1 h2 h3=>h' J h1 h2 (h J h1 h2 h3)
theorem Keep.app {i C : Nat} {hp r : List Obj} : Keep i C hp (hp ++ r):=fun _ h1 _ h3=>h1 _ _ h3
theorem Keep.set {i C j : Nat} {o : Obj} {hp : List Obj} (hj : j = i \/ C <= j) : Keep i C hp (hp.set j o):=fun _ _ h2 h3=>h2 _ _ _ h3 hj

theorem r245 (b : List Int) (d : Int) : runP E (dL E) 245 [dInts b,.iptr [dI d]] = some (.bool (decide ((b.length : Int) = d))):=by
 refine runP_T c245 (by simp) ?_
 by_cases h : (b.length : Int) = d <;> simp [t245,n245,h]

def prt (depth : Nat) (l : List (List Int)) (k : Nat) : List (List Int):=l.filter fun b=>decide (b.getD depth 0 = (k : Int))
theorem prt_snoc {depth k : Nat} {l : List (List Int)} {b : List Int} : prt depth (l ++ [b]) k = prt depth l k ++ (if b.getD depth 0 = (k : Int) then [b] else []):=by
 unfold prt
 rw [List.filter_append]
 by_cases h : b.getD depth 0 = (k : Int)
 ·rw [if_pos h,List.filter_cons_of_pos (by rw [h]; simp)]; rfl
 ·rw [if_neg h,List.filter_cons_of_neg (by simp only [decide_eq_true_eq]; exact h)]; rfl
theorem prt_len {depth k : Nat} {l : List (List Int)} : (prt depth l k).length <= l.length:=List.length_filter_le _ _
theorem prt_nil {depth : Nat} : prt depth [] = fun _=>[]:=rfl
def parD (n : Nat) (sp : Nat -> Spare) (part : Nat -> List (List Int)) : List D:=(List.range n).map fun k=>D.imm (sp k) ((part k).map dInts)
theorem parD_len {n : Nat} {sp : Nat -> Spare} {part : Nat -> List (List Int)} : (parD n sp part).length = n:=by simp [parD]
theorem parD_get {n k : Nat} {sp : Nat -> Spare} {part : Nat -> List (List Int)} (h : k < n) : (parD n sp part)[k]? = some (D.imm (sp k) ((part k).map dInts)):=by simp [parD,h]
theorem parD_set {n k : Nat} {sp : Nat -> Spare} {part : Nat -> List (List Int)} {s : Spare} {l : List (List Int)} (h : k < n) :
  (parD n sp part).set k (D.imm s (l.map dInts)) = parD n (fun j=>if j = k then s else sp j) (fun j=>if j = k then l else part j):=by
 apply List.ext_getElem?
 intro j
 rw [List.getElem?_set,parD_len]
 by_cases hj : k = j
 ·subst hj
  rw [if_pos rfl,if_pos h,parD_get h]; simp
 ·rw [if_neg hj]
  by_cases hn : j < n
  ·rw [parD_get hn,parD_get hn,if_neg (Ne.symm hj),if_neg (Ne.symm hj)]
  ·rw [List.getElem?_eq_none (by rw [parD_len]; omega),List.getElem?_eq_none (by rw [parD_len]; omega)]
theorem parD_nil {n : Nat} : parD n (fun _=>.exact) (fun _=>[]) = List.replicate n (.imm .exact []):=by
 unfold parD
 rw [List.eq_replicate_iff]
 exact ⟨by simp,fun b hb=>by obtain ⟨_,_,rfl⟩:=List.mem_map.1 hb; rfl⟩
structure Rooms (C n : Nat) (hp : List Obj) (sp : Nat -> Spare) (part : Nat -> List (List Int)) : Prop where
 each : ∀ k,k < n -> Room C hp (sp k) (part k).length 1
 inj : ∀ k j t,k < n -> j < n -> sp k = .tok t -> sp j = .tok t -> k = j

theorem Rooms.step {C n m q : Nat} {h T : List Obj} {sps : Nat -> Spare} {part : Nat -> List (List Int)} {bb : List Int} (R : Rooms C n h sps part) (hq : h.length <= q) (hC : C <= q)
  (hT : At T q (.tok ((part m).length + 1) 1)) (hk : ∀ k t o,k < n -> k ≠ m -> sps k = .tok t -> C <= t -> At h t o -> At T t o) :
  Rooms C n T (fun j=>if j = m then .tok q else sps j) (fun j=>if j = m then part m ++ [bb] else part j):=by
 constructor
 ·intro k hk'
  by_cases e : k = m
  ·subst e
   exact .inr ⟨q,by simp,hC,by simpa using hT⟩
  ·simp only [if_neg e]
   rcases R.each k hk' with h1 | ⟨t,h1,h2,h3⟩
   ·exact .inl h1
   ·exact .inr ⟨t,h1,h2,hk k t _ hk' e h1 h2 h3⟩
 ·have lt : ∀ j t,j < n -> sps j = .tok t -> t < h.length:=fun j t hj e=>by
   rcases R.each j hj with h1 | ⟨t',h1,h2,h3⟩
   ·rw [h1] at e; cases e
   ·rw [h1] at e
    have : t' = t:=by simpa using e
    rw [<- this]; exact h3.lt
  intro k j t hk' hj h1 h2
  by_cases ek : k = m <;> by_cases ej : j = m
  ·rw [ek,ej]
  ·simp only [if_pos ek,if_neg ej] at h1 h2
   have e : q = t:=by simpa using h1
   have:=lt j t hj h2
   omega
  ·simp only [if_neg ek,if_pos ej] at h1 h2
   have e : q = t:=by simpa using h2
   have:=lt k t hk' h1
   omega
  ·simp only [if_neg ek,if_neg ej] at h1 h2
   exact R.inj k j t hk' hj h1 h2

theorem Keep.le {C C' : Nat} {hp hp' : List Obj} (h : Keep C C hp hp') (hC : C' <= C) : Keep C' C' hp hp':=fun J h1 h2 h3=>h J h1 (fun hp j o hj _=>h2 hp j o hj (.inr (by omega))) h3

theorem s238 (p : Prob) (S : Small p) (ok : OkP p) (ip ifn : Nat) : ∀ (f depth : Nat) (l : List (List Int)) (sp : Spare) (hp : List Obj),p.vars.length - depth < f -> depth <= p.vars.length -> l.length <= 1000000 ->
  (∀ b,b ∈ l -> OkB p b /\ depth <= b.length) -> At hp ip (.cells (dProb p).cellsL) -> At hp ifn (.cells [.fn 238 [.loc ip 0,.loc ifn 0]]) ->
  ∃ d hp',runS E (dL E) 238 [.imm sp (l.map dInts),dI depth,.loc ip 0,.loc ifn 0] hp = some (d,hp') /\ d = .bool (divD p f depth l) /\ Keep hp.length hp.length hp hp' /\ hp.length <= hp'.length
 | 0,depth,l,sp,hp,hf,_,_,_,_,_=>by omega
 | f + 1,depth,l,sp,hp,hf,hd,hl,hb,g1,g2=>by
  refine runS_T c238 (args:=[.imm sp (l.map dInts),dI depth,.loc ip 0,.loc ifn 0]) (hp:=hp) (R:=fun d hp'=>d = .bool (divD p (f + 1) depth l) /\ Keep hp.length hp.length hp hp' /\ hp.length <= hp'.length) (by simp) ?_
  have h159:=r159 l 245 [.iptr [dI depth]] (fun b=>decide ((b.length : Int) = depth)) (by simp) (by simp) (fun b=>r245 b depth) (by omega)
  obtain ⟨any,hany⟩ : ∃ any,any = l.any fun b=>decide ((b.length : Int) = depth):=⟨_,rfl⟩
  have hany2 : any = l.any fun b=>decide (b.length = depth):=by rw [hany]; simp only [Int.ofNat_inj]
  rw [<- hany] at h159
  have hK : ∀ r,Keep hp.length hp.length hp (hp ++ r):=fun r=>Keep.app
  have hL : ∀ r : List Obj,hp.length <= (hp ++ r).length:=fun r=>by simp
  cases any with
  | true=>
   have hD : divD p (f + 1) depth l = decide (l.length = 1):=by unfold divD; rw [if_pos hany2.symm]
   have h2 : ((l.length : Int) == 1) = decide (l.length = 1):=by
    by_cases h1 : l.length = 1
    ·simp [h1]
    ·have : ¬ (l.length : Int) = 1:=by omega
     simp [h1,this]
   simp [t238,n238,h159,hD,h2,hK]
  | false=>
  by_cases hne : l = []
  ·have hD : divD p (f + 1) depth l = false:=by unfold divD; rw [if_neg (by rw [<- hany2]; simp)]; simp [hne]
   rw [hD]
   subst hne
   simp only [List.map_nil] at h159
   simp [t238,n238,h159,hK]
  have hgt : ∀ b,b ∈ l -> depth < b.length:=fun b hb'=>by
   have h1:=(hb b hb').2
   have h2 : b.length ≠ depth:=fun e=>by
    have:=List.any_eq_false.1 hany2.symm b hb'
    simp [e] at this
   omega
  obtain ⟨b0,hb0⟩:=List.exists_mem_of_ne_nil l hne
  have hdv : depth < p.vars.length:=by have:=hgt b0 hb0; have:=(hb b0 hb0).1.len; omega
  have hD : divD p (f + 1) depth l = (List.range p.vars[depth].choices.length).all fun k=>divD p f (depth + 1) (prt depth l k):=by
   rw [divD,if_neg (by rw [<- hany2]; simp),if_neg (by simpa using hne)]
   rw [getD_lt hdv]; rfl
  have hl0 : ¬ l.length = 0:=fun h=>hne (List.eq_nil_of_length_eq_zero h)
  obtain ⟨B,hB⟩ : ∃ B,B = hp.length:=⟨_,rfl⟩
  obtain ⟨n,hn⟩ : ∃ n,n = p.vars[depth].choices.length:=⟨_,rfl⟩
  have hn96 : n <= 96:=by rw [hn]; exact (ok.vars _ (List.getElem_mem hdv)).most
  rw [<- hn] at hD
  have hbytes : ((n : Int) * 25 <= maxBytes):=by unfold maxBytes; omega
  have hd2 : (depth : Int) < p.vars.length:=by omega
  simp [t238,n238,h159,hne,hl0,↓g1.appE,hdv,<- hn,<- hB,flat_nils,hbytes]
  refine wT_up l.length (fun i env h=>∃ (x7 x8 x9 x10 x11 x12 x16 x17 x18 x19 x20 x21 x22 x23 x24 : D) (sps : Nat -> Spare),env = [.imm sp (l.map dInts),dI depth,.loc ip 0,.loc ifn 0,.loc B 0,.bool false,.sl (B + 1) 0 n 1 false true,x7,x8,x9,x10,x11,x12,.imm sp (l.map dInts),dI l.length,dI i,x16,x17,x18,x19,x20,x21,x22,x23,x24] /\
   At h B (.cells [dI depth]) /\ At h (B + 1) (.cells (parD n sps (prt depth (l.take i)))) /\ Rooms (B + 2) n h sps (prt depth (l.take i)) /\ At h ip (.cells (dProb p).cellsL) /\ At h ifn (.cells [.fn 238 [.loc ip 0,.loc ifn 0]]) /\ Keep B B hp h /\ B <= h.length) 0 (by omega)
   ⟨_,_,_,_,_,_,_,_,_,_,_,_,_,_,_,(fun _=>.exact),rfl,by rw [hB]; simp [At],by rw [hB]; simp [At,prt_nil,parD_nil],⟨fun _ _=>.inl rfl,fun _ _ _ _ _ h=>by cases h⟩,g1.app,g2.app,by rw [hB]; exact hK _,by rw [hB]; exact hL _⟩ ?_
  rintro i env h hi ⟨x7,x8,x9,x10,x11,x12,x16,x17,x18,x19,x20,x21,x22,x23,x24,sps,rfl,a1,a2,a3,a4,a5,a6,a7⟩
  by_cases hlt : i < l.length
  ·obtain ⟨bb,hbb⟩ : ∃ bb,bb = l[i]:=⟨_,rfl⟩
   have hlg : l[i]? = some bb:=by rw [List.getElem?_eq_getElem hlt,hbb]
   have hmem : bb ∈ l:=by rw [hbb]; exact List.getElem_mem hlt
   have hbd:=hgt bb hmem
   have hwi:=(hb bb hmem).1.each depth hbd hdv
   unfold wi at hwi
   rw [<- hn] at hwi
   obtain ⟨m,hm⟩ : ∃ m : Nat,bb[depth] = (m : Int):=⟨bb[depth].toNat,by omega⟩
   rw [hm] at hwi
   have hmn : m < n:=by omega
   have hbg : l[i][depth]? = some (m : Int):=by rw [<- hbb,List.getElem?_eq_getElem hbd,hm]
   have htk : l.take (i + 1) = l.take i ++ [bb]:=by rw [List.take_succ_eq_append_getElem hlt,hbb]
   have hpg:=parD_get (sp:=sps) (part:=prt depth (l.take i)) hmn
   have hap : ∀ y,appOk E 1 (List.map dInts (prt depth (l.take i) m)) [y]:=fun y=>by
    have:=prt_len (depth:=depth) (l:=l.take i) (k:=m)
    have h2 : (l.take i).length <= l.length:=by simp; omega
    refine ⟨?_,?_,?_,fitsA_ints⟩ <;> simp [maxBytes]
    omega
   have hpn : prt depth (l.take (i + 1)) = fun j=>if j = m then prt depth (l.take i) m ++ [bb] else prt depth (l.take i) j:=by
    funext j
    rw [htk,prt_snoc]
    have : bb.getD depth 0 = (m : Int):=by rw [List.getD_eq_getElem?_getD,List.getElem?_eq_getElem hbd,hm]; rfl
    rw [this]
    by_cases e : j = m
    ·subst e; simp
    ·have : ¬ (m : Int) = j:=by omega
     simp [e,this]
   have hset : ∀ q,(parD n sps (prt depth (l.take i))).set m (D.imm (Spare.tok q) (List.map dInts (prt depth (l.take i) m) ++ [D.imm Spare.none (List.map dI l[i])])) = parD n (fun j=>if j = m then .tok q else sps j) (prt depth (l.take (i + 1))):=fun q=>by
    rw [hpn,<- parD_set hmn]
    simp [hbb]
   have hlen : m + 1 <= (parD n sps (prt depth (l.take i))).length:=by rw [parD_len]; omega
   have l1:=a1.lt
   have l2:=a2.lt
   have l4:=a4.lt
   have l5:=a5.lt
   have i4 : ip ≠ B + 1:=fun e=>by rw [e] at g1; have:=g1.lt; omega
   have i5 : ifn ≠ B + 1:=fun e=>by rw [e] at g2; have:=g2.lt; omega
   rcases a3.each m hmn with hs | ⟨t,hs,ht,hr⟩
   ·rw [hs] at hpg
    obtain ⟨T,hTe⟩ : ∃ T : List Obj -> List Obj,T = fun r=>(h ++ r).set (B + 1) (.cells (parD n (fun j=>if j = m then .tok (h.length + 14) else sps j) (prt depth (l.take (i + 1))))):=⟨_,rfl⟩
    have t1 : ∀ r k o,k ≠ B + 1 -> At h k o -> At (T r) k o:=fun r k o hk g=>by rw [hTe]; exact g.app.ne (Ne.symm hk)
    have t2 : ∀ r,At (T r) (B + 1) (.cells (parD n (fun j=>if j = m then .tok (h.length + 14) else sps j) (prt depth (l.take (i + 1))))):=fun r=>by rw [hTe]; exact At.self (by simp; omega)
    have t3 : ∀ r x,r[14]? = some x -> At (T r) (h.length + 14) x:=fun r x hx=>by
     rw [hTe]
     refine At.ne ?_ (by omega)
     unfold At
     rw [get_app2,hx]
    have t4 : ∀ r,Keep B B hp (T r):=fun r=>by rw [hTe]; exact (a6.trans Keep.app).trans (Keep.set (.inr (by omega)))
    have t5 : ∀ r,B <= (T r).length:=fun r=>by rw [hTe]; simp; omega
    simp [hlt,hbg,↓a1.appE,↓a2.appE,hpg,hmn,app0_step,app0_exact,hap,wrap_up hlt (by omega),hlen,hset]
    simp only [show ∀ r,(h ++ r).set (B + 1) (.cells (parD n (fun j=>if j = m then .tok (h.length + 14) else sps j) (prt depth (l.take (i + 1))))) = T r from fun r=>by rw [hTe]]
    refine ⟨t1 _ _ _ (by omega) a1,_,t2 _,?_,t1 _ _ _ i4 a4,t1 _ _ _ i5 a5,t4 _,by omega⟩
    rw [hpn]
    refine a3.step (q:=h.length + 14) (by omega) (by omega) (t3 _ _ rfl) fun k t o hk hkm hs' ht' ho=>t1 _ _ _ (by omega) ho
   ·rw [hs] at hpg
    have l6:=hr.lt
    rw [Nat.mul_one] at hr
    have g1l:=g1.lt
    have g2l:=g2.lt
    have q2 : ∀ r x y,(((h ++ r).set t x).set (h.length + 14) y)[B + 1]? = some (.cells (parD n sps (prt depth (l.take i)))):=fun r x y=>((a2.app.ne (by omega)).ne (by omega)).eq
    obtain ⟨T,hTe⟩ : ∃ T : List Obj -> Obj -> List Obj,T = fun r y=>(((h ++ r).set t .dead).set (h.length + 14) y).set (B + 1) (.cells (parD n (fun j=>if j = m then .tok (h.length + 14) else sps j) (prt depth (l.take (i + 1))))):=⟨_,rfl⟩
    have t1 : ∀ r y k o,k ≠ B + 1 -> k ≠ t -> At h k o -> At (T r y) k o:=fun r y k o hk hk2 g=>by
     have:=g.lt
     rw [hTe]; exact ((g.app.ne (Ne.symm hk2)).ne (by omega)).ne (Ne.symm hk)
    have t2 : ∀ r y,At (T r y) (B + 1) (.cells (parD n (fun j=>if j = m then .tok (h.length + 14) else sps j) (prt depth (l.take (i + 1))))):=fun r y=>by rw [hTe]; exact At.self (by simp; omega)
    have t3 : ∀ r y,14 < r.length -> At (T r y) (h.length + 14) y:=fun r y hx=>by
     rw [hTe]
     refine At.ne (At.self (by simp; omega)) (by omega)
    have t4 : ∀ r y,Keep B B hp (T r y):=fun r y=>by rw [hTe]; exact (((a6.trans Keep.app).trans (Keep.set (.inr (by omega)))).trans (Keep.set (.inr (by omega)))).trans (Keep.set (.inr (by omega)))
    simp [hlt,hbg,↓a1.appE,↓a2.appE,↓hr.appE,hpg,hmn,app0_step,app0_tok,hap,wrap_up hlt (by omega),↓q2,hlen,hset]
    simp only [show ∀ r y,(((h ++ r).set t .dead).set (h.length + 14) y).set (B + 1) (.cells (parD n (fun j=>if j = m then .tok (h.length + 14) else sps j) (prt depth (l.take (i + 1))))) = T r y from fun r y=>by rw [hTe]]
    refine ⟨t1 _ _ _ _ (by omega) (by omega) a1,_,t2 _ _,?_,t1 _ _ _ _ i4 (by omega) a4,t1 _ _ _ _ i5 (by omega) a5,t4 _ _,by omega⟩
    rw [hpn]
    refine a3.step (q:=h.length + 14) (by omega) (by omega) (t3 _ _ (by simp)) fun k t' o hk hkm hs' ht' ho=>t1 _ _ _ _ (by omega) (fun e=>hkm (a3.inj k m t hk hmn (by rw [hs',e]) hs)) ho
  ·have : i = l.length:=by omega
   subst this
   rw [List.take_length] at a2 a3
   simp
   have hv6:=S.vars
   have w:=wrap_i64 (n:=(depth : Int) + 1) ⟨by omega,by omega⟩
   refine wT_all n (fun k=>divD p f (depth + 1) (prt depth l k) = true)
    (fun i env h=>∃ (x7 x8 x9 x10 x11 x12 x13 x14 x15 x16 x17 x18 x22 x23 x24 : D) ,env = [.imm sp (l.map dInts),dI depth,.loc ip 0,.loc ifn 0,.loc B 0,.bool false,.sl (B + 1) 0 n 1 false true,x7,x8,x9,x10,x11,x12,x13,x14,x15,x16,x17,x18,.sl (B + 1) 0 n 1 false true,dI n,dI i,x22,x23,x24] /\
     At h B (.cells [dI depth]) /\ At h (B + 1) (.cells (parD n sps (prt depth l))) /\ At h ip (.cells (dProb p).cellsL) /\ At h ifn (.cells [.fn 238 [.loc ip 0,.loc ifn 0]]) /\ Keep B B hp h /\ B <= h.length)
    ⟨_,_,_,_,_,_,_,_,_,_,_,_,_,_,_,rfl,a1,a2,a4,a5,a6,a7⟩ ?_ ?_
   ·rintro i env h hi ⟨x7,x8,x9,x10,x11,x12,x13,x14,x15,x16,x17,x18,x22,x23,x24,rfl,a1,a2,a4,a5,a6,a7⟩ hall
    have hpg:=parD_get (sp:=sps) (part:=prt depth l) hi
    obtain ⟨d,h',y1,y2,y3,y4⟩:=s238 p S ok ip ifn f (depth + 1) (prt depth l i) (sps i) h (by omega) (by omega) (by have:=prt_len (depth:=depth) (l:=l) (k:=i); omega)
     (fun b hb'=>by
      have:=(List.mem_filter.1 hb').1
      exact ⟨(hb b this).1,hgt b this⟩) a4 a5
    subst y2
    have e : ((depth + 1 : Nat) : Int) = (depth : Int) + 1:=by omega
    rw [e] at y1
    have l1:=a1.lt
    have l2:=a2.lt
    have l4:=a4.lt
    have l5:=a5.lt
    have b1:=y3.at (by omega) l1 a1
    have b2:=y3.at (by omega) l2 a2
    have b4:=y3.at (by omega) l4 a4
    have b5:=y3.at (by omega) l5 a5
    have b6:=a6.trans (y3.le a7)
    cases hd : divD p f (depth + 1) (prt depth l i) with
    | true=>
     rw [hd] at y1
     simp [hi,a1.eq,a2.eq,a5.eq,hpg,w,y1,wrap_up hi (by omega),hd]
     exact ⟨b1,b2,b4,b5,b6,by omega⟩
    | false=>
     rw [hd] at y1
     have hD2 : divD p (f + 1) depth l = false:=by
      rw [hD,List.all_eq_false]
      exact ⟨i,List.mem_range.2 hi,by rw [hd]; simp⟩
     simp [hi,a1.eq,a2.eq,a5.eq,hpg,w,y1,hD2]
     exact ⟨b6,by omega⟩
   ·rintro env h ⟨x7,x8,x9,x10,x11,x12,x13,x14,x15,x16,x17,x18,x22,x23,x24,rfl,a1,a2,a4,a5,a6,a7⟩ hall
    have hD2 : divD p (f + 1) depth l = true:=by
     rw [hD,List.all_eq_true]
     exact fun k hk=>hall k (List.mem_range.1 hk)
    simp [hD2]
    exact ⟨a6,a7⟩

open Classical in
noncomputable def resCov (p : Prob) (ls : List (List Int)) : D:=if OkP p then (if ∀ b,b ∈ ls -> OkB p b then .tup [.bool (divD p (p.vars.length + 1) 0 ls),dI 0] else .tup [.bool false,dI 310]) else .tup [.bool false,dI 270]

theorem q14 (p : Prob) (b : List Int) (leaf : Int) (S : Small p) : runP E (dL E) 14 [dProb p,dInts b,dI leaf] = some (resQ p b leaf):=by
 by_cases hb : b.length <= 20
 ·exact r14 p b leaf S hb
 refine runP_T c14 (by simp) ?_
 have h66:=q66 p b S
 simp only [dProb,dInts] at h66
 have h0 : bk p b 270 ≠ 0:=fun h=>long_not S hb (bk_ok h (by decide)).2
 rw [bk_270 h0] at h66
 simp [t14,n14,h66,resQ,h0]
open Classical in
theorem q240 (p : Prob) (b : List Int) (S : Small p) (ok : OkP p) : runP E (dL E) 240 [dProb p,dInts b] = some (.bool (decide (OkB p b))):=by
 by_cases hb : b.length <= 20
 ·exact r240 p b S hb ok
 refine runP_T c240 (by simp) ?_
 have h14:=q14 p b 0 S
 simp only [dProb,dInts] at h14
 unfold resQ at h14
 have h:=long_not S hb
 have e : ¬ bk p b 270 = 0:=fun e=>h (bk_ok e (by decide)).2
 rw [if_neg e] at h14
 simp [t240,n240,h14,h]
open Classical in
theorem q237 (p : Prob) (b : List Int) (S : Small p) (ok : OkP p) : runP E (dL E) 237 [dInts b,.iptr (dProb p).cellsL] = some (.bool (!decide (OkB p b))):=by
 refine runP_T c237 (by simp) ?_
 have h240:=q240 p b S ok
 simp only [dProb,dInts] at h240
 simp [t237,n237,h240]

open Classical in
theorem r230 (p : Prob) (ls : List (List Int)) (S : Small p) (hl : ls.length <= 1000000) : runP E (dL E) 230 [dProb p,.imm .none (ls.map dInts)] = some (resCov p ls):=by
 refine runP_T c230 (by simp) ?_
 have h15:=r15 p S
 simp only [dProb] at h15
 unfold resCov
 by_cases ok : OkP p
 rotate_left
 ·have e : ck p = 270:=by simp [ck,ok]
  simp [t230,n230,h15,e,ok]
 have e : ck p = 0:=by simp [ck,ok]
 have h159:=r159 ls 237 [.iptr (dProb p).cellsL] (fun b=>!decide (OkB p b)) (by simp) (by simp) (fun b=>q237 p b S ok) (by omega)
 rw [any_not] at h159
 simp only [dProb,dInts,cellsL_agg] at h159
 obtain ⟨A,hA⟩ : ∃ A,A = ∀ x,x ∈ ls -> OkB p x:=⟨_,rfl⟩
 simp only [<- hA] at h159 ⊢
 by_cases kA : A
 rotate_left
 ·simp [t230,n230,h15,e,ok,h159,kA]
 have kA':=kA
 rw [hA] at kA'
 obtain ⟨d,hp',y1,y2,y3,y4⟩:=s238 p S ok 0 1 (p.vars.length + 1) 0 ls .none [.cells (dProb p).cellsL,.cells [.fn 238 [.loc 0 0,.loc 1 0]]] (by omega) (by omega) hl (fun b hb=>⟨kA' b hb,by omega⟩) rfl rfl
 subst y2
 rw [show ((0 : Nat) : Int) = 0 from rfl] at y1
 simp only [dProb,cellsL_agg] at y1
 simp [t230,n230,h15,e,ok,h159,kA,y1]

structure Acc (p : Prob) (c : Cert) : Prop where
 whole : Whole p c.best
 value : boundL p c.best = c.value
 branch : ∀ l,l ∈ c.leaves -> OkB p l.branch
 div : divD p (p.vars.length + 1) 0 (c.leaves.map (·.branch)) = true
 leaf : ∀ l,l ∈ c.leaves -> leafOk p c.best l
open Classical in
noncomputable def chkC (p : Prob) (c : Cert) : Int:=if Whole p c.best then (if Acc p c then 0 else 310) else 270
structure SmC (c : Cert) : Prop where
 best : c.best.length <= 20
 value : c.value.length <= 1000
 leaves : c.leaves.length <= 1000000
 leaf : ∀ l,l ∈ c.leaves -> SmL l

open Classical in
theorem r216 (p : Prob) (c : Cert) (S : Small p) (M : SmC c) : runP E (dL E) 216 [dProb p,dCert c] = some (dI (chkC p c)):=by
 refine runP_T c216 (by simp) ?_
 have h22:=r22 p c.best S M.best
 simp only [dProb,dInts] at h22
 unfold resV at h22
 unfold chkC
 by_cases w : Whole p c.best
 rotate_left
 ·rw [if_neg w] at h22
  have e:=q228n 270 (by decide)
  simp [t216,n216,h22,w,e]
 have ok:=w.1
 rw [if_pos w] at h22
 have h162:=r162 (boundL p c.best) c.value (by simp [boundL])
 obtain ⟨B,hB⟩ : ∃ B,B = boundL p c.best:=⟨_,rfl⟩
 rw [<- hB] at h22 h162
 simp only [dInts] at h162
 by_cases hv : B = c.value
 rotate_left
 ·have hA : ¬ Acc p c:=fun a=>hv (hB.trans a.value)
  simp [t216,n216,h22,w,q228z,q229f,h162,hv,hA]
 rw [hv] at h22 h162
 obtain ⟨bs,hbs⟩ : ∃ bs : List (List Int),bs = c.leaves.map (·.branch):=⟨_,rfl⟩
 have hbl : bs.length = c.leaves.length:=by rw [hbs,List.length_map]
 have m3:=M.leaves
 have h230:=r230 p bs S (by omega)
 simp only [dProb] at h230
 simp [t216,n216,h22,w,q228z,q229f,q229t,h162,hv]
 refine wT_up c.leaves.length (fun i env h=>∃ (x5 x7 x8 x9 x10 x11 x12 x13 x17 x18 x19 x20 x21 x22 x23 x24 x25 x26 x27 x28 : D) (sp : Spare),env = [dProb p,dCert c,.loc 0 0,.loc 1 0,.loc 2 0,x5,.imm sp ((bs.take i).map dInts),x7,x8,x9,x10,x11,x12,x13,.imm .none (c.leaves.map dLeaf),dI c.leaves.length,dI i,x17,x18,x19,x20,x21,x22,x23,x24,x25,x26,x27,x28] /\
  At h 0 (.cells (dProb p).cellsL) /\ At h 1 (.cells (dCert c).cellsL) /\ At h 2 (.cells [dI 0]) /\ Room 3 h sp i 1 /\ 3 <= h.length) 0 (by omega)
  ⟨_,_,_,_,_,_,_,_,_,_,_,_,_,_,_,_,_,_,_,_,.exact,rfl,rfl,rfl,rfl,.inl rfl,by simp⟩ ?_
 rintro i env h hi ⟨x5,x7,x8,x9,x10,x11,x12,x13,x17,x18,x19,x20,x21,x22,x23,x24,x25,x26,x27,x28,sp,rfl,a1,a2,a3,a4,a5⟩
 by_cases hlt : i < c.leaves.length
 ·obtain ⟨W',hT⟩ : ∃ W',bs.take (i + 1) = W':=⟨_,rfl⟩
  obtain ⟨W,hW⟩ : ∃ W,bs.take i = W:=⟨_,rfl⟩
  have htk : W' = W ++ [c.leaves[i].branch]:=by
   rw [<- hT,<- hW,List.take_succ_eq_append_getElem (by omega)]; simp [hbs]
  have hWl : W.length = i:=by rw [<- hW]; simp; omega
  have hcat : List.map dInts W ++ [D.imm Spare.none (List.map dI c.leaves[i].branch)] = List.map dInts W':=by rw [htk]; simp
  have hap : ∀ y,appOk E 1 (List.map dInts W) [y]:=fun y=>by
   refine ⟨?_,?_,?_,fitsA_ints⟩ <;> simp [maxBytes]
   omega
  rw [hW]
  rcases a4 with rfl | ⟨k,rfl,hk,hk2⟩
  ·simp [hlt,app0_step,app0_exact,hap,wrap_up hlt (by omega),hcat,hWl,↓hT]
   repeat apply Exists.intro
   exact ⟨by and_intros <;> rfl,a1.app,a2.app,a3.app,.inr ⟨h.length + 1,rfl,by omega,by rw [Nat.mul_one]; exact get_app2⟩,by omega⟩
  ·rw [Nat.mul_one] at hk2
   simp [hlt,app0_step,app0_tok,hap,wrap_up hlt (by omega),hcat,hWl,↓hT,↓hk2.appE]
   have hkl:=hk2.lt
   repeat apply Exists.intro
   exact ⟨by and_intros <;> rfl,(a1.app.ne (by omega)).app,(a2.app.ne (by omega)).app,(a3.app.ne (by omega)).app,.inr ⟨h.length + 1,rfl,by omega,by
    rw [Nat.mul_one]
    have:=get_app2 (hp:=(h ++ [Obj.cells [D.imm Spare.none (List.map dI c.leaves[i].branch),dI c.leaves[i].kind,D.imm Spare.none (List.map dInts c.leaves[i].mult)]]).set k Obj.dead) (r:=[Obj.tok (i + 1) 1]) (k:=0)
    simpa [At] using this⟩,by omega⟩
 ·have : i = c.leaves.length:=by omega
  subst this
  have hfull : bs.take c.leaves.length = bs:=List.take_of_length_le (by omega)
  rw [hfull]
  clear a4
  have l2:=a3.lt
  have q0 : ∀ x,(h.set 2 x)[0]? = some (.cells (dProb p).cellsL):=fun x=>(a1.ne (by omega)).eq
  have q1 : ∀ x,(h.set 2 x)[1]? = some (.cells (dCert c).cellsL):=fun x=>(a2.ne (by omega)).eq
  have q2 : ∀ x,(h.set 2 x)[2]? = some x:=fun x=>(At.self l2).eq
  unfold resCov at h230
  rw [if_pos ok] at h230
  obtain ⟨A,hA⟩ : ∃ A,A = ∀ b,b ∈ bs -> OkB p b:=⟨_,rfl⟩
  simp only [<- hA] at h230
  by_cases kA : A
  rotate_left
  ·have hAc : ¬ Acc p c:=fun a=>kA (by
    rw [hA,hbs]
    intro b hb
    obtain ⟨l,hl,rfl⟩:=List.mem_map.1 hb
    exact a.branch l hl)
   rw [if_neg kA] at h230
   simp [a1.eq,h230,a3.eq,↓q2,q228n 310 (by decide),hAc]
  rw [if_pos kA] at h230
  rw [hA,hbs] at kA
  have kA2 : ∀ l,l ∈ c.leaves -> OkB p l.branch:=fun l hl=>kA _ (List.mem_map.2 ⟨l,hl,rfl⟩)
  clear hA
  obtain ⟨V,hV⟩ : ∃ V,V = divD p (p.vars.length + 1) 0 bs:=⟨_,rfl⟩
  rw [<- hV] at h230
  cases V with
  | false=>
   have hAc : ¬ Acc p c:=fun a=>by
    have:=a.div
    rw [<- hbs,<- hV] at this; cases this
   simp [a1.eq,h230,a3.eq,↓q2,q228z,q229f,hAc]
  | true=>
  have hacc : (∀ j,(hj : j < c.leaves.length) -> leafOk p c.best c.leaves[j]) -> Acc p c:=fun h=>⟨w,hB.symm.trans hv,kA2,by rw [<- hbs,<- hV],fun l hl=>by
   obtain ⟨j,hj,rfl⟩:=List.getElem_of_mem hl; exact h j hj⟩
  simp [a1.eq,h230,a3.eq,↓q2,↓q1,q228z,q229t]
  refine wT_all c.leaves.length (fun j=>∀ hj : j < c.leaves.length,leafOk p c.best c.leaves[j])
   (fun i env h=>∃ (x5 x6 x7 x8 x9 x10 x11 x12 x13 x14 x15 x16 x17 x18 x19 x20 x21 x22 x26 x27 x28 : D) ,env = [dProb p,dCert c,.loc 0 0,.loc 1 0,.loc 2 0,x5,x6,x7,x8,x9,x10,x11,x12,x13,x14,x15,x16,x17,x18,x19,x20,x21,x22,.imm .none (c.leaves.map dLeaf),dI c.leaves.length,dI i,x26,x27,x28] /\
    At h 0 (.cells (dProb p).cellsL) /\ At h 1 (.cells (dCert c).cellsL) /\ At h 2 (.cells [dI 0]))
   ⟨_,_,_,_,_,_,_,_,_,_,_,_,_,_,_,_,_,_,_,_,_,rfl,a1.ne (by omega),a2.ne (by omega),At.self l2⟩ ?_ ?_
  ·clear a1 a2 a3 a5 l2 q0 q1 q2 hi
   rintro i env h hi ⟨x5,x6,x7,x8,x9,x10,x11,x12,x13,x14,x15,x16,x17,x18,x19,x20,x21,x22,x26,x27,x28,rfl,a1,a2,a3⟩ hall
   have l2:=a3.lt
   have h231:=r231 p c.best c.leaves[i] S M.best (M.leaf _ (List.getElem_mem hi))
   unfold lk at h231
   rw [if_pos w] at h231
   simp only [dProb,dInts,dLeaf'] at h231
   have q2 : ∀ r x,((h ++ r).set 2 x)[2]? = some x:=fun r x=>(At.self (by simp; omega)).eq
   by_cases k : leafOk p c.best c.leaves[i]
   ·rw [if_pos k] at h231
    simp [hi,↓a1.appE,↓a2.appE,↓a3.appE,wrap_up hi (by omega),h231,q228z,k]
    exact ⟨a1.app,a2.app,a3.app⟩
   ·rw [if_neg k] at h231
    have hAc : ¬ Acc p c:=fun a=>k (a.leaf _ (List.getElem_mem hi))
    simp [hi,↓a1.appE,↓a2.appE,↓a3.appE,h231,q228n 310 (by decide),↓q2,hAc]
  ·clear a1 a2 a3 a5 l2 q0 q1 q2 hi
   rintro env h ⟨x5,x6,x7,x8,x9,x10,x11,x12,x13,x14,x15,x16,x17,x18,x19,x20,x21,x22,x26,x27,x28,rfl,a1,a2,a3⟩ hall
   have l2:=a3.lt
   have q2 : ∀ x,(h.set 2 x)[2]? = some x:=fun x=>(At.self l2).eq
   simp [a3.eq,↓q2,hacc fun j hj=>hall j hj hj]

theorem s244 (n : Int) (h : 0 <= n) (h' : n <= 1000000) (hp : List Obj) : runS E (dL E) (244) [.imm .exact [],dI n] hp = some (.imm (.tok hp.length) [],hp ++ [.tok 0 4]):=by
 have e : E.fn (244) = some f244:=rfl
 have e2 : E.mp 244 = false:=rfl
 have e3 : ¬ n < 0:=by omega
 have e4 : n * 65 <= maxBytes:=by unfold maxBytes; omega
 have e5 : fitsE 4 [] = true:=rfl
 unfold runS
 simp only [e,e2,f244,startF,dL_seq,dL_region,dL_ifp,dL_cond,dL_ret,finishQ]
 simp [stepOps,stepOp,wantedD,putO,DOp.fin,finOp,pureOp,getO,gOf,dL_ret,finishF,resD,appendG,appendM,appendI,lenD,binD,listOf,applyEf,addO,dL_cond,dL_skip,isMark,e3,e4,e5,h,intBin]

theorem fitsA_var {l : List Var} : fitsE 4 (l.map dVar) = true:=by
 unfold fitsE
 rw [List.all_eq_true]
 intro x hx
 obtain ⟨r,_,rfl⟩:=List.mem_map.1 hx
 rfl
def catN (ls : List (List Var)) (i : Nat) : List Var:=(ls.take i).flatten
theorem catN_s {ls : List (List Var)} {i : Nat} (h : i < ls.length) : catN ls (i + 1) = catN ls i ++ ls[i]:=by
 unfold catN
 rw [List.take_succ_eq_append_getElem h,List.flatten_append]; simp
theorem catN_le {ls : List (List Var)} {i : Nat} : (catN ls i).length <= (catN ls ls.length).length:=by
 have h : ls.flatten = (ls.take i).flatten ++ (ls.drop i).flatten:=by rw [<- List.flatten_append,List.take_append_drop]
 unfold catN
 rw [List.take_length,h,List.length_append]; omega
theorem appOk_var {a b : List Var} (h : a.length + b.length <= 100000) : appOk E 15 (a.map dVar) (b.map dVar):=by
 refine ⟨?_,?_,?_,fitsA_var⟩ <;> simp [maxBytes]
 omega

theorem r233 (ls : List (List Var)) (h1 : (catN ls ls.length).length <= 1000) (h2 : ls.length <= 1000) : runP E (dL E) 233 [.imm .none (ls.map fun l=>.imm .none (l.map dVar))] = some (.imm .none ((catN ls ls.length).map dVar)):=by
 refine runP_T c233 (by simp) ?_
 simp [t233,n233]
 refine wT_up ls.length (fun i env h=>∃ (x1 x3 x4 x5 x9 x10 x11 x12 x13 x14 x15 x16 : D) (m : Nat),env = [.imm .none (ls.map fun l=>.imm .none (l.map dVar)),x1,dI m,x3,x4,x5,.imm .none (ls.map fun l=>.imm .none (l.map dVar)),dI ls.length,dI i,x9,x10,x11,x12,x13,x14,x15,x16] /\ h = [] /\ m = (catN ls i).length) 0 (by omega) ⟨_,_,_,_,_,_,_,_,_,_,_,_,0,rfl,rfl,rfl⟩ ?_
 rintro i env h hi ⟨x1,x3,x4,x5,x9,x10,x11,x12,x13,x14,x15,x16,m,rfl,rfl,hm⟩
 by_cases hlt : i < ls.length
 ·have hs:=catN_s hlt
  have hb:=catN_le (ls:=ls) (i:=i + 1)
  obtain ⟨W,hW⟩ : ∃ W,ls[i] = W:=⟨_,rfl⟩
  rw [hW] at hs
  rw [hs,List.length_append] at hb
  have w:=wrap_i64 (n:=(m : Int) + W.length) ⟨by omega,by omega⟩
  have hn : ¬ (m : Int) + W.length < 0:=by omega
  rw [hm] at w hn
  simp [hlt,hW,w,hn,wrap_up hlt (by omega),hs,hm]
 ·have : i = ls.length:=by omega
  subst this
  have e:=s244 (m : Int) (by omega) (by omega) []
  have fb : ∀ l : List Var,((l.map dVar).all fun d=>d.storable && d.cellsL.length == 4) = true:=fun l=>fitsA_var
  simp [e]
  refine wT_up ls.length (fun i env h=>∃ (x1 x2 x3 x5 x6 x7 x8 x9 x10 x11 x15 x16 : D) (k : Nat),env = [.imm .none (ls.map fun l=>.imm .none (l.map dVar)),x1,x2,x3,.imm (.tok k) ((catN ls i).map dVar),x5,x6,x7,x8,x9,x10,x11,.imm .none (ls.map fun l=>.imm .none (l.map dVar)),dI ls.length,dI i,x15,x16] /\ At h k (.tok ((catN ls i).length * 4) 4)) 0 (by omega) ⟨_,_,_,_,_,_,_,_,_,_,_,_,0,rfl,rfl⟩ ?_
  clear hi hm e
  rintro i env h hi ⟨x1,x2,x3,x5,x6,x7,x8,x9,x10,x11,x15,x16,k,rfl,a1⟩
  by_cases hlt : i < ls.length
  ·have hs:=catN_s hlt
   have hb:=catN_le (ls:=ls) (i:=i + 1)
   obtain ⟨W,hW⟩ : ∃ W,ls[i] = W:=⟨_,rfl⟩
   obtain ⟨C,hC⟩ : ∃ C,catN ls i = C:=⟨_,rfl⟩
   obtain ⟨C',hC'⟩ : ∃ C,catN ls (i + 1) = C:=⟨_,rfl⟩
   rw [hW,hC,hC'] at hs
   rw [hC',hs,List.length_append] at hb
   have hap:=appOk_var (a:=C) (b:=W) (by omega)
   rw [hC] at a1 ⊢
   have hcat : C.map dVar ++ W.map dVar = C'.map dVar:=by rw [hs]; simp
   have hlen : C'.length = C.length + W.length:=by rw [hs]; simp
   simp [hlt,hW,app0_step,app0_tok,a1.eq,hap,fb,wrap_up hlt (by omega),↓hC']
   have hg:=get_app2 (hp:=h.set k Obj.dead) (r:=[Obj.tok ((C.length + W.length) * 4) 4]) (k:=0)
   rw [List.length_set,Nat.add_zero] at hg
   repeat apply Exists.intro
   refine ⟨?_,hg.trans (by rw [hlen]; rfl)⟩
   and_intros <;> first | rfl | exact hcat
  ·have : i = ls.length:=by omega
   subst this
   simp


def putVar (p : Prob) (i : Nat) (v : Var) : Prob:=⟨p.cells,p.capacity,p.vars.set i v⟩

theorem slice_hiV {l : List Var} {i : Nat} (h : i <= l.length) : sliceD E 14 (.imm .none (l.map dVar)) none (some (dI i)) none = some (.imm .none ((l.take i).map dVar)):=by
 have hh : headFits 4 (l.map dVar) = true:=by cases l <;> rfl
 simp [sliceD,bnd,sliceSpare,hh,h]
theorem slice_loV {l : List Var} {i : Nat} (h : i <= l.length) : sliceD E 14 (.imm .none (l.map dVar)) (some (dI i)) none none = some (.imm .none ((l.drop i).map dVar)):=by
 have hh : headFits 4 (l.map dVar) = true:=by cases l <;> rfl
 have ht : (List.drop i (l.map dVar)).take (l.length - i) = List.drop i (l.map dVar):=List.take_of_length_le (by simp)
 simp [sliceD,bnd,sliceSpare,hh,h,ht]

theorem r224 (p : Prob) (i : Nat) (v : Var) (hi : i < p.vars.length) (hv : p.vars.length <= 100) : runP E (dL E) 224 [dProb p,dI i,.imm .none [dVar v]] = some (dProb (putVar p i v)):=by
 refine runP_T c224 (by simp) ?_
 have s1:=slice_hiV (l:=p.vars) (i:=i) (by omega)
 have s2:=slice_loV (l:=p.vars) (i:=i + 1) (by omega)
 have hc : catN [p.vars.take i,[v],p.vars.drop (i + 1)] 3 = p.vars.set i v:=by
  simp [catN,List.set_eq_take_append_cons_drop,hi]
 obtain ⟨A,hA⟩ : ∃ A,p.vars.take i = A:=⟨_,rfl⟩
 obtain ⟨C,hC⟩ : ∃ C,p.vars.drop (i + 1) = C:=⟨_,rfl⟩
 obtain ⟨V,hV⟩ : ∃ V,p.vars.set i v = V:=⟨_,rfl⟩
 have hVl : V.length = p.vars.length:=by rw [<- hV,List.length_set]
 rw [hA] at s1
 rw [hC] at s2
 rw [hA,hC,hV] at hc
 have h233:=r233 [A,[v],C] (by rw [show [A,[v],C].length = 3 from rfl,hc]; omega) (by simp)
 rw [show [A,[v],C].length = 3 from rfl,hc] at h233
 unfold putVar
 rw [hV]
 have w:=wrap_i64 (n:=(i : Int) + 1) ⟨by omega,by omega⟩
 simp at h233 s1 s2
 simp [t224,n224,w,s1,s2,h233]

theorem wrap_up9 {i n : Nat} (h : i < n) (hn : n <= 9223372036854775807) : Go.IntKind.i64.wrap ((i : Int) + 1) = (i : Int) + 1:=wrap_i64 ⟨by omega,by omega⟩
theorem wrap_pred9 {i : Nat} (h0 : 0 < i) (h : i <= 9223372036854775807) : Go.IntKind.i64.wrap ((i : Int) - 1) = ((i - 1 : Nat) : Int):=by
 rw [wrap_i64 ⟨by omega,by omega⟩]; omega
theorem wrap_nat9 {n : Nat} (h : n <= 9223372036854775807) : Go.IntKind.i64.wrap (n : Int) = (n : Int):=wrap_i64 ⟨by omega,by omega⟩

structure Mid (p : Prob) : Prop where
 cells : p.cells.length <= 12
 cap : p.capacity.length <= 4
 rows : ∀ l,l ∈ p.capacity -> l.length <= 16
 vars : p.vars.length <= 6
 leaves : ∀ v,v ∈ p.vars -> v.leaves.length <= 9223372036854775807
 choices : ∀ v,v ∈ p.vars -> v.choices.length <= 9223372036854775807
 uses : ∀ v,v ∈ p.vars -> ∀ c,c ∈ v.choices -> c.uses.length <= 9223372036854775807

theorem g73 (l : List Int) (k : Nat) (c : Int -> Int -> Int) (hc : ∀ a b,runP E (dL E) k [dI a,dI b] = some (dI (c a b))) (hl : l.length <= 9223372036854775807) :
  runP E (dL E) 73 [.imm .none (l.map dI),.fn k []] = some (.bool (incrB c l)):=by
 refine runP_T c73 (by simp) ?_
 simp [t73,n73]
 refine wT_up (l.length + 1) (fun i env hp=>∃ c4 c5 : D,env = [.imm .none (l.map dI),.fn k [],.bool false,dI i,c4,c5] /\ ∃ j,i = j + 1 /\ incrB c (l.drop j) = incrB c l) 1 (by omega) ⟨_,_,rfl,0,rfl,rfl⟩ ?_
 rintro i env hp hi ⟨c4,c5,rfl,j,rfl,hm⟩
 by_cases hlt : j + 1 < l.length
 ·have hj : j < l.length:=by omega
  rw [drop_cons hj,drop_cons hlt] at hm
  have hk:=hc l[j] l[j + 1]
  have hlt' : (j : Int) + 1 < l.length:=by omega
  have hnn : (0 : Int) <= (j : Int) + 1:=by omega
  by_cases h0 : c l[j] l[j + 1] < 0
  ·simp [incrB,h0] at hm
   have h0' : ¬ 0 <= c l[j] l[j + 1]:=by omega
   simp [hlt,hlt',hj,hnn,wrap_nat9 (n:=j) (by omega),wrap_i64 (n:=(j : Int) + 1) ⟨by omega,by omega⟩,wrap_i64 (n:=(j : Int) + 1 + 1) ⟨by omega,by omega⟩,hk,h0',hm]
  ·simp [incrB,h0] at hm
   have h0' : 0 <= c l[j] l[j + 1]:=by omega
   simp [hlt,hlt',hj,hnn,wrap_nat9 (n:=j) (by omega),wrap_i64 (n:=(j : Int) + 1) ⟨by omega,by omega⟩,hk,h0',hm]
 ·have he : incrB c (l.drop j) = true:=incrB_end (by simp; omega)
  have hlt' : ¬ (j : Int) + 1 < l.length:=by omega
  rw [he] at hm
  simp [hlt,hlt',<- hm]

theorem g75 (l : List Use) (k : Nat) (c : Use -> Use -> Int) (hc : ∀ a b,runP E (dL E) k [dUse a,dUse b] = some (dI (c a b))) (hl : l.length <= 9223372036854775807) :
  runP E (dL E) 75 [.imm .none (l.map dUse),.fn k []] = some (.bool (incrB c l)):=by
 refine runP_T c75 (by simp) ?_
 simp [t75,n75]
 refine wT_up (l.length + 1) (fun i env hp=>∃ c4 c5 : D,env = [.imm .none (l.map dUse),.fn k [],.bool false,dI i,c4,c5] /\ ∃ j,i = j + 1 /\ incrB c (l.drop j) = incrB c l) 1 (by omega) ⟨_,_,rfl,0,rfl,rfl⟩ ?_
 rintro i env hp hi ⟨c4,c5,rfl,j,rfl,hm⟩
 by_cases hlt : j + 1 < l.length
 ·have hj : j < l.length:=by omega
  rw [drop_cons hj,drop_cons hlt] at hm
  have hk:=hc l[j] l[j + 1]
  have hlt' : (j : Int) + 1 < l.length:=by omega
  have hnn : (0 : Int) <= (j : Int) + 1:=by omega
  by_cases h0 : c l[j] l[j + 1] < 0
  ·simp [incrB,h0] at hm
   have h0' : ¬ 0 <= c l[j] l[j + 1]:=by omega
   simp [hlt,hlt',hj,hnn,wrap_nat9 (n:=j) (by omega),wrap_i64 (n:=(j : Int) + 1) ⟨by omega,by omega⟩,wrap_i64 (n:=(j : Int) + 1 + 1) ⟨by omega,by omega⟩,hk,h0',hm]
  ·simp [incrB,h0] at hm
   have h0' : 0 <= c l[j] l[j + 1]:=by omega
   simp [hlt,hlt',hj,hnn,wrap_nat9 (n:=j) (by omega),wrap_i64 (n:=(j : Int) + 1) ⟨by omega,by omega⟩,hk,h0',hm]
 ·have he : incrB c (l.drop j) = true:=incrB_end (by simp; omega)
  have hlt' : ¬ (j : Int) + 1 < l.length:=by omega
  rw [he] at hm
  simp [hlt,hlt',<- hm]

theorem g15 (p : Prob) (S : Mid p) : runP E (dL E) 15 [dProb p] = some (dI (ck p)):=by
 refine runP_T c15 (by simp) ?_
 generalize hB : ck p = B
 have hBf : ¬ OkP p -> B = 270:=by intro h; rw [<- hB]; simp [ck,h]
 have hBt : OkP p -> B = 0:=by intro h; rw [<- hB]; simp [ck,h]
 have s1:=S.cells
 have s2:=S.cap
 have s3:=S.vars
 have h69:=r69 p.cells 70 cmpC r70 (by omega)
 simp [t15,n15,r67,h69]
 have h1 : ¬ (4096 : Int) < p.cells.length:=by omega
 by_cases h2 : (p.capacity.length : Int) < 1
 ·have h2' : ((p.capacity.length : Int) < 1 \/ (32 : Int) < p.capacity.length):=.inl h2
  simp [h1,h2',hBf (fun ok=>by have:=ok.some; omega)]
 have h2' : ¬ ((p.capacity.length : Int) < 1 \/ (32 : Int) < p.capacity.length):=by omega
 have h4 : ¬ (64 : Int) < p.vars.length:=by omega
 cases hinc : incrB cmpC p.cells with
 | false=>
  simp [h1,h2',h4,hBf (fun ok=>by
   have : incrB cmpC p.cells = true:=incrB_iff.2 fun i hi=>by
    have:=ok.incr i hi
    rw [<- ltC_cmp] at this; exact this
   rw [hinc] at this; cases this)]
 | true=>
 have hincr:=incrB_iff.1 hinc
 simp [h1,h2',h4]
 obtain ⟨P,hP⟩ : ∃ P : Nat -> Prop,P = fun i=>∀ (h : i < p.cells.length),0 <= p.cells[i].index /\ 0 <= p.cells[i].minute:=⟨_,rfl⟩
 refine wT_all p.cells.length P
  (fun i env hp=>∃ (x4 x5 x6 x7 x8 x9 x10 x11 x15 x16 x17 x18 x19 x20 x21 x22 x23 x24 x25 x26 x27 x28 x29 x30 x31 x32 x33 x34 x35 x36 x37 x38 x39 x40 : D) (es : List Cell) (h : List Obj),env = [dProb p,.loc 0 0,dI 0,.map (some 1),x4,x5,x6,x7,x8,x9,x10,x11,.imm .none (p.cells.map dCell),dI p.cells.length,dI i,x15,x16,x17,x18,x19,x20,x21,x22,x23,x24,x25,x26,x27,x28,x29,x30,x31,x32,x33,x34,x35,x36,x37,x38,x39,x40] /\ hp = .cells (dProb p).cellsL :: .map (es.map kent) :: h /\ ∀ c,c ∈ es ↔ c ∈ p.cells.take i)
  ⟨_,_,_,_,_,_,_,_,_,_,_,_,_,_,_,_,_,_,_,_,_,_,_,_,_,_,_,_,_,_,_,_,_,_,[],_,rfl,rfl,by simp⟩ ?_ ?_
 ·rintro i env hp hi ⟨x4,x5,x6,x7,x8,x9,x10,x11,x15,x16,x17,x18,x19,x20,x21,x22,x23,x24,x25,x26,x27,x28,x29,x30,x31,x32,x33,x34,x35,x36,x37,x38,x39,x40,es,h,rfl,rfl,hes⟩ hall
  have hBc : ¬ (0 <= p.cells[i].index /\ 0 <= p.cells[i].minute) -> B = 270:=fun hn=>hBf (fun ok=>hn (ok.nonneg _ (List.getElem_mem hi)))
  simp [hi,get_mid,set_mid]
  by_cases g1 : p.cells[i].index < 0
  ·simp [g1,hBc (by omega)]
  by_cases g2 : p.cells[i].minute < 0
  ·simp [g1,g2,hBc (by omega)]
  have hPi : P i:=by rw [hP]; exact fun _=>⟨by omega,by omega⟩
  have hput:=put_kent (c:=p.cells[i]) (es:=es)
  simp at hput
  simp [g1,g2,get_mid,hput,wrap_up9 hi (by omega),hPi]
  refine ⟨_,rfl,fun c=>?_⟩
  have hts : p.cells.take (i + 1) = p.cells.take i ++ [p.cells[i]]:=by simp
  rw [hts,List.mem_append,<- hes c]
  by_cases hm : p.cells[i] ∈ es
  ·rw [if_pos hm]
   constructor
   ·exact .inl
   ·rintro (h | h)
    ·exact h
    ·simp at h; rw [h]; exact hm
  ·rw [if_neg hm,List.mem_append]
 rintro env hp ⟨x4,x5,x6,x7,x8,x9,x10,x11,x15,x16,x17,x18,x19,x20,x21,x22,x23,x24,x25,x26,x27,x28,x29,x30,x31,x32,x33,x34,x35,x36,x37,x38,x39,x40,es,h,rfl,rfl,hes⟩ hcells
 rw [hP] at hcells
 rw [List.take_length] at hes
 simp
 clear hP P
 obtain ⟨P,hP⟩ : ∃ P : Nat -> Prop,P = fun i=>∀ (h : i < p.capacity.length),p.capacity[i].length = p.cells.length /\ ∀ n,n ∈ p.capacity[i] -> wi n 0 4096:=⟨_,rfl⟩
 refine wT_all p.capacity.length P
  (fun i env hp=>∃ (x4 x5 x6 x7 x8 x9 x10 x11 x12 x13 x14 x15 x16 x17 x21 x22 x23 x24 x25 x26 x27 x28 x29 x30 x31 x32 x33 x34 x35 x36 x37 x38 x39 x40 : D) (h : List Obj),env = [dProb p,.loc 0 0,dI 0,.map (some 1),x4,x5,x6,x7,x8,x9,x10,x11,x12,x13,x14,x15,x16,x17,.imm .none (p.capacity.map dInts),dI p.capacity.length,dI i,x21,x22,x23,x24,x25,x26,x27,x28,x29,x30,x31,x32,x33,x34,x35,x36,x37,x38,x39,x40] /\ hp = .cells (dProb p).cellsL :: .map (es.map kent) :: h)
  ⟨_,_,_,_,_,_,_,_,_,_,_,_,_,_,_,_,_,_,_,_,_,_,_,_,_,_,_,_,_,_,_,_,_,_,_,rfl,rfl⟩ ?_ ?_
 ·rintro i env hp hi ⟨x4,x5,x6,x7,x8,x9,x10,x11,x12,x13,x14,x15,x16,x17,x21,x22,x23,x24,x25,x26,x27,x28,x29,x30,x31,x32,x33,x34,x35,x36,x37,x38,x39,x40,h,rfl,rfl⟩ hall
  have hBc : ¬ (p.capacity[i].length = p.cells.length /\ ∀ n,n ∈ p.capacity[i] -> wi n 0 4096) -> B = 270:=fun hn=>hBf (fun ok=>hn (ok.cap _ (List.getElem_mem hi)))
  obtain ⟨q,hq,h71⟩:=r71w p.capacity[i] (by have:=S.rows _ (List.getElem_mem hi); omega)
  simp [hi,h71]
  by_cases g1 : p.capacity[i].length = p.cells.length
  rotate_left
  ·have g1' : ¬ (p.capacity[i].length : Int) = p.cells.length:=by omega
   simp [g1,g1',hBc (fun h=>g1 h.1)]
  simp [g1]
  cases q with
  | false=>
   have g2 : ∀ n,n ∈ p.capacity[i] -> wi n 0 4096:=Classical.byContradiction fun h=>by
    have:=hq.2 h; cases this
   have hPi : P i:=by rw [hP]; exact fun _=>⟨g1,g2⟩
   simp [wrap_up9 hi (by omega),hPi]
  | true=>simp [hBc (fun h=>hq.1 rfl h.2)]
 rintro env hp ⟨x4,x5,x6,x7,x8,x9,x10,x11,x12,x13,x14,x15,x16,x17,x21,x22,x23,x24,x25,x26,x27,x28,x29,x30,x31,x32,x33,x34,x35,x36,x37,x38,x39,x40,h,rfl,rfl⟩ hcap
 rw [hP] at hcap
 simp
 clear hP P
 obtain ⟨P,hP⟩ : ∃ P : Nat -> Prop,P = fun i=>∀ (h : i < p.vars.length),OkVar p p.vars[i]:=⟨_,rfl⟩
 refine wT_all p.vars.length P
  (fun i env hp=>∃ (x4 x5 x6 x7 x8 x9 x10 x11 x12 x13 x14 x15 x16 x17 x18 x19 x20 x21 x22 x26 x27 x28 x29 x30 x31 x32 x33 x34 x35 x36 x37 x38 x39 x40 : D) (h : List Obj),env = [dProb p,.loc 0 0,dI 0,.map (some 1),x4,x5,x6,x7,x8,x9,x10,x11,x12,x13,x14,x15,x16,x17,x18,x19,x20,x21,x22,.imm .none (p.vars.map dVar),dI p.vars.length,dI i,x26,x27,x28,x29,x30,x31,x32,x33,x34,x35,x36,x37,x38,x39,x40] /\ hp = .cells (dProb p).cellsL :: .map (es.map kent) :: h)
  ⟨_,_,_,_,_,_,_,_,_,_,_,_,_,_,_,_,_,_,_,_,_,_,_,_,_,_,_,_,_,_,_,_,_,_,_,rfl,rfl⟩ ?_ ?_
 ·rintro i env hp hi ⟨x4,x5,x6,x7,x8,x9,x10,x11,x12,x13,x14,x15,x16,x17,x18,x19,x20,x21,x22,x26,x27,x28,x29,x30,x31,x32,x33,x34,x35,x36,x37,x38,x39,x40,h,rfl,rfl⟩ hall
  have hmem:=List.getElem_mem hi
  have hBv : ¬ OkVar p p.vars[i] -> B = 270:=fun hn=>hBf (fun ok=>hn (ok.vars _ hmem))
  have l1:=S.leaves _ hmem
  have l2:=S.choices _ hmem
  have h73:=g73 p.vars[i].leaves 74 cmpI r74 (by omega)
  have hcapw:=s2
  simp [hi,get_mid,set_mid,r67,h73]
  by_cases g1 : p.vars[i].leaves = []
  ·simp [g1,hBv (fun ok=>by have:=ok.some; rw [g1] at this; simp at this)]
  have g1l : p.vars[i].leaves.length ≠ 0:=fun h=>g1 (List.length_eq_zero_iff.1 h)
  by_cases g2 : (p.vars[i].choices.length : Int) < 1
  ·have g2' : ¬ (1 : Int) <= p.vars[i].choices.length:=by omega
   simp [g1,g2',hBv (fun ok=>by have:=ok.one; omega)]
  have g2' : (1 : Int) <= p.vars[i].choices.length:=by omega
  by_cases g2'' : (p.vars[i].choices.length : Int) <= 96
  rotate_left
  ·simp [g1,g2',g2'',hBv (fun ok=>by have:=ok.most; omega)]
  cases g3 : incrB cmpI p.vars[i].leaves with
  | false=>
   simp [g1,g2',g2'',hBv (fun ok=>by
    have : incrB cmpI p.vars[i].leaves = true:=incrB_iff.2 fun k hk=>cmpI_neg.2 (ok.incr k hk)
    rw [g3] at this; cases this)]
  | true=>
  have g3':=incrB_iff.1 g3
  have hl0 : 0 < p.vars[i].leaves.length:=by omega
  by_cases g4 : p.vars[i].leaves[0] < 0
  ·simp [g1,g2',g2'',hl0,get_mid,g4,hBv (fun ok=>by
    have:=ok.leaves _ (List.getElem_mem hl0)
    unfold wi at this; omega)]
  have hl1 : p.vars[i].leaves.length - 1 < p.vars[i].leaves.length:=by omega
  have hwp : Go.IntKind.i64.wrap ((p.vars[i].leaves.length : Int) - 1) = ((p.vars[i].leaves.length - 1 : Nat) : Int):=wrap_pred9 hl0 (by omega)
  by_cases g5 : (p.capacity.length : Int) <= p.vars[i].leaves[p.vars[i].leaves.length - 1]
  ·simp [g1,g2',g2'',hl0,hl1,get_mid,g4,g5,hwp,hBv (fun ok=>by
    have:=ok.leaves _ (List.getElem_mem hl1)
    unfold wi at this; omega)]
  simp [g1,g2',g2'',hl0,hl1,get_mid,g4,g5,hwp]
  have hleaves : ∀ n,n ∈ p.vars[i].leaves -> wi n 0 (p.capacity.length - 1):=mem_get.2 fun k hk=>by
   have e : ∀ (k : Nat) (hk : k + 1 < p.vars[i].leaves.length),p.vars[i].leaves[k] < p.vars[i].leaves[k + 1]:=fun k hk=>cmpI_neg.1 (g3' k hk)
   have e1:=incr_le e k 0 hk (by omega)
   have e2:=incr_le e (p.vars[i].leaves.length - 1) k hl1 (by omega)
   unfold wi; omega
  obtain ⟨P2,hP2⟩ : ∃ P : Nat -> Prop,P = fun k=>∀ (h : k < p.vars[i].choices.length),OkChoice p p.vars[i].choices[k]:=⟨_,rfl⟩
  refine wT_all p.vars[i].choices.length P2
   (fun k env hp=>∃ (x4 x5 x7 x8 x9 x10 x11 x12 x13 x14 x15 x16 x17 x18 x19 x20 x21 x22 x26 x27 x28 x32 x33 x34 x35 x36 x37 x38 x39 x40 : D) (G : List Obj),env = [dProb p,.loc 0 0,dI 0,.map (some 1),x4,x5,.loc (h.length + 2) 0,x7,x8,x9,x10,x11,x12,x13,x14,x15,x16,x17,x18,x19,x20,x21,x22,.imm .none (p.vars.map dVar),dI p.vars.length,dI i,x26,x27,x28,.imm .none (p.vars[i].choices.map dChoice),dI p.vars[i].choices.length,dI k,x32,x33,x34,x35,x36,x37,x38,x39,x40] /\ hp = .cells (dProb p).cellsL :: .map (es.map kent) :: G /\ G[h.length]? = some (.cells (dVar p.vars[i]).cellsL))
   ⟨_,_,_,_,_,_,_,_,_,_,_,_,_,_,_,_,_,_,_,_,_,_,_,_,_,_,_,_,_,_,_,rfl,rfl,get_mid⟩ ?_ ?_
  ·rintro k env hp hk ⟨x4,x5,x7,x8,x9,x10,x11,x12,x13,x14,x15,x16,x17,x18,x19,x20,x21,x22,x26,x27,x28,x32,x33,x34,x35,x36,x37,x38,x39,x40,G,rfl,rfl,hG⟩ hall2
   have hBc : ¬ OkChoice p p.vars[i].choices[k] -> B = 270:=fun hn=>hBv (fun ok=>hn (ok.choices _ (List.getElem_mem hk)))
   have hmemk:=List.getElem_mem hk
   have l3:=S.uses _ hmem _ hmemk
   have h75:=g75 p.vars[i].choices[k].uses 76 (fun a b=>cmpC a.cell b.cell) r76 (by omega)
   simp [hk,get_mid,set_mid,r67,h75]
   by_cases k1 : wi p.vars[i].choices[k].delay 0 1048576
   rotate_left
   ·rcases wi_neg k1 with ⟨q1,q2⟩ | ⟨q1,q2,q3,q4⟩
    ·simp [q1,q2,hBc (fun ok=>k1 ok.delay)]
    ·simp [q1,q2,q3,q4,hBc (fun ok=>k1 ok.delay)]
   obtain ⟨a1,a2,a3,a4⟩:=wi_pos k1
   by_cases k2 : wi p.vars[i].choices[k].cost 0 1048576
   rotate_left
   ·rcases wi_neg k2 with ⟨q1,q2⟩ | ⟨q1,q2,q3,q4⟩
    ·simp [a1,a2,a3,a4,q1,q2,hBc (fun ok=>k2 ok.cost)]
    ·simp [a1,a2,a3,a4,q1,q2,q3,q4,hBc (fun ok=>k2 ok.cost)]
   obtain ⟨b1,b2,b3,b4⟩:=wi_pos k2
   by_cases k3 : wi p.vars[i].choices[k].changes 0 1048576
   rotate_left
   ·rcases wi_neg k3 with ⟨q1,q2⟩ | ⟨q1,q2,q3,q4⟩
    ·simp [a1,a2,a3,a4,b1,b2,b3,b4,q1,q2,hBc (fun ok=>k3 ok.changes)]
    ·simp [a1,a2,a3,a4,b1,b2,b3,b4,q1,q2,q3,q4,hBc (fun ok=>k3 ok.changes)]
   obtain ⟨c1,c2,c3,c4⟩:=wi_pos k3
   cases k4 : incrB (fun a b : Use=>cmpC a.cell b.cell) p.vars[i].choices[k].uses with
   | false=>
    simp [a1,a2,a3,a4,b1,b2,b3,b4,c1,c2,c3,c4,hBc (fun ok=>by
     have : incrB (fun a b : Use=>cmpC a.cell b.cell) p.vars[i].choices[k].uses = true:=incrB_iff.2 fun q hq=>by
      have:=ok.incr q hq
      rw [<- ltC_cmp] at this; exact this
     rw [k4] at this; cases this)]
   | true=>
   have k4':=incrB_iff.1 k4
   simp [a1,a2,a3,a4,b1,b2,b3,b4,c1,c2,c3,c4,get_mid]
   obtain ⟨P3,hP3⟩ : ∃ P : Nat -> Prop,P = fun q=>∀ (h : q < p.vars[i].choices[k].uses.length),OkUse p p.vars[i].choices[k].uses[q]:=⟨_,rfl⟩
   have hGa : ∀ r,(G ++ r)[h.length]? = some (.cells (dVar p.vars[i]).cellsL):=fun r=>by
    rw [List.getElem?_append_left (List.getElem?_eq_some_iff.1 hG).1]; exact hG
   refine wT_all p.vars[i].choices[k].uses.length P3
    (fun q env hp=>∃ (x4 x5 x9 x10 x11 x12 x13 x14 x15 x16 x17 x18 x19 x20 x21 x22 x26 x27 x28 x32 x33 x34 x38 x39 x40 : D) (G2 : List Obj),env = [dProb p,.loc 0 0,dI 0,.map (some 1),x4,x5,.loc (h.length + 2) 0,.loc (G.length + 2) 0,dI 1048576,x9,x10,x11,x12,x13,x14,x15,x16,x17,x18,x19,x20,x21,x22,.imm .none (p.vars.map dVar),dI p.vars.length,dI i,x26,x27,x28,.imm .none (p.vars[i].choices.map dChoice),dI p.vars[i].choices.length,dI k,x32,x33,x34,.imm .none (p.vars[i].choices[k].uses.map dUse),dI p.vars[i].choices[k].uses.length,dI q,x38,x39,x40] /\ hp = .cells (dProb p).cellsL :: .map (es.map kent) :: G2 /\ G2[h.length]? = some (.cells (dVar p.vars[i]).cellsL))
    ⟨_,_,_,_,_,_,_,_,_,_,_,_,_,_,_,_,_,_,_,_,_,_,_,_,_,_,rfl,rfl,hGa _⟩ ?_ ?_
   ·rintro q env hp hq ⟨x4,x5,x9,x10,x11,x12,x13,x14,x15,x16,x17,x18,x19,x20,x21,x22,x26,x27,x28,x32,x33,x34,x38,x39,x40,G2,rfl,rfl,hG2⟩ hall3
    have hGb : ∀ r,(G2 ++ r)[h.length]? = some (.cells (dVar p.vars[i]).cellsL):=fun r=>by
     rw [List.getElem?_append_left (List.getElem?_eq_some_iff.1 hG2).1]; exact hG2
    have hBu : (¬ OkUse p p.vars[i].choices[k].uses[q]) -> B = 270:=fun hn=>hBc (fun ok=>hn (ok.uses _ (List.getElem_mem hq)))
    have hfind:=find_kent (c:=p.vars[i].choices[k].uses[q].cell) (es:=es)
    simp at hfind
    simp [hq,get_mid,set_mid,r67,hfind]
    by_cases m1 : p.vars[i].choices[k].uses[q].cell ∈ es
    rotate_left
    ·simp [m1,hBu (fun ok=>m1 ((hes _).2 ok.known))]
    by_cases m2 : wi p.vars[i].choices[k].uses[q].places 1 8
    rotate_left
    ·rcases wi_neg m2 with ⟨q1,q2⟩ | ⟨q1,q2,q3,q4⟩
     ·simp [m1,q1,q2,hBu (fun ok=>m2 ok.places)]
     ·simp [m1,q1,q2,q3,q4,hBu (fun ok=>m2 ok.places)]
    obtain ⟨d1,d2,d3,d4⟩:=wi_pos m2
    have hPq : P3 q:=by rw [hP3]; exact fun _=>⟨(hes _).1 m1,m2⟩
    simp [m1,d1,d2,d3,d4,wrap_up9 hq (by omega),hPq]
    simpa using hGb _
   ·rintro env hp ⟨x4,x5,x9,x10,x11,x12,x13,x14,x15,x16,x17,x18,x19,x20,x21,x22,x26,x27,x28,x32,x33,x34,x38,x39,x40,G2,rfl,rfl,hG2⟩ hall3
    rw [hP3] at hall3
    have hPk : P2 k:=by
     rw [hP2]
     exact fun _=>⟨k1,k2,k3,mem_get.2 fun q hq=>hall3 q hq hq,fun q hq=>by
      have:=k4' q hq
      rw [ltC_cmp] at this; exact this⟩
    simp [wrap_up9 hk (by omega),hPk]
    simpa using hG2
  ·rintro env hp ⟨x4,x5,x7,x8,x9,x10,x11,x12,x13,x14,x15,x16,x17,x18,x19,x20,x21,x22,x26,x27,x28,x32,x33,x34,x35,x36,x37,x38,x39,x40,G,rfl,rfl,hG⟩ hall2
   rw [hP2] at hall2
   have hPi : P i:=by
    rw [hP]
    exact fun _=>⟨by omega,by omega,by omega,hleaves,fun k hk=>cmpI_neg.1 (g3' k hk),mem_get.2 fun k hk=>hall2 k hk hk⟩
   simp [wrap_up9 hi (by omega),hPi]
 rintro env hp ⟨x4,x5,x6,x7,x8,x9,x10,x11,x12,x13,x14,x15,x16,x17,x18,x19,x20,x21,x22,x26,x27,x28,x29,x30,x31,x32,x33,x34,x35,x36,x37,x38,x39,x40,h,rfl,rfl⟩ hvars
 rw [hP] at hvars
 have : B = 0:=hBt ⟨by omega,mem_get.2 fun i hi=>hcells i hi hi,fun i hi=>by
  have:=hincr i hi
  rw [ltC_cmp] at this; exact this,mem_get.2 fun i hi=>hcap i hi hi,mem_get.2 fun i hi=>hvars i hi hi⟩
 simp [this]

open Classical in
noncomputable def resKeep (p : Prob) (c : Cert) : D:=if OkP p then .tup [.bool (decide (chkC p c = 0)),dI 0] else .tup [.bool false,dI 270]

theorem r222 (p : Prob) (c : Cert) (S : Small p) (M : SmC c) : runP E (dL E) 222 [dProb p,dCert c] = some (resKeep p c):=by
 refine runP_T c222 (by simp) ?_
 have h15:=r15 p S
 have h216:=r216 p c S M
 simp only [dProb,dInts,dCert] at h15 h216
 unfold resKeep
 by_cases ok : OkP p
 rotate_left
 ·have e : ck p = 270:=by simp [ck,ok]
  simp [t222,n222,h15,e,ok,frzL_leaf]
 have e : ck p = 0:=by simp [ck,ok]
 obtain ⟨x,hx⟩ : ∃ x,x = chkC p c:=⟨_,rfl⟩
 rw [<- hx] at h216 ⊢
 by_cases h : x = 0
 ·simp [t222,n222,h15,e,ok,frzL_leaf,h216,h]
 ·have h' : (x == 0) = false:=by simp [h]
  simp [t222,n222,h15,e,ok,frzL_leaf,h216,h,h']

def prob0 : Prob:=⟨[],[],[]⟩
open Classical in
noncomputable def resRep (p : Prob) (i : Int) (v : Var) : D:=if OkP p then (if 0 <= i /\ i < p.vars.length then (if OkP (putVar p i.toNat v) then .tup [dProb (putVar p i.toNat v),dI 0] else .tup [dProb prob0,dI 270]) else .tup [dProb prob0,dI 330]) else .tup [dProb prob0,dI 270]

theorem r214 (p : Prob) (i : Int) (v : Var) (S : Small p) (M : ∀ j,j < p.vars.length -> Mid (putVar p j v)) : runP E (dL E) 214 [dProb p,dI i,dVar v] = some (resRep p i v):=by
 refine runP_T c214 (by simp) ?_
 have h15:=r15 p S
 simp only [dProb,dInts] at h15
 unfold resRep prob0
 by_cases ok : OkP p
 rotate_left
 ·have e : ck p = 270:=by simp [ck,ok]
  simp [t214,n214,h15,e,ok]
 have e : ck p = 0:=by simp [ck,ok]
 by_cases h1 : i < 0
 ·have h2 : ¬ (0 <= i /\ i < p.vars.length):=by omega
  simp [t214,n214,h15,e,ok,h1,h2]
 by_cases h2 : i < p.vars.length
 rotate_left
 ·have h3 : ¬ (0 <= i /\ i < p.vars.length):=by omega
  have h4 : (p.vars.length : Int) <= i:=by omega
  simp [t214,n214,h15,e,ok,h1,h3,h4]
 obtain ⟨j,rfl⟩ : ∃ j : Nat,i = (j : Int):=⟨i.toNat,by omega⟩
 have hj : j < p.vars.length:=by omega
 have h3 : (0 : Int) <= j /\ (j : Int) < p.vars.length:=by omega
 have h4 : ¬ (p.vars.length : Int) <= j:=by omega
 have h5 : ¬ (j : Int) < 0:=by omega
 have h224:=r224 p j v hj (by have:=S.vars; omega)
 have g:=g15 (putVar p j v) (M j hj)
 rw [Int.toNat_natCast]
 obtain ⟨Q,hQ⟩ : ∃ Q,Q = putVar p j v:=⟨_,rfl⟩
 rw [<- hQ] at h224 g ⊢
 simp only [dProb,dInts,dVar] at h224 g
 by_cases okq : OkP Q
 ·have e2 : ck Q = 0:=by simp [ck,okq]
  rw [e2] at g
  simp [t214,n214,h15,e,ok,h3,h4,h5,hj,h224,g,okq]
 ·have e2 : ck Q = 270:=by simp [ck,okq]
  rw [e2] at g
  simp [t214,n214,h15,e,ok,h3,h4,h5,hj,h224,g,okq]

theorem wgt_le : ∀ {vs : List Var},(∀ v,v ∈ vs -> v.choices.length <= 8) -> wgt vs <= 9 ^ vs.length
 | [],_=>by simp [wgt]
 | v :: vs,h=>by
  have h1:=wgt_le (vs:=vs) fun w hw=>h w (by simp [hw])
  have h2:=h v (by simp)
  have h3:=wgt_pos (vs:=vs)
  have h4 : v.choices.length * wgt vs <= 8 * wgt vs:=Nat.mul_le_mul_right _ h2
  simp only [wgt,List.length_cons,Nat.pow_succ]
  omega
theorem wB_le {p : Prob} (S : Small p) {b : List Int} : wB p b <= 531441:=by
 unfold wB
 have h1:=wgt_le (vs:=p.vars.drop b.length) fun v hv=>S.choices v (List.mem_of_mem_drop hv)
 have h2 : (p.vars.drop b.length).length <= 6:=by have:=S.vars; simp; omega
 exact Nat.le_trans h1 (Nat.le_trans (Nat.pow_le_pow_right (by decide) h2) (by decide))

theorem exR_fold {p : Prob} {f : Nat} (h : ∀ (b : List Int) (s : RepS),b.length <= p.vars.length -> (exR p f b s).leaves.length <= s.leaves.length + wB p b) : ∀ (l : List (List Int)) (s : RepS),(∀ x,x ∈ l -> x.length <= p.vars.length) ->
  (l.foldl (fun s x=>exR p f x s) s).leaves.length <= s.leaves.length + wO p l
 | [],s,_=>by simp [wO]
 | x :: l,s,hl=>by
  have h1:=h x s (hl x (by simp))
  have h2:=exR_fold h l (exR p f x s) fun y hy=>hl y (by simp [hy])
  simp only [List.foldl_cons,wO]; omega
theorem exR_cnt {p : Prob} : ∀ (f : Nat) (b : List Int) (s : RepS),b.length <= p.vars.length -> (exR p f b s).leaves.length <= s.leaves.length + wB p b
 | 0,b,s,_=>by simp [exR]
 | f + 1,b,s,hb=>by
  have h1:=wB_pos (p:=p) (b:=b)
  unfold exR
  by_cases e : b.length = p.vars.length
  ·rw [if_pos e]
   simp only [addL,List.length_append,List.length_singleton,betR_leaves]; omega
  rw [if_neg e]
  split
  ·simp only [addL,List.length_append,List.length_singleton]; omega
  ·have hlt : b.length < p.vars.length:=by omega
   have h2:=exR_fold (p:=p) (f:=f) (fun b s hb=>exR_cnt f b s hb) (nextL p b) s fun x hx=>by
    obtain ⟨i,_,rfl⟩:=(next_mem (p:=p) hlt).1 hx
    rw [List.length_append,List.length_singleton]; omega
   have h3:=wO_next (p:=p) hlt
   omega

structure SmR (s : RepS) : Prop where
 best : s.best.length <= 20
 value : s.value.length <= 20
theorem betR_sm {p : Prob} {x : List Int} {s : RepS} (S : Small p) (h : SmR s) : SmR (betR p x s):=by
 unfold betR
 split
 ·rename_i hc
  exact ⟨by have:=hc.1.2.2; have:=S.vars; simp only; omega,by simp [boundL]⟩
 ·exact h
theorem exR_sm {p : Prob} (S : Small p) : ∀ (f : Nat) (b : List Int) (s : RepS),SmR s -> SmR (exR p f b s)
 | 0,b,s,h=>by simpa [exR] using h
 | f + 1,b,s,h=>by
  unfold exR
  split
  ·have:=betR_sm (x:=b) S h
   exact ⟨this.1,this.2⟩
  ·split
   ·exact ⟨h.1,h.2⟩
   ·have : ∀ (l : List (List Int)) (s : RepS),SmR s -> SmR (l.foldl (fun s x=>exR p f x s) s):=fun l=>by
     induction l with
     | nil=>intro s h; exact h
     | cons x l ih=>intro s h; exact ih _ (exR_sm S f x s h)
    exact this _ _ h

theorem r96 (l : List Int) (hl : l.length <= 1000000) : runP E (dL E) 96 [dInts l] = some (dInts l):=by
 refine runP_T c96 (by simp) ?_
 by_cases h0 : l = []
 ·subst h0
  simp [t96,n96,appendM,applyEf]
 ·have h1 : ¬ l.length = 0:=fun h=>h0 (List.eq_nil_of_length_eq_zero h)
  have hb : ((l.map dI).all fun d=>d.storable && d.cellsL.length == 1) = true:=fits_dI
  have hm : l.length * 9 <= maxBytes:=by unfold maxBytes; omega
  simp [t96,n96,appendM,applyEf,listOf,hb,h0,hm,fitsE,flat_nil]

end Dv
