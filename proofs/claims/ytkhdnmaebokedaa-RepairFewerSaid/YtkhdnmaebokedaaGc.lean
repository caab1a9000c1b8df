/- Texts that a proof of this claim uses, joined: Lw.W149, Lw.W150, Lw.W151, Lw.W152, Lw.W153, Lw.W154, Lw.W155, Lw.W156, Lw.W157, Lw.S33, Lw.W158. -/
import Derived.Test.YtkhdnmaebokedaaGb
import Derived.Test.YtkhdnmaebokedaaGa
import Derived.KernelRfl
set_option linter.all false
set_option maxHeartbeats 16000000
namespace Dv
attribute [local simp] wT_skip wK wT_ret wT_exit wR wRp wT_seq wC wT_block rTS_nil rTS_asg rTS_eff rTS_effk rTS_effg gdV_b binD_and binD_or binD_xor stepOp_call3 closed_bool closed_int closed_tup flatB_bool flatB_int frzX_tup frzX_exact frz1_exact frz1_none frz1_int ob_some obP_some iteD_b condP_b xv_v xv_c xv_ite xv_bin_tt xv_bin_tc xv_bin_ct xv_bin_cc xv_un_t xv_conv_t xv_load xv_len xv_faddr xv_field xv_iaddr_tt xv_iaddr_tc xv_index_tt xv_index_tc xv_lookup_tt xv_max_tt xv_max_tc xv_max_ct xv_min_tt xv_min_tc xv_min_ct xv_slice_lo_t xv_slice_lo_c xv_slice_hi_t xv_slice_all xv_call xv_bslice bsliceV xv_build buildV xv_mkfn zeroE fillE buildD fillD List.replicate xvs_nil xvs_cons callV_fn frz_bool frz_int frz_imm frz_agg frz_tup frz_fn frz_iptr frzL_nil frzL_one frzL_dI frzL_cell frzL_use frzL_ints frzL_choice frzL_var depth dCell dUse dInts dChoice dVar dProb tStart addO Ret flat_dI flat_rep chunk_dI
 binD_add binD_sub binD_mul binD_eql binD_neq binD_lss binD_leq binD_gtr binD_geq binD_rem binD_bneq unD_not unD_neg lenD_imm lenD_sl readO_cells readO_frozen loadD_loc loadD_iptr iaddrD_imm iaddrD_sl iaddrD_loc faddrD_loc faddrD_iptr fieldD_agg cellsL_bool stor_bool atom_bool cellsL_int stor_int atom_int cellsL_str stor_str atom_str cellsL_imm stor_imm atom_imm cellsL_sl stor_sl atom_sl cellsL_loc stor_loc atom_loc cellsL_iptr stor_iptr atom_iptr cellsL_map stor_map atom_map cellsL_fn stor_fn atom_fn cellsL_agg stor_agg cellsL_nilfn stor_nilfn atom_nilfn cellsL_nilp stor_nilp atom_nilp takeC_z takeC_s ofCells_ag ofCells_one ag_bool ag_int ag_str ag_slice ag_struct ag_arr ag_map ag_ptr ag_func gOf_t gOf_c gOf_f kv_cons putE_some putE_none oneRes_one oneRes_two oneRes_three getAll_nil getAll_v getAll_c maxiD_two miniD_two extV_tup xv_ext stepOp_box stepOp_alloc stepOp_store writeO_cells storeD_loc setCells_nil setCells_cons stepOp_mkmap stepOp_mapset stepOp_call1 stepOp_call2 stepOp_app2 stepOp_app1 stepOp_mkslice mapO_map lookupD_some mapsetD_some keyOk_agg kindsL_nil kindsL_bool kindsL_int eqL_nil atomEq_bool frz_sl tokO_tok app0_step app0_exact app0_tok frz_loc oneRes_nil listOf_imm
 isMark_bool isMark_int isMark_str isMark_imm isMark_sl isMark_fn isMark_loc isMark_undef isMark_tup isMark_tup0 isMark_agg0 isU_undef isU_bool isU_int isU_str isU_imm isU_agg isU_fn isU_loc isU_sl noMark_s markP_t markP_f wI wT_dead stepOp_call5 stepOp_call6 nilcD_loc nilcD_iptr xv_nilc xv_mark_t markV_int markV_agg ty_0 ty_1 ty_2 ty_3 ty_4 ty_6 ty_7 ty_9 ty_10 ty_11 ty_12 ty_13 ty_14 ty_15 ty_16 ty_17 ty_18 ty_19 ty_20 ty_21 ty_22 ty_23 ty_24 ty_25 ty_26 ty_27 ty_29 ty_31 ty_32 ty_41 ty_42 ty_43 ty_44 ty_45 ty_47 ty_48 ty_49 ty_50 ty_51 ty_52 mp_228 mp_229 mp_241 mp_242 mp_243 mp_246
attribute [local congr] wT_congr ob_congr obP_congr iteD_congr condP_congr gdV_congr markP_congr


def brD (b : List Int) : D:=if b = [] then .imm .exact [] else dInts b
abbrev kLeaf (l : Leaf) : D:=.agg [brD l.branch,dI l.kind,.imm .exact []]
theorem brD_imm {b : List Int} : ∃ sp,brD b = .imm sp (b.map dI):=by
 unfold brD
 split
 ·rename_i h; exact ⟨_,by rw [h]; rfl⟩
 ·exact ⟨_,rfl⟩
theorem brD_frz {hp : List Obj} {n : Nat} {b : List Int} : frz hp (n + 2) (brD b) = some (dInts b):=by
 obtain ⟨sp,h⟩:=brD_imm (b:=b)
 rw [h,frz_imm,frzL_dI]; rfl
theorem frzL_kLeaf {hp : List Obj} {n : Nat} : ∀ {l : List Leaf},(∀ x,x ∈ l -> x.mult = []) -> frzL (frz hp (n + 4)) (l.map kLeaf) = some (l.map dLeaf)
 | [],_=>rfl
 | x :: l,h=>by
  rw [List.map_cons,frzL_one,frz_agg]
  simp only [frzL_one,frz_int,ob_some,frz_imm,brD_frz,Option.map_some,frzL_nil]
  rw [frzL_kLeaf fun y hy=>h y (by simp [hy])]
  simp [h x (by simp)]
theorem fits_kLeaf {l : List Leaf} : fitsE 3 (l.map kLeaf) = true:=by
 unfold fitsE
 rw [List.all_eq_true]
 intro x hx
 obtain ⟨r,_,rfl⟩:=List.mem_map.1 hx
 obtain ⟨sp,h⟩:=brD_imm (b:=r.branch)
 simp [kLeaf,h]
theorem appOk_kLeaf {l : List Leaf} {x : D} (h : l.length <= 1000000000) : appOk E 32 (l.map kLeaf) [x]:=by
 refine ⟨?_,?_,?_,fits_kLeaf⟩ <;> simp [maxBytes]
 omega

def wkC (p : Prob) (s : RepS) (sb sv sp : Spare) (fn : D) : Obj:=.cells [.imm .none (p.cells.map dCell),.imm .none (p.capacity.map dInts),.imm .none (p.vars.map dVar),.imm sb (s.best.map dI),.imm sv (s.value.map dI),.imm sp (s.leaves.map kLeaf),.bool s.known,fn]

theorem s234 {W C : Nat} {hp : List Obj} {p : Prob} {s : RepS} {sb sv sp : Spare} {fn : D} (b : List Int) (kd : Int) (hn : s.leaves.length <= 1000000000)
  (g : At hp W (wkC p s sb sv sp fn)) (R : Room C hp sp s.leaves.length 3) (hC : C <= hp.length) (hW : W < C) :
  ∃ d hp',runS E (dL E) 234 [.loc W 0,brD b,dI kd] hp = some (d,hp') /\ isMark d = false /\ ∃ sp',At hp' W (wkC p (addL s b kd) sb sv sp' fn) /\ Room C hp' sp' (s.leaves.length + 1) 3 /\ Keep W C hp hp' /\ hp.length <= hp'.length:=by
 refine runS_T c234 (args:=[.loc W 0,brD b,dI kd]) (hp:=hp) (R:=fun d hp'=>isMark d = false /\ ∃ sp',At hp' W (wkC p (addL s b kd) sb sv sp' fn) /\ Room C hp' sp' (s.leaves.length + 1) 3 /\ Keep W C hp hp' /\ hp.length <= hp'.length) (by simp) ?_
 have ha:=fun x=>appOk_kLeaf (l:=s.leaves) (x:=x) hn
 have hl:=g.lt
 obtain ⟨sx,hx⟩:=brD_imm (b:=b)
 have hadd : (addL s b kd).leaves.map kLeaf = s.leaves.map kLeaf ++ [.agg [.imm sx (b.map dI),dI kd,.imm .exact []]]:=by simp [addL,kLeaf,hx]
 unfold wkC at g ⊢
 rw [hadd,hx]
 rcases R with rfl | ⟨k,rfl,hk,hk2⟩
 ·simp [t234,n234,g.eq,app0_step,app0_exact,ha,↓g.appE]
  refine ⟨_,At.self (by simp; omega),.inr ⟨hp.length,rfl,hC,At.ne (by simp [At]) (by omega)⟩,Keep.app.trans (Keep.set (.inl rfl))⟩
 ·have g2:=g.ne (j:=k) (x:=.dead) (by omega)
  simp [t234,n234,g.eq,app0_step,app0_tok,ha,hk2.eq,↓g2.appE]
  refine ⟨_,At.self (by simp; omega),.inr ⟨hp.length,rfl,hC,At.ne (by simp [At]) (by omega)⟩,((Keep.set (.inr hk)).trans Keep.app).trans (Keep.set (.inl rfl))⟩


theorem s235 {W : Nat} {hp : List Obj} {p : Prob} {s : RepS} {sb sv sp : Spare} {fn : D} (b : List Int) (S : Small p) (ok : OkP p) (okb : OkB p b) (M : SmR s)
  (g : At hp W (wkC p s sb sv sp fn)) : runS E (dL E) 235 [.loc W 0,brD b] hp = some (.bool (worse p b s),hp):=by
 have hb20 : b.length <= 20:=by have:=okb.len; have:=S.vars; omega
 have h3:=r3 p b S hb20
 have h9:=r9 p b S hb20
 unfold resB at h3
 unfold resL at h9
 rw [if_pos (bk_pos ok okb)] at h3 h9
 have hfl : (firstL p b).length <= 20:=by have:=okb.len; have:=S.vars; simp [firstL]; omega
 obtain ⟨A,hA⟩ : ∃ A,A = boundL p b:=⟨_,rfl⟩
 obtain ⟨F,hF⟩ : ∃ F,F = firstL p b:=⟨_,rfl⟩
 have h1:=r87 A s.value (by rw [hA]; simp [boundL]) (by have:=M.value; omega)
 have h2:=r87 F s.best (by rw [hF]; omega) (by have:=M.best; omega)
 obtain ⟨sx,hx⟩:=brD_imm (b:=b)
 rw [<- hA] at h3
 rw [<- hF] at h9
 have key : ∃ d hp',runS E (dL E) 235 [.loc W 0,brD b] hp = some (d,hp') /\ d = .bool (worse p b s) /\ hp' = hp:=by
  refine runS_T c235 (args:=[.loc W 0,brD b]) (hp:=hp) (R:=fun d hp'=>d = .bool (worse p b s) /\ hp' = hp) (by simp) ?_
  unfold worse
  rw [<- hA,<- hF,hx]
  unfold wkC at g
  simp only [dProb,dInts] at h3 h9 h1 h2
  obtain ⟨c,hc⟩ : ∃ c,c = cmpL A s.value:=⟨_,rfl⟩
  rw [<- hc] at h1 ⊢
  by_cases h0 : c = 0
  ·simp [t235,n235,g.eq,h3,h9,h1,h2,h0]
  ·simp [t235,n235,g.eq,h3,h9,h1,h2,h0]
 obtain ⟨d,hp',e1,rfl,rfl⟩:=key
 exact e1

theorem s225 {W ip iw : Nat} {hp : List Obj} {p : Prob} {s : RepS} {sb sv sp sx : Spare} {fn : D} (x : List Int) (hxl : x.length <= 20) (S : Small p) (M : SmR s)
  (g : At hp W (wkC p s sb sv sp fn)) (g1 : At hp ip (.cells (dProb p).cellsL)) (g2 : At hp iw (.cells [.loc W 0])) (h1 : ip ≠ W) (h2 : iw ≠ W) :
  ∃ d hp',runS E (dL E) 225 [.imm sx (x.map dI),.loc ip 0,.loc iw 0] hp = some (d,hp') /\ isMark d = false /\ ∃ sb' sv',At hp' W (wkC p (betR p x s) sb' sv' sp fn) /\ Keep W hp.length hp hp' /\ hp.length <= hp'.length:=by
 refine runS_T c225 (args:=[.imm sx (x.map dI),.loc ip 0,.loc iw 0]) (hp:=hp) (R:=fun d hp'=>isMark d = false /\ ∃ sb' sv',At hp' W (wkC p (betR p x s) sb' sv' sp fn) /\ Keep W hp.length hp hp' /\ hp.length <= hp'.length) (by simp) ?_
 have h22:=r22 p x S hxl
 simp only [dProb,dInts] at h22
 unfold resV at h22
 by_cases w : Whole p x
 rotate_left
 ·rw [if_neg w] at h22
  have e : betR p x s = s:=by unfold betR; rw [if_neg fun h=>w h.1]
  rw [e]
  simp [t225,n225,g1.eq,h22]
  exact ⟨⟨_,_,g⟩,Keep.refl⟩
 rw [if_pos w] at h22
 obtain ⟨A,hA⟩ : ∃ A,A = boundL p x:=⟨_,rfl⟩
 have k1:=r87 A s.value (by rw [hA]; simp [boundL]) (by have:=M.value; omega)
 have k2:=r87 x s.best (by omega) (by have:=M.best; omega)
 have k3:=r96 x (by omega)
 rw [<- hA] at h22
 simp only [dInts] at k1 k2 k3
 obtain ⟨c,hc⟩ : ∃ c,c = cmpL A s.value:=⟨_,rfl⟩
 rw [<- hc] at k1
 obtain ⟨c2,hc2⟩ : ∃ c,c = cmpL x s.best:=⟨_,rfl⟩
 rw [<- hc2] at k2
 by_cases hb : s.known = false \/ c < 0 \/ c = 0 /\ c2 < 0
 ·have e : betR p x s = ⟨x,A,true,s.leaves⟩:=by unfold betR; rw [<- hA,<- hc,<- hc2,if_pos ⟨w,hb⟩]
  rw [e]
  unfold wkC at g ⊢
  have gl:=g.lt
  have q3 : ∀ (r : List Obj) y,((hp ++ r).set W y)[W]? = some y:=fun r y=>(At.self (by simp; omega)).eq
  have q4 : ∀ (r : List Obj) y,((hp ++ r).set W y)[iw]? = some (.cells [.loc W 0]):=fun r y=>(g2.app.ne (Ne.symm h2)).eq
  have hK : ∀ (r : List Obj) y,Keep W hp.length hp ((hp ++ r).set W y):=fun r y=>Keep.app.trans (Keep.set (.inl rfl))
  have hS : ∀ (r : List Obj) y,At ((hp ++ r).set W y) W y:=fun r y=>At.self (by simp; omega)
  have fin : ∀ (a0 a1 a3 a4 a5 a6 a7 a8 a9 a10 : D) n1 n2 n3,chkT [a0,a1,.loc iw n1,a3,a4,a5,a6,a7,a8,a9,a10,.loc W n2,.loc W n3] [(2,11),(2,11),(2,12)] = true:=fun a0 a1 a3 a4 a5 a6 a7 a8 a9 a10 n1 n2 n3=>by
   simp [chkT,chk1,idsNe,did,h2]
  cases b1 : s.known with
  | false=>
   rw [b1] at g
   simp [t225,n225,g1.eq,g2.eq,g.eq,h22,k1,k2,k3,↓g2.appE,↓g.appE,↓q3,fin]
   exact ⟨⟨_,_,hS _ _⟩,hK _ _⟩
  | true=>
  rw [b1] at g hb
  by_cases b2 : c < 0
  ·simp [t225,n225,g1.eq,g2.eq,g.eq,h22,k1,k2,k3,b2,↓g2.appE,↓g.appE,↓q3,fin]
   exact ⟨⟨_,_,hS _ _⟩,hK _ _⟩
  ·have hb2 : c = 0 /\ c2 < 0:=by
    rcases hb with h | h | h
    ·cases h
    ·exact absurd h b2
    ·exact h
   obtain ⟨b3,b4⟩:=hb2
   simp [t225,n225,g1.eq,g2.eq,g.eq,h22,k1,k2,k3,b2,b3,b4,↓g2.appE,↓g.appE,↓q3,fin]
   exact ⟨⟨_,_,hS _ _⟩,hK _ _⟩
 ·have e : betR p x s = s:=by unfold betR; rw [<- hA,<- hc,<- hc2,if_neg fun h=>hb h.2]
  rw [e]
  unfold wkC at g ⊢
  have b1 : s.known = true:=by
   cases h : s.known with
   | true=>rfl
   | false=>exact absurd (.inl h) hb
  have b2 : ¬ c < 0:=fun h=>hb (.inr (.inl h))
  rw [b1] at g ⊢
  by_cases b3 : c = 0
  ·have b4 : ¬ c2 < 0:=fun h=>hb (.inr (.inr ⟨b3,h⟩))
   simp [t225,n225,g1.eq,g2.eq,g.eq,h22,k1,k2,b1,b2,b3,b4]
   exact ⟨⟨_,_,g⟩,Keep.refl⟩
  ·simp [t225,n225,g1.eq,g2.eq,g.eq,h22,k1,k2,b1,b2,b3]
   exact ⟨⟨_,_,g⟩,Keep.refl⟩

theorem Room.keep {W C : Nat} {hp hp' : List Obj} {sp : Spare} {n sz : Nat} (R : Room C hp sp n sz) (K : Keep W hp.length hp hp') (hW : W < C) : Room C hp' sp n sz:=by
 rcases R with h | ⟨k,h1,h2,h3⟩
 ·exact .inl h
 ·exact .inr ⟨k,h1,h2,K.at (by omega) h3.lt h3⟩
theorem Keep.le2 {W C C' : Nat} {hp hp' : List Obj} (h : Keep W C hp hp') (hC : C' <= C) : Keep W C' hp hp':=fun J h1 h2 h3=>h J h1 (fun hp j o hj hk=>h2 hp j o hj (by omega)) h3

theorem s226 {W C ip iw : Nat} {p : Prob} (S : Small p) (ok : OkP p) (h1 : ip ≠ W) (h2 : iw ≠ W) (l1 : ip < C) (l2 : iw < C) (l3 : W < C) : ∀ (f : Nat) (b : List Int) (s : RepS) (sb sv sp : Spare) (hp : List Obj),
  OkB p b -> p.vars.length - b.length < f -> okRep p s -> SmR s -> s.leaves.length + wB p b <= 1000000000 ->
  At hp W (wkC p s sb sv sp (.fn 225 [.loc ip 0,.loc iw 0])) -> At hp ip (.cells (dProb p).cellsL) -> At hp iw (.cells [.loc W 0]) -> Room C hp sp s.leaves.length 3 -> C <= hp.length ->
  ∃ d hp',runS E (dL E) 226 [.loc W 0,brD b] hp = some (d,hp') /\ isMark d = false /\ ∃ sb' sv' sp',At hp' W (wkC p (exR p f b s) sb' sv' sp' (.fn 225 [.loc ip 0,.loc iw 0])) /\ Room C hp' sp' (exR p f b s).leaves.length 3 /\ Keep W C hp hp' /\ hp.length <= hp'.length
 | 0,b,s,sb,sv,sp,hp,_,hf,_,_,_,_,_,_,_,_=>by omega
 | f + 1,b,s,sb,sv,sp,hp,okb,hf,okr,M,hc,g,g1,g2,R,hC=>by
  obtain ⟨Q,hQ⟩ : ∃ Q : List Obj -> Prop,Q = fun hp'=>∃ sb' sv' sp',At hp' W (wkC p (exR p (f + 1) b s) sb' sv' sp' (.fn 225 [.loc ip 0,.loc iw 0])) /\ Room C hp' sp' (exR p (f + 1) b s).leaves.length 3 /\ Keep W C hp hp' /\ hp.length <= hp'.length:=⟨_,rfl⟩
  have key : ∃ d hp',runS E (dL E) 226 [.loc W 0,brD b] hp = some (d,hp') /\ isMark d = false /\ Q hp':=by
   refine runS_T c226 (args:=[.loc W 0,brD b]) (hp:=hp) (R:=fun d hp'=>isMark d = false /\ Q hp') (by simp) ?_
   obtain ⟨sx,hx⟩:=brD_imm (b:=b)
   have hb20 : b.length <= 20:=by have:=okb.len; have:=S.vars; omega
   have hwp:=wB_pos (p:=p) (b:=b)
   have gc:=g
   unfold wkC at gc
   by_cases e : b.length = p.vars.length
   ·have e' : (b.length : Int) = p.vars.length:=by omega
    have hX : exR p (f + 1) b s = addL (betR p b s) b 1:=by rw [exR,if_pos e]
    obtain ⟨d1,hp1,a1,a2,sb1,sv1,a3,a4,a5⟩:=s225 (sx:=sx) b hb20 S M g g1 g2 h1 h2
    have R1:=R.keep a4 l3
    obtain ⟨d2,hp2,b1,b2,sp2,b3,b4,b5,b6⟩:=s234 b 1 (by rw [betR_leaves]; omega) a3 (by rw [betR_leaves]; exact R1) (by omega) l3
    have hQ2 : Q hp2:=by
     rw [hQ,hX]
     refine ⟨_,_,_,b3,?_,(a4.le2 hC).trans b5,by omega⟩
     have : (addL (betR p b s) b 1).leaves.length = (betR p b s).leaves.length + 1:=by simp [addL]
     rw [this]; exact b4
    rw [hx] at b1 ⊢
    simp [t226,n226,gc.eq,e',a1,noMark_of a2,b1,noMark_of b2,hQ2]
   have e' : ¬ (b.length : Int) = p.vars.length:=by omega
   have h235:=s235 b S ok okb M g
   by_cases hk : (s.known && worse p b s) = true
   ·have hX : exR p (f + 1) b s = addL s b 2:=by rw [exR,if_neg e,if_pos hk]
    obtain ⟨hk1,hk2⟩:=Bool.and_eq_true_iff.1 hk
    obtain ⟨d2,hp2,b1,b2,sp2,b3,b4,b5,b6⟩:=s234 b 2 (by omega) g R hC l3
    have hQ2 : Q hp2:=by
     rw [hQ,hX]
     refine ⟨_,_,_,b3,?_,b5,b6⟩
     have : (addL s b 2).leaves.length = s.leaves.length + 1:=by simp [addL]
     rw [this]; exact b4
    rw [hk2] at h235
    rw [hk1] at gc
    rw [hx] at b1 h235 ⊢
    simp [t226,n226,gc.eq,e',h235,b1,noMark_of b2,hQ2]
   have hlt : b.length < p.vars.length:=by have:=okb.len; omega
   have hX : exR p (f + 1) b s = (nextL p b).foldl (fun s x=>exR p f x s) s:=by rw [exR,if_neg e,if_neg hk]
   have h7:=r7 p b S hb20
   unfold resN at h7
   rw [if_pos (bk_pos ok okb),if_neg e] at h7
   have hwn:=wO_next (p:=p) hlt
   obtain ⟨N,hN⟩ : ∃ N,N = nextL p b:=⟨_,rfl⟩
   rw [<- hN] at h7 hX hwn
   simp only [dProb,dInts] at h7
   have hNm : ∀ x,x ∈ N -> OkB p x /\ x.length = b.length + 1:=fun x hx=>by
    rw [hN] at hx
    obtain ⟨j,hj,rfl⟩:=(next_mem (p:=p) hlt).1 hx
    exact ⟨okb_snoc okb hlt hj,by simp⟩
   obtain ⟨F,hF⟩ : ∃ F : Nat -> RepS,F = fun i=>(N.take i).foldl (fun s x=>exR p f x s) s:=⟨_,rfl⟩
   have hF0 : F 0 = s:=by rw [hF]; rfl
   have hFs : ∀ i (hi : i < N.length),F (i + 1) = exR p f N[i] (F i):=fun i hi=>by
    rw [hF]
    simp only
    rw [List.take_succ_eq_append_getElem hi,List.foldl_append]; rfl
   have hFe : F N.length = exR p (f + 1) b s:=by rw [hX,hF]; simp only [List.take_length]
   have hFok : ∀ i,i <= N.length -> okRep p (F i) /\ SmR (F i) /\ (F i).leaves.length <= s.leaves.length + wO p (N.take i):=fun i=>by
    induction i with
    | zero=>intro _; rw [hF0]; exact ⟨okr,M,by omega⟩
    | succ i ih=>
     intro hi
     obtain ⟨c1,c2,c3⟩:=ih (by omega)
     obtain ⟨o1,o2⟩:=hNm N[i] (List.getElem_mem _)
     rw [hFs i hi]
     have hcn:=exR_cnt (p:=p) f N[i] (F i) (by omega)
     refine ⟨(exR_all S ok f N[i] (F i) o1 (by omega) c1).ok,exR_sm S f _ _ c2,?_⟩
     rw [List.take_succ_eq_append_getElem hi,wO_app]
     simp only [wO]; omega
   have hwt : ∀ i (hi : i < N.length),wO p (N.take i) + wB p N[i] <= wO p N:=fun i hi=>by
    have : N = N.take i ++ N[i] :: N.drop (i + 1):=by rw [<- drop_cons hi,List.take_append_drop]
    have h2 : wO p N = wO p (N.take i) + wO p (N[i] :: N.drop (i + 1)):=by rw [<- wO_app,<- this]
    rw [h2]
    simp only [wO]; omega
   have hNl : N.length <= 1000000000:=by have:=wO_ge (p:=p) (l:=N); omega
   obtain ⟨D1,hD1⟩ : ∃ D1,D1 = brD b:=⟨_,rfl⟩
   rw [hx] at hD1
   have step : ∀ (i : Nat) (h : List Obj) (sb sv sp : Spare) (hi : i < N.length),At h W (wkC p (F i) sb sv sp (.fn 225 [.loc ip 0,.loc iw 0])) -> At h ip (.cells (dProb p).cellsL) -> At h iw (.cells [.loc W 0]) -> Room C h sp (F i).leaves.length 3 -> Keep W C hp h -> hp.length <= h.length ->
     ∃ d h',runS E (dL E) 226 [.loc W 0,.imm .none (N[i].map dI)] h = some (d,h') /\ isMark d = false /\ ∃ sb' sv' sp',At h' W (wkC p (F (i + 1)) sb' sv' sp' (.fn 225 [.loc ip 0,.loc iw 0])) /\ Room C h' sp' (F (i + 1)).leaves.length 3 /\ Keep W C hp h' /\ hp.length <= h'.length /\ At h' ip (.cells (dProb p).cellsL) /\ At h' iw (.cells [.loc W 0]):=fun i h sb sv sp hi a1 a2 a3 a4 a5 a6=>by
    obtain ⟨c1,c2,c3⟩:=hFok i (by omega)
    obtain ⟨o1,o2⟩:=hNm N[i] (List.getElem_mem _)
    have hw2:=hwt i hi
    obtain ⟨d,h',y1,y2,sb',sv',sp',y3,y4,y5,y6⟩:=s226 S ok h1 h2 l1 l2 l3 f N[i] (F i) sb sv sp h o1 (by omega) c1 c2 (by omega) a1 a2 a3 a4 (by omega)
    have hne : ¬ N[i] = []:=fun e=>by rw [e] at o2; simp at o2
    have hbr : brD N[i] = .imm .none (N[i].map dI):=by unfold brD; rw [if_neg hne]
    rw [hbr] at y1
    rw [<- hFs i hi] at y3 y4
    exact ⟨d,h',y1,y2,sb',sv',sp',y3,y4,a5.trans y5,by omega,y5.at h1 l1 a2,y5.at h2 l2 a3⟩
   have hw3 : s.known = true -> worse p b s = false:=fun h=>by
    rw [h] at hk
    simpa using hk
   rw [hx] at h235 ⊢
   cases hkn : s.known
   case' false=>
    rw [hkn] at gc
    simp [t226,n226,gc.eq,e',h7]
   case' true=>
    rw [hkn] at gc
    rw [hw3 hkn] at h235
    simp [t226,n226,gc.eq,e',h7,h235]
   all_goals
    refine wT_up N.length (fun i env h=>(∃ (x1 x2 x3 x4 x5 x6 x7 x8 x9 x10 x11 x12 x16 x17 : D) (sb sv sp : Spare),env = [.loc W 0,x1,x2,x3,x4,x5,x6,x7,x8,x9,x10,x11,x12,.imm .none (N.map dInts),dI N.length,dI i,x16,x17] /\ At h W (wkC p (F i) sb sv sp (.fn 225 [.loc ip 0,.loc iw 0])) /\ At h ip (.cells (dProb p).cellsL) /\ At h iw (.cells [.loc W 0]) /\ Room C h sp (F i).leaves.length 3 /\ Keep W C hp h /\ hp.length <= h.length)) 0 (by omega)
     ⟨_,_,_,_,_,_,_,_,_,_,_,_,_,_,sb,sv,sp,rfl,by rw [hF0]; exact g,g1,g2,by rw [hF0]; exact R,Keep.refl,Nat.le_refl _⟩ ?_
    clear h235 gc
    rintro i env h hi ⟨x1,x2,x3,x4,x5,x6,x7,x8,x9,x10,x11,x12,x16,x17,sb,sv,sp,rfl,a1,a2,a3,a4,a5,a6⟩
    by_cases hli : i < N.length
    ·obtain ⟨d,h',y1,y2,sb',sv',sp',y3,y4,y5,y6,y7,y8⟩:=step i h sb sv sp hli a1 a2 a3 a4 a5 a6
     simp [hli,y1,noMark_of y2,wrap_up hli (by omega)]
     exact ⟨_,_,_,y3,y7,y8,y4,y5,y6⟩
    ·have : i = N.length:=by omega
     subst this
     have hQ2 : Q h:=by
      rw [hQ,<- hFe]
      exact ⟨_,_,_,a1,a4,a5,a6⟩
     simp [hQ2]
  rw [hQ] at key
  exact key

def certR (s : RepS) : Cert:=⟨s.best,s.value,s.leaves⟩
open Classical in
noncomputable def repC (p : Prob) (c : Cert) : Cert:=if chkC p c = 0 then c else certR (repS p c.best)
open Classical in
noncomputable def resRepair (p : Prob) (c : Cert) : D:=if OkP p then .tup [dCert (repC p c),dI 0] else .tup [dCert cert0,dI 270]

theorem wkC_cert {p : Prob} {s : RepS} {sb sv sp : Spare} {fn : D} {hp : List Obj} (h : ∀ x,x ∈ s.leaves -> x.mult = []) {n : Nat} :
  frz hp (n + 6) (.agg [.imm sb (s.best.map dI),.imm sv (s.value.map dI),.imm sp (s.leaves.map kLeaf)]) = some (dCert (certR s)):=by
 rw [frz_agg]
 simp only [frzL_one,frz_imm,frzL_dI,frzL_kLeaf h,Option.map_some,ob_some,frzL_nil]
 rfl

theorem r215 (p : Prob) (c : Cert) (S : Small p) (M : SmC c) : runP E (dL E) 215 [dProb p,dCert c] = some (resRepair p c):=by
 refine runP_T c215 (by simp) ?_
 have h222:=r222 p c S M
 simp only [dProb,dInts,dCert] at h222
 unfold resKeep at h222
 unfold resRepair repC
 by_cases ok : OkP p
 rotate_left
 ·rw [if_neg ok] at h222
  simp [t215,n215,h222,ok,frzL_leaf,cert0]
 rw [if_pos ok] at h222
 by_cases h0 : chkC p c = 0
 ·simp [t215,n215,h222,ok,frzL_leaf,h0]
 have hd : decide (chkC p c = 0) = false:=by simp [h0]
 rw [hd] at h222
 simp only [if_neg h0,if_pos ok]
 have hg : (0 : Nat) <= 0:=Nat.le_refl _
 obtain ⟨H,hH⟩ : ∃ H : List Obj -> List Obj,H = fun r=>(.cells (dProb p).cellsL :: .cells (dCert c).cellsL :: .cells [.imm .exact [],.imm .exact [],.imm .exact []] :: wkC p ⟨[],[],false,[]⟩ .exact .exact .exact (.fn 225 [.loc 0 0,.loc 4 0]) :: .cells [.loc 3 0] :: r):=⟨_,rfl⟩
 have key : ∀ r,∃ d1 hp1,runS E (dL E) 225 [.imm .none (c.best.map dI),.loc 0 0,.loc 4 0] (H r) = some (d1,hp1) /\ isMark d1 = false /\ hp1[4]? = some (.cells [.loc 3 0]) /\ ∃ d2 hp2,runS E (dL E) 226 [.loc 3 0,.imm .exact []] hp1 = some (d2,hp2) /\ isMark d2 = false /\
   hp2[4]? = some (.cells [.loc 3 0]) /\ At hp2 2 (.cells [.imm .exact [],.imm .exact [],.imm .exact []]) /\ ∃ sb sv sp,At hp2 3 (wkC p (repS p c.best) sb sv sp (.fn 225 [.loc 0 0,.loc 4 0])):=fun r=>by
  have g0 : At (H r) 0 (.cells (dProb p).cellsL):=by rw [hH]; rfl
  have g2 : At (H r) 2 (.cells [.imm .exact [],.imm .exact [],.imm .exact []]):=by rw [hH]; rfl
  have g3 : At (H r) 3 (wkC p ⟨[],[],false,[]⟩ .exact .exact .exact (.fn 225 [.loc 0 0,.loc 4 0])):=by rw [hH]; rfl
  have g4 : At (H r) 4 (.cells [.loc 3 0]):=by rw [hH]; rfl
  have hl : 5 <= (H r).length:=by rw [hH]; simp
  have M0 : SmR ⟨[],[],false,[]⟩:=⟨by simp,by simp⟩
  obtain ⟨d1,hp1,a1,a2,sb,sv,a3,a4,a5⟩:=s225 (sx:=.none) c.best M.best S M0 g3 g0 g4 (by omega) (by omega)
  have b0:=a4.at (by omega) (by omega) g0
  have b2:=a4.at (by omega) (by omega) g2
  have b4:=a4.at (by omega) (by omega) g4
  have h0 : okRep p ⟨[],[],false,[]⟩:=fun h=>by cases h
  have hw:=wB_le S (b:=[])
  obtain ⟨d2,hp2,c1,c2,sb2,sv2,sp2,c3,c4,c5,c6⟩:=s226 S ok (C:=5) (W:=3) (ip:=0) (iw:=4) (by omega) (by omega) (by omega) (by omega) (by omega) (p.vars.length + 1) [] (betR p c.best ⟨[],[],false,[]⟩) sb sv .exact hp1
   okb_nil (by simp) (betR_ok h0) (betR_sm S M0) (by rw [betR_leaves]; simp only [List.length_nil]; omega) a3 b0 b4 (.inl rfl) (by omega)
  exact ⟨d1,hp1,a1,a2,b4.eq,d2,hp2,c1,c2,(c5.at (by omega) (by omega) b4).eq,c5.at (by omega) (by omega) b2,sb2,sv2,sp2,c3⟩
 obtain ⟨d1,hp1,a1,a2,a3,d2,hp2,c1,c2,c3,c5,sb,sv,sp,c4⟩:=key [Obj.dead,Obj.dead,Obj.dead,Obj.dead,Obj.dead,Obj.dead,Obj.dead]
 rw [hH] at a1
 have hm : ∀ x,x ∈ (repS p c.best).leaves -> x.mult = []:=fun x hx=>((repS_best S ok (old:=c.best)).2.2.2.1 x hx).2.2
 have hz:=fun hp=>wkC_cert (p:=p) (s:=repS p c.best) (sb:=sb) (sv:=sv) (sp:=sp) (fn:=.nilfn) (hp:=hp) hm (n:=5)
 unfold wkC at a1 c4
 have l5:=c5.lt
 have q2 : ∀ x,(hp2.set 2 x)[2]? = some x:=fun x=>(At.self l5).eq
 simp only [cellsL_agg,dProb,dCert] at a1
 obtain ⟨T,hT⟩ : ∃ T,T = repS p c.best:=⟨_,rfl⟩
 rw [<- hT] at c4 hz ⊢
 simp at a1 hz
 simp [t215,n215,h222,frzL_leaf,a1,noMark_of a2,a3,c1,noMark_of c2,c3,c4.eq,c5.eq,↓q2,hz]

structure SmV (v : Var) : Prop where
 leaves : v.leaves.length <= 8
 choices : v.choices.length <= 8
 uses : ∀ c,c ∈ v.choices -> c.uses.length <= 12
structure MidV (v : Var) : Prop where
 leaves : v.leaves.length <= 9223372036854775807
 choices : v.choices.length <= 9223372036854775807
 uses : ∀ c,c ∈ v.choices -> c.uses.length <= 9223372036854775807
theorem SmV.mid {v : Var} (h : SmV v) : MidV v:=⟨by have:=h.leaves; omega,by have:=h.choices; omega,fun c hc=>by have:=h.uses c hc; omega⟩
theorem Small.var {p : Prob} (S : Small p) {v : Var} (hv : v ∈ p.vars) : SmV v:=⟨S.leaves v hv,S.choices v hv,S.uses v hv⟩
theorem Small.mid {p : Prob} (S : Small p) {v : Var} (V : MidV v) (j : Nat) : Mid (putVar p j v):=by
 have h : ∀ w,w ∈ p.vars.set j v -> MidV w:=fun w hw=>by
  rcases List.mem_or_eq_of_mem_set hw with h | rfl
  ·exact (S.var h).mid
  ·exact V
 exact ⟨S.cells,S.cap,S.rows,by simp only [putVar,List.length_set]; exact S.vars,fun w hw=>(h w hw).leaves,fun w hw=>(h w hw).choices,fun w hw=>(h w hw).uses⟩

theorem light_sm {p : Prob} (h : lightB p = true) : Small p:=few_small (by unfold lightB at h; exact (Bool.and_eq_true_iff.1 h).1)
theorem repC_acc {p : Prob} (S : Small p) (ok : OkP p) {c : Cert} (M : SmC c) : Acc p (repC p c) /\ SmC (repC p c):=by
 unfold repC
 by_cases h : chkC p c = 0
 ·rw [if_pos h]
  refine ⟨?_,M⟩
  unfold chkC at h
  split at h
  ·split at h
   ·assumption
   ·cases h
  ·cases h
 ·rw [if_neg h]
  obtain ⟨w,hv,_,hl,hd⟩:=repS_best S ok (old:=c.best)
  have h3:=S.vars
  refine ⟨⟨w,hv.symm,fun l hm=>(hl l hm).2.1,hd,fun l hm=>(hl l hm).1⟩,?_⟩
  have hc : (repS p c.best).leaves.length <= 1000000:=by
   have h1:=exR_cnt (p:=p) (p.vars.length + 1) [] (betR p c.best ⟨[],[],false,[]⟩) (by simp)
   have h2:=wB_le S (b:=[])
   rw [betR_leaves] at h1
   have e : (repS p c.best).leaves = (exR p (p.vars.length + 1) [] (betR p c.best ⟨[],[],false,[]⟩)).leaves:=rfl
   rw [e]
   simp only [List.length_nil] at h1
   omega
  exact ⟨by have:=w.2.2; show (repS p c.best).best.length <= 20; omega,by show (repS p c.best).value.length <= 1000; rw [hv]; simp [boundL],hc,fun l hm=>by
   obtain ⟨_,h5,h6⟩:=hl l hm
   exact ⟨by have:=h5.len; omega,by rw [h6]; exact ⟨by simp,fun _ hx=>by cases hx⟩⟩⟩
theorem acc_best {p : Prob} (S : Small p) {c : Cert} (a : Acc p c) {x : List Int} (hx : Whole p x) : 0 <= betterI p x c.best:=
 cert_proves S a.whole (fun l hl=>⟨a.leaf l hl,a.branch l hl⟩) a.div hx

theorem cert0_sm : SmC cert0:=⟨by simp [cert0],by simp [cert0],by simp [cert0],fun l hl=>by simp [cert0] at hl⟩

theorem law220 (h1 : runP E (dL E) 212 [] = some (.bool true)) (p : Prob) (at' : Nat) (hat : at' <= 255) : runP E (dL E) 220 [dProb p,.int .u8 at'] = some (.bool true):=by
 refine runP_T c220 (by simp) ?_
 have h129:=r129 p
 simp only [dProb,dInts] at h129
 cases hf : lightB p with
 | false=>simp [t220,n220,h1,h129,hf]
 | true=>
 rw [hf] at h129
 by_cases hv0 : p.vars = []
 ·have hvb : ((p.vars.length : Int) == 0) = true:=by simp [hv0]
  simp [t220,n220,h1,h129,hvb]
 have S:=light_sm hf
 have s3:=S.vars
 have hv1 : 1 <= p.vars.length:=by
  rcases Nat.eq_zero_or_pos p.vars.length with h | h
  ·exact absurd (List.eq_nil_of_length_eq_zero h) hv0
  ·exact h
 have hvb : ((p.vars.length : Int) == 0) = false:=by
  have : ¬ p.vars.length = 0:=by omega
  simpa using this
 have hvn : ¬ (p.vars.length : Int) = 0:=by omega
 have h215:=r215 p cert0 S cert0_sm
 unfold resRepair at h215
 obtain ⟨i,hi⟩ : ∃ i,i = at' % p.vars.length:=⟨_,rfl⟩
 have hil : i < p.vars.length:=by rw [hi]; exact Nat.mod_lt _ (by omega)
 have t1 : Int.tmod (at' : Int) (p.vars.length : Int) = (i : Int):=by rw [tmodN,<- hi]
 have w0:=wrap_i64 (n:=(at' : Int)) ⟨by omega,by omega⟩
 by_cases ok : OkP p
 rotate_left
 ·rw [if_neg ok] at h215
  simp only [dProb,dCert,cert0,dInts,List.map_nil] at h215
  simp [t220,n220,h1,h129,hvb,h215]
 rw [if_pos ok] at h215
 obtain ⟨A,MA⟩:=repC_acc S ok cert0_sm
 obtain ⟨C,hC⟩ : ∃ C,C = repC p cert0:=⟨_,rfl⟩
 rw [<- hC] at h215 A MA
 simp only [dProb,dCert,cert0,dInts,List.map_nil] at h215
 by_cases h2 : (p.vars[i].choices.length : Int) < 2
 ·simp [t220,n220,h1,h129,hvb,hv0,convD,w0,t1,h215,hil,h2,frzL_leaf]
 have h2' : 2 <= p.vars[i].choices.length:=by omega
 have hbl : C.best.length = p.vars.length:=A.whole.2.2
 obtain ⟨m,hm⟩ : ∃ m : Nat,p.vars[i].choices.length = m + 1:=⟨p.vars[i].choices.length - 1,by omega⟩
 have w2 : (p.vars[i].choices.length : Int) - 1 = m:=by omega
 have w1:=wrap_i64 (n:=(p.vars[i].choices.length : Int) - 1) ⟨by omega,by have:=S.choices _ (List.getElem_mem hil); omega⟩
 rw [w2] at w1
 obtain ⟨cs,hcs⟩ : ∃ cs,cs = p.vars[i].choices.take (p.vars[i].choices.length - 1):=⟨_,rfl⟩
 have hsl : ∀ sp,sliceD E 16 (.imm sp (p.vars[i].choices.map dChoice)) none (some (dI m)) (some (dI m)) = some (.imm .exact (cs.map dChoice)):=fun sp=>by
  have hh : headFits 4 (p.vars[i].choices.map dChoice) = true:=by cases p.vars[i].choices <;> rfl
  have hq : m <= p.vars[i].choices.length:=by omega
  have hq3 : (p.vars[i].choices.map dChoice).take m = cs.map dChoice:=by rw [hcs,hm,<- List.map_take]; rfl
  simp [sliceD,bnd,sliceSpare,hh,hq,hq3]
 obtain ⟨v,hv⟩ : ∃ v : Var,v = { p.vars[i] with choices:=cs }:=⟨_,rfl⟩
 have hq : putVar p i v = fewer p i:=by
  unfold fewer putVar
  rw [getD_lt hil,hv,hcs]
 have S':=fewer_small hil S
 have ok':=fewer_ok hil ok h2'
 have V : SmV v:=by
  have h5:=S'.var (v:=v) (by rw [<- hq]; exact List.mem_set hil v)
  exact h5
 have h214:=r214 p i v S (fun j _=>S.mid V.mid j)
 unfold resRep at h214
 rw [if_pos ok,if_pos ⟨by omega,by omega⟩,Int.toNat_natCast,hq,if_pos ok'] at h214
 have h215b:=r215 (fewer p i) C S' MA
 unfold resRepair at h215b
 rw [if_pos ok'] at h215b
 obtain ⟨A',MA'⟩:=repC_acc S' ok' MA
 obtain ⟨C',hC'⟩ : ∃ C',C' = repC (fewer p i) C:=⟨_,rfl⟩
 rw [<- hC'] at h215b A' MA'
 have hw:=fewer_whole hil ok h2' (x:=C.best)
 have hd:=fewer_whole hil ok h2' (x:=C'.best)
 have hbd:=fewer_bound hil ok h2' A'.whole
 have wd:=(hd.1 A'.whole).1
 have hib : i < C.best.length:=by omega
 have hval : boundL p C'.best = C'.value:=by rw [<- hbd]; exact A'.value
 have h22:=r22 p C'.best S MA'.best
 have h24:=r24 p C'.best C.best S MA'.best MA.best
 unfold resV at h22
 unfold resBt at h24
 rw [if_pos wd,hval] at h22
 rw [if_pos ⟨wd,A.whole⟩] at h24
 have hge : 0 <= betterI p C'.best C.best:=acc_best S A wd
 have hge2 : ¬ betterI p C'.best C.best < 0:=by omega
 simp only [hge2,decide_false] at h24
 have h20a:=r20 C'.value C'.value (by have:=MA'.value; omega)
 obtain ⟨Q,hQ⟩ : ∃ Q,Q = fewer p i:=⟨_,rfl⟩
 rw [<- hQ] at h214 h215b
 simp only [dProb,dInts,dCert,dVar,decide_true,hv] at h214 h215b h22 h24 h20a
 by_cases hlt : C.best[i] < (m : Int)
 ·have hwC : Whole (fewer p i) C.best:=hw.2 ⟨A.whole,fun h e=>by omega⟩
  have e1:=acc_best S' A' hwC
  have e2:=fewer_better hil ok h2' A'.whole hwC
  have e3 : betterI (fewer p i) C.best C'.best = - betterI (fewer p i) C'.best C.best:=better_anti
  have e4 : betterI (fewer p i) C'.best C.best = 0:=by omega
  have eb : C'.best = C.best:=(better_zero (A'.whole.2.2.trans hwC.2.2.symm)).1 e4
  have ev : C'.value = C.value:=by rw [<- hval,eb]; exact A.value
  have h20b:=r20 C.best C.best (by omega)
  rw [ev] at h20a h215b
  rw [eb] at h215b
  simp only [dInts,decide_true] at h20b
  simp [t220,n220,h1,h129,hvb,hv0,convD,w0,t1,h215,hil,h2,frzL_leaf,hbl,w1,w2,xv_slice3,hsl,h214,h215b,hlt,h20a,h20b]
 ·simp [t220,n220,h1,h129,hvb,hv0,convD,w0,t1,h215,hil,h2,frzL_leaf,hbl,w1,w2,xv_slice3,hsl,h214,h215b,hlt,h20a,h22,h24]

theorem repairFewer (h1 : runP E (dL E) 212 [] = some (.bool true)) : ∀ xs,TypedL E [0,13] xs -> ∃ n,runP E (dC E n) 220 xs = some (.bool true):=by
 intro xs h
 match xs,h with
 | [x,y],⟨t1,t2,_⟩=>
  obtain ⟨p,rfl,_⟩:=ty_prob t1
  obtain ⟨m,rfl,hm⟩:=ty_u8 t2 rfl
  exact runP_ex (law220 h1 p m hm)
 | [],h=>exact h.elim
 | [_],h=>exact h.2.elim
 | _ :: _ :: _ :: _,h=>exact h.2.2.elim

def c9E : Cell:=⟨false,0,9⟩
def nowE : Choice:=⟨0,0,0,[⟨c9E,1⟩]⟩
def svE : Var:=⟨0,0,[0],[nowE,⟨10,3,0,[]⟩]⟩
def swE : Var:=⟨0,0,[0],[nowE,⟨10,5,0,[]⟩]⟩
def freE : Var:=⟨0,0,[0],[⟨0,1,0,[]⟩]⟩
def spE : Prob:=⟨[c9E],[[1]],[svE,swE]⟩
def sqE : Prob:=⟨[c9E],[[1]],[freE,swE]⟩
def noE : Prob:=⟨[],[[]],[]⟩
def acE : Cert:=⟨[1,0],[0,10,3,0],[⟨[0,0],1,[]⟩,⟨[0,1],1,[]⟩,⟨[1,0],1,[]⟩,⟨[1,1],1,[]⟩]⟩
def bcE : Cert:=⟨[0,0],[0,0,1,0],[⟨[0,0],1,[]⟩,⟨[0,1],1,[]⟩]⟩
def ccE : Cert:=⟨[],[0,0,0,0],[⟨[],1,[]⟩]⟩

theorem up33 {k : Nat} {a : List D} {r : D} {n : Nat} (h : runP E (dC E n) k a = some r) : runP E (dL E) k a = some r:=runP_mono (fun _ _ _ h=>dC_dL _ _ _ h) h

theorem e221 : runP E (dL E) 221 [] = some (dProb spE):=up33 (n:=100) (by kernel_rfl)
theorem e215a : runP E (dL E) 215 [dProb spE,dCert cert0] = some (.tup [dCert acE,dI 0]):=up33 (n:=100) (by kernel_rfl)
theorem e214a : runP E (dL E) 214 [dProb spE,dI 0,dVar freE] = some (.tup [dProb sqE,dI 0]):=up33 (n:=100) (by kernel_rfl)
theorem e215b : runP E (dL E) 215 [dProb sqE,dCert acE] = some (.tup [dCert bcE,dI 0]):=up33 (n:=100) (by kernel_rfl)
theorem e222a : runP E (dL E) 222 [dProb spE,dCert acE] = some (.tup [.bool true,dI 0]):=up33 (n:=100) (by kernel_rfl)
theorem e222b : runP E (dL E) 222 [dProb sqE,dCert acE] = some (.tup [.bool false,dI 0]):=up33 (n:=100) (by kernel_rfl)
theorem e214b : runP E (dL E) 214 [dProb noE,dI 0,dVar freE] = some (.tup [dProb prob0,dI 330]):=up33 (n:=100) (by kernel_rfl)
theorem e222c : runP E (dL E) 222 [dProb spE,dCert cert0] = some (.tup [.bool false,dI 0]):=up33 (n:=100) (by kernel_rfl)
theorem e215c : runP E (dL E) 215 [dProb noE,dCert cert0] = some (.tup [dCert ccE,dI 0]):=up33 (n:=100) (by kernel_rfl)
theorem e215d : runP E (dL E) 215 [dProb prob0,dCert acE] = some (.tup [dCert cert0,dI 270]):=up33 (n:=100) (by kernel_rfl)
theorem e216a : runP E (dL E) 216 [dProb spE,dCert acE] = some (dI 0):=up33 (n:=100) (by kernel_rfl)
theorem e216b : runP E (dL E) 216 [dProb sqE,dCert bcE] = some (dI 0):=up33 (n:=100) (by kernel_rfl)
theorem e216c : runP E (dL E) 216 [dProb noE,dCert ccE] = some (dI 0):=up33 (n:=100) (by kernel_rfl)

theorem sane212 : runP E (dL E) 212 [] = some (.bool true):=by
 refine runP_T c212 (by simp) ?_
 have h1:=e221
 have h2:=e215a
 have h3:=e214a
 have h4:=e215b
 have h5:=e222a
 have h6:=e222b
 have h7:=e214b
 have h8:=e222c
 have h9:=e215c
 have h10:=e215d
 have h11:=e216a
 have h12:=e216b
 have h13:=e216c
 have h14:=fun l hl=>r20 l l hl
 simp only [decide_true] at h14
 have h15:=h14 [1,0] (by simp)
 have h16:=h14 [0,10,3,0] (by simp)
 have h17:=h14 [0,0] (by simp)
 have h18:=h14 [0,0,0,0] (by simp)
 simp only [dProb,dInts,dCert,cert0,prob0,spE,sqE,noE,svE,swE,freE,nowE,c9E,acE,bcE,ccE,dLeaf,dVar,dChoice,dUse,dCell,List.map_cons,List.map_nil] at h1 h2 h3 h4 h5 h6 h7 h8 h9 h10 h11 h12 h13 h15 h16 h17 h18
 simp [t212,n212,h1,h2,h3,h4,h5,h6,h7,h8,h9,h10,h11,h12,h13,h15,h16,h17,h18,frzL_one,frzL_nil]

end Dv

namespace Dv

theorem repairFewer' : ∀ xs,TypedL E [0,13] xs -> ∃ n,runP E (dC E n) 220 xs = some (.bool true):=repairFewer sane212

end Dv
