/- Texts that a proof of this claim uses, joined: Lw.W34, Lw.W50, Lw.W51, Lw.W52, Lw.W53, Lw.W54. -/
import Derived.Test.YtffnaiofjjgcgaaWx
import Derived.Test.YtffnaiofjjgcgaaWd
set_option linter.all false
/- Walks: the overloads, one after the other. -/
namespace Dv
attribute [local simp] wT_skip wK wT_ret wT_exit wR wRp wT_seq wC wT_block rTS_nil rTS_asg rTS_eff rTS_effk ob_some obP_some iteD_b condP_b xv_v xv_c xv_ite xv_bin_tt xv_bin_tc xv_bin_ct xv_bin_cc xv_un_t xv_conv_t xv_load xv_len xv_faddr xv_field xv_iaddr_tt xv_iaddr_tc xv_index_tt xv_index_tc xv_lookup_tt xv_max_tt xv_max_tc xv_max_ct xv_min_tt xv_min_tc xv_min_ct xv_slice_lo_t xv_slice_lo_c xv_slice_hi_t xv_slice_all xv_call xv_bslice bsliceV xv_build buildV xv_mkfn zeroE fillE buildD fillD List.replicate xvs_nil xvs_cons callV_fn frz_bool frz_int frz_imm frz_agg frz_tup frz_fn frz_iptr frzL_nil frzL_one frzL_dI frzL_cell frzL_use frzL_ints frzL_choice frzL_var depth dCell dUse dInts dChoice dVar dProb tStart addO Ret flat_dI flat_rep chunk_dI
 binD_add binD_sub binD_mul binD_eql binD_neq binD_lss binD_leq binD_gtr binD_geq binD_quo binD_rem binD_beql binD_bneq binD_aeql binD_aneq unD_not unD_neg lenD_imm lenD_sl lenD_str readO_cells readO_frozen loadD_loc loadD_iptr iaddrD_imm iaddrD_sl iaddrD_loc faddrD_loc faddrD_iptr fieldD_agg indexD_agg indexD_str cellsL_bool stor_bool atom_bool cellsL_int stor_int atom_int cellsL_str stor_str atom_str cellsL_imm stor_imm atom_imm cellsL_sl stor_sl atom_sl cellsL_loc stor_loc atom_loc cellsL_iptr stor_iptr atom_iptr cellsL_map stor_map atom_map cellsL_fn stor_fn atom_fn cellsL_agg stor_agg cellsL_nilfn stor_nilfn atom_nilfn cellsL_nilp stor_nilp atom_nilp takeC_z takeC_s ofCells_ag ofCells_one ag_bool ag_int ag_str ag_slice ag_struct ag_arr ag_map ag_ptr ag_func gOf_t gOf_c gOf_f kv_cons putE_some putE_none oneRes_one oneRes_two oneRes_three getAll_nil getAll_v getAll_c maxiD_two miniD_two extV_tup xv_ext stepOp_box stepOp_alloc stepOp_store writeO_cells storeD_loc setCells_nil setCells_cons stepOp_mkmap stepOp_mapset stepOp_call1 stepOp_call2 stepOp_app2 stepOp_app1 stepOp_bslice stepOp_mkslice mapO_map lookupD_some lookupD_ok mapsetD_some keyOk_agg kindsL_nil kindsL_bool kindsL_int eqL_nil eqL_cons atomEq_bool atomEq_int frz_sl tokO_tok app0_step app0_exact app0_tok frz_loc oneRes_nil listOf_imm
 ty_0 ty_1 ty_2 ty_3 ty_4 ty_5 ty_6 ty_7 ty_8 ty_9 ty_10 ty_11 ty_12 ty_13 ty_14 ty_15 ty_16 ty_17 ty_18 ty_19 ty_20 ty_21 ty_22 ty_23 ty_24 ty_25 ty_26 ty_27
attribute [local congr] wT_congr ob_congr obP_congr iteD_congr condP_congr

def gdD (t : D) (b : Bool) : Bool := match t with
  | .bool c => c == b
  | _ => false
theorem gdD_b {c b : Bool} : gdD (.bool c) b = (c == b) := rfl
theorem rTS_effg {E : Env} {cP : Nat → List D → Option D} {cS cY : Nat → List D → List Obj → Option (D × List Obj)} {base : Nat} {env : List D} {hp : List Obj} {x : Xp} {b : Bool} {dst : Option Nat} {op : DOp} {ks : Xs} {k : Option Nat} {r : List TS} :
    rTS E cP cS cY base (.eff (some (x, b)) dst op ks k :: r) env hp = ob (xv E cP env hp x) fun t => if gdD t b = true then rTS E cP cS cY base (.eff none dst op ks k :: r) env hp else rTS E cP cS cY base r (putE env dst .undef) hp := by
  simp only [rTS, gdT]
  cases xv E cP env hp x with
  | none => rfl
  | some d =>
    cases d with
    | bool c => cases c <;> cases b <;> rfl
    | _ => rfl

/-- is a list of choices a solution? -/
def Whole (p : Prob) (b : List Int) : Prop := OkP p ∧ OkB p b ∧ b.length = p.vars.length
end Dv

/- Walks: the checks of the multipliers. -/
namespace Dv
attribute [local simp] wT_skip wK wT_ret wT_exit wR wRp wT_seq wC wT_block rTS_nil rTS_asg rTS_eff rTS_effk ob_some obP_some iteD_b condP_b xv_v xv_c xv_ite xv_bin_tt xv_bin_tc xv_bin_ct xv_bin_cc xv_un_t xv_conv_t xv_load xv_len xv_faddr xv_field xv_iaddr_tt xv_iaddr_tc xv_index_tt xv_index_tc xv_lookup_tt xv_max_tt xv_max_tc xv_max_ct xv_min_tt xv_min_tc xv_min_ct xv_slice_lo_t xv_slice_lo_c xv_slice_hi_t xv_slice_all xv_call xv_bslice bsliceV xv_build buildV xv_mkfn zeroE fillE buildD fillD List.replicate xvs_nil xvs_cons callV_fn frz_bool frz_int frz_imm frz_agg frz_tup frz_fn frz_iptr frzL_nil frzL_one frzL_dI frzL_cell frzL_use frzL_ints frzL_choice frzL_var depth dCell dUse dInts dChoice dVar dProb tStart addO Ret flat_dI flat_rep chunk_dI
 binD_add binD_sub binD_mul binD_eql binD_neq binD_lss binD_leq binD_gtr binD_geq binD_quo binD_rem binD_beql binD_bneq binD_aeql binD_aneq unD_not unD_neg lenD_imm lenD_sl lenD_str readO_cells readO_frozen loadD_loc loadD_iptr iaddrD_imm iaddrD_sl iaddrD_loc faddrD_loc faddrD_iptr fieldD_agg indexD_agg indexD_str cellsL_bool stor_bool atom_bool cellsL_int stor_int atom_int cellsL_str stor_str atom_str cellsL_imm stor_imm atom_imm cellsL_sl stor_sl atom_sl cellsL_loc stor_loc atom_loc cellsL_iptr stor_iptr atom_iptr cellsL_map stor_map atom_map cellsL_fn stor_fn atom_fn cellsL_agg stor_agg cellsL_nilfn stor_nilfn atom_nilfn cellsL_nilp stor_nilp atom_nilp takeC_z takeC_s ofCells_ag ofCells_one ag_bool ag_int ag_str ag_slice ag_struct ag_arr ag_map ag_ptr ag_func gOf_t gOf_c gOf_f kv_cons putE_some putE_none oneRes_one oneRes_two oneRes_three getAll_nil getAll_v getAll_c maxiD_two miniD_two extV_tup xv_ext stepOp_box stepOp_alloc stepOp_store writeO_cells storeD_loc setCells_nil setCells_cons stepOp_mkmap stepOp_mapset stepOp_call1 stepOp_call2 stepOp_app2 stepOp_app1 stepOp_bslice stepOp_mkslice mapO_map lookupD_some lookupD_ok mapsetD_some keyOk_agg kindsL_nil kindsL_bool kindsL_int eqL_nil eqL_cons atomEq_bool atomEq_int frz_sl tokO_tok app0_step app0_exact app0_tok frz_loc oneRes_nil listOf_imm
 ty_0 ty_1 ty_2 ty_3 ty_4 ty_5 ty_6 ty_7 ty_8 ty_9 ty_10 ty_11 ty_12 ty_13 ty_14 ty_15 ty_16 ty_17 ty_18 ty_19 ty_20 ty_21 ty_22 ty_23 ty_24 ty_25 ty_26 ty_27
attribute [local congr] wT_congr ob_congr obP_congr iteD_congr condP_congr

/-- valid multipliers -/
structure OkM (p : Prob) (m : List (List Int)) : Prop where
  len : m.length = p.capacity.length
  rows : ∀ l, l ∈ m → l.length = p.cells.length ∧ ∀ n, n ∈ l → 0 ≤ n ∧ n ≤ 65536

/-- few multipliers -/
structure SmallM (m : List (List Int)) : Prop where
  len : m.length ≤ 40
  rows : ∀ l, l ∈ m → l.length ≤ 60

def offM (n : Int) : Bool := decide (n < 0) || decide (65536 < n)
def wrongM (p : Prob) (l : List Int) : Bool := !decide (l.length = p.cells.length) || l.any offM

theorem r112 (n : Int) : runP E (dL E) 112 [dI n] = some (.bool (offM n)) := by
  refine runP_T c112 (by simp) ?_
  unfold offM
  by_cases h : n < 0 <;> simp [t112, n112, h]

theorem r93 (p : Prob) (l : List Int) (hl : l.length ≤ 1000000) (hc : p.cells.length ≤ 1000) : runP E (dL E) 93 [dInts l, .iptr (dProb p).cellsL] = some (.bool (wrongM p l)) := by
  refine runP_T c93 (by simp) ?_
  have h71 := r71 l 112 offM r112 hl
  simp only [dInts] at h71
  unfold wrongM
  by_cases h : l.length = p.cells.length
  · simp [t93, n93, h, h71]
  · have h' : ¬ (l.length : Int) = p.cells.length := by omega
    simp [t93, n93, h, h']

set_option maxHeartbeats 4000000 in
theorem r113 (p : Prob) (L : List (List Int)) (hL : L.length ≤ 1000000) (hl : ∀ l, l ∈ L → l.length ≤ 1000000) (hc : p.cells.length ≤ 1000) :
    runP E (dL E) 113 [.imm .none (L.map dInts), .fn 93 [.iptr (dProb p).cellsL]] = some (dI (idxI (wrongM p) L 0)) := by
  refine runP_T c113 (by simp) ?_
  generalize hB : idxI (wrongM p) L 0 = B
  simp [t113, n113]
  refine wT_up L.length (fun i env hp => ∃ (x3 x6 x7 : D) , env = [.imm .none (L.map dInts), .fn 93 [.iptr (dProb p).cellsL], dI 0, x3, dI L.length, dI i, x6, x7] ∧ idxI (wrongM p) (L.drop i) i = B) 0 (by omega) ⟨_, _, _, rfl, by simpa using hB⟩ ?_
  rintro i env hp hi ⟨x3, x6, x7, rfl, hm⟩
  by_cases hlt : i < L.length
  · rw [drop_cons hlt] at hm
    have hk := r93 p L[i] (hl _ (List.getElem_mem hlt)) hc
    simp only [dInts] at hk
    simp at hk
    simp only [idxI] at hm
    by_cases h : wrongM p L[i] = true
    · rw [if_pos h] at hm
      clear hB
      subst hm
      simp [hlt, hk, h]
    · rw [if_neg h] at hm
      have h' : wrongM p L[i] = false := by simpa using h
      simp [hlt, hk, h', hm, wrap_up hlt (by omega)]
  · have : i = L.length := by omega
    subst this
    rw [List.drop_length] at hm
    simp only [idxI] at hm
    simp [hm]

theorem r94 (p : Prob) (L : List (List Int)) (hL : L.length ≤ 1000000) (hl : ∀ l, l ∈ L → l.length ≤ 1000000) (hc : p.cells.length ≤ 1000) :
    runP E (dL E) 94 [.imm .none (L.map dInts), .fn 93 [.iptr (dProb p).cellsL]] = some (.bool (L.any (wrongM p))) := by
  refine runP_T c94 (by simp) ?_
  have h := r113 p L hL hl hc
  simp at h
  simp [t94, n94, h, idxI_any]

open Classical in
noncomputable def mk (p : Prob) (m : List (List Int)) : Int := if OkP p then (if OkM p m then 0 else 290) else 270

theorem okM_iff {p : Prob} {m : List (List Int)} : OkM p m ↔ m.length = p.capacity.length ∧ m.any (wrongM p) = false := by
  constructor
  · rintro ⟨h1, h2⟩
    refine ⟨h1, ?_⟩
    rw [List.any_eq_false]
    intro l hl
    obtain ⟨a1, a2⟩ := h2 l hl
    unfold wrongM
    have : l.any offM = false := by
      rw [List.any_eq_false]
      intro n hn
      have := a2 n hn
      unfold offM
      simp; omega
    simp [a1, this]
  · rintro ⟨h1, h2⟩
    rw [List.any_eq_false] at h2
    refine ⟨h1, fun l hl => ?_⟩
    have := h2 l hl
    unfold wrongM at this
    simp at this
    obtain ⟨a1, a2⟩ := this
    refine ⟨a1, fun n hn => ?_⟩
    have := a2 n hn
    unfold offM at this
    simp at this
    omega

set_option maxHeartbeats 4000000 in
theorem r41 (p : Prob) (m : List (List Int)) (S : Small p) (M : SmallM m) : runP E (dL E) 41 [dProb p, .imm .none (m.map dInts)] = some (dI (mk p m)) := by
  refine runP_T c41 (by simp) ?_
  have h15 := r15 p S
  have s1 := S.cells
  have s2 := S.cap
  have m1 := M.len
  simp only [dProb] at h15
  simp [t41, n41, h15]
  by_cases h0 : OkP p
  rotate_left
  · have e : ck p = 270 := by simp [ck, h0]
    simp [e, mk, h0]
  have e : ck p = 0 := by simp [ck, h0]
  have h94 := r94 p m (by omega) (fun l hl => by have := M.rows l hl; omega) (by omega)
  simp at h94
  by_cases h1 : m.length = p.capacity.length
  rotate_left
  · have h1' : ¬ (m.length : Int) = p.capacity.length := by omega
    have hn : ¬ OkM p m := fun h => h1 h.len
    simp [e, h1', mk, h0, hn, rTS_effg, gdD_b]
  have h1' : (m.length : Int) = p.capacity.length := by omega
  by_cases h2 : m.any (wrongM p) = true
  · have hn : ¬ OkM p m := fun h => by have := (okM_iff.1 h).2; rw [h2] at this; cases this
    rw [h2] at h94
    simp [e, h1', mk, h0, hn, rTS_effg, gdD_b, h94]
  · have h2' : m.any (wrongM p) = false := by simpa using h2
    have hn : OkM p m := okM_iff.2 ⟨h1, h2'⟩
    rw [h2'] at h94
    simp [e, h1', mk, h0, hn, rTS_effg, gdD_b, h94]

open Classical in
/-- the errors of all functions of the duals -/
noncomputable def dk (p : Prob) (b : List Int) (m : List (List Int)) : Int := if OkP p then (if OkM p m ∧ OkB p b then 0 else 290) else 270

set_option maxHeartbeats 4000000 in
theorem r89 (p : Prob) (b : List Int) (m : List (List Int)) (S : Small p) (hb : b.length ≤ 20) (M : SmallM m) : runP E (dL E) 89 [dProb p, dInts b, .imm .none (m.map dInts)] = some (dI (dk p b m)) := by
  refine runP_T c89 (by simp) ?_
  have h41 := r41 p m S M
  have s3 := S.vars
  simp only [dProb] at h41
  simp [t89, n89, h41]
  generalize hB : dk p b m = B
  by_cases h0 : OkP p
  rotate_left
  · have e : mk p m = 270 := by simp [mk, h0]
    have e2 : B = 270 := by rw [← hB]; simp [dk, h0]
    simp [e, e2]
  by_cases h1 : OkM p m
  rotate_left
  · have e : mk p m = 290 := by simp [mk, h0, h1]
    have e2 : B = 290 := by rw [← hB]; simp [dk, h0, h1]
    simp [e, e2]
  have e : mk p m = 0 := by simp [mk, h0, h1]
  have hBf : ¬ OkB p b → B = 290 := by intro h; rw [← hB]; simp [dk, h0, h1, h]
  have hBt : OkB p b → B = 0 := by intro h; rw [← hB]; simp [dk, h0, h1, h]
  simp [e]
  by_cases h2 : p.vars.length < b.length
  · simp [h2, hBf (fun ok => by have := ok.len; omega)]
  simp [h2]
  obtain ⟨P, hP⟩ : ∃ P : Nat → Prop, P = fun i => ∀ (h : i < b.length) (h' : i < p.vars.length), wi b[i] 0 (p.vars[i].choices.length - 1) := ⟨_, rfl⟩
  refine wT_all b.length P
    (fun i env hp => ∃ (x5 x6 x7 x8 x9 x13 x14 : D) (h : List Obj), env = [dProb p, dInts b, .imm .none (m.map dInts), .loc 0 0, dI 0, x5, x6, x7, x8, x9, dInts b, dI b.length, dI i, x13, x14] ∧ hp = .cells (dProb p).cellsL :: h)
    ⟨_, _, _, _, _, _, _, _, rfl, rfl⟩ ?_ ?_
  · rintro i env hp hi ⟨x5, x6, x7, x8, x9, x13, x14, h, rfl, rfl⟩ hall
    have hi' : i < p.vars.length := by omega
    by_cases k1 : wi b[i] 0 (p.vars[i].choices.length - 1)
    · obtain ⟨a1, a2, a3, a4⟩ := wi_pos k1
      have hPi : P i := by rw [hP]; exact fun _ _ => k1
      have a5 : ¬ (p.vars[i].choices.length : Int) ≤ b[i] := by omega
      simp [hi, hi', a1, a3, a5, wrap_up hi (by omega), hPi]
    · have hB' := hBf (fun ok => k1 (ok.each i hi hi'))
      rcases wi_neg k1 with ⟨q1, q2⟩ | ⟨q1, q2, q3, q4⟩
      · simp [hi, hi', q1, q2, hB']
      · have a5 : (p.vars[i].choices.length : Int) ≤ b[i] := by omega
        simp [hi, hi', q3, q4, a5, hB']
  · rintro env hp ⟨x5, x6, x7, x8, x9, x13, x14, h, rfl, rfl⟩ hall
    rw [hP] at hall
    simp [hBt ⟨by omega, fun i hi hi' => hall i hi hi hi'⟩]

end Dv

/- Walks: the checks of the multipliers, by the reference. -/
namespace Dv
attribute [local simp] wT_skip wK wT_ret wT_exit wR wRp wT_seq wC wT_block rTS_nil rTS_asg rTS_eff rTS_effk ob_some obP_some iteD_b condP_b xv_v xv_c xv_ite xv_bin_tt xv_bin_tc xv_bin_ct xv_bin_cc xv_un_t xv_conv_t xv_load xv_len xv_faddr xv_field xv_iaddr_tt xv_iaddr_tc xv_index_tt xv_index_tc xv_lookup_tt xv_max_tt xv_max_tc xv_max_ct xv_min_tt xv_min_tc xv_min_ct xv_slice_lo_t xv_slice_lo_c xv_slice_hi_t xv_slice_all xv_call xv_bslice bsliceV xv_build buildV xv_mkfn zeroE fillE buildD fillD List.replicate xvs_nil xvs_cons callV_fn frz_bool frz_int frz_imm frz_agg frz_tup frz_fn frz_iptr frzL_nil frzL_one frzL_dI frzL_cell frzL_use frzL_ints frzL_choice frzL_var depth dCell dUse dInts dChoice dVar dProb tStart addO Ret flat_dI flat_rep chunk_dI
 binD_add binD_sub binD_mul binD_eql binD_neq binD_lss binD_leq binD_gtr binD_geq binD_quo binD_rem binD_beql binD_bneq binD_aeql binD_aneq unD_not unD_neg lenD_imm lenD_sl lenD_str readO_cells readO_frozen loadD_loc loadD_iptr iaddrD_imm iaddrD_sl iaddrD_loc faddrD_loc faddrD_iptr fieldD_agg indexD_agg indexD_str cellsL_bool stor_bool atom_bool cellsL_int stor_int atom_int cellsL_str stor_str atom_str cellsL_imm stor_imm atom_imm cellsL_sl stor_sl atom_sl cellsL_loc stor_loc atom_loc cellsL_iptr stor_iptr atom_iptr cellsL_map stor_map atom_map cellsL_fn stor_fn atom_fn cellsL_agg stor_agg cellsL_nilfn stor_nilfn atom_nilfn cellsL_nilp stor_nilp atom_nilp takeC_z takeC_s ofCells_ag ofCells_one ag_bool ag_int ag_str ag_slice ag_struct ag_arr ag_map ag_ptr ag_func gOf_t gOf_c gOf_f kv_cons putE_some putE_none oneRes_one oneRes_two oneRes_three getAll_nil getAll_v getAll_c maxiD_two miniD_two extV_tup xv_ext stepOp_box stepOp_alloc stepOp_store writeO_cells storeD_loc setCells_nil setCells_cons stepOp_mkmap stepOp_mapset stepOp_call1 stepOp_call2 stepOp_app2 stepOp_app1 stepOp_bslice stepOp_mkslice mapO_map lookupD_some lookupD_ok mapsetD_some keyOk_agg kindsL_nil kindsL_bool kindsL_int eqL_nil eqL_cons atomEq_bool atomEq_int frz_sl tokO_tok app0_step app0_exact app0_tok frz_loc oneRes_nil listOf_imm
 ty_0 ty_1 ty_2 ty_3 ty_4 ty_5 ty_6 ty_7 ty_8 ty_9 ty_10 ty_11 ty_12 ty_13 ty_14 ty_15 ty_16 ty_17 ty_18 ty_19 ty_20 ty_21 ty_22 ty_23 ty_24 ty_25 ty_26 ty_27
attribute [local congr] wT_congr ob_congr obP_congr iteD_congr condP_congr

def fewM (m : List (List Int)) : Bool := (m.all fun l => decide (l.length ≤ 60)) && decide (m.length ≤ 40)
theorem few_smallM {m : List (List Int)} (h : fewM m = true) : SmallM m := by
  unfold fewM at h
  simp only [Bool.and_eq_true, List.all_eq_true, decide_eq_true_eq] at h
  exact ⟨h.2, h.1⟩

set_option maxHeartbeats 4000000 in
theorem r36 (m : List (List Int)) (hm : m.length ≤ Go.maxLen) : runP E (dL E) 36 [.imm .none (m.map dInts)] = some (.bool (fewM m)) := by
  refine runP_T c36 (by simp) ?_
  generalize hB : fewM m = B
  have hM : Go.maxLen ≤ 9223372036854775807 := by decide
  have hBf : (¬ ∀ l, l ∈ m → l.length ≤ 60) → B = false := by
    intro h; rw [← hB]
    cases hb : fewM m with
    | false => rfl
    | true => exact absurd (few_smallM hb).rows h
  have hBt : (∀ l, l ∈ m → l.length ≤ 60) → B = decide (m.length ≤ 40) := by
    intro h; rw [← hB]
    unfold fewM
    have : (m.all fun l => decide (l.length ≤ 60)) = true := by rw [List.all_eq_true]; intro l hl; simpa using h l hl
    rw [this]; simp
  simp [t36, n36]
  obtain ⟨P, hP⟩ : ∃ P : Nat → Prop, P = fun i => ∀ (h : i < m.length), m[i].length ≤ 60 := ⟨_, rfl⟩
  refine wT_all m.length P (fun i env hp => ∃ (x3 x4 : D) , env = [.imm .none (m.map dInts), .bool false, dI i, x3, x4]) ⟨_, _, rfl⟩ ?_ ?_
  · rintro i env hp hi ⟨x3, x4, rfl⟩ hall
    by_cases k1 : m[i].length ≤ 60
    · have k2 : ¬ (60 : Int) < m[i].length := by omega
      have hPi : P i := by rw [hP]; exact fun _ => k1
      simp [hi, k2, hPi, wrap_i64 (n := (i : Int) + 1) ⟨by omega, by omega⟩]
    · have k2 : (60 : Int) < m[i].length := by omega
      have hB' := hBf (fun h => k1 (h _ (List.getElem_mem hi)))
      simp [hi, k2, hB']
  · rintro env hp ⟨x3, x4, rfl⟩ hall
    rw [hP] at hall
    have hB' := hBt (mem_get.2 fun i hi => hall i hi hi)
    by_cases k : m.length ≤ 40
    · have k' : (m.length : Int) ≤ 40 := by omega
      simp [hB', k, k']
    · have k' : ¬ (m.length : Int) ≤ 40 := by omega
      simp [hB', k, k']

open Classical in
set_option maxHeartbeats 8000000 in
theorem r95 (p : Prob) (m : List (List Int)) (S : Small p) (M : SmallM m) : runP E (dL E) 95 [dProb p, .imm .none (m.map dInts)] = some (.bool (decide (OkM p m))) := by
  refine runP_T c95 (by simp) ?_
  generalize hB : decide (OkM p m) = B
  have hBf : ¬ OkM p m → B = false := by intro h; rw [← hB]; simp [h]
  have hBt : OkM p m → B = true := by intro h; rw [← hB]; simp [h]
  have s1 := S.cells
  have s2 := S.cap
  have m1 := M.len
  simp [t95, n95]
  by_cases hml : m.length = p.capacity.length
  rotate_left
  · have hi : ¬ (m.length : Int) = p.capacity.length := by omega
    simp [hi, hBf (fun e => hml e.len)]
  have hi : (m.length : Int) = p.capacity.length := by omega
  simp [hi]
  obtain ⟨P, hP⟩ : ∃ P : Nat → Prop, P = fun i => ∀ (h : i < m.length), m[i].length = p.cells.length ∧ ∀ n, n ∈ m[i] → 0 ≤ n ∧ n ≤ 65536 := ⟨_, rfl⟩
  refine wT_all m.length P (fun i env hp => ∃ (x5 x6 x7 x8 x9 x10 : D) (h : List Obj), env = [dProb p, .imm .none (m.map dInts), .loc 0 0, .bool false, dI i, x5, x6, x7, x8, x9, x10] ∧ hp = .cells (dProb p).cellsL :: h) ⟨_, _, _, _, _, _, _, rfl, rfl⟩ ?_ ?_
  · rintro i env hp hi2 ⟨x5, x6, x7, x8, x9, x10, h, rfl, rfl⟩ hall
    by_cases k1 : m[i].length = p.cells.length
    rotate_left
    · have k2 : ¬ (m[i].length : Int) = p.cells.length := by omega
      have hB' := hBf (fun e => k1 (e.rows _ (List.getElem_mem hi2)).1)
      simp [hi2, k2, hB']
    have k2 : (m[i].length : Int) = p.cells.length := by omega
    simp [hi2, k2]
    obtain ⟨P2, hP2⟩ : ∃ P2 : Nat → Prop, P2 = fun k => ∀ (h : k < m[i].length), 0 ≤ m[i][k] ∧ m[i][k] ≤ 65536 := ⟨_, rfl⟩
    refine wT_all p.cells.length P2 (fun k env hp => ∃ (x6 x7 x8 x9 x10 : D) (h : List Obj), env = [dProb p, .imm .none (m.map dInts), .loc 0 0, .bool false, dI i, dI k, x6, x7, x8, x9, x10] ∧ hp = .cells (dProb p).cellsL :: h) ⟨_, _, _, _, _, _, rfl, rfl⟩ ?_ ?_
    · rintro k env hp hk ⟨x6, x7, x8, x9, x10, h, rfl, rfl⟩ hall2
      have hk' : k < m[i].length := by omega
      by_cases q1 : 0 ≤ m[i][k] ∧ m[i][k] ≤ 65536
      · have q2 : ¬ m[i][k] < 0 := by omega
        have q3 : ¬ 65536 < m[i][k] := by omega
        have hPk : P2 k := by rw [hP2]; exact fun _ => q1
        simp [hi2, hk', k1, hk, q2, q3, hPk, wrap_up hk (by omega)]
      · have hB' := hBf (fun e => q1 ((e.rows _ (List.getElem_mem hi2)).2 _ (List.getElem_mem hk')))
        by_cases q2 : m[i][k] < 0
        · simp [hi2, hk', k1, hk, q2, hB']
        · have q3 : 65536 < m[i][k] := by omega
          simp [hi2, hk', k1, hk, q2, q3, hB']
    · rintro env hp ⟨x6, x7, x8, x9, x10, h, rfl, rfl⟩ hall2
      rw [hP2] at hall2
      have hPi : P i := by
        rw [hP]
        intro _
        exact ⟨k1, mem_get.2 fun k hk => hall2 k (by omega) hk⟩
      simp [hi2, k1, hPi, wrap_up hi2 (by omega)]
  · rintro env hp ⟨x5, x6, x7, x8, x9, x10, h, rfl, rfl⟩ hall
    rw [hP] at hall
    simp [hml, hBt ⟨hml, mem_get.2 fun i hi => hall i hi hi⟩]

theorem r42 (p : Prob) (m : List (List Int)) (S : Small p) (M : SmallM m) : runP E (dL E) 42 [dProb p, .imm .none (m.map dInts)] = some (dI (mk p m)) := by
  refine runP_T c42 (by simp) ?_
  have h19 := r19 p S
  have h95 := r95 p m S M
  simp only [dProb] at h19 h95
  simp [t42, n42, h19]
  by_cases h0 : OkP p
  rotate_left
  · have e : ck p = 270 := by simp [ck, h0]
    simp [e, mk, h0]
  have e : ck p = 0 := by simp [ck, h0]
  by_cases h1 : OkM p m
  · simp [e, mk, h0, h1, h95]
  · simp [e, mk, h0, h1, h95]

theorem r91 (p : Prob) (b : List Int) (m : List (List Int)) (S : Small p) (hb : b.length ≤ 20) (M : SmallM m) : runP E (dL E) 91 [dProb p, dInts b, .imm .none (m.map dInts)] = some (dI (dk p b m)) := by
  refine runP_T c91 (by simp) ?_
  have h42 := r42 p m S M
  have h78 := r78 p b S hb
  simp only [dProb, dInts] at h42 h78
  simp [t91, n91, h42]
  by_cases h0 : OkP p
  rotate_left
  · simp [mk, dk, h0]
  by_cases h1 : OkM p m
  rotate_left
  · simp [mk, dk, h0, h1]
  by_cases h2 : OkB p b
  · simp [mk, dk, h0, h1, h78, h2]
  · simp [mk, dk, h0, h1, h78, h2]

end Dv

/- Walks: the number of a cell, found by halving; by the reference one by one. -/
namespace Dv
attribute [local simp] wT_skip wK wT_ret wT_exit wR wRp wT_seq wC wT_block rTS_nil rTS_asg rTS_eff rTS_effk ob_some obP_some iteD_b condP_b xv_v xv_c xv_ite xv_bin_tt xv_bin_tc xv_bin_ct xv_bin_cc xv_un_t xv_conv_t xv_load xv_len xv_faddr xv_field xv_iaddr_tt xv_iaddr_tc xv_index_tt xv_index_tc xv_lookup_tt xv_max_tt xv_max_tc xv_max_ct xv_min_tt xv_min_tc xv_min_ct xv_slice_lo_t xv_slice_lo_c xv_slice_hi_t xv_slice_all xv_call xv_bslice bsliceV xv_build buildV xv_mkfn zeroE fillE buildD fillD List.replicate xvs_nil xvs_cons callV_fn frz_bool frz_int frz_imm frz_agg frz_tup frz_fn frz_iptr frzL_nil frzL_one frzL_dI frzL_cell frzL_use frzL_ints frzL_choice frzL_var depth dCell dUse dInts dChoice dVar dProb tStart addO Ret flat_dI flat_rep chunk_dI
 binD_add binD_sub binD_mul binD_eql binD_neq binD_lss binD_leq binD_gtr binD_geq binD_quo binD_rem binD_beql binD_bneq binD_aeql binD_aneq unD_not unD_neg lenD_imm lenD_sl lenD_str readO_cells readO_frozen loadD_loc loadD_iptr iaddrD_imm iaddrD_sl iaddrD_loc faddrD_loc faddrD_iptr fieldD_agg indexD_agg indexD_str cellsL_bool stor_bool atom_bool cellsL_int stor_int atom_int cellsL_str stor_str atom_str cellsL_imm stor_imm atom_imm cellsL_sl stor_sl atom_sl cellsL_loc stor_loc atom_loc cellsL_iptr stor_iptr atom_iptr cellsL_map stor_map atom_map cellsL_fn stor_fn atom_fn cellsL_agg stor_agg cellsL_nilfn stor_nilfn atom_nilfn cellsL_nilp stor_nilp atom_nilp takeC_z takeC_s ofCells_ag ofCells_one ag_bool ag_int ag_str ag_slice ag_struct ag_arr ag_map ag_ptr ag_func gOf_t gOf_c gOf_f kv_cons putE_some putE_none oneRes_one oneRes_two oneRes_three getAll_nil getAll_v getAll_c maxiD_two miniD_two extV_tup xv_ext stepOp_box stepOp_alloc stepOp_store writeO_cells storeD_loc setCells_nil setCells_cons stepOp_mkmap stepOp_mapset stepOp_call1 stepOp_call2 stepOp_app2 stepOp_app1 stepOp_bslice stepOp_mkslice mapO_map lookupD_some lookupD_ok mapsetD_some keyOk_agg kindsL_nil kindsL_bool kindsL_int eqL_nil eqL_cons atomEq_bool atomEq_int frz_sl tokO_tok app0_step app0_exact app0_tok frz_loc oneRes_nil listOf_imm
 ty_0 ty_1 ty_2 ty_3 ty_4 ty_5 ty_6 ty_7 ty_8 ty_9 ty_10 ty_11 ty_12 ty_13 ty_14 ty_15 ty_16 ty_17 ty_18 ty_19 ty_20 ty_21 ty_22 ty_23 ty_24 ty_25 ty_26 ty_27
attribute [local congr] wT_congr ob_congr obP_congr iteD_congr condP_congr

def bI (b : Bool) : Int := if b then 1 else 0

theorem r125 (c : Cell) : runP E (dL E) 125 [dCell c] = some (dI (bI c.airport)) := by
  refine runP_T c125 (by simp) ?_
  cases h : c.airport <;> simp [t125, n125, h, bI]

/-- the order of cells, as numbers -/
def cmpD (a b : Cell) : Int := orI [cmpI (bI a.airport) (bI b.airport), cmpI a.index b.index, cmpI a.minute b.minute]

theorem r118 (a b : Cell) : runP E (dL E) 118 [dCell a, dCell b] = some (dI (cmpD a b)) := by
  refine runP_T c118 (by simp) ?_
  have h1 := r125 a
  have h2 := r125 b
  have h3 := r105 [cmpI (bI a.airport) (bI b.airport), cmpI a.index b.index, cmpI a.minute b.minute] (by simp)
  simp only [dCell] at h1 h2
  simp only [dInts, List.map_cons, List.map_nil] at h3
  unfold cmpD
  simp [t118, n118, h1, h2, r74, h3]

theorem cmpI_z {a b : Int} : cmpI a b = 0 ↔ a = b := by unfold cmpI; split <;> (try split) <;> omega
theorem cmpI_n {a b : Int} : cmpI a b < 0 ↔ a < b := by unfold cmpI; split <;> (try split) <;> omega

theorem orI_three {x y z : Int} : orI [x, y, z] = if x = 0 then (if y = 0 then z else y) else x := by
  simp only [orI]
  by_cases h1 : x = 0
  · by_cases h2 : y = 0
    · by_cases h3 : z = 0 <;> simp [h1, h2, h3]
    · simp [h1, h2]
  · simp [h1]

theorem cmpD_lt {a b : Cell} : cmpD a b < 0 ↔ ltC a b = true := by
  unfold cmpD ltC
  rw [orI_three]
  have key : cmpI (bI a.airport) (bI b.airport) = 0 ↔ a.airport = b.airport := by
    rw [cmpI_z]; cases a.airport <;> cases b.airport <;> simp [bI]
  by_cases h1 : a.airport = b.airport
  · rw [if_pos (key.2 h1)]
    simp only [h1, ne_eq, not_true_eq_false, if_false]
    by_cases h2 : a.index = b.index
    · rw [if_pos (cmpI_z.2 h2)]
      simp [h2, cmpI_n]
    · rw [if_neg (fun h => h2 (cmpI_z.1 h))]
      simp [h2, cmpI_n]
  · rw [if_neg (fun h => h1 (key.1 h))]
    simp only [ne_eq, h1, not_false_eq_true, if_true]
    rw [cmpI_n]
    cases ha : a.airport <;> cases hb : b.airport <;> simp [bI, ha, hb] at h1 ⊢

theorem cmpD_zero {a b : Cell} : cmpD a b = 0 ↔ a = b := by
  unfold cmpD
  rw [orI_three]
  have key : cmpI (bI a.airport) (bI b.airport) = 0 ↔ a.airport = b.airport := by
    rw [cmpI_z]; cases a.airport <;> cases b.airport <;> simp [bI]
  constructor
  · intro h
    by_cases h1 : cmpI (bI a.airport) (bI b.airport) = 0
    · rw [if_pos h1] at h
      by_cases h2 : cmpI a.index b.index = 0
      · rw [if_pos h2] at h
        have e1 := key.1 h1
        have e2 := cmpI_z.1 h2
        have e3 := cmpI_z.1 h
        cases a; cases b; simp_all
      · rw [if_neg h2] at h; exact absurd h h2
    · rw [if_neg h1] at h; exact absurd h h1
  · rintro rfl
    rw [if_pos (key.2 rfl), if_pos (cmpI_z.2 rfl)]
    exact cmpI_z.2 rfl

/-- where a cell stands among ones that increase -/
theorem at_index {l : List Cell} (hl : ∀ (i : Nat) (hi : i + 1 < l.length), ltC l[i] l[i + 1] = true) {k : Nat} (hk : k < l.length) : atS l[k] l 0 = k := by
  have key : ∀ (l : List Cell) (s : Nat), (∀ (j i : Nat) (hj : j < l.length) (hij : i < j), l[i]'(by omega) ≠ l[j]) → ∀ (k : Nat) (hk : k < l.length), atS l[k] l s = s + k := by
    intro l
    induction l with
    | nil => intro s _ k hk; simp at hk
    | cons x l ih =>
      intro s hne k hk
      cases k with
      | zero => simp [atS]
      | succ k =>
        have h1 := hne (k + 1) 0 hk (by omega)
        simp only [List.getElem_cons_zero, List.getElem_cons_succ] at h1
        have h2 := ih (s + 1) (fun j i hj hij => by
          have := hne (j + 1) (i + 1) (by simpa using hj) (by omega)
          simpa using this) k (by simpa using hk)
        simp only [List.getElem_cons_succ, atS, if_neg h1, h2]
        omega
  have := key l 0 (fun j i hj hij => incr_ne hl j i hj hij) k hk
  simpa using this

theorem lt_total {l : List Cell} (hl : ∀ (i : Nat) (hi : i + 1 < l.length), ltC l[i] l[i + 1] = true) {i k : Nat} (hi : i < l.length) (hk : k < l.length) : ltC l[i] l[k] = true ↔ i < k := by
  constructor
  · intro h
    rcases Nat.lt_trichotomy i k with h1 | h1 | h1
    · exact h1
    · subst h1; rw [ltC_irr] at h; cases h
    · have := ltC_trans h (incr_lt hl i k hi h1)
      rw [ltC_irr] at this; cases this
  · intro h; exact incr_lt hl k i hk h

end Dv

/- Walks: the number of a cell. -/
namespace Dv
attribute [local simp] wT_skip wK wT_ret wT_exit wR wRp wT_seq wC wT_block rTS_nil rTS_asg rTS_eff rTS_effk ob_some obP_some iteD_b condP_b xv_v xv_c xv_ite xv_bin_tt xv_bin_tc xv_bin_ct xv_bin_cc xv_un_t xv_conv_t xv_load xv_len xv_faddr xv_field xv_iaddr_tt xv_iaddr_tc xv_index_tt xv_index_tc xv_lookup_tt xv_max_tt xv_max_tc xv_max_ct xv_min_tt xv_min_tc xv_min_ct xv_slice_lo_t xv_slice_lo_c xv_slice_hi_t xv_slice_all xv_call xv_bslice bsliceV xv_build buildV xv_mkfn zeroE fillE buildD fillD List.replicate xvs_nil xvs_cons callV_fn frz_bool frz_int frz_imm frz_agg frz_tup frz_fn frz_iptr frzL_nil frzL_one frzL_dI frzL_cell frzL_use frzL_ints frzL_choice frzL_var depth dCell dUse dInts dChoice dVar dProb tStart addO Ret flat_dI flat_rep chunk_dI
 binD_add binD_sub binD_mul binD_eql binD_neq binD_lss binD_leq binD_gtr binD_geq binD_quo binD_rem binD_beql binD_bneq binD_aeql binD_aneq unD_not unD_neg lenD_imm lenD_sl lenD_str readO_cells readO_frozen loadD_loc loadD_iptr iaddrD_imm iaddrD_sl iaddrD_loc faddrD_loc faddrD_iptr fieldD_agg indexD_agg indexD_str cellsL_bool stor_bool atom_bool cellsL_int stor_int atom_int cellsL_str stor_str atom_str cellsL_imm stor_imm atom_imm cellsL_sl stor_sl atom_sl cellsL_loc stor_loc atom_loc cellsL_iptr stor_iptr atom_iptr cellsL_map stor_map atom_map cellsL_fn stor_fn atom_fn cellsL_agg stor_agg cellsL_nilfn stor_nilfn atom_nilfn cellsL_nilp stor_nilp atom_nilp takeC_z takeC_s ofCells_ag ofCells_one ag_bool ag_int ag_str ag_slice ag_struct ag_arr ag_map ag_ptr ag_func gOf_t gOf_c gOf_f kv_cons putE_some putE_none oneRes_one oneRes_two oneRes_three getAll_nil getAll_v getAll_c maxiD_two miniD_two extV_tup xv_ext stepOp_box stepOp_alloc stepOp_store writeO_cells storeD_loc setCells_nil setCells_cons stepOp_mkmap stepOp_mapset stepOp_call1 stepOp_call2 stepOp_app2 stepOp_app1 stepOp_bslice stepOp_mkslice mapO_map lookupD_some lookupD_ok mapsetD_some keyOk_agg kindsL_nil kindsL_bool kindsL_int eqL_nil eqL_cons atomEq_bool atomEq_int frz_sl tokO_tok app0_step app0_exact app0_tok frz_loc oneRes_nil listOf_imm
 ty_0 ty_1 ty_2 ty_3 ty_4 ty_5 ty_6 ty_7 ty_8 ty_9 ty_10 ty_11 ty_12 ty_13 ty_14 ty_15 ty_16 ty_17 ty_18 ty_19 ty_20 ty_21 ty_22 ty_23 ty_24 ty_25 ty_26 ty_27
attribute [local congr] wT_congr ob_congr obP_congr iteD_congr condP_congr

/-- a problem with a branch, a longest delay and multipliers -/
abbrev dWork (p : Prob) (b : List Int) (g : Int) (m : List (List Int)) : D :=
  .agg [.imm .none (p.cells.map dCell), .imm .none (p.capacity.map dInts), .imm .none (p.vars.map dVar), dInts b, dI g, .imm .none (m.map dInts)]

theorem shr1 {E : Env} {t n : Nat} : binD E .shr t (.int .u64 (n : Int)) (.int .u64 1) = some (.int .u64 ((n / 2 : Nat) : Int)) := by
  have h1 : min (1 : Int).toNat Go.IntKind.u64.bits = 1 := by decide
  have h2 : (n : Int).fdiv (2 ^ 1) = ((n / 2 : Nat) : Int) := by
    rw [Int.fdiv_eq_ediv_of_nonneg _ (by decide)]; omega
  have h0 : (0 : Int) ≤ 1 := by decide
  simp only [binD, h1, h2, h0, if_true]

theorem wrapV {n : Nat} (h : n < 18446744073709551616) : Go.IntKind.u64.wrap (n : Int) = n := by
  have : Go.IntKind.u64.wrap (n : Int) = (n : Int) % 18446744073709551616 := by
    first | rfl | simp [Go.IntKind.wrap, Go.IntKind.bits, Go.IntKind.signed]
  rw [this]; omega

set_option maxHeartbeats 8000000 in
theorem r117 (l : List Cell) (hl : ∀ (i : Nat) (hi : i + 1 < l.length), ltC l[i] l[i + 1] = true) (hn : l.length ≤ 1000) {k : Nat} (hk : k < l.length) :
    runP E (dL E) 117 [.imm .none (l.map dCell), dCell l[k], .fn 118 []] = some (.tup [dI k, .bool true]) := by
  refine runP_T c117 (by simp) ?_
  obtain ⟨c, hc⟩ : ∃ c, c = l[k] := ⟨_, rfl⟩
  rw [← hc]
  have hcmp : ∀ (i : Nat) (hi : i < l.length), runP E (dL E) 118 [dCell l[i], dCell c] = some (dI (cmpD l[i] c)) := fun i hi => r118 _ _
  have hlt : ∀ (i : Nat) (hi : i < l.length), (cmpD l[i] c < 0) ↔ i < k := fun i hi => by rw [cmpD_lt, hc]; exact lt_total hl hi hk
  have hz : cmpD l[k] c = 0 := by rw [cmpD_zero, hc]
  simp only [dCell] at hcmp
  simp [t117, n117]
  refine ⟨fun m env hp => ∃ (x9 x10 x11 : D) (i j : Nat) (h : List Obj), env = [.imm .none (l.map dCell), dCell c, .fn 118 [], .loc 0 0, dI 0, .bool false, dI l.length, dI i, dI j, x9, x10, x11] ∧
    hp = .cells (dCell c).cellsL :: h ∧ m = j - i ∧ i ≤ k ∧ k ≤ j ∧ j ≤ l.length, l.length, ⟨_, _, _, 0, l.length, _, rfl, rfl, by omega, by omega, by omega, by omega⟩, ?_⟩
  rintro m env hp ⟨x9, x10, x11, i, j, h, rfl, rfl, rfl, hi, hj, hjl⟩
  by_cases hij : i < j
  · have w1 := wrap_i64 (n := (i : Int) + j) ⟨by omega, by omega⟩
    have w2 := wrapV (n := i + j) (by omega)
    rw [Int.natCast_add] at w2
    have s1 := shr1 (E := E) (t := 12) (n := i + j)
    rw [Int.natCast_add] at s1
    obtain ⟨q, hq⟩ : ∃ q, q = (i + j) / 2 := ⟨_, rfl⟩
    rw [← hq] at s1
    have hql : q < l.length := by omega
    have w3 := wrap_i64 (n := (q : Int)) ⟨by omega, by omega⟩
    have w4 := wrap_i64 (n := (q : Int) + 1) ⟨by omega, by omega⟩
    have hcq := hcmp q hql
    have hlq := hlt q hql
    by_cases hqk : q < k
    · have hneg := hlq.2 hqk
      simp [hij, w1, w2, s1, convD, w3, hql, hcq, hneg, w4]
      exact ⟨j - (q + 1), by omega, _, _, _, q + 1, j, ⟨by omega, rfl, rfl, rfl, rfl⟩, rfl, by omega, hj, hjl⟩
    · have hneg : ¬ cmpD l[q] c < 0 := fun h => hqk (hlq.1 h)
      simp [hij, w1, w2, s1, convD, w3, hql, hcq, hneg, w4]
      exact ⟨q - i, by omega, _, _, _, i, q, ⟨rfl, rfl, rfl, rfl, rfl⟩, rfl, hi, by omega, by omega⟩
  · have e1 : i = k := by omega
    have e2 : j = k := by omega
    subst e1 e2
    have hck := hcmp _ hk
    simp [hk, hck, hz]

theorem r98 (p : Prob) (b : List Int) (g : Int) (m : List (List Int)) (c : Cell) (S : Small p) (ok : OkP p) (hc : c ∈ p.cells) : runP E (dL E) 98 [dWork p b g m, dCell c] = some (dI (atS c p.cells 0)) := by
  refine runP_T c98 (by simp) ?_
  obtain ⟨k, hk, rfl⟩ := List.getElem_of_mem hc
  have s1 := S.cells
  have h117 := r117 p.cells ok.incr (by omega) hk
  have hat := at_index ok.incr hk
  obtain ⟨c, hcc⟩ : ∃ c, c = p.cells[k] := ⟨_, rfl⟩
  rw [← hcc] at h117 hat ⊢
  simp only [dCell] at h117
  simp [t98, n98, dWork, h117, hat]

theorem r100 (p : Prob) (c : Cell) (S : Small p) : runP E (dL E) 100 [dProb p, dCell c] = some (dI (atS c p.cells 0)) := by
  refine runP_T c100 (by simp) ?_
  have s1 := S.cells
  generalize hB : atS c p.cells 0 = B
  simp [t100, n100]
  refine wT_up p.cells.length (fun i env hp => ∃ (x6 x7 : D) (h : List Obj), env = [dProb p, dCell c, .loc 0 0, .loc 1 0, dI 0, dI i, x6, x7] ∧ hp = .cells (dProb p).cellsL :: .cells (dCell c).cellsL :: h ∧ atS c (p.cells.drop i) i = B) 0 (by omega) ⟨_, _, _, rfl, rfl, by simpa using hB⟩ ?_
  rintro i env hp hi ⟨x6, x7, h, rfl, rfl, hm⟩
  by_cases hlt : i < p.cells.length
  · rw [drop_cons hlt] at hm
    simp only [atS] at hm
    by_cases e : p.cells[i] = c
    · rw [if_pos e] at hm
      clear hB
      subst hm
      simp [hlt, e]
    · rw [if_neg e] at hm
      have hne : ¬ (p.cells[i].airport = c.airport ∧ p.cells[i].index = c.index ∧ p.cells[i].minute = c.minute) := fun h => e (by
        cases hx : p.cells[i]; cases c; simp_all)
      simp [hlt, wrap_up hlt (by omega)]
      rw [if_neg hne]
      exact hm
  · have : i = p.cells.length := by omega
    subst this
    rw [List.drop_length] at hm
    simp only [atS] at hm
    simp [hm]

end Dv

/- The prices of choices: what is meant, how great they are, and the reference's walk. -/
namespace Dv
attribute [local simp] wT_skip wK wT_ret wT_exit wR wRp wT_seq wC wT_block rTS_nil rTS_asg rTS_eff rTS_effk ob_some obP_some iteD_b condP_b xv_v xv_c xv_ite xv_bin_tt xv_bin_tc xv_bin_ct xv_bin_cc xv_un_t xv_conv_t xv_load xv_len xv_faddr xv_field xv_iaddr_tt xv_iaddr_tc xv_index_tt xv_index_tc xv_lookup_tt xv_max_tt xv_max_tc xv_max_ct xv_min_tt xv_min_tc xv_min_ct xv_slice_lo_t xv_slice_lo_c xv_slice_hi_t xv_slice_all xv_call xv_bslice bsliceV xv_build buildV xv_mkfn zeroE fillE buildD fillD List.replicate xvs_nil xvs_cons callV_fn frz_bool frz_int frz_imm frz_agg frz_tup frz_fn frz_iptr frzL_nil frzL_one frzL_dI frzL_cell frzL_use frzL_ints frzL_choice frzL_var depth dCell dUse dInts dChoice dVar dProb tStart addO Ret flat_dI flat_rep chunk_dI
 binD_add binD_sub binD_mul binD_eql binD_neq binD_lss binD_leq binD_gtr binD_geq binD_quo binD_rem binD_beql binD_bneq binD_aeql binD_aneq unD_not unD_neg lenD_imm lenD_sl lenD_str readO_cells readO_frozen loadD_loc loadD_iptr iaddrD_imm iaddrD_sl iaddrD_loc faddrD_loc faddrD_iptr fieldD_agg indexD_agg indexD_str cellsL_bool stor_bool atom_bool cellsL_int stor_int atom_int cellsL_str stor_str atom_str cellsL_imm stor_imm atom_imm cellsL_sl stor_sl atom_sl cellsL_loc stor_loc atom_loc cellsL_iptr stor_iptr atom_iptr cellsL_map stor_map atom_map cellsL_fn stor_fn atom_fn cellsL_agg stor_agg cellsL_nilfn stor_nilfn atom_nilfn cellsL_nilp stor_nilp atom_nilp takeC_z takeC_s ofCells_ag ofCells_one ag_bool ag_int ag_str ag_slice ag_struct ag_arr ag_map ag_ptr ag_func gOf_t gOf_c gOf_f kv_cons putE_some putE_none oneRes_one oneRes_two oneRes_three getAll_nil getAll_v getAll_c maxiD_two miniD_two extV_tup xv_ext stepOp_box stepOp_alloc stepOp_store writeO_cells storeD_loc setCells_nil setCells_cons stepOp_mkmap stepOp_mapset stepOp_call1 stepOp_call2 stepOp_app2 stepOp_app1 stepOp_bslice stepOp_mkslice mapO_map lookupD_some lookupD_ok mapsetD_some keyOk_agg kindsL_nil kindsL_bool kindsL_int eqL_nil eqL_cons atomEq_bool atomEq_int frz_sl tokO_tok app0_step app0_exact app0_tok frz_loc oneRes_nil listOf_imm
 ty_0 ty_1 ty_2 ty_3 ty_4 ty_5 ty_6 ty_7 ty_8 ty_9 ty_10 ty_11 ty_12 ty_13 ty_14 ty_15 ty_16 ty_17 ty_18 ty_19 ty_20 ty_21 ty_22 ty_23 ty_24 ty_25 ty_26 ty_27
attribute [local congr] wT_congr ob_congr obP_congr iteD_congr condP_congr

def mu (m : List (List Int)) (leaf : Int) (k : Nat) : Int := (m.getD leaf.toNat []).getD k 0

/-- what some places of a cell cost in some leaves -/
def prL (m : List (List Int)) (k : Nat) (pl : Int) : List Int → Int
  | [] => 0
  | leaf :: r => mu m leaf k * pl + prL m k pl r
/-- the price of some uses -/
def prC (p : Prob) (m : List (List Int)) (leaves : List Int) : List Use → Int
  | [] => 0
  | u :: r => prL m (atS u.cell p.cells 0).toNat u.places leaves + prC p m leaves r

theorem mu_bd {p : Prob} {m : List (List Int)} (M : OkM p m) {leaf : Int} {k : Nat} : 0 ≤ mu m leaf k ∧ mu m leaf k ≤ 65536 := by
  unfold mu
  by_cases h : leaf.toNat < m.length
  · have e : m.getD leaf.toNat [] = m[leaf.toNat] := by rw [List.getD_eq_getElem?_getD, List.getElem?_eq_getElem h, Option.getD_some]
    rw [e]
    rcases getD_or (r := m[leaf.toNat]) (a := k) with h1 | h1
    · exact (M.rows _ (List.getElem_mem h)).2 _ h1
    · rw [h1]; omega
  · have e : m.getD leaf.toNat [] = [] := by rw [List.getD_eq_getElem?_getD, List.getElem?_eq_none (by omega), Option.getD_none]
    rw [e]; simp

theorem mul8 {a n : Int} (h1 : 0 ≤ a ∧ a ≤ 65536) (h2 : 0 ≤ n ∧ n ≤ 8) : 0 ≤ a * n ∧ a * n ≤ 524288 :=
  ⟨Int.mul_nonneg h1.1 h2.1, by have := Int.mul_le_mul h1.2 h2.2 h2.1 (by omega); omega⟩

theorem prL_bd {p : Prob} {m : List (List Int)} (M : OkM p m) {k : Nat} {pl : Int} (hp : 0 ≤ pl ∧ pl ≤ 8) : ∀ {l : List Int}, 0 ≤ prL m k pl l ∧ prL m k pl l ≤ 524288 * l.length
  | [] => by simp [prL]
  | leaf :: r => by
    have h1 := prL_bd M hp (k := k) (l := r)
    have h2 := mul8 (mu_bd M (leaf := leaf) (k := k)) hp
    simp only [prL, List.length_cons]; omega
theorem prC_bd {p : Prob} {m : List (List Int)} (M : OkM p m) {leaves : List Int} (hl : leaves.length ≤ 8) : ∀ {us : List Use}, (∀ u, u ∈ us → 0 ≤ u.places ∧ u.places ≤ 8) → 0 ≤ prC p m leaves us ∧ prC p m leaves us ≤ 4194304 * us.length
  | [], _ => by simp [prC]
  | u :: r, h => by
    have h1 := prC_bd M hl (us := r) fun v hv => h v (by simp [hv])
    have h2 := prL_bd M (h u (by simp)) (k := (atS u.cell p.cells 0).toNat) (l := leaves)
    simp only [prC, List.length_cons]; omega

/-- a multiplier, read -/
theorem mu_get {p : Prob} {m : List (List Int)} (M : OkM p m) {leaf k : Nat} (hl : leaf < p.capacity.length) (hk : k < p.cells.length) :
    ∃ (h1 : leaf < m.length) (h2 : k < m[leaf].length), m[leaf][k] = mu m leaf k := by
  have h1 : leaf < m.length := by rw [M.len]; exact hl
  have h2 : k < m[leaf].length := by rw [(M.rows _ (List.getElem_mem h1)).1]; exact hk
  refine ⟨h1, h2, ?_⟩
  unfold mu
  rw [Int.toNat_natCast, List.getD_eq_getElem?_getD (l := m), List.getElem?_eq_getElem h1, Option.getD_some, List.getD_eq_getElem?_getD, List.getElem?_eq_getElem h2, Option.getD_some]

set_option maxHeartbeats 16000000 in
theorem r120 (p : Prob) (m : List (List Int)) (v : Var) (c : Choice) (S : Small p) (M : OkM p m) (hv : OkVar p v) (hl8 : v.leaves.length ≤ 8) (hc : OkChoice p c) (hu : c.uses.length ≤ 12) :
    runP E (dL E) 120 [dProb p, .imm .none (m.map dInts), dVar v, dChoice c] = some (dI (prC p m v.leaves c.uses)) := by
  refine runP_T c120 (by simp) ?_
  have hub : ∀ u, u ∈ c.uses → 0 ≤ u.places ∧ u.places ≤ 8 := fun u hu => (hc.uses u hu).places |> fun h => by unfold wi at h; omega
  have htot := prC_bd M hl8 hub
  obtain ⟨T, hT⟩ : ∃ T, T = prC p m v.leaves c.uses := ⟨_, rfl⟩
  rw [← hT] at htot ⊢
  simp [t120, n120]
  refine wT_up c.uses.length (fun i env hp => ∃ (x10 x11 x12 x13 : D) (n : Int) (h : List Obj), env = [dProb p, .imm .none (m.map dInts), dVar v, dChoice c, .loc 0 0, .loc 1 0, .loc 2 0, dI 0, dI n, dI i, x10, x11, x12, x13] ∧
    hp = .cells (dProb p).cellsL :: .cells (dVar v).cellsL :: .cells (dChoice c).cellsL :: h ∧ 0 ≤ n ∧ n + prC p m v.leaves (c.uses.drop i) = T) 0 (by omega) ⟨_, _, _, _, 0, _, rfl, rfl, by omega, by simp [hT]⟩ ?_
  rintro i env hp hi ⟨x10, x11, x12, x13, n, h, rfl, rfl, hn0, hn⟩
  by_cases hlt : i < c.uses.length
  rotate_left
  · have : i = c.uses.length := by omega
    subst this
    rw [List.drop_length] at hn
    simp only [prC, Int.add_zero] at hn
    subst hn
    simp
  rw [drop_cons hlt] at hn
  simp only [prC] at hn
  have hru := prC_bd M hl8 (us := c.uses.drop (i + 1)) fun u hu => hub u (List.mem_of_mem_drop hu)
  have hui := hc.uses _ (List.getElem_mem hlt)
  have hpl := hub _ (List.getElem_mem hlt)
  have h100 := r100 p c.uses[i].cell S
  have hat := atS_le (i := 0) hui.known
  obtain ⟨k, hk⟩ : ∃ k : Nat, atS c.uses[i].cell p.cells 0 = k := ⟨(atS c.uses[i].cell p.cells 0).toNat, by omega⟩
  have hkc : k < p.cells.length := by omega
  rw [hk] at h100
  rw [hk, Int.toNat_natCast] at hn
  obtain ⟨R, hR⟩ : ∃ R, R = prC p m v.leaves (c.uses.drop (i + 1)) := ⟨_, rfl⟩
  rw [← hR] at hn hru
  simp only [dProb, dCell] at h100
  simp [hlt, h100]
  refine wT_up v.leaves.length (fun j env hp => ∃ (x12 x13 : D) (n : Int) (h : List Obj), env = [dProb p, .imm .none (m.map dInts), dVar v, dChoice c, .loc 0 0, .loc 1 0, .loc 2 0, dI 0, dI n, dI i, dI k, dI j, x12, x13] ∧
    hp = .cells (dProb p).cellsL :: .cells (dVar v).cellsL :: .cells (dChoice c).cellsL :: h ∧ 0 ≤ n ∧ n + (prL m k c.uses[i].places (v.leaves.drop j) + R) = T) 0 (by omega) ⟨_, _, n, _, rfl, rfl, hn0, by simpa using hn⟩ ?_
  rintro j env hp hj ⟨x12, x13, n, h, rfl, rfl, hn0, hn⟩
  by_cases hlt2 : j < v.leaves.length
  rotate_left
  · have : j = v.leaves.length := by omega
    subst this
    rw [List.drop_length] at hn
    simp only [prL, Int.zero_add] at hn
    simp [wrap_up hlt (by omega)]
    exact ⟨_, _, _, _, n, ⟨rfl, rfl, rfl, rfl, rfl⟩, hn0, by rw [← hR]; exact hn⟩
  rw [drop_cons hlt2] at hn
  simp only [prL] at hn
  have hrl := prL_bd M hpl (k := k) (l := v.leaves.drop (j + 1))
  have hleaf := hv.leaves _ (List.getElem_mem hlt2)
  unfold wi at hleaf
  obtain ⟨q, hq⟩ : ∃ q : Nat, v.leaves[j] = q := ⟨v.leaves[j].toNat, by omega⟩
  have hqc : q < p.capacity.length := by omega
  obtain ⟨g1, g2, g3⟩ := mu_get M hqc hkc
  rw [hq] at hn
  have hmb := mul8 (mu_bd M (leaf := (q : Int)) (k := k)) hpl
  obtain ⟨x, hx⟩ : ∃ x, x = mu m q k := ⟨_, rfl⟩
  rw [← hx] at g3 hn hmb
  have w1 := wrap_i64 (n := x * c.uses[i].places) ⟨by omega, by omega⟩
  have w2 := wrap_i64 (n := n + x * c.uses[i].places) ⟨by omega, by omega⟩
  simp [hlt, hlt2, hq, g1, g2, g3, w1, w2, wrap_up hlt2 (by omega)]
  exact ⟨_, _, _, ⟨rfl, rfl, rfl⟩, by omega, by omega⟩

end Dv
