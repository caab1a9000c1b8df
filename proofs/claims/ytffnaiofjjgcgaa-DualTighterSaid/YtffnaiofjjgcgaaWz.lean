/- Texts that a proof of this claim uses, joined: Lw.S27, Lw.W45, Lw.W69, Lw.W70. -/
import Derived.Test.YtffnaiofjjgcgaaTc
import Derived.Test.YtffnaiofjjgcgaaTy
import Derived.Test.YtffnaiofjjgcgaaDvb
import Derived.KernelRfl
import Derived.Test.YtffnaiofjjgcgaaWy
import Derived.Test.YtffnaiofjjgcgaaWo
import Derived.Test.YtffnaiofjjgcgaaWq
import Derived.Test.YtffnaiofjjgcgaaWf
import Derived.Test.YtffnaiofjjgcgaaSd
set_option linter.all false
/- The examples of layer 27. -/
namespace Dv

end Dv

/- The law ProblemRoom. -/
namespace Dv
attribute [local simp] wT_skip wK wT_ret wT_exit wR wRp wT_seq wC wT_block rTS_nil rTS_asg rTS_eff rTS_effk ob_some obP_some iteD_b condP_b xv_v xv_c xv_ite xv_bin_tt xv_bin_tc xv_bin_ct xv_bin_cc xv_un_t xv_conv_t xv_load xv_len xv_faddr xv_field xv_iaddr_tt xv_iaddr_tc xv_index_tt xv_index_tc xv_lookup_tt xv_max_tt xv_max_tc xv_max_ct xv_min_tt xv_min_tc xv_min_ct xv_slice_lo_t xv_slice_lo_c xv_slice_hi_t xv_slice_all xv_call xv_bslice bsliceV xv_build buildV xv_mkfn zeroE fillE buildD fillD List.replicate xvs_nil xvs_cons callV_fn frz_bool frz_int frz_imm frz_agg frz_tup frz_fn frz_iptr frzL_nil frzL_one frzL_dI frzL_cell frzL_use frzL_ints frzL_choice frzL_var depth dCell dUse dInts dChoice dVar dProb tStart addO Ret flat_dI flat_rep chunk_dI
 binD_add binD_sub binD_mul binD_eql binD_neq binD_lss binD_leq binD_gtr binD_geq binD_quo binD_rem binD_beql binD_bneq binD_aeql binD_aneq unD_not unD_neg lenD_imm lenD_sl lenD_str readO_cells readO_frozen loadD_loc loadD_iptr iaddrD_imm iaddrD_sl iaddrD_loc faddrD_loc faddrD_iptr fieldD_agg indexD_agg indexD_str cellsL_bool stor_bool atom_bool cellsL_int stor_int atom_int cellsL_str stor_str atom_str cellsL_imm stor_imm atom_imm cellsL_sl stor_sl atom_sl cellsL_loc stor_loc atom_loc cellsL_iptr stor_iptr atom_iptr cellsL_map stor_map atom_map cellsL_fn stor_fn atom_fn cellsL_agg stor_agg cellsL_nilfn stor_nilfn atom_nilfn cellsL_nilp stor_nilp atom_nilp takeC_z takeC_s ofCells_ag ofCells_one ag_bool ag_int ag_str ag_slice ag_struct ag_arr ag_map ag_ptr ag_func gOf_t gOf_c gOf_f kv_cons putE_some putE_none oneRes_one oneRes_two oneRes_three getAll_nil getAll_v getAll_c maxiD_two miniD_two extV_tup xv_ext stepOp_box stepOp_alloc stepOp_store writeO_cells storeD_loc setCells_nil setCells_cons stepOp_mkmap stepOp_mapset stepOp_call1 stepOp_call2 stepOp_app2 stepOp_app1 stepOp_bslice stepOp_mkslice mapO_map lookupD_some lookupD_ok mapsetD_some keyOk_agg kindsL_nil kindsL_bool kindsL_int eqL_nil eqL_cons atomEq_bool atomEq_int frz_sl tokO_tok app0_step app0_exact app0_tok frz_loc oneRes_nil listOf_imm
 ty_0 ty_1 ty_2 ty_3 ty_4 ty_5 ty_6 ty_7 ty_8 ty_9 ty_10 ty_11 ty_12 ty_13 ty_14 ty_15 ty_16 ty_17 ty_18 ty_19 ty_20 ty_21 ty_22 ty_23 ty_24 ty_25 ty_26 ty_27
attribute [local congr] wT_congr ob_congr obP_congr iteD_congr condP_congr

theorem frzL_set {f : D → Option D} {x y : D} : ∀ {l l' : List D} {i : Nat}, frzL f l = some l' → f x = some y → frzL f (l.set i x) = some (l'.set i y)
  | [], l', i, h, _ => by simp [frzL] at h; subst h; simp [frzL]
  | a :: l, l', i, h, hx => by
    simp only [frzL_one] at h
    cases ha : f a with
    | none => rw [ha] at h; cases h
    | some a' =>
      rw [ha] at h
      simp only [ob_some] at h
      cases hl : frzL f l with
      | none => rw [hl] at h; cases h
      | some r =>
        rw [hl] at h
        simp only [ob_some, Option.some.injEq] at h
        subst h
        cases i with
        | zero => simp only [List.set_cons_zero, frzL_one, hx, ob_some, hl]
        | succ i => simp only [List.set_cons_succ, frzL_one, ha, ob_some, frzL_set hl hx]

theorem flat_ints {l : List (List Int)} : flat (l.map dInts) = l.map dInts := by
  induction l with
  | nil => rfl
  | cons x r ih => simp only [List.map_cons, flat, List.flatMap_cons] at ih ⊢; rw [ih]; rfl
theorem all_ints {l : List (List Int)} : ((l.map dInts).all fun d => d.storable && d.cellsL.length == 1) = true := by
  rw [List.all_eq_true]
  intro d hd
  obtain ⟨n, _, rfl⟩ := List.mem_map.1 hd
  rfl
theorem all_nums {l : List Int} : ((l.map dI).all fun d => d.storable && d.cellsL.length == 1) = true := by
  rw [List.all_eq_true]
  intro d hd
  obtain ⟨n, _, rfl⟩ := List.mem_map.1 hd
  rfl

theorem app1_rows {hp : List Obj} {id : Nat} {cs : List (List Int)} (h1 : 1 ≤ cs.length) (h2 : cs.length ≤ 1000) :
    appendM E hp id 9 9 (.imm .exact []) (.imm .none (cs.map dInts)) = some ⟨.sl id 0 cs.length 1 false true, some (.cells (cs.map dInts)), none⟩ := by
  have h3 : ¬ cs.length = 0 := by omega
  have h4 : ¬ cs = [] := fun e => h3 (by rw [e]; rfl)
  have h5 : cs.length * 25 ≤ 17592186044416 := by omega
  simp [appendM, all_ints, h4, fitsE, flat_ints, maxBytes, h5]
  rfl
theorem app1_nums {hp : List Obj} {id : Nat} {cs : List Int} (h1 : 1 ≤ cs.length) (h2 : cs.length ≤ 1000) :
    appendM E hp id 6 6 (.imm .exact []) (.imm .none (cs.map dI)) = some ⟨.sl id 0 cs.length 1 false true, some (.cells (cs.map dI)), none⟩ := by
  have h3 : ¬ cs.length = 0 := by omega
  have h4 : ¬ cs = [] := fun e => h3 (by rw [e]; rfl)
  have h5 : cs.length * 9 ≤ 17592186044416 := by omega
  simp [appendM, all_nums, h4, fitsE, flat_dI, maxBytes, h5]
  rfl

/-- more room at a place -/
def room (p : Prob) (i k : Nat) (x : Int) : Prob := { p with capacity := p.capacity.set i ((p.capacity.getD i []).set k x) }

theorem room_ok {p : Prob} (ok : OkP p) {i k : Nat} {x : Int} (hi : i < p.capacity.length) (hx : 0 ≤ x ∧ x ≤ 4096) : OkP (room p i k x) := by
  have hg : p.capacity.getD i [] = p.capacity[i] := by rw [List.getD_eq_getElem?_getD, List.getElem?_eq_getElem hi, Option.getD_some]
  refine ⟨by simp only [room, List.length_set]; exact ok.some, ok.nonneg, ok.incr, fun l hl => ?_, fun v hv => ?_⟩
  · rcases List.mem_or_eq_of_mem_set hl with h | h
    · exact ok.cap l h
    · subst h
      rw [hg]
      have hc := ok.cap _ (List.getElem_mem hi)
      refine ⟨by rw [List.length_set]; exact hc.1, fun n hn => ?_⟩
      rcases List.mem_or_eq_of_mem_set hn with h | h
      · exact hc.2 n h
      · subst h; exact hx
  · obtain ⟨h1, h2, h3, h4, h5, h6⟩ := ok.vars v hv
    exact ⟨h1, h2, h3, fun n hn => by simpa [room] using h4 n hn, h5, fun c hc => by
      obtain ⟨a1, a2, a3, a4, a5⟩ := h6 c hc
      exact ⟨a1, a2, a3, fun u hu => ⟨(a4 u hu).known, (a4 u hu).places⟩, a5⟩⟩
theorem room_small {p : Prob} (S : Small p) {i k : Nat} {x : Int} (hi : i < p.capacity.length) : Small (room p i k x) := by
  have hg : p.capacity.getD i [] = p.capacity[i] := by rw [List.getD_eq_getElem?_getD, List.getElem?_eq_getElem hi, Option.getD_some]
  refine ⟨S.cells, by simp only [room, List.length_set]; exact S.cap, fun l hl => ?_, S.vars, S.leaves, S.choices, S.uses⟩
  rcases List.mem_or_eq_of_mem_set hl with h | h
  · exact S.rows l h
  · subst h
    rw [hg, List.length_set]
    exact S.rows _ (List.getElem_mem hi)
theorem tmodN {m k : Nat} : Int.tmod (m : Int) (k : Int) = ((m % k : Nat) : Int) := by
  rw [Int.tmod_eq_emod_of_nonneg (by omega)]; omega

end Dv

/- Duals: fewer choices cost no less; less capacity makes no lesser bound. -/
namespace Dv
attribute [local simp] wT_skip wK wT_ret wT_exit wR wRp wT_seq wC wT_block rTS_nil rTS_asg rTS_eff rTS_effk ob_some obP_some iteD_b condP_b xv_v xv_c xv_ite xv_bin_tt xv_bin_tc xv_bin_ct xv_bin_cc xv_un_t xv_conv_t xv_load xv_len xv_faddr xv_field xv_iaddr_tt xv_iaddr_tc xv_index_tt xv_index_tc xv_lookup_tt xv_max_tt xv_max_tc xv_max_ct xv_min_tt xv_min_tc xv_min_ct xv_slice_lo_t xv_slice_lo_c xv_slice_hi_t xv_slice_all xv_call xv_bslice bsliceV xv_build buildV xv_mkfn zeroE fillE buildD fillD List.replicate xvs_nil xvs_cons callV_fn frz_bool frz_int frz_imm frz_agg frz_tup frz_fn frz_iptr frzL_nil frzL_one frzL_dI frzL_cell frzL_use frzL_ints frzL_choice frzL_var depth dCell dUse dInts dChoice dVar dProb tStart addO Ret flat_dI flat_rep chunk_dI
 binD_add binD_sub binD_mul binD_eql binD_neq binD_lss binD_leq binD_gtr binD_geq binD_quo binD_rem binD_beql binD_bneq binD_aeql binD_aneq unD_not unD_neg lenD_imm lenD_sl lenD_str readO_cells readO_frozen loadD_loc loadD_iptr iaddrD_imm iaddrD_sl iaddrD_loc faddrD_loc faddrD_iptr fieldD_agg indexD_agg indexD_str cellsL_bool stor_bool atom_bool cellsL_int stor_int atom_int cellsL_str stor_str atom_str cellsL_imm stor_imm atom_imm cellsL_sl stor_sl atom_sl cellsL_loc stor_loc atom_loc cellsL_iptr stor_iptr atom_iptr cellsL_map stor_map atom_map cellsL_fn stor_fn atom_fn cellsL_agg stor_agg cellsL_nilfn stor_nilfn atom_nilfn cellsL_nilp stor_nilp atom_nilp takeC_z takeC_s ofCells_ag ofCells_one ag_bool ag_int ag_str ag_slice ag_struct ag_arr ag_map ag_ptr ag_func gOf_t gOf_c gOf_f kv_cons putE_some putE_none oneRes_one oneRes_two oneRes_three getAll_nil getAll_v getAll_c maxiD_two miniD_two extV_tup xv_ext stepOp_box stepOp_alloc stepOp_store writeO_cells storeD_loc setCells_nil setCells_cons stepOp_mkmap stepOp_mapset stepOp_call1 stepOp_call2 stepOp_app2 stepOp_app1 stepOp_bslice stepOp_mkslice mapO_map lookupD_some lookupD_ok mapsetD_some keyOk_agg kindsL_nil kindsL_bool kindsL_int eqL_nil eqL_cons atomEq_bool atomEq_int frz_sl tokO_tok app0_step app0_exact app0_tok frz_loc oneRes_nil listOf_imm
 ty_0 ty_1 ty_2 ty_3 ty_4 ty_5 ty_6 ty_7 ty_8 ty_9 ty_10 ty_11 ty_12 ty_13 ty_14 ty_15 ty_16 ty_17 ty_18 ty_19 ty_20 ty_21 ty_22 ty_23 ty_24 ty_25 ty_26 ty_27
attribute [local congr] wT_congr ob_congr obP_congr iteD_congr condP_congr

theorem dotR_le {x : Int} : ∀ {a b : List Int} {k : Nat}, (∀ y, y ∈ a → 0 ≤ y) → x ≤ b.getD k 0 → dotR a (b.set k x) ≤ dotR a b
  | [], _, _, _, _ => by simp [dotR]
  | _ :: _, [], _, _, _ => by simp [dotR]
  | y :: a, z :: b, 0, h, hx => by
    simp only [List.set_cons_zero, dotR, List.getD_cons_zero] at hx ⊢
    have := Int.mul_le_mul_of_nonneg_left hx (h y (by simp))
    omega
  | y :: a, z :: b, k + 1, h, hx => by
    simp only [List.set_cons_succ, dotR, List.getD_cons_succ] at hx ⊢
    have := dotR_le (a := a) (b := b) (k := k) (fun w hw => h w (by simp [hw])) hx
    omega
theorem dotL_le {c' : List Int} : ∀ {a cs : List (List Int)} {i : Nat}, (∀ l, l ∈ a → dotR l c' ≤ dotR l (cs.getD i [])) → dotL a (cs.set i c') ≤ dotL a cs
  | [], _, _, _ => by simp [dotL]
  | _ :: _, [], _, _ => by simp [dotL]
  | y :: a, z :: cs, 0, h => by
    have := h y (by simp)
    simp only [List.set_cons_zero, dotL, List.getD_cons_zero] at this ⊢
    omega
  | y :: a, z :: cs, i + 1, h => by
    have := dotL_le (a := a) (cs := cs) (i := i) (c' := c') (fun l hl => by have := h l (by simp [hl]); simpa using this)
    simp only [List.set_cons_succ, dotL]
    omega

theorem prC_room {p : Prob} {m : List (List Int)} {l : List Int} {i k : Nat} {x : Int} : ∀ {us : List Use}, prC (room p i k x) m l us = prC p m l us
  | [] => rfl
  | u :: us => by simp only [prC, prC_room]; rfl
theorem cost_room {p : Prob} {m : List (List Int)} {v : Var} {q : Int} {i k : Nat} {x : Int} : costOf (room p i k x) m v q = costOf p m v q := by
  funext c
  simp only [costOf, prC_room]
theorem sumV_room {p : Prob} {b : List Int} {g : Int} {m : List (List Int)} {q : Int} {i k : Nat} {x : Int} : ∀ {vs : List Var} {j : Nat}, sumV (room p i k x) b g m q j vs = sumV p b g m q j vs
  | [], _ => rfl
  | v :: vs, j => by simp only [sumV, cost_room, sumV_room]
/-- less capacity makes no lesser bound -/
theorem sumD_room {p : Prob} {b : List Int} {g : Int} {m : List (List Int)} {q : Int} {i k : Nat} {x : Int} (M : OkM p m) (hx : x ≤ (p.capacity.getD i []).getD k 0) :
    ∃ d, 0 ≤ d ∧ sumD (room p i k x) b g m q = (sumD p b g m q).map (d + ·) := by
  have h1 := dotL_le (a := m) (cs := p.capacity) (i := i) (c' := (p.capacity.getD i []).set k x) fun l hl => dotR_le (fun y hy => ((M.rows l hl).2 y hy).1) hx
  refine ⟨dotL m p.capacity - dotL m (p.capacity.set i ((p.capacity.getD i []).set k x)), by omega, ?_⟩
  unfold sumD
  rw [Option.map_map]
  have e : (room p i k x).vars = p.vars := rfl
  rw [e, sumV_room]
  congr 1
  funext z
  simp only [Function.comp, room]
  omega
theorem room_okM {p : Prob} {m : List (List Int)} {i k : Nat} {x : Int} : OkM (room p i k x) m ↔ OkM p m := by
  constructor
  · rintro ⟨h1, h2⟩; exact ⟨by simpa [room] using h1, h2⟩
  · rintro ⟨h1, h2⟩; exact ⟨by simpa [room] using h1, h2⟩
theorem room_okB {p : Prob} {b : List Int} {i k : Nat} {x : Int} : OkB (room p i k x) b ↔ OkB p b := by
  constructor
  · rintro ⟨h1, h2⟩; exact ⟨h1, h2⟩
  · rintro ⟨h1, h2⟩; exact ⟨h1, h2⟩

end Dv

/- The law DualTighter. -/
namespace Dv
attribute [local simp] wT_skip wK wT_ret wT_exit wR wRp wT_seq wC wT_block rTS_nil rTS_asg rTS_eff rTS_effk ob_some obP_some iteD_b condP_b xv_v xv_c xv_ite xv_bin_tt xv_bin_tc xv_bin_ct xv_bin_cc xv_un_t xv_conv_t xv_load xv_len xv_faddr xv_field xv_iaddr_tt xv_iaddr_tc xv_index_tt xv_index_tc xv_lookup_tt xv_max_tt xv_max_tc xv_max_ct xv_min_tt xv_min_tc xv_min_ct xv_slice_lo_t xv_slice_lo_c xv_slice_hi_t xv_slice_all xv_call xv_bslice bsliceV xv_build buildV xv_mkfn zeroE fillE buildD fillD List.replicate xvs_nil xvs_cons callV_fn frz_bool frz_int frz_imm frz_agg frz_tup frz_fn frz_iptr frzL_nil frzL_one frzL_dI frzL_cell frzL_use frzL_ints frzL_choice frzL_var depth dCell dUse dInts dChoice dVar dProb tStart addO Ret flat_dI flat_rep chunk_dI
 binD_add binD_sub binD_mul binD_eql binD_neq binD_lss binD_leq binD_gtr binD_geq binD_quo binD_rem binD_beql binD_bneq binD_aeql binD_aneq unD_not unD_neg lenD_imm lenD_sl lenD_str readO_cells readO_frozen loadD_loc loadD_iptr iaddrD_imm iaddrD_sl iaddrD_loc faddrD_loc faddrD_iptr fieldD_agg indexD_agg indexD_str cellsL_bool stor_bool atom_bool cellsL_int stor_int atom_int cellsL_str stor_str atom_str cellsL_imm stor_imm atom_imm cellsL_sl stor_sl atom_sl cellsL_loc stor_loc atom_loc cellsL_iptr stor_iptr atom_iptr cellsL_map stor_map atom_map cellsL_fn stor_fn atom_fn cellsL_agg stor_agg cellsL_nilfn stor_nilfn atom_nilfn cellsL_nilp stor_nilp atom_nilp takeC_z takeC_s ofCells_ag ofCells_one ag_bool ag_int ag_str ag_slice ag_struct ag_arr ag_map ag_ptr ag_func gOf_t gOf_c gOf_f kv_cons putE_some putE_none oneRes_one oneRes_two oneRes_three getAll_nil getAll_v getAll_c maxiD_two miniD_two extV_tup xv_ext stepOp_box stepOp_alloc stepOp_store writeO_cells storeD_loc setCells_nil setCells_cons stepOp_mkmap stepOp_mapset stepOp_call1 stepOp_call2 stepOp_app2 stepOp_app1 stepOp_bslice stepOp_mkslice mapO_map lookupD_some lookupD_ok mapsetD_some keyOk_agg kindsL_nil kindsL_bool kindsL_int eqL_nil eqL_cons atomEq_bool atomEq_int frz_sl tokO_tok app0_step app0_exact app0_tok frz_loc oneRes_nil listOf_imm
 ty_0 ty_1 ty_2 ty_3 ty_4 ty_5 ty_6 ty_7 ty_8 ty_9 ty_10 ty_11 ty_12 ty_13 ty_14 ty_15 ty_16 ty_17 ty_18 ty_19 ty_20 ty_21 ty_22 ty_23 ty_24 ty_25 ty_26 ty_27
attribute [local congr] wT_congr ob_congr obP_congr iteD_congr condP_congr

theorem readO_frz1 {hp : List Obj} {i j : Nat} : readO (freeze1 hp j)[i]? = readO hp[i]? := by
  unfold freeze1
  split
  · rename_i cs h
    by_cases e : j = i
    · subst e
      rw [List.getElem?_set_self (List.getElem?_eq_some_iff.1 h).1, h]; rfl
    · rw [List.getElem?_set_ne e]
  · rfl
theorem readO_frzA {i : Nat} : ∀ {l : List Nat} {hp : List Obj}, readO (freezeAll hp l)[i]? = readO hp[i]?
  | [], _ => rfl
  | j :: l, hp => by
    show readO (freezeAll (freeze1 hp j) l)[i]? = _
    rw [readO_frzA, readO_frz1]

theorem dk_room {p : Prob} {b : List Int} {m : List (List Int)} {i k : Nat} {x : Int} (ok : OkP p) (hi : i < p.capacity.length) (hx : 0 ≤ x ∧ x ≤ 4096) : dk (room p i k x) b m = dk p b m := by
  have h1 := room_ok ok hi hx (k := k)
  unfold dk
  rw [if_pos ok, if_pos h1]
  by_cases h : OkM p m ∧ OkB p b
  · rw [if_pos h, if_pos ⟨room_okM.2 h.1, room_okB.2 h.2⟩]
  · rw [if_neg h, if_neg fun h' => h ⟨room_okM.1 h'.1, room_okB.1 h'.2⟩]

set_option maxHeartbeats 16000000 in
theorem law49 (h1 : runP E (dL E) 35 [] = some (.bool true)) (p : Prob) (b : List Int) (g : Int) (m : List (List Int)) (leaf cell : Nat) (hlf : leaf ≤ 255) (hcl : cell ≤ 255) (hml : m.length ≤ Go.maxLen) :
    runP E (dL E) 49 [dProb p, dInts b, dI g, .imm .none (m.map dInts), .int .u8 leaf, .int .u8 cell] = some (.bool true) := by
  refine runP_T c49 (by simp) ?_
  have h2 := r2 p
  have h36 := r36 m hml
  simp only [dProb] at h2
  simp [t49, n49, h1, h2, h36]
  cases hf : fewB p with
  | false => simp
  | true =>
  have S := few_small hf
  simp
  cases hfm : fewM m with
  | false => simp
  | true =>
  have SM := few_smallM hfm
  simp
  by_cases hb : (20 : Int) < b.length
  · simp [hb]
  have hb' : b.length ≤ 20 := by omega
  have h15 := r15 p S
  simp only [dProb] at h15
  simp [hb, h15]
  by_cases hc : ck p = 0
  rotate_left
  · simp [hc]
  have ok : OkP p := by
    unfold ck at hc
    by_cases h : OkP p
    · exact h
    · simp [h] at hc
  simp [hc]
  by_cases z1 : p.cells.length = 0
  · have z1' : p.cells = [] := List.eq_nil_of_length_eq_zero z1
    simp [z1']
  have z1' : ¬ p.cells = [] := fun e => z1 (by rw [e]; rfl)
  have hone := ok.some
  have z2' : ¬ p.capacity = [] := fun e => by rw [e] at hone; simp at hone
  have s1 := S.cells
  have s2 := S.cap
  obtain ⟨i, hi⟩ : ∃ i, i = leaf % p.capacity.length := ⟨_, rfl⟩
  obtain ⟨k, hk⟩ : ∃ k, k = cell % p.cells.length := ⟨_, rfl⟩
  have hil : i < p.capacity.length := by rw [hi]; exact Nat.mod_lt _ (by omega)
  have hkl : k < p.cells.length := by rw [hk]; exact Nat.mod_lt _ (by omega)
  have t1 : Int.tmod (leaf : Int) (p.capacity.length : Int) = (i : Int) := by rw [tmodN, ← hi]
  have t2 : Int.tmod (cell : Int) (p.cells.length : Int) = (k : Int) := by rw [tmodN, ← hk]
  have w0 := wrap_i64 (n := (leaf : Int)) ⟨by omega, by omega⟩
  have w0' := wrap_i64 (n := (cell : Int)) ⟨by omega, by omega⟩
  have w1 := wrap_i64 (n := (i : Int)) ⟨by omega, by omega⟩
  have w2 := wrap_i64 (n := (k : Int)) ⟨by omega, by omega⟩
  have hcap := ok.cap _ (List.getElem_mem hil)
  have a1 := fun hp id => app1_rows (hp := hp) (id := id) (cs := p.capacity) hone (by omega)
  have a2 := fun hp id => app1_nums (hp := hp) (id := id) (cs := p.capacity[i]) (by omega) (by omega)
  have hki : k < p.capacity[i].length := by omega
  have hc1 := hcap.2 _ (List.getElem_mem hki)
  unfold wi at hc1
  have hil1 : i + 1 ≤ p.capacity.length := hil
  have hki1 : k + 1 ≤ p.capacity[i].length := hki
  have hrl : p.capacity[i].length = p.cells.length := hcap.1
  obtain ⟨x, hx⟩ : ∃ x : Int, x = (p.capacity[i][k]).tdiv 2 := ⟨_, rfl⟩
  have hx0 : x = p.capacity[i][k] / 2 := by rw [hx, Int.tdiv_eq_ediv_of_nonneg hc1.1]
  have hx1 : 0 ≤ x ∧ x ≤ 4096 := by omega
  have w4 := wrap_i64 (n := x) ⟨by omega, by omega⟩
  have hchk := chunk_one (l := (List.map dInts p.capacity).set i (.sl 26 0 p.capacity[i].length 1 false true))
  rw [List.length_set, List.length_map] at hchk
  have hfr : ∀ (hp : List Obj) (n : Nat), readO hp[26]? = some ((List.map dI p.capacity[i]).set k (.int .i64 x)) →
      frzL (frz hp (n + 2)) ((List.map dInts p.capacity).set i (.sl 26 0 p.capacity[i].length 1 false true)) = some ((p.capacity.set i (p.capacity[i].set k x)).map dInts) := fun hp n hg => by
    rw [List.map_set]
    refine frzL_set frzL_ints ?_
    have hr : (List.map dI p.capacity[i]).set k (.int .i64 x) = (p.capacity[i].set k x).map dI := by rw [List.map_set]
    have hch := chunk_dI (l := p.capacity[i].set k x)
    rw [List.length_set] at hch
    rw [frz_sl, hg, hr]
    simp only [ob_some, List.drop_zero, hch, frzL_dI, Option.map_some]
  have hgd : p.capacity.getD i [] = p.capacity[i] := by rw [List.getD_eq_getElem?_getD, List.getElem?_eq_getElem hil, Option.getD_some]
  have hgk : (p.capacity.getD i []).getD k 0 = p.capacity[i][k] := by rw [hgd, List.getD_eq_getElem?_getD, List.getElem?_eq_getElem hki, Option.getD_some]
  have h37 := r37 p b g m S hb' SM
  have h39 := r39 p b g m S hb' SM
  have k37 := r37 (room p i k x) b g m (room_small S hil) hb' SM
  have k39 := r39 (room p i k x) b g m (room_small S hil) hb' SM
  unfold resDB at h37 k37
  unfold resDP at h39 k39
  rw [dk_room ok hil hx1] at k37 k39
  by_cases h0 : dk p b m = 0
  rotate_left
  · rw [if_neg h0] at h37 h39 k37 k39
    simp only [dProb, dInts, room, hgd] at h37 h39 k37 k39
    obtain ⟨caps, hcaps⟩ : ∃ caps, caps = p.capacity.set i (p.capacity[i].set k x) := ⟨_, rfl⟩
    rw [← hcaps] at k37 k39
    simp only [← hcaps] at hfr
    simp [z1, z1', z2', t1, t2, convD, w0, w0', w1, w2, a1, a2, applyEf, hil, hki, hil1, hki1, ← hx, w4, hchk, hfr, readO_frzA, h37, h39, k37, k39]
  obtain ⟨_, M, _⟩ := dk_ok h0
  rw [if_pos h0] at h37 h39 k37 k39
  obtain ⟨d1, hd1, e1⟩ := sumD_room (b := b) (g := g) (q := 1) M (i := i) (k := k) (x := x) (by rw [hgk]; omega)
  obtain ⟨d0, hd0, e0⟩ := sumD_room (b := b) (g := g) (q := 0) M (i := i) (k := k) (x := x) (by rw [hgk]; omega)
  rw [e1] at k37
  rw [e0] at k39
  obtain ⟨caps, hcaps⟩ : ∃ caps, caps = p.capacity.set i (p.capacity[i].set k x) := ⟨_, rfl⟩
  simp only [← hcaps] at hfr
  cases hs : sumD p b g m 1 with
  | none =>
    rw [hs] at h37 k37
    rw [sumD_nil hs] at h39 k39
    simp only [Option.map_none, provD, dProb, dInts, room, hgd] at h37 h39 k37 k39
    rw [← hcaps] at k37 k39
    simp [z1, z1', z2', t1, t2, convD, w0, w0', w1, w2, a1, a2, applyEf, hil, hki, hil1, hki1, ← hx, w4, hchk, hfr, readO_frzA, h37, h39, k37, k39]
  | some n =>
    rw [hs] at h37 k37
    obtain ⟨P, hP⟩ : ∃ P, P = provD (sumD p b g m 0) := ⟨_, rfl⟩
    obtain ⟨P', hP'⟩ : ∃ P', P' = provD ((sumD p b g m 0).map (d0 + ·)) := ⟨_, rfl⟩
    have hPP : P = true → P' = true := fun h => by
      rw [hP] at h
      rw [hP']
      cases h5 : sumD p b g m 0 with
      | none => rfl
      | some y =>
        rw [h5] at h
        simp only [provD, Option.map_some, decide_eq_true_eq] at h ⊢
        omega
    rw [← hP] at h39
    rw [← hP'] at k39
    simp only [Option.map_some, dProb, dInts, room, hgd] at h37 h39 k37 k39
    rw [← hcaps] at k37 k39
    have hle : n ≤ d1 + n := by omega
    cases P with
    | false => simp [z1, z1', z2', t1, t2, convD, w0, w0', w1, w2, a1, a2, applyEf, hil, hki, hil1, hki1, ← hx, w4, hchk, hfr, readO_frzA, h37, h39, k37, k39, hle]
    | true =>
      rw [hPP rfl] at k39
      simp [z1, z1', z2', t1, t2, convD, w0, w0', w1, w2, a1, a2, applyEf, hil, hki, hil1, hki1, ← hx, w4, hchk, hfr, readO_frzA, h37, h39, k37, k39, hle]

theorem dualTighter : ∀ xs, TypedL E [0, 1, 2, 9, 13, 13] xs → ∃ n, runP E (dC E n) 49 xs = some (.bool true) := by
  intro xs h
  match xs, h with
  | [x, y, z, w, c, d], ⟨h1, h2, h3, h4, h5, h6, _⟩ =>
    obtain ⟨p, rfl, _⟩ := ty_prob h1
    obtain ⟨l, rfl, _⟩ := ty_nums h2 rfl
    obtain ⟨n, rfl, _⟩ := ty_num h3 rfl
    obtain ⟨m, rfl, hm⟩ := ty_rows h4
    obtain ⟨a, rfl, ha⟩ := ty_u8 h5 rfl
    obtain ⟨b, rfl, hb⟩ := ty_u8 h6 rfl
    exact runP_ex (law49 sane35' p l n m a b ha hb hm)
  | [], h => exact h.elim
  | [_], h => exact h.2.elim
  | [_, _], h => exact h.2.2.elim
  | [_, _, _], h => exact h.2.2.2.elim
  | [_, _, _, _], h => exact h.2.2.2.2.elim
  | [_, _, _, _, _], h => exact h.2.2.2.2.2.elim
  | _ :: _ :: _ :: _ :: _ :: _ :: _ :: _, h => exact h.2.2.2.2.2.2.elim

end Dv
