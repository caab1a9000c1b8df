/- Texts that a proof of this claim uses, joined: Lw.W13, Lw.W14. -/
import Derived.Test.YtffnaiofjjgcgaaWb
set_option linter.all false
/- Walks: the checks of the bounds; lists of branches. -/
namespace Dv
attribute [local simp] wT_skip wK wT_ret wT_exit wR wRp wT_seq wC wT_block rTS_nil rTS_asg rTS_eff rTS_effk ob_some obP_some iteD_b condP_b xv_v xv_c xv_ite xv_bin_tt xv_bin_tc xv_bin_ct xv_bin_cc xv_un_t xv_conv_t xv_load xv_len xv_faddr xv_field xv_iaddr_tt xv_iaddr_tc xv_index_tt xv_index_tc xv_lookup_tt xv_max_tt xv_max_tc xv_max_ct xv_min_tt xv_min_tc xv_min_ct xv_slice_lo_t xv_slice_lo_c xv_slice_hi_t xv_slice_all xv_call xv_bslice bsliceV xv_build buildV xv_mkfn zeroE fillE buildD fillD List.replicate xvs_nil xvs_cons callV_fn frz_bool frz_int frz_imm frz_agg frz_tup frz_fn frz_iptr frzL_nil frzL_one frzL_dI frzL_cell frzL_use frzL_ints frzL_choice frzL_var depth dCell dUse dInts dChoice dVar dProb tStart addO Ret flat_dI flat_rep chunk_dI
 binD_add binD_sub binD_mul binD_eql binD_neq binD_lss binD_leq binD_gtr binD_geq binD_quo binD_rem binD_beql binD_bneq binD_aeql binD_aneq unD_not unD_neg lenD_imm lenD_sl lenD_str readO_cells readO_frozen loadD_loc loadD_iptr iaddrD_imm iaddrD_sl iaddrD_loc faddrD_loc faddrD_iptr fieldD_agg indexD_agg indexD_str cellsL_bool stor_bool atom_bool cellsL_int stor_int atom_int cellsL_str stor_str atom_str cellsL_imm stor_imm atom_imm cellsL_sl stor_sl atom_sl cellsL_loc stor_loc atom_loc cellsL_iptr stor_iptr atom_iptr cellsL_map stor_map atom_map cellsL_fn stor_fn atom_fn cellsL_agg stor_agg cellsL_nilfn stor_nilfn atom_nilfn cellsL_nilp stor_nilp atom_nilp takeC_z takeC_s ofCells_ag ofCells_one ag_bool ag_int ag_str ag_slice ag_struct ag_arr ag_map ag_ptr ag_func gOf_t gOf_c gOf_f kv_cons putE_some putE_none oneRes_one oneRes_two oneRes_three getAll_nil getAll_v getAll_c maxiD_two miniD_two extV_tup xv_ext stepOp_box stepOp_alloc stepOp_store writeO_cells storeD_loc setCells_nil setCells_cons stepOp_mkmap stepOp_mapset stepOp_call1 stepOp_call2 stepOp_app2 stepOp_app1 stepOp_bslice stepOp_mkslice mapO_map lookupD_some lookupD_ok mapsetD_some keyOk_agg kindsL_nil kindsL_bool kindsL_int eqL_nil eqL_cons atomEq_bool atomEq_int frz_sl tokO_tok app0_step app0_exact app0_tok frz_loc oneRes_nil listOf_imm
 ty_0 ty_1 ty_2 ty_3 ty_4 ty_5 ty_6 ty_7 ty_8 ty_9 ty_10 ty_11 ty_12 ty_13 ty_14 ty_15 ty_16 ty_17 ty_18 ty_19 ty_20 ty_21 ty_22 ty_23 ty_24 ty_25 ty_26 ty_27
attribute [local congr] wT_congr ob_congr obP_congr iteD_congr condP_congr

set_option maxHeartbeats 4000000 in
theorem r62 (p : Prob) (b : List Int) (S : Small p) (hb : b.length ≤ 20) : runP E (dL E) 62 [dProb p, dInts b] = some (dI (bk p b 280)) := by
  refine runP_T c62 (by simp) ?_
  generalize hB : bk p b 280 = B
  have hB0 : ¬ OkP p → B = 270 := by intro h; rw [← hB]; simp [bk, h]
  have hBf : OkP p → ¬ OkB p b → B = 280 := by intro h h'; rw [← hB]; simp [bk, h, h']
  have hBt : OkP p → OkB p b → B = 0 := by intro h h'; rw [← hB]; simp [bk, h, h']
  have s3 := S.vars
  have h15 := r15 p S
  simp only [dProb] at h15
  simp [t62, n62, h15]
  by_cases h0 : OkP p
  rotate_left
  · have e : ck p = 270 := by simp [ck, h0]
    simp [e, hB0 h0]
  have e : ck p = 0 := by simp [ck, h0]
  simp [e]
  by_cases h1 : p.vars.length < b.length
  · simp [h1, hBf h0 (fun ok => by have := ok.len; omega)]
  have h1' : ¬ p.vars.length < b.length := h1
  simp [h1']
  obtain ⟨P, hP⟩ : ∃ P : Nat → Prop, P = fun i => ∀ (h : i < b.length) (h' : i < p.vars.length), wi b[i] 0 (p.vars[i].choices.length - 1) := ⟨_, rfl⟩
  refine wT_all b.length P
    (fun i env hp => ∃ (x4 x5 x6 x7 x11 x12 : D) (h : List Obj), env = [dProb p, dInts b, .loc 0 0, dI 0, x4, x5, x6, x7, dInts b, dI b.length, dI i, x11, x12] ∧ hp = .cells (dProb p).cellsL :: h)
    ⟨_, _, _, _, _, _, _, rfl, rfl⟩ ?_ ?_
  · rintro i env hp hi ⟨x4, x5, x6, x7, x11, x12, h, rfl, rfl⟩ hall
    have hi' : i < p.vars.length := by omega
    have l2 := S.choices _ (List.getElem_mem hi')
    have hcw := wrap_i64 (n := (p.vars[i].choices.length : Int) - 1) ⟨by omega, by omega⟩
    by_cases k1 : wi b[i] 0 (p.vars[i].choices.length - 1)
    · obtain ⟨a1, a2, a3, a4⟩ := wi_pos k1
      have hPi : P i := by rw [hP]; exact fun _ _ => k1
      have a5 : ¬ (p.vars[i].choices.length : Int) ≤ b[i] := by omega
      simp [hi, hi', a1, a3, a5, wrap_up hi (by omega), hPi]
    · have hB' := hBf h0 (fun ok => k1 (ok.each i hi hi'))
      rcases wi_neg k1 with ⟨q1, q2⟩ | ⟨q1, q2, q3, q4⟩
      · simp [hi, hi', q1, q2, hB']
      · have a5 : (p.vars[i].choices.length : Int) ≤ b[i] := by omega
        simp [hi, hi', q3, q4, a5, hB']
  · rintro env hp ⟨x4, x5, x6, x7, x11, x12, h, rfl, rfl⟩ hall
    rw [hP] at hall
    simp [hBt h0 ⟨by omega, fun i hi hi' => hall i hi hi hi'⟩]


set_option maxHeartbeats 4000000 in
theorem r64 (p : Prob) (b : List Int) (S : Small p) (hb : b.length ≤ 20) : runP E (dL E) 64 [dProb p, dInts b] = some (dI (bk p b 280)) := by
  refine runP_T c64 (by simp) ?_
  have h19 := r19 p S
  have h103 := r103 p b S hb
  simp only [dProb, dInts] at h19 h103
  simp [t64, n64, h19]
  by_cases h0 : OkP p
  rotate_left
  · have e : ck p = 270 := by simp [ck, h0]
    simp [e, bk, h0]
  have e : ck p = 0 := by simp [ck, h0]
  by_cases h1 : OkB p b
  · simp [e, bk, h0, h103, h1]
  · simp [e, bk, h0, h103, h1]

theorem frzL_ints2 {hp : List Obj} {n : Nat} {l : List (List Int)} : frzL (frz hp (n + 2)) (l.map dInts) = some (l.map dInts) := frzL_ints

set_option maxHeartbeats 4000000 in
theorem r11 (a b : List (List Int)) (hl : a.length ≤ 1000000) (ha : ∀ x, x ∈ a → x.length ≤ 1000000) : runP E (dL E) 11 [.imm .none (a.map dInts), .imm .none (b.map dInts)] = some (.bool (decide (a = b))) := by
  refine runP_T c11 (by simp) ?_
  generalize hB : decide (a = b) = B
  have hBf : a ≠ b → B = false := by intro h; rw [← hB]; simp [h]
  have hBt : a = b → B = true := by intro h; rw [← hB]; simp [h]
  simp [t11, n11]
  by_cases h : a.length = b.length
  rotate_left
  · have hi : ¬ (a.length : Int) = b.length := by omega
    simp [h, hi, hBf (fun e => h (by rw [e]))]
  have hi : (a.length : Int) = b.length := by omega
  simp [h]
  obtain ⟨P, hP⟩ : ∃ P : Nat → Prop, P = fun i => ∀ (h : i < a.length) (h' : i < b.length), a[i] = b[i] := ⟨_, rfl⟩
  refine wT_all a.length P
    (fun i env hp => ∃ (x4 x5 x6 : D), env = [.imm .none (a.map dInts), .imm .none (b.map dInts), .bool false, dI i, x4, x5, x6])
    ⟨_, _, _, rfl⟩ ?_ ?_
  · rintro i env hp hi ⟨x4, x5, x6, rfl⟩ hall
    have hi' : i < b.length := by omega
    have h5 := r5 a[i] b[i] (ha _ (List.getElem_mem hi))
    simp only [dInts] at h5
    by_cases k1 : a[i] = b[i]
    · have hPi : P i := by rw [hP]; exact fun _ _ => k1
      rw [k1] at h5
      simp only [decide_true] at h5
      simp [hi, hi', h5, k1, wrap_up hi (by omega), hPi]
    · have hB' := hBf (fun e => k1 (by subst e; rfl))
      simp [hi, hi', h5, k1, hB']
  · rintro env hp ⟨x4, x5, x6, rfl⟩ hall
    rw [hP] at hall
    have hab : a = b := List.ext_getElem h fun i h1 h2 => hall i h1 h1 h2
    simp [hBt hab]

end Dv

/- Walks: the next branches, and the first solution. -/
namespace Dv
attribute [local simp] wT_skip wK wT_ret wT_exit wR wRp wT_seq wC wT_block rTS_nil rTS_asg rTS_eff rTS_effk ob_some obP_some iteD_b condP_b xv_v xv_c xv_ite xv_bin_tt xv_bin_tc xv_bin_ct xv_bin_cc xv_un_t xv_conv_t xv_load xv_len xv_faddr xv_field xv_iaddr_tt xv_iaddr_tc xv_index_tt xv_index_tc xv_lookup_tt xv_max_tt xv_max_tc xv_max_ct xv_min_tt xv_min_tc xv_min_ct xv_slice_lo_t xv_slice_lo_c xv_slice_hi_t xv_slice_all xv_call xv_bslice bsliceV xv_build buildV xv_mkfn zeroE fillE buildD fillD List.replicate xvs_nil xvs_cons callV_fn frz_bool frz_int frz_imm frz_agg frz_tup frz_fn frz_iptr frzL_nil frzL_one frzL_dI frzL_cell frzL_use frzL_ints frzL_choice frzL_var depth dCell dUse dInts dChoice dVar dProb tStart addO Ret flat_dI flat_rep chunk_dI
 binD_add binD_sub binD_mul binD_eql binD_neq binD_lss binD_leq binD_gtr binD_geq binD_quo binD_rem binD_beql binD_bneq binD_aeql binD_aneq unD_not unD_neg lenD_imm lenD_sl lenD_str readO_cells readO_frozen loadD_loc loadD_iptr iaddrD_imm iaddrD_sl iaddrD_loc faddrD_loc faddrD_iptr fieldD_agg indexD_agg indexD_str cellsL_bool stor_bool atom_bool cellsL_int stor_int atom_int cellsL_str stor_str atom_str cellsL_imm stor_imm atom_imm cellsL_sl stor_sl atom_sl cellsL_loc stor_loc atom_loc cellsL_iptr stor_iptr atom_iptr cellsL_map stor_map atom_map cellsL_fn stor_fn atom_fn cellsL_agg stor_agg cellsL_nilfn stor_nilfn atom_nilfn cellsL_nilp stor_nilp atom_nilp takeC_z takeC_s ofCells_ag ofCells_one ag_bool ag_int ag_str ag_slice ag_struct ag_arr ag_map ag_ptr ag_func gOf_t gOf_c gOf_f kv_cons putE_some putE_none oneRes_one oneRes_two oneRes_three getAll_nil getAll_v getAll_c maxiD_two miniD_two extV_tup xv_ext stepOp_box stepOp_alloc stepOp_store writeO_cells storeD_loc setCells_nil setCells_cons stepOp_mkmap stepOp_mapset stepOp_call1 stepOp_call2 stepOp_app2 stepOp_app1 stepOp_bslice stepOp_mkslice mapO_map lookupD_some lookupD_ok mapsetD_some keyOk_agg kindsL_nil kindsL_bool kindsL_int eqL_nil eqL_cons atomEq_bool atomEq_int frz_sl tokO_tok app0_step app0_exact app0_tok frz_loc oneRes_nil listOf_imm
 ty_0 ty_1 ty_2 ty_3 ty_4 ty_5 ty_6 ty_7 ty_8 ty_9 ty_10 ty_11 ty_12 ty_13 ty_14 ty_15 ty_16 ty_17 ty_18 ty_19 ty_20 ty_21 ty_22 ty_23 ty_24 ty_25 ty_26 ty_27
attribute [local congr] wT_congr ob_congr obP_congr iteD_congr condP_congr

theorem fits_dI {l : List Int} : fitsE 1 (l.map dI) = true := by
  unfold fitsE
  rw [List.all_eq_true]
  intro d hd
  obtain ⟨n, _, rfl⟩ := List.mem_map.1 hd
  rfl

/-- a list of rows as it is built: each row bears what room it has -/
def rowsD (f : Nat → Spare) (l : List (List Int)) : List D := (l.zipIdx).map fun x => .imm (f x.2) (x.1.map dI)

theorem fits_rows {f : Nat → Spare} {l : List (List Int)} : fitsE 1 (rowsD f l) = true := by
  unfold fitsE rowsD
  rw [List.all_eq_true]
  intro d hd
  obtain ⟨n, _, rfl⟩ := List.mem_map.1 hd
  rfl

theorem frz_rows {hp : List Obj} {n : Nat} {f : Nat → Spare} {l : List (List Int)} : frzL (frz hp (n + 2)) (rowsD f l) = some (l.map dInts) := by
  unfold rowsD
  have key : ∀ (l : List (List Int)) (k : Nat), frzL (frz hp (n + 2)) ((l.zipIdx k).map fun x => .imm (f x.2) (x.1.map dI)) = some (l.map dInts) := by
    intro l
    induction l with
    | nil => intro k; rfl
    | cons x r ih => intro k; simp only [List.zipIdx_cons, List.map_cons, frzL_one, frz_imm, frzL_dI, Option.map_some, ob_some, ih]
  exact key l 0

theorem rows_snoc {f : Nat → Spare} {l : List (List Int)} {x : List Int} {sp : Spare} : rowsD f l ++ [.imm sp (x.map dI)] = rowsD (fun k => if k = l.length then sp else f k) (l ++ [x]) := by
  unfold rowsD
  rw [List.zipIdx_append, List.map_append]
  congr 1
  · refine List.map_congr_left fun y hy => ?_
    have := List.snd_lt_of_mem_zipIdx hy
    have hne : ¬ y.2 = l.length := by omega
    simp only [hne, if_false]
  · simp

/-- the branches with one more choice -/
def nextL (p : Prob) (b : List Int) : List (List Int) := (List.range (p.vars.getD b.length ⟨0, 0, [], []⟩).choices.length).map fun (i : Nat) => b ++ [(i : Int)]

/-- the first solution -/
def firstL (p : Prob) (b : List Int) : List Int := b ++ List.replicate (p.vars.length - b.length) 0

theorem all_dI {l : List Int} : ((l.map dI).all fun d => d.storable && d.cellsL.length == 1) = true := fits_dI

open Classical in
/-- what comes of a branch, or its error -/
noncomputable def resL (p : Prob) (b : List Int) (x : D) : D := if bk p b 280 = 0 then .tup [x, dI 0] else .tup [dInts [], dI (bk p b 280)]

set_option maxHeartbeats 4000000 in
theorem r10 (p : Prob) (b : List Int) (S : Small p) (hb : b.length ≤ 20) : runP E (dL E) 10 [dProb p, dInts b] = some (resL p b (dInts (firstL p b))) := by
  refine runP_T c10 (by simp) ?_
  have h64 := r64 p b S hb
  have s3 := S.vars
  simp only [dProb, dInts] at h64
  simp [t10, n10, h64]
  by_cases h0 : bk p b 280 = 0
  rotate_left
  · simp [h0, resL]
  have hbl : b.length ≤ p.vars.length := by
    unfold bk at h0
    by_cases h1 : OkP p
    · by_cases h2 : OkB p b
      · exact h2.len
      · simp [h1, h2] at h0
    · simp [h1] at h0
  simp only [resL, h0, if_true]
  have hap : appOk E 2 [] (b.map dI) := by
    refine ⟨?_, ?_, ?_, ?_⟩ <;> simp [maxBytes, fitsE]
    omega
  simp [h0, app0_step, app0_exact, all_dI, hap]
  refine wT_up (p.vars.length - b.length) (fun i env hp => ∃ (x7 x8 x9 x10 : D) (k : Nat) (h : List Obj) (xs : List Int), xs = b ++ List.replicate i 0 ∧ env = [dProb p, dInts b, .loc 0 0, .imm .exact [], dI 0, dI 0, .imm (.tok (k + 1)) (xs.map dI), x7, x8, x9, x10] ∧
    hp = .cells (dProb p).cellsL :: h ∧ h[k]? = some (.tok xs.length 1)) 0 (by omega) ⟨_, _, _, _, 0, _, b, by simp, rfl, rfl, by simp⟩ ?_
  rintro i env hp hi ⟨x7, x8, x9, x10, k, h, xs, hxs, rfl, rfl, hk⟩
  have hxl : xs.length = b.length + i := by rw [hxs]; simp
  by_cases hlt : i < p.vars.length - b.length
  · have hlt2 : xs.length < p.vars.length := by omega
    have hap3 : appOk E 2 (xs.map dI) [dI 0] := by
      refine ⟨?_, ?_, ?_, fits_dI⟩ <;> simp [maxBytes]
      omega
    simp [hlt, hlt2, app0_step, app0_tok, hap3, hk]
    refine ⟨_, _, _, _, h.length, ⟨⟨rfl, ?_⟩, rfl, rfl, rfl, rfl⟩, ?_⟩
    · have e : List.replicate i (dI 0) ++ [dI 0] = dI 0 :: List.replicate i (dI 0) := by rw [← List.replicate_succ', List.replicate_succ]
      rw [hxs, List.map_append, List.map_replicate, List.append_assoc]
      exact congrArg _ e
    · simp [hxl]; omega
  · have hlt2 : ¬ xs.length < p.vars.length := by omega
    have hi' : i = p.vars.length - b.length := by omega
    have hf : firstL p b = xs := by rw [hxs, hi']; rfl
    simp [hlt2, hf]

theorem set_cells : ∀ {b l : List Int} {o : Nat}, o + b.length ≤ l.length → setCells (l.map dI) o (b.map dI) = (l.take o ++ b ++ l.drop (o + b.length)).map dI
  | [], l, o, h => by simp [setCells_nil]
  | x :: b, l, o, h => by
    simp only [List.length_cons] at h
    simp only [List.map_cons, setCells_cons]
    rw [show (l.map dI).set o (dI x) = (l.set o x).map dI from by rw [List.map_set], set_cells (by simp; omega)]
    have ht : (l.set o x).take o = l.take o := List.ext_getElem? fun n => by
      rw [List.getElem?_take, List.getElem?_take]
      by_cases h1 : n < o
      · rw [if_pos h1, if_pos h1, List.getElem?_set_ne (by omega)]
      · rw [if_neg h1, if_neg h1]
    have hd : (l.set o x).drop (o + 1 + b.length) = l.drop (o + 1 + b.length) := List.ext_getElem? fun n => by
      rw [List.getElem?_drop, List.getElem?_drop, List.getElem?_set_ne (by omega)]
    have h1 : (l.set o x).take (o + 1) = l.take o ++ [x] := by
      rw [List.take_succ_eq_append_getElem (by simp; omega), ht]
      simp
    rw [h1, hd, show o + (x :: b).length = o + 1 + b.length from by simp; omega]
    simp

theorem copy_sl {E : Env} {cP : Nat → List D → Option D} {cS cY : Nat → List D → List Obj → Option (D × List Obj)} {hp : List Obj} {id t t2 : Nat} {g : Opd → D} {x y : Opd} :
    stepOp E cP cS cY id g hp (.copy t t2 x y) = copyD E hp t t2 (g x) (g y) := rfl

set_option maxHeartbeats 4000000 in
theorem r9 (p : Prob) (b : List Int) (S : Small p) (hb : b.length ≤ 20) : runP E (dL E) 9 [dProb p, dInts b] = some (resL p b (dInts (firstL p b))) := by
  refine runP_T c9 (by simp) ?_
  have h62 := r62 p b S hb
  have s3 := S.vars
  simp only [dProb, dInts] at h62
  simp [t9, n9, h62]
  by_cases h0 : bk p b 280 = 0
  rotate_left
  · simp [h0, resL]
  have hbl : b.length ≤ p.vars.length := by
    unfold bk at h0
    by_cases h1 : OkP p
    · by_cases h2 : OkB p b
      · exact h2.len
      · simp [h1, h2] at h0
    · simp [h1] at h0
  simp only [resL, h0, if_true]
  have hmb : (p.vars.length : Int) * 9 ≤ 17592186044416 := by omega
  have hc := set_cells (b := b) (l := List.replicate p.vars.length 0) (o := 0) (by simpa using hbl)
  have hc' : setCells (List.replicate p.vars.length (dI 0)) 0 (List.map dI b) = (firstL p b).map dI := by
    rw [← List.map_replicate, hc]; simp [firstL]
  have hfl : (firstL p b).length = p.vars.length := by simp [firstL]; omega
  have hch := chunk_dI (l := firstL p b)
  rw [hfl] at hch
  have ht : (List.map dI b).take b.length = List.map dI b := List.take_of_length_le (by simp)
  simp [h0, maxBytes, hmb, copy_sl, copyD, all_dI, rowOf, hbl, Nat.min_eq_left hbl, ht, flat_dI, hc', hch]

end Dv
