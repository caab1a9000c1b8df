/- Texts that a proof of this claim uses, joined: Lw.W91, Lw.W92, Lw.W93, Lw.W94, Lw.W50, Lw.W51, Lw.W52, Lw.W53, Lw.W54, Lw.W55, Lw.W56, Lw.W57, Lw.W47, Lw.W65, Lw.W66, Lw.W69, Lw.W58, Lw.W59, Lw.W60, Lw.W71, Lw.W61, Lw.W73, Lw.W95, Lw.W96, Lw.W97, Lw.W98, Lw.W29, Lw.W99, Lw.W100, Lw.W101, Lw.W102, Lw.W103, Lw.W104, Lw.W105, Lw.W106. -/
import Derived.Test.YtbipecbjhiecmaaGa
set_option linter.all false
namespace Dv
attribute [local simp] wT_skip wK wT_ret wT_exit wR wRp wT_seq wC wT_block rTS_nil rTS_asg rTS_eff rTS_effk rTS_effg gdV_b binD_and binD_or binD_xor stepOp_call3 closed_bool closed_int closed_tup flatB_bool flatB_int frzX_tup frzX_exact frz1_exact frz1_none frz1_int ob_some obP_some iteD_b condP_b xv_v xv_c xv_ite xv_bin_tt xv_bin_tc xv_bin_ct xv_bin_cc xv_un_t xv_conv_t xv_load xv_len xv_faddr xv_field xv_iaddr_tt xv_iaddr_tc xv_index_tt xv_index_tc xv_lookup_tt xv_max_tt xv_max_tc xv_max_ct xv_min_tt xv_min_tc xv_min_ct xv_slice_lo_t xv_slice_lo_c xv_slice_hi_t xv_slice_all xv_call xv_bslice bsliceV xv_build buildV xv_mkfn zeroE fillE buildD fillD List.replicate xvs_nil xvs_cons callV_fn frz_bool frz_int frz_imm frz_agg frz_tup frz_fn frz_iptr frzL_nil frzL_one frzL_dI frzL_cell frzL_use frzL_ints frzL_choice frzL_var depth dCell dUse dInts dChoice dVar dProb tStart addO Ret flat_dI flat_rep chunk_dI
 binD_add binD_sub binD_mul binD_eql binD_neq binD_lss binD_leq binD_gtr binD_geq binD_quo binD_rem binD_beql binD_bneq binD_aeql binD_aneq unD_not unD_neg lenD_imm lenD_sl lenD_str readO_cells readO_frozen loadD_loc loadD_iptr iaddrD_imm iaddrD_sl iaddrD_loc faddrD_loc faddrD_iptr fieldD_agg indexD_agg indexD_str cellsL_bool stor_bool atom_bool cellsL_int stor_int atom_int cellsL_str stor_str atom_str cellsL_imm stor_imm atom_imm cellsL_sl stor_sl atom_sl cellsL_loc stor_loc atom_loc cellsL_iptr stor_iptr atom_iptr cellsL_map stor_map atom_map cellsL_fn stor_fn atom_fn cellsL_agg stor_agg cellsL_nilfn stor_nilfn atom_nilfn cellsL_nilp stor_nilp atom_nilp takeC_z takeC_s ofCells_ag ofCells_one ag_bool ag_int ag_str ag_slice ag_struct ag_arr ag_map ag_ptr ag_func gOf_t gOf_c gOf_f kv_cons putE_some putE_none oneRes_one oneRes_two oneRes_three getAll_nil getAll_v getAll_c maxiD_two miniD_two extV_tup xv_ext stepOp_box stepOp_alloc stepOp_store writeO_cells storeD_loc setCells_nil setCells_cons stepOp_mkmap stepOp_mapset stepOp_call1 stepOp_call2 stepOp_app2 stepOp_app1 stepOp_bslice stepOp_mkslice mapO_map lookupD_some lookupD_ok mapsetD_some keyOk_agg kindsL_nil kindsL_bool kindsL_int eqL_nil eqL_cons atomEq_bool atomEq_int frz_sl tokO_tok app0_step app0_exact app0_tok frz_loc oneRes_nil listOf_imm
  ty_0 ty_1 ty_2 ty_3 ty_4 ty_6 ty_7 ty_8 ty_9 ty_10 ty_11 ty_13 ty_14 ty_15 ty_16 ty_17 ty_18 ty_19 ty_20 ty_21 ty_22 ty_23 ty_24 ty_26 ty_28 ty_29 ty_30 ty_31 ty_32 ty_33 ty_34 ty_35
attribute [local congr] wT_congr ob_congr obP_congr iteD_congr condP_congr gdV_congr


abbrev dLeaf (l : Leaf) : D := .agg [dInts l.branch, dI l.kind, .imm .none (l.mult.map dInts)]
abbrev dSrch (s : Srch) : D := .agg [.imm .none (s.opn.map dInts), dInts s.best, dInts s.value, .imm .none (s.leaves.map dLeaf)]

theorem frzL_leaf {hp : List Obj} {n : Nat} {l : List Leaf} : frzL (frz hp (n + 4)) (l.map dLeaf) = some (l.map dLeaf) := frzL_map fun x _ => by
  rw [frz_agg]
  simp only [frzL_one, frz_int, ob_some, frz_imm, frzL_ints, frzL_dI, Option.map_some, frzL_nil]

def srch0 : Srch := ⟨[], [], [], []⟩
noncomputable def resStart (p : Prob) : D := if ck p = 0 then .tup [dSrch startS, dI 0] else .tup [dSrch srch0, dI (ck p)]

theorem r139 (p : Prob) (S : Small p) : runP E (dL E) 139 [dProb p] = some (resStart p) := by
  refine runP_T c139 (by simp) ?_
  have h15 := r15 p S
  simp only [dProb] at h15
  by_cases h : ck p = 0
  · simp [t139, n139, h15, h, resStart, startS]
  · simp [t139, n139, h15, h, resStart, srch0]

theorem r140 (s : Srch) : runP E (dL E) 140 [dSrch s] = some (.bool (decide (s.opn.length = 0))) := by
  refine runP_T c140 (by simp) ?_
  cases h : s.opn <;> simp [t140, n140, h]
  omega

open Classical in
set_option maxHeartbeats 4000000 in
theorem r172 (p : Prob) (b : List Int) (S : Small p) : runP E (dL E) 172 [dProb p, dInts b] = some (.bool (decide (OkB p b))) := by
  refine runP_T c172 (by simp) ?_
  generalize hB : decide (OkB p b) = B
  have hBf : ¬ OkB p b → B = false := by intro h; rw [← hB]; simp [h]
  have hBt : OkB p b → B = true := by intro h; rw [← hB]; simp [h]
  have s3 := S.vars
  simp [t172, n172]
  by_cases h1 : p.vars.length < b.length
  · simp [h1, hBf (fun ok => by have := ok.len; omega)]
  have h1' : ¬ p.vars.length < b.length := h1
  simp [h1']
  obtain ⟨P, hP⟩ : ∃ P : Nat → Prop, P = fun i => ∀ (h : i < b.length) (h' : i < p.vars.length), wi b[i] 0 (p.vars[i].choices.length - 1) := ⟨_, rfl⟩
  refine wT_all b.length P
    (fun i env hp => ∃ (x3 x4 x5 x6 x10 x11 : D) (h : List Obj), env = [dProb p, dInts b, .loc 0 0, x3, x4, x5, x6, dInts b, dI b.length, dI i, x10, x11] ∧ hp = .cells (dProb p).cellsL :: h)
    ⟨_, _, _, _, _, _, _, rfl, rfl⟩ ?_ ?_
  · rintro i env hp hi ⟨x3, x4, x5, x6, x10, x11, h, rfl, rfl⟩ hall
    have hi' : i < p.vars.length := by omega
    by_cases k1 : wi b[i] 0 (p.vars[i].choices.length - 1)
    · unfold wi at k1
      have a1 : ¬ b[i] < 0 := by omega
      have a2 : ¬ (p.vars[i].choices.length : Int) ≤ b[i] := by omega
      have hPi : P i := by rw [hP]; exact fun _ _ => k1
      simp [hi, hi', a1, a2, wrap_up hi (by omega), hPi]
    · have hB' := hBf (fun ok => k1 (ok.each i hi hi'))
      unfold wi at k1
      by_cases a1 : b[i] < 0
      · simp [hi, hi', a1, hB']
      · have a2 : (p.vars[i].choices.length : Int) ≤ b[i] := by omega
        simp [hi, hi', a1, a2, hB']
  · rintro env hp ⟨x3, x4, x5, x6, x10, x11, h, rfl, rfl⟩ hall
    rw [hP] at hall
    simp [hBt ⟨by omega, fun i hi hi' => hall i hi hi hi'⟩]

open Classical in
theorem r158 (p : Prob) (b : List Int) (S : Small p) : runP E (dL E) 158 [dInts b, .iptr (dProb p).cellsL] = some (.bool (!decide (OkB p b))) := by
  refine runP_T c158 (by simp) ?_
  have h172 := r172 p b S
  simp only [dProb, dInts] at h172
  simp [t158, n158, h172]

theorem okLeaf_dec {p : Prob} {l : Leaf} : okLeaf p l ↔ (OkB p l.branch ∧ l.mult.length = 0) ∧ ((l.kind = 1 ∧ l.branch.length = p.vars.length) ∨ l.kind = 2) := by
  unfold okLeaf
  rw [List.length_eq_zero_iff]
  constructor
  · rintro ⟨a, b, c⟩; exact ⟨⟨a, b⟩, c⟩
  · rintro ⟨⟨a, b⟩, c⟩; exact ⟨a, b, c⟩

open Classical in
set_option maxHeartbeats 4000000 in
theorem r157 (p : Prob) (l : Leaf) (S : Small p) : runP E (dL E) 157 [dLeaf l, .iptr (dProb p).cellsL] = some (.bool (decide (okLeaf p l))) := by
  refine runP_T c157 (by simp) ?_
  have h172 := r172 p l.branch S
  simp only [dProb, dInts] at h172
  obtain ⟨B, hB⟩ : ∃ B, B = OkB p l.branch := ⟨_, rfl⟩
  rw [okLeaf_dec, ← hB]
  rw [← hB] at h172
  by_cases k6 : l.mult = []
  · by_cases k1 : l.kind = 1
    · by_cases k3 : (l.branch.length : Int) = p.vars.length
      · have k4 : l.branch.length = p.vars.length := by omega
        by_cases k5 : B <;> simp [t157, n157, h172, k1, k3, k4, k5, k6]
      · have k4 : ¬ l.branch.length = p.vars.length := by omega
        by_cases k5 : B <;> simp [t157, n157, h172, k1, k3, k4, k5, k6]
    · by_cases k5 : B
      · by_cases k2 : l.kind = 2
        · simp [t157, n157, h172, k2, k5, k6]
        · simp [t157, n157, h172, k1, k2, k5, k6]
      · simp [t157, n157, h172, k1, k5, k6]
  · have k7 : ¬ l.mult.length = 0 := fun h => k6 (List.eq_nil_of_length_eq_zero h)
    by_cases k1 : l.kind = 1
    · by_cases k3 : (l.branch.length : Int) = p.vars.length
      · by_cases k5 : B <;> simp [t157, n157, h172, k1, k3, k5, k6, k7]
      · by_cases k5 : B <;> simp [t157, n157, h172, k1, k3, k5, k6, k7]
    · by_cases k5 : B <;> simp [t157, n157, h172, k1, k5, k6, k7]

open Classical in
theorem r160 (p : Prob) (l : Leaf) (S : Small p) : runP E (dL E) 160 [dLeaf l, .iptr [.fn 157 [.iptr (dProb p).cellsL]]] = some (.bool (!decide (okLeaf p l))) := by
  refine runP_T c160 (by simp) ?_
  have h157 := r157 p l S
  simp only [dLeaf, dProb, dInts, cellsL_agg] at h157
  simp [t160, n160, h157, frzL_leaf]

theorem r173 (l : List (List Int)) (k : Nat) (caps : List D) (f : List Int → Bool) (hc : frzL (frz [] 11) caps = some caps) (hd : frzL (frz [] 12) caps = some caps) (hf : ∀ x, runP E (dL E) k (dInts x :: caps) = some (.bool (f x))) (hl : l.length ≤ 1000000000) :
    runP E (dL E) 173 [.imm .none (l.map dInts), .fn k caps] = some (dI (idxI f l 0)) := by
  refine runP_T c173 (by simp) ?_
  simp [t173, n173]
  refine wT_up l.length (fun i env hp => ∃ (x3 x6 x7 : D) , env = [.imm .none (l.map dInts), .fn k caps, dI 0, x3, dI l.length, dI i, x6, x7] ∧ idxI f (l.drop i) i = idxI f l 0) 0 (by omega) ⟨_, _, _, rfl, rfl⟩ ?_
  rintro i env hp hi ⟨x3, x6, x7, rfl, hm⟩
  by_cases hlt : i < l.length
  · rw [drop_cons hlt] at hm
    have hk := hf l[i]
    simp only [dInts] at hk
    cases h0 : f l[i] with
    | true =>
      simp [idxI, h0] at hm
      simp [hlt, hk, hd, h0, ← hm]
    | false =>
      simp [idxI, h0] at hm
      simp [hlt, hk, hd, h0, wrap_up hlt (by omega), hm]
  · have : i = l.length := by omega
    subst this
    simp [idxI] at hm
    simp [← hm]

theorem r159 (l : List (List Int)) (k : Nat) (caps : List D) (f : List Int → Bool) (hc : frzL (frz [] 11) caps = some caps) (hd : frzL (frz [] 12) caps = some caps) (hf : ∀ x, runP E (dL E) k (dInts x :: caps) = some (.bool (f x))) (hl : l.length ≤ 1000000000) :
    runP E (dL E) 159 [.imm .none (l.map dInts), .fn k caps] = some (.bool (l.any f)) := by
  refine runP_T c159 (by simp) ?_
  simp [t159, n159, r173 l k caps f hc hd hf hl, hc, idxI_any]

theorem r174 (l : List Leaf) (k : Nat) (caps : List D) (f : Leaf → Bool) (hc : frzL (frz [] 11) caps = some caps) (hd : frzL (frz [] 12) caps = some caps) (hf : ∀ x, runP E (dL E) k (dLeaf x :: caps) = some (.bool (f x))) (hl : l.length ≤ 1000000000) :
    runP E (dL E) 174 [.imm .none (l.map dLeaf), .fn k caps] = some (dI (idxI f l 0)) := by
  refine runP_T c174 (by simp) ?_
  simp [t174, n174]
  refine wT_up l.length (fun i env hp => ∃ (x3 x6 x7 : D) , env = [.imm .none (l.map dLeaf), .fn k caps, dI 0, x3, dI l.length, dI i, x6, x7] ∧ idxI f (l.drop i) i = idxI f l 0) 0 (by omega) ⟨_, _, _, rfl, rfl⟩ ?_
  rintro i env hp hi ⟨x3, x6, x7, rfl, hm⟩
  by_cases hlt : i < l.length
  · rw [drop_cons hlt] at hm
    have hk := hf l[i]
    simp only [dLeaf, dInts] at hk
    cases h0 : f l[i] with
    | true =>
      simp [idxI, h0] at hm
      simp [hlt, hk, hd, h0, ← hm]
    | false =>
      simp [idxI, h0] at hm
      simp [hlt, hk, hd, h0, wrap_up hlt (by omega), hm]
  · have : i = l.length := by omega
    subst this
    simp [idxI] at hm
    simp [← hm]

theorem r161 (l : List Leaf) (k : Nat) (caps : List D) (f : Leaf → Bool) (hc : frzL (frz [] 11) caps = some caps) (hd : frzL (frz [] 12) caps = some caps) (hf : ∀ x, runP E (dL E) k (dLeaf x :: caps) = some (.bool (f x))) (hl : l.length ≤ 1000000000) :
    runP E (dL E) 161 [.imm .none (l.map dLeaf), .fn k caps] = some (.bool (l.any f)) := by
  refine runP_T c161 (by simp) ?_
  simp [t161, n161, r174 l k caps f hc hd hf hl, hc, idxI_any, frzL_leaf]

theorem r162 (a b : List Int) (hl : a.length ≤ 1000000000) : runP E (dL E) 162 [dInts a, dInts b] = some (.bool (decide (a = b))) := by
  refine runP_T c162 (by simp) ?_
  generalize hB : decide (a = b) = B
  have hBf : a ≠ b → B = false := by intro h; rw [← hB]; simp [h]
  have hBt : a = b → B = true := by intro h; rw [← hB]; simp [h]
  simp [t162, n162]
  by_cases h : (a.length : Int) = b.length
  rotate_left
  · have hb := hBf (fun e => h (by rw [e]))
    simp [h, hb]
  simp [h]
  have h' : a.length = b.length := by omega
  refine wT_all b.length (fun i => a[i]? = b[i]?)
    (fun i env hp => ∃ (x2 x3 x4 x7 x8 : D) , env = [dInts a, dInts b, x2, x3, x4, dI b.length, dI i, x7, x8])
    ⟨_, _, _, _, _, rfl⟩ ?_ ?_
  · rintro i env hp hi ⟨x2, x3, x4, x7, x8, rfl⟩ hall
    have hi' : i < a.length := by omega
    by_cases k1 : a[i] = b[i]
    · have hPi : a[i]? = b[i]? := by simp [hi, hi', k1]
      simp [hi, hi', k1, wrap_up hi (by omega), hPi]
    · have hb := hBf (fun e => k1 (by subst e; rfl))
      simp [hi, hi', k1, hb]
  · rintro env hp ⟨x2, x3, x4, x7, x8, rfl⟩ hall
    have e : a = b := List.ext_getElem? fun i => by
      by_cases hi : i < a.length
      · exact hall i (by omega)
      · rw [List.getElem?_eq_none (by omega), List.getElem?_eq_none (by omega)]
    simp [hBt e]

open Classical in
/-- what Check answers -/
noncomputable def sk (p : Prob) (s : Srch) : Int := if OkP p then (if OkS p s then 0 else 300) else 270
structure SmS (p : Prob) (s : Srch) : Prop where
  most : wO p s.opn + s.leaves.length ≤ 1000000000
theorem wO_ge {p : Prob} : ∀ {l : List (List Int)}, l.length ≤ wO p l
  | [] => by simp [wO]
  | b :: l => by
    have h1 := wB_pos (p := p) (b := b)
    have h2 := wO_ge (p := p) (l := l)
    simp only [wO, List.length_cons]; omega
theorem SmS.opn {p : Prob} {s : Srch} (h : SmS p s) : s.opn.length ≤ 1000000000 := by
  have := h.most; have := wO_ge (p := p) (l := s.opn); omega
theorem SmS.lvs {p : Prob} {s : Srch} (h : SmS p s) : s.leaves.length ≤ 1000000000 := by
  have := h.most; omega

theorem okS_iff {p : Prob} {s : Srch} (ok : OkP p) : OkS p s ↔ ((∀ b, b ∈ s.opn → OkB p b) ∧ (∀ l, l ∈ s.leaves → okLeaf p l)) ∧ ((s.value.length = 0 ∧ s.best.length = 0) ∨ (Whole p s.best ∧ boundL p s.best = s.value)) := by
  constructor
  · rintro ⟨a, b, c⟩
    refine ⟨⟨a, b⟩, ?_⟩
    rcases c with ⟨c, d⟩ | ⟨c, d⟩
    · exact .inl ⟨by rw [c]; rfl, by rw [d]; rfl⟩
    · exact .inr ⟨c, d.symm⟩
  · rintro ⟨⟨a, b⟩, c⟩
    refine ⟨a, b, ?_⟩
    rcases c with ⟨c, d⟩ | ⟨c, d⟩
    · exact .inl ⟨List.eq_nil_of_length_eq_zero c, List.eq_nil_of_length_eq_zero d⟩
    · exact .inr ⟨c, d.symm⟩

open Classical in
theorem any_not {A : Type} {P : A → Prop} {l : List A} : l.any (fun x => !decide (P x)) = !decide (∀ x, x ∈ l → P x) := by
  rw [Bool.eq_iff_iff]
  simp

open Classical in
set_option maxHeartbeats 4000000 in
theorem r142 (p : Prob) (s : Srch) (S : Small p) (M : SmS p s) : runP E (dL E) 142 [dProb p, dSrch s] = some (dI (sk p s)) := by
  refine runP_T c142 (by simp) ?_
  have h15 := r15 p S
  simp only [dProb] at h15
  by_cases h0 : OkP p
  rotate_left
  · have e : ck p = 270 := by simp [ck, h0]
    simp [t142, n142, h15, e, sk, h0]
  have e : ck p = 0 := by simp [ck, h0]
  have h159 := r159 s.opn 158 [.iptr (dProb p).cellsL] (fun b => !decide (OkB p b)) (by simp) (by simp) (fun b => r158 p b S) M.opn
  have h161 := r161 s.leaves 160 [.iptr [.fn 157 [.iptr (dProb p).cellsL]]] (fun l => !decide (okLeaf p l)) (by simp) (by simp) (fun l => r160 p l S) M.lvs
  have h22 := q22 p s.best S
  rw [any_not] at h159 h161
  simp only [dProb, dInts, cellsL_agg] at h159 h161 h22
  obtain ⟨A, hA⟩ : ∃ A, A = ∀ x, x ∈ s.opn → OkB p x := ⟨_, rfl⟩
  obtain ⟨B, hB⟩ : ∃ B, B = ∀ x, x ∈ s.leaves → okLeaf p x := ⟨_, rfl⟩
  have hsk : sk p s = if (A ∧ B) ∧ ((s.value.length = 0 ∧ s.best.length = 0) ∨ (Whole p s.best ∧ boundL p s.best = s.value)) then 0 else 300 := by
    simp only [sk, h0, if_true, okS_iff h0, hA, hB]
  rw [hsk]
  simp only [← hA] at h159
  simp only [← hB] at h161
  simp only [List.length_eq_zero_iff]
  by_cases kA : A
  rotate_left
  · simp [t142, n142, h15, e, h159, kA, rTS_effh, gdD_b, frzL_leaf]
  by_cases kB : B
  rotate_left
  · simp [t142, n142, h15, e, h159, h161, kA, kB, rTS_effh, gdD_b, frzL_leaf]
  have tail : ¬ (s.value = [] ∧ s.best = []) → (if Whole p s.best then (if boundL p s.best = s.value then (0 : Int) else 300) else 300) = if (A ∧ B) ∧ ((s.value = [] ∧ s.best = []) ∨ (Whole p s.best ∧ boundL p s.best = s.value)) then 0 else 300 := fun h => by
    by_cases w : Whole p s.best <;> by_cases q : boundL p s.best = s.value <;> simp [kA, kB, h, w, q]
  by_cases kv : s.value = [] ∧ s.best = []
  · simp [t142, n142, h15, e, h159, h161, kA, kB, rTS_effh, gdD_b, frzL_leaf, kv.1, kv.2]
  rw [← tail kv]
  have h162 := r162 (boundL p s.best) s.value (by simp [boundL])
  simp only [dInts] at h162
  have k1 : (if s.value = [] then (decide (s.best = []) : Bool) else false) = false := by
    by_cases a : s.value = []
    · have b : ¬ s.best = [] := fun b => kv ⟨a, b⟩
      simp [a, b]
    · simp [a]
  obtain ⟨V, hV⟩ : ∃ V, V = boundL p s.best := ⟨_, rfl⟩
  rw [← hV] at h162 ⊢
  have hVn : V ≠ [] := by rw [hV]; simp [boundL]
  by_cases w : Whole p s.best
  · simp only [resV, if_pos w, ← hV] at h22
    by_cases q : V = s.value
    · rw [q] at h22 h162 hVn
      simp [t142, n142, h15, e, h159, h161, kA, kB, rTS_effh, gdD_b, frzL_leaf, h22, h162, w, q, hVn]
    · by_cases a : s.value = []
      · have b : ¬ s.best = [] := fun b => kv ⟨a, b⟩
        have b2 : ((s.best.length : Int) == 0) = false := by
          have : ¬ s.best.length = 0 := fun h => b (List.eq_nil_of_length_eq_zero h)
          simpa using this
        simp only [a, List.map_nil] at h162
        simp [t142, n142, h15, e, h159, h161, kA, kB, rTS_effh, gdD_b, frzL_leaf, h22, h162, w, hVn, a, b2]
      · simp [t142, n142, h15, e, h159, h161, kA, kB, rTS_effh, gdD_b, frzL_leaf, h22, h162, w, q, a]
  · simp only [resV, if_neg w] at h22
    by_cases a : s.value = []
    · have b : ¬ s.best = [] := fun b => kv ⟨a, b⟩
      have b2 : ((s.best.length : Int) == 0) = false := by
        have : ¬ s.best.length = 0 := fun h => b (List.eq_nil_of_length_eq_zero h)
        simpa using this
      simp [t142, n142, h15, e, h159, h161, kA, kB, rTS_effh, gdD_b, frzL_leaf, h22, w, a, b2]
    · simp [t142, n142, h15, e, h159, h161, kA, kB, rTS_effh, gdD_b, frzL_leaf, h22, w, a]

structure Cert where
  best : List Int
  value : List Int
  leaves : List Leaf
abbrev dCert (c : Cert) : D := .agg [dInts c.best, dInts c.value, .imm .none (c.leaves.map dLeaf)]
def cert0 : Cert := ⟨[], [], []⟩
def certS (s : Srch) : Cert := ⟨s.best, s.value, s.leaves⟩

noncomputable def resCert (p : Prob) (s : Srch) : D :=
  if sk p s = 0 then (if s.opn.length = 0 ∧ s.value.length ≠ 0 then .tup [dCert (certS s), dI 0] else .tup [dCert cert0, dI 300]) else .tup [dCert cert0, dI (sk p s)]

theorem r133 (p : Prob) (s : Srch) (S : Small p) (M : SmS p s) : runP E (dL E) 133 [dProb p, dSrch s] = some (resCert p s) := by
  refine runP_T c133 (by simp) ?_
  have h142 := r142 p s S M
  have h140 := r140 s
  simp only [dProb, dSrch, dInts] at h142 h140
  by_cases h : sk p s = 0
  rotate_left
  · simp [t133, n133, h142, h, resCert, cert0, frzL_leaf]
  by_cases a : s.opn.length = 0
  rotate_left
  · simp only [a, decide_false] at h140
    simp [t133, n133, h142, h140, h, a, resCert, cert0, frzL_leaf]
  simp only [a, decide_true] at h140
  have a2 : s.opn = [] := List.eq_nil_of_length_eq_zero a
  simp only [a2, List.map_nil] at h142 h140
  by_cases b : s.value = []
  · simp only [b, List.map_nil] at h142 h140
    simp [t133, n133, h142, h140, h, a, a2, b, resCert, cert0, frzL_leaf]
  · have b2 : ¬ s.value.length = 0 := fun h => b (List.eq_nil_of_length_eq_zero h)
    simp [t133, n133, h142, h140, h, a, a2, b, b2, resCert, certS, frzL_leaf]

def lightB (p : Prob) : Bool := fewB p && decide (manyP p 400 ≤ 300)
theorem r129 (p : Prob) : runP E (dL E) 129 [dProb p] = some (.bool (lightB p)) := by
  refine runP_T c129 (by simp) ?_
  have h2 := r2 p
  simp only [dProb] at h2
  cases hf : fewB p with
  | false => simp [t129, n129, h2, hf, lightB]
  | true =>
    have S := few_small hf
    have h61 := r61 p 400 (fun v hv => S.choices v hv) (by decide) S.vars
    simp only [dProb] at h61
    simp [t129, n129, h2, hf, h61, lightB]

/-- valid multipliers -/
structure OkM (p : Prob) (m : List (List Int)) : Prop where
  len : m.length = p.capacity.length
  rows : ∀ l, l ∈ m → l.length = p.cells.length ∧ ∀ n, n ∈ l → 0 ≤ n ∧ n ≤ 65536

open Classical in
noncomputable def mk (p : Prob) (m : List (List Int)) : Int := if OkP p then (if OkM p m then 0 else 290) else 270

def mu (m : List (List Int)) (leaf : Int) (k : Nat) : Int := (m.getD leaf.toNat []).getD k 0

end Dv

/- Plain facts: the order of the variables does not matter, and without one of them nothing becomes greater. -/
namespace Dv

/-- the same problem with other variables -/
def other (p : Prob) (vs : List Var) : Prob := { p with vars := vs }

end Dv

/- Better multipliers: what is meant. -/
namespace Dv

/-! rows in the heap, each at a place of its own -/

/-- the head of a row -/
def hd (n id : Nat) : D := if n = 0 then .imm .exact [] else .sl id 0 n 1 false true
end Dv

namespace Dv
attribute [local simp] wT_skip wK wT_ret wT_exit wR wRp wT_seq wC wT_block rTS_nil rTS_asg rTS_eff rTS_effk rTS_effg gdV_b binD_and binD_or binD_xor stepOp_call3 closed_bool closed_int closed_tup flatB_bool flatB_int frzX_tup frzX_exact frz1_exact frz1_none frz1_int ob_some obP_some iteD_b condP_b xv_v xv_c xv_ite xv_bin_tt xv_bin_tc xv_bin_ct xv_bin_cc xv_un_t xv_conv_t xv_load xv_len xv_faddr xv_field xv_iaddr_tt xv_iaddr_tc xv_index_tt xv_index_tc xv_lookup_tt xv_max_tt xv_max_tc xv_max_ct xv_min_tt xv_min_tc xv_min_ct xv_slice_lo_t xv_slice_lo_c xv_slice_hi_t xv_slice_all xv_call xv_bslice bsliceV xv_build buildV xv_mkfn zeroE fillE buildD fillD List.replicate xvs_nil xvs_cons callV_fn frz_bool frz_int frz_imm frz_agg frz_tup frz_fn frz_iptr frzL_nil frzL_one frzL_dI frzL_cell frzL_use frzL_ints frzL_choice frzL_var depth dCell dUse dInts dChoice dVar dProb tStart addO Ret flat_dI flat_rep chunk_dI
 binD_add binD_sub binD_mul binD_eql binD_neq binD_lss binD_leq binD_gtr binD_geq binD_quo binD_rem binD_beql binD_bneq binD_aeql binD_aneq unD_not unD_neg lenD_imm lenD_sl lenD_str readO_cells readO_frozen loadD_loc loadD_iptr iaddrD_imm iaddrD_sl iaddrD_loc faddrD_loc faddrD_iptr fieldD_agg indexD_agg indexD_str cellsL_bool stor_bool atom_bool cellsL_int stor_int atom_int cellsL_str stor_str atom_str cellsL_imm stor_imm atom_imm cellsL_sl stor_sl atom_sl cellsL_loc stor_loc atom_loc cellsL_iptr stor_iptr atom_iptr cellsL_map stor_map atom_map cellsL_fn stor_fn atom_fn cellsL_agg stor_agg cellsL_nilfn stor_nilfn atom_nilfn cellsL_nilp stor_nilp atom_nilp takeC_z takeC_s ofCells_ag ofCells_one ag_bool ag_int ag_str ag_slice ag_struct ag_arr ag_map ag_ptr ag_func gOf_t gOf_c gOf_f kv_cons putE_some putE_none oneRes_one oneRes_two oneRes_three getAll_nil getAll_v getAll_c maxiD_two miniD_two extV_tup xv_ext stepOp_box stepOp_alloc stepOp_store writeO_cells storeD_loc setCells_nil setCells_cons stepOp_mkmap stepOp_mapset stepOp_call1 stepOp_call2 stepOp_app2 stepOp_app1 stepOp_bslice stepOp_mkslice mapO_map lookupD_some lookupD_ok mapsetD_some keyOk_agg kindsL_nil kindsL_bool kindsL_int eqL_nil eqL_cons atomEq_bool atomEq_int frz_sl tokO_tok app0_step app0_exact app0_tok frz_loc oneRes_nil listOf_imm
  ty_0 ty_1 ty_2 ty_3 ty_4 ty_6 ty_7 ty_8 ty_9 ty_10 ty_11 ty_13 ty_14 ty_15 ty_16 ty_17 ty_18 ty_19 ty_20 ty_21 ty_22 ty_23 ty_24 ty_26 ty_28 ty_29 ty_30 ty_31 ty_32 ty_33 ty_34 ty_35
attribute [local congr] wT_congr ob_congr obP_congr iteD_congr condP_congr gdV_congr


theorem fitsA_ints {l : List (List Int)} : fitsE 1 (l.map dInts) = true := by
  unfold fitsE
  rw [List.all_eq_true]
  intro x hx
  obtain ⟨r, _, rfl⟩ := List.mem_map.1 hx
  rfl
theorem flat_nil : flat [] = [] := rfl
theorem slice_fullA {l : List (List Int)} {sp : Spare} : sliceD E 35 (.imm sp (l.map dInts)) none (some (dI l.length)) (some (dI l.length)) = some (.imm .exact (l.map dInts)) := by
  have hh : headFits 1 (l.map dInts) = true := by cases l <;> rfl
  have hq : (l.map dInts).take l.length = l.map dInts := List.take_of_length_le (by simp)
  simp [sliceD, bnd, sliceSpare, hh, hq]
theorem slice_fullL {l : List Leaf} {sp : Spare} : sliceD E 31 (.imm sp (l.map dLeaf)) none (some (dI l.length)) (some (dI l.length)) = some (.imm .exact (l.map dLeaf)) := by
  have hh : headFits 3 (l.map dLeaf) = true := by cases l <;> rfl
  have hq : (l.map dLeaf).take l.length = l.map dLeaf := List.take_of_length_le (by simp)
  simp [sliceD, bnd, sliceSpare, hh, hq]

theorem r175 (l : List (List Int)) : runP E (dL E) 175 [.imm .none (l.map dInts)] = some (.imm .exact (l.map dInts)) := by
  refine runP_X c175 (by simp) ?_
  simp [t175, n175, xv_slice3, slice_fullA]

theorem r166 (l : List Leaf) : runP E (dL E) 166 [.imm .none (l.map dLeaf)] = some (.imm .exact (l.map dLeaf)) := by
  refine runP_X c166 (by simp) ?_
  simp [t166, n166, xv_slice3, slice_fullL, frzL_leaf]

theorem r165 (l : List (List Int)) (hl : l.length ≤ 1000000000) : runP E (dL E) 165 [.imm .none (l.map dInts)] = some (.imm .none (l.map dInts)) := by
  refine runP_T c165 (by simp) ?_
  by_cases h0 : l = []
  · subst h0
    simp [t165, n165, appendM, applyEf]
  · have h1 : ¬ l.length = 0 := fun h => h0 (List.eq_nil_of_length_eq_zero h)
    have hb : ((l.map dInts).all fun d => d.storable && d.cellsL.length == 1) = true := fitsA_ints
    have hm : l.length * 25 ≤ maxBytes := by unfold maxBytes; omega
    have hc : chunk 1 false l.length (l.map dInts) = some (l.map dInts) := by
      have := chunk_one (l := l.map dInts)
      rwa [List.length_map] at this
    simp [t165, n165, appendM, applyEf, listOf, hb, h0, hm, fitsE, flat_nil, flat_ints, hc]

theorem r168 (m : List (List Int)) (b : List Int) (hm : m.length ≤ 1000000000) : runP E (dL E) 168 [.imm .none ((m ++ [b]).map dInts)] = some (.tup [dInts b, .imm .exact (m.map dInts)]) := by
  refine runP_X c168 (by simp) ?_
  have h175 := r175 m
  have w := wrap_i64 (n := (m.length : Int) + 1 - 1) ⟨by omega, by omega⟩
  have w2 : (m.length : Int) + 1 - 1 = m.length := by omega
  have hg : (List.map dInts m ++ [D.imm Spare.none (List.map dI b)])[m.length]? = some (D.imm Spare.none (List.map dI b)) := by
    rw [List.getElem?_append_right (by simp)]; simp
  have hh : headFits 1 (List.map dInts m ++ [D.imm Spare.none (List.map dI b)]) = true := by cases m <;> rfl
  have hs : sliceD E 35 (.imm .none (List.map dInts m ++ [D.imm Spare.none (List.map dI b)])) none (some (dI m.length)) none = some (.imm .none (List.map dInts m)) := by
    have ht : (List.map dInts m ++ [D.imm Spare.none (List.map dI b)]).take m.length = List.map dInts m := by
      rw [List.take_append_of_le_length (by simp), List.take_of_length_le (by simp)]
    simp [sliceD, bnd, sliceSpare, hh, ht]
  rw [w2] at w
  simp [t168, n168, w, w2, hg, hs, h175]

theorem r169 (l : List (List Int)) : runP E (dL E) 169 [.imm .none (l.map dInts)] = some (.fn 176 [.iptr [.imm .none (l.map dInts)]]) := by
  refine runP_T c169 (by simp) ?_
  simp [t169, n169]

/-- the branches, the last one first -/
theorem i176 (l : List (List Int)) (hl : l.length ≤ 1000000000) (k : Nat) (J : List (List Int) → List Obj → Prop) (Fin : List Obj → Prop)
    (hy : ∀ x rem hp, J (x :: rem) hp → ∃ t hp', runY (dL E) k [dInts x] hp = some (.bool t, hp') ∧ (t = true → J rem hp') ∧ (t = false → Fin hp')) {hp : List Obj}
    (h0 : J l.reverse hp) :
    ∃ d hp', runS E (dL E) 176 [.yld k, .iptr [.imm .none (l.map dInts)]] hp = some (d, hp') ∧ (J [] hp' ∨ Fin hp') := by
  refine runS_T c176 (R := fun _ hp' => J [] hp' ∨ Fin hp') (by simp) ?_
  have w := wrap_i64 (n := (l.length : Int) - 1) ⟨by omega, by omega⟩
  simp [t176, n176, w]
  refine wT_up l.length (fun i env hp => ∃ (x3 x4 x5 : D) , env = [.yld k, .iptr [.imm .none (l.map dInts)], dI ((l.length : Int) - 1 - i), x3, x4, x5] ∧ J ((l.take (l.length - i)).reverse) hp) 0 (by omega) ⟨.undef, .undef, .undef, by simp, by simpa using h0⟩ ?_
  rintro i env hp hi ⟨x3, x4, x5, rfl, hJ⟩
  by_cases hlt : i < l.length
  rotate_left
  · have : i = l.length := by omega
    subst this
    have e1 : (l.length : Int) - 1 - l.length = -1 := by omega
    simp only [Nat.sub_self, List.take_zero, List.reverse_nil] at hJ
    rw [e1]
    simp [hJ]
  obtain ⟨j, hj⟩ : ∃ j, l.length - i = j + 1 := ⟨l.length - i - 1, by omega⟩
  have hjl : j < l.length := by omega
  have ej : (l.length : Int) - 1 - i = j := by omega
  have e2 : (0 : Int) ≤ j := by omega
  have e3 := wrap_i64 (n := (j : Int) - 1) ⟨by omega, by omega⟩
  rw [hj, List.take_succ_eq_append_getElem hjl, List.reverse_append] at hJ
  simp only [List.reverse_singleton, List.singleton_append] at hJ
  obtain ⟨t, hp2, hy1, hy2, hy3⟩ := hy _ _ _ hJ
  simp only [dInts] at hy1
  have hn : l.length - (i + 1) = j := by omega
  have e4 : (l.length : Int) - 1 - (i + 1) = (j : Int) - 1 := by omega
  rw [ej]
  cases t with
  | true =>
    have hJ2 := hy2 rfl
    simp [hjl, hy1, hn, e3, e4, hlt, hJ2]
  | false =>
    have hF := hy3 rfl
    simp [hjl, hy1, hF]

/-- the room behind a list is its own, or there is none -/
def Room (C : Nat) (hp : List Obj) (sp : Spare) (n sz : Nat) : Prop := sp = .exact ∨ ∃ k, sp = .tok k ∧ C ≤ k ∧ At hp k (.tok (n * sz) sz)
/-- nothing changes but at one place and behind C -/
def Keep (i C : Nat) (hp hp' : List Obj) : Prop := ∀ J : List Obj → Prop, (∀ hp r, J hp → J (hp ++ r)) → (∀ hp j o, J hp → (j = i ∨ C ≤ j) → J (hp.set j o)) → J hp → J hp'
theorem Keep.at {i C : Nat} {hp hp' : List Obj} (h : Keep i C hp hp') {j : Nat} {o : Obj} (hj : j ≠ i) (hC : j < C) (g : At hp j o) : At hp' j o :=
  h (fun hp => At hp j o) (fun _ _ h => h.app) (fun _ k _ h hk => h.ne (by rcases hk with rfl | hk; exact fun e => hj e.symm; omega)) g
theorem Keep.refl {i C : Nat} {hp : List Obj} : Keep i C hp hp := fun _ _ _ h => h
theorem Keep.trans {i C : Nat} {hp hp' hp'' : List Obj} (h : Keep i C hp hp') (h' : Keep i C hp' hp'') : Keep i C hp hp'' := fun J h1 h2 h3 => h' J h1 h2 (h J h1 h2 h3)
theorem Keep.app {i C : Nat} {hp r : List Obj} : Keep i C hp (hp ++ r) := fun _ h1 _ h3 => h1 _ _ h3
theorem Keep.set {i C j : Nat} {o : Obj} {hp : List Obj} (hj : j = i ∨ C ≤ j) : Keep i C hp (hp.set j o) := fun _ _ h2 h3 => h2 _ _ _ h3 hj

abbrev nLeaf (l : Leaf) : D := .agg [dInts l.branch, dI l.kind, .imm .exact []]
def dLs (ls ns : List Leaf) : List D := ls.map dLeaf ++ ns.map nLeaf
theorem dLs_len {ls ns : List Leaf} : (dLs ls ns).length = ls.length + ns.length := by simp [dLs]
theorem dLs_snoc {ls ns : List Leaf} {b : List Int} {kd : Int} : dLs ls ns ++ [.agg [dInts b, dI kd, .imm .exact []]] = dLs ls (ns ++ [⟨b, kd, []⟩]) := by simp [dLs]
theorem fits_dLs {ls ns : List Leaf} : fitsE 3 (dLs ls ns) = true := by
  unfold fitsE
  rw [List.all_eq_true]
  intro x hx
  rcases List.mem_append.1 hx with hx | hx
  · obtain ⟨r, _, rfl⟩ := List.mem_map.1 hx; rfl
  · obtain ⟨r, _, rfl⟩ := List.mem_map.1 hx; rfl
theorem appOk_dLs {ls ns : List Leaf} {x : D} (h : ls.length + ns.length ≤ 1000000000) : appOk E 32 (dLs ls ns) [x] := by
  refine ⟨?_, ?_, ?_, fits_dLs⟩ <;> simp [maxBytes, dLs_len]
  omega
theorem frzL_snd {hp : List Obj} {n : Nat} : ∀ {l r l' r' : List D}, frzL (frz hp n) l = some l' → frzL (frz hp n) r = some r' → frzL (frz hp n) (l ++ r) = some (l' ++ r')
  | [], r, l', r', h, h' => by simp only [frzL_nil, Option.some.injEq] at h; subst h; exact h'
  | x :: l, r, l', r', h, h' => by
    rw [frzL_one] at h
    rw [List.cons_append, frzL_one]
    cases hx : frz hp n x with
    | none => rw [hx] at h; cases h
    | some y =>
      rw [hx, ob_some] at h
      rw [ob_some]
      cases hl : frzL (frz hp n) l with
      | none => rw [hl] at h; cases h
      | some z =>
        rw [hl, ob_some, Option.some.injEq] at h
        subst h
        rw [frzL_snd hl h', ob_some, List.cons_append]
theorem frzL_nLeaf {hp : List Obj} {n : Nat} : ∀ {l : List Leaf}, (∀ x, x ∈ l → x.mult = []) → frzL (frz hp (n + 4)) (l.map nLeaf) = some (l.map dLeaf)
  | [], _ => rfl
  | x :: l, h => by
    rw [List.map_cons, frzL_one, frz_agg]
    simp only [frzL_one, frz_int, ob_some, frz_imm, frzL_dI, Option.map_some, frzL_nil]
    rw [frzL_nLeaf fun y hy => h y (by simp [hy])]
    simp [h x (by simp)]
theorem frzL_dLs {hp : List Obj} {n : Nat} {ls ns : List Leaf} (h : ∀ x, x ∈ ns → x.mult = []) : frzL (frz hp (n + 4)) (dLs ls ns) = some ((ls ++ ns).map dLeaf) := by
  unfold dLs
  rw [frzL_snd frzL_leaf (frzL_nLeaf h), List.map_append]

theorem s167 {i C : Nat} {hp : List Obj} {o be v : D} {sp : Spare} (b : List Int) (kd : Int) (ls ns : List Leaf) (hn : ls.length + ns.length ≤ 1000000000)
    (g : At hp i (.cells [o, be, v, .imm sp (dLs ls ns)])) (R : Room C hp sp (ls.length + ns.length) 3) (hC : C ≤ hp.length) (hi : i < C) :
    ∃ d hp', runS E (dL E) 167 [dInts b, dI kd, .loc i 0] hp = some (d, hp') ∧ ∃ sp', At hp' i (.cells [o, be, v, .imm sp' (dLs ls (ns ++ [⟨b, kd, []⟩]))]) ∧ Room C hp' sp' (ls.length + ns.length + 1) 3 ∧ Keep i C hp hp' ∧ hp.length ≤ hp'.length := by
  refine runS_T c167 (args := [dInts b, dI kd, .loc i 0]) (hp := hp) (R := fun _ hp' => ∃ sp', At hp' i (.cells [o, be, v, .imm sp' (dLs ls (ns ++ [⟨b, kd, []⟩]))]) ∧ Room C hp' sp' (ls.length + ns.length + 1) 3 ∧ Keep i C hp hp' ∧ hp.length ≤ hp'.length) (by simp) ?_
  have ha := fun x => appOk_dLs (ls := ls) (ns := ns) (x := x) hn
  have hl := g.lt
  rcases R with rfl | ⟨k, rfl, hk, hk2⟩
  · simp [t167, n167, g.eq, app0_step, app0_exact, ha, ↓g.appE, dLs_snoc, dLs_len]
    refine ⟨_, At.self (by simp; omega), .inr ⟨hp.length, rfl, hC, At.ne (by simp [At]) (by omega)⟩, Keep.app.trans (Keep.set (.inl rfl))⟩
  · have g2 := g.ne (j := k) (x := .dead) (by omega)
    simp [t167, n167, g.eq, app0_step, app0_tok, ha, hk2.eq, dLs_snoc, dLs_len, ↓g2.appE]
    refine ⟨_, At.self (by simp; omega), .inr ⟨hp.length, rfl, hC, At.ne (by simp [At]) (by omega)⟩, ((Keep.set (.inr hk)).trans Keep.app).trans (Keep.set (.inl rfl))⟩

theorem wT_loop {E : Env} {a : TC} {Q : Ex → List D → List Obj → Prop} {env : List D} {hp : List Obj} (I : Nat → List D → List Obj → Prop) (k : Nat) (h0 : I k env hp)
    (step : ∀ k env hp, I k env hp → wT E a (fun ex env' hp' => match ex with
      | .normal => ∃ k', k' < k ∧ I k' env' hp'
      | ex => Q ex env' hp') env hp) : wT E (.loop a) Q env hp := ⟨I, k, h0, step⟩

theorem SmS.exam {p : Prob} {s : Srch} (M : SmS p s) (hs : OkS p s) : SmS p (exam p s) := by
  by_cases hn : s.opn = []
  · rw [exam_nil hn]; exact M
  have h1 := exam_less hn hs.opn
  have h2 := M.most
  have h3 : (Dv.exam p s).leaves.length ≤ s.leaves.length + 1 := by
    obtain ⟨l, b, hl⟩ : ∃ l b, s.opn = l ++ [b] := ⟨s.opn.dropLast, s.opn.getLast hn, (List.dropLast_concat_getLast hn).symm⟩
    rw [exam_snoc hl]
    unfold examB
    split
    · split <;> simp
    · split <;> simp
  exact ⟨by omega⟩
theorem SmS.iter {p : Prob} (ok : OkP p) : ∀ {n : Nat} {s : Srch}, SmS p s → OkS p s → SmS p (iter p n s)
  | 0, _, h, _ => h
  | n + 1, s, h, hs => SmS.iter (n := n) (s := Dv.exam p s) ok (h.exam hs) (hs.exam ok)

set_option maxHeartbeats 16000000 in
theorem s150 (p : Prob) (s : Srch) (S : Small p) (ok : OkP p) (M : SmS p s) (hs : OkS p s) (k : Nat) (caps : List D) (more : Nat → Bool) (hp0 : List Obj) (K : Nat → List Obj → Prop)
    (hm : ∀ n hp, K n hp → ∃ hp', runS E (dL E) k caps hp = some (.bool (more n), hp') ∧ K (n + 1) hp' ∧ ∀ j o, hp0.length ≤ j → At hp j o → At hp' j o)
    (hK1 : ∀ n hp r, K n hp → K n (hp ++ r)) (hK2 : ∀ n hp j o, K n hp → hp0.length ≤ j → K n (hp.set j o)) (h0 : K 0 hp0) :
    ∃ d hp', runS E (dL E) 150 [dProb p, dSrch s, .fn k caps] hp0 = some (d, hp') ∧ ∃ n ns sp1 sp2, (∀ j, j < n → more j = true) ∧ ((iter p n s).opn = [] ∨ more n = false) ∧ (iter p n s).leaves = s.leaves ++ ns ∧ (∀ x, x ∈ ns → x.mult = []) ∧
      d = .agg [.imm sp1 ((iter p n s).opn.map dInts), dInts (iter p n s).best, dInts (iter p n s).value, .imm sp2 (dLs s.leaves ns)] ∧ ∃ m, K m hp' := by
  obtain ⟨R, hR⟩ : ∃ R : D → List Obj → Prop, R = fun d hp' => ∃ n ns sp1 sp2, (∀ j, j < n → more j = true) ∧ ((iter p n s).opn = [] ∨ more n = false) ∧ (iter p n s).leaves = s.leaves ++ ns ∧ (∀ x, x ∈ ns → x.mult = []) ∧
      d = .agg [.imm sp1 ((iter p n s).opn.map dInts), dInts (iter p n s).best, dInts (iter p n s).value, .imm sp2 (dLs s.leaves ns)] ∧ ∃ m, K m hp' := ⟨_, rfl⟩
  have key : ∃ d hp', runS E (dL E) 150 [dProb p, dSrch s, .fn k caps] hp0 = some (d, hp') ∧ R d hp' := by
    refine runS_T c150 (args := [dProb p, dSrch s, .fn k caps]) (hp := hp0) (R := R) (by simp) ?_
    have m1 := M.opn
    have h165 := r165 s.opn m1
    have h166 := r166 s.leaves
    simp [t150, n150, h165, h166, frzL_leaf]
    obtain ⟨B, hB⟩ : ∃ B, B = hp0.length := ⟨_, rfl⟩
    rw [← hB] at hm hK2 ⊢
    refine wT_loop (fun m env hp => ∃ (x8 x9 x10 x11 x12 x13 x14 x15 x16 x17 x18 x19 x20 x21 x22 x23 x24 x25 x26 x27 x28 x29 x30 x31 : D) (i : Nat) (ns : List Leaf) (sp1 sp2 : Spare), env = [dProb p, dSrch s, .fn k caps, .loc B 0, .loc (B + 1) 0, .loc (B + 1 + 1) 0, .loc (B + 3) 0, .fn 167 [.loc (B + 1) 0], x8, x9, x10, x11, x12, x13, x14, x15, x16, x17, x18, x19, x20, x21, x22, x23, x24, x25, x26, x27, x28, x29, x30, x31] ∧
      m = wO p (iter p i s).opn ∧ (∀ j, j < i → more j = true) ∧ (iter p i s).leaves = s.leaves ++ ns ∧ (∀ x, x ∈ ns → x.mult = []) ∧ At hp B (.cells (dProb p).cellsL) ∧
      At hp (B + 1) (.cells [.imm .none (s.opn.map dInts), dInts (iter p i s).best, dInts (iter p i s).value, .imm sp2 (dLs s.leaves ns)]) ∧ At hp (B + 1 + 1) (.cells [.imm .exact [], .imm .exact [], .imm .exact [], .imm .exact []]) ∧
      At hp (B + 3) (.cells [.imm sp1 ((iter p i s).opn.map dInts)]) ∧ Room (B + 4) hp sp2 (s.leaves.length + ns.length) 3 ∧ K i hp) (wO p s.opn)
      ⟨_, _, _, _, _, _, _, _, _, _, _, _, _, _, _, _, _, _, _, _, _, _, _, _, 0, [], .none, .exact, rfl, rfl, fun j h => absurd h (by omega), by simp [iter], fun x h => (by cases h), by rw [hB]; simp [At], by rw [hB]; simp [At, iter, dLs], by rw [hB, Nat.add_assoc]; simp [At], by rw [hB]; simp [At, iter], .inl rfl, hK1 _ _ _ h0⟩ ?_
    rintro m env hp ⟨x8, x9, x10, x11, x12, x13, x14, x15, x16, x17, x18, x19, x20, x21, x22, x23, x24, x25, x26, x27, x28, x29, x30, x31, i, ns, sp1, sp2, rfl, hmm, hmore, hlv, hmu, g0, g1, g2, g3, hr, hK⟩
    have okt : OkS p (iter p i s) := OkS.iter ok hs
    have Mt : SmS p (iter p i s) := SmS.iter ok M hs
    have it1 : iter p (i + 1) s = exam p (iter p i s) := iter_succ
    have hRt : ∀ (hp' : List Obj) (sp1 : Spare), K i hp' ∨ K (i + 1) hp' → ((iter p i s).opn = [] ∨ more i = false) → R (.agg [.imm sp1 ((iter p i s).opn.map dInts), dInts (iter p i s).best, dInts (iter p i s).value, .imm sp2 (dLs s.leaves ns)]) hp' := fun hp' sp1 h h' => by
      rw [hR]
      exact ⟨i, ns, sp1, sp2, hmore, h', hlv, hmu, rfl, h.elim (fun h => ⟨_, h⟩) fun h => ⟨_, h⟩⟩
    obtain ⟨t, ht⟩ : ∃ t, t = iter p i s := ⟨_, rfl⟩
    rw [← ht] at hmm hlv g1 g3 okt Mt it1 hRt
    have hl1 := g1.lt
    have hl2 := g2.lt
    have G : ∀ (hq : List Obj), At hq (B + 1) (.cells [.imm .none (s.opn.map dInts), dInts t.best, dInts t.value, .imm sp2 (dLs s.leaves ns)]) → At hq (B + 1 + 1) (.cells [.imm .exact [], .imm .exact [], .imm .exact [], .imm .exact []]) →
      (∀ x, (hq.set (B + 1) x)[B + 1]? = some x) ∧ (∀ x, (hq.set (B + 1) x)[B + 1 + 1]? = some (.cells [.imm .exact [], .imm .exact [], .imm .exact [], .imm .exact []])) ∧ ∀ x y, ((hq.set (B + 1) x).set (B + 1 + 1) y)[B + 1 + 1]? = some y := fun hq a1 a2 =>
      ⟨fun x => List.getElem?_set_self a1.lt, fun x => (a2.ne (by omega)).eq, fun x y => List.getElem?_set_self (by rw [List.length_set]; exact a2.lt)⟩
    by_cases hno : t.opn = []
    · obtain ⟨q1, q2, q3⟩ := G hp g1 g2
      rw [hno] at g3
      have hRt2 := fun hp' h => hRt hp' sp1 h (.inl hno)
      rw [hno] at hRt2
      simp [g0.eq, g1.eq, g2.eq, g3.eq, rTS_effh, gdD_b, ↓q1, ↓q2, ↓q3]
      exact hRt2 _ (.inl (hK2 _ _ _ _ (hK2 _ _ _ _ hK (by omega)) (by omega)))
    obtain ⟨l, b, hl⟩ : ∃ l b, t.opn = l ++ [b] := ⟨t.opn.dropLast, t.opn.getLast hno, (List.dropLast_concat_getLast hno).symm⟩
    have okb := okt.opn b (by rw [hl]; simp)
    have hll : l.length ≤ 1000000000 := by have := Mt.opn; rw [hl] at this; simp at this; omega
    have h168 := r168 l b hll
    obtain ⟨hp2, e1, e2, e3⟩ := hm i hp hK
    have h0l : (0 : Int) < l.length + 1 := by omega
    have a0 := e3 _ _ (by omega) g0
    have a1 := e3 _ _ (by omega) g1
    have a2 := e3 _ _ (by omega) g2
    have a3 := e3 _ _ (by omega) g3
    cases hmi : more i with
    | false =>
      obtain ⟨q1, q2, q3⟩ := G hp2 a1 a2
      rw [hmi] at e1
      rw [hl] at g3 a3
      have hRt2 := fun hp' h => hRt hp' sp1 h (.inr hmi)
      rw [hl] at hRt2
      simp only [List.map_append, List.map_cons, List.map_nil, dInts] at hRt2
      simp [g0.eq, g1.eq, g2.eq, g3.eq, a0.eq, a1.eq, a2.eq, a3.eq, e1, h0l, rTS_effh, gdD_b, ↓q1, ↓q2, ↓q3]
      exact hRt2 _ (.inr (hK2 _ _ _ _ (hK2 _ _ _ _ e2 (by omega)) (by omega)))
    | true =>
    rw [hmi] at e1
    rw [← hl] at h168
    have h0n : ¬ t.opn.length = 0 := fun h => hno (List.eq_nil_of_length_eq_zero h)
    have h0l : 0 < t.opn.length := by omega
    obtain ⟨hp3, h3⟩ : ∃ hp3, hp3 = hp2.set (B + 3) (.cells [.imm .exact (l.map dInts)]) := ⟨_, rfl⟩
    have b0 := a0.ne (j := B + 3) (x := .cells [.imm .exact (l.map dInts)]) (by omega)
    have b1 := a1.ne (j := B + 3) (x := .cells [.imm .exact (l.map dInts)]) (by omega)
    have b2 := a2.ne (j := B + 3) (x := .cells [.imm .exact (l.map dInts)]) (by omega)
    rw [← h3] at b0 b1 b2
    have b3 : At hp3 (B + 3) (.cells [.imm .exact (l.map dInts)]) := by rw [h3]; exact At.self a3.lt
    have bK : K (i + 1) hp3 := by rw [h3]; exact hK2 _ _ _ _ e2 (by omega)
    have bR : Room (B + 4) hp3 sp2 (s.leaves.length + ns.length) 3 := by
      rcases hr with h | ⟨k, h1, h2, h4⟩
      · exact .inl h
      · refine .inr ⟨k, h1, h2, ?_⟩
        rw [h3]
        exact (e3 _ _ (by omega) h4).ne (by omega)
    clear e3 a0 a1 a2 hK hr
    have hu := exam_snoc (p := p) hl
    have hmore2 : ∀ j, j < i + 1 → more j = true := fun j hj => by
      by_cases e : j = i
      · rw [e]; exact hmi
      · exact hmore j (by omega)
    have hles := exam_less hno okt.opn
    rw [← it1] at hu hles
    have hnl : s.leaves.length + ns.length ≤ 1000000000 := by
      have := Mt.lvs; rw [hlv, List.length_append] at this; exact this
    have hb20 : b.length ≤ 20 := by have := okb.len; have := S.vars; omega
    obtain ⟨V, hV⟩ : ∃ V, V = boundL p b := ⟨_, rfl⟩
    have h87 := r87 V t.value (by rw [hV]; simp [boundL]) (by
      rcases okt.val with ⟨e, _⟩ | ⟨_, e⟩
      · rw [e]; simp
      · rw [e]; simp [boundL])
    by_cases he : b.length = p.vars.length
    · have he' : (b.length : Int) = p.vars.length := by omega
      have h22 := r22 p b S hb20
      have wb : Whole p b := ⟨ok, okb, he⟩
      simp only [resV, if_pos wb, ← hV] at h22
      simp only [examB, if_pos he, bet, ← hV] at hu
      simp only [dProb, dInts] at h22 h87 h168
      by_cases hbt : (decide (t.value.length = 0) || decide (cmpL V t.value < 0)) = true
      · rw [if_pos hbt] at hu
        obtain ⟨hp4, h4⟩ : ∃ hp4, hp4 = hp3.set (B + 1) (.cells [.imm .none (s.opn.map dInts), dInts b, dInts V, .imm sp2 (dLs s.leaves ns)]) := ⟨_, rfl⟩
        obtain ⟨q1, _, _⟩ := G hp3 b1 b2
        have d0 := b0.ne (j := B + 1) (x := .cells [.imm .none (s.opn.map dInts), dInts b, dInts V, .imm sp2 (dLs s.leaves ns)]) (by omega)
        have d1 : At hp4 (B + 1) (.cells [.imm .none (s.opn.map dInts), dInts b, dInts V, .imm sp2 (dLs s.leaves ns)]) := by rw [h4]; exact At.self b1.lt
        have d2 := b2.ne (j := B + 1) (x := .cells [.imm .none (s.opn.map dInts), dInts b, dInts V, .imm sp2 (dLs s.leaves ns)]) (by omega)
        have d3 := b3.ne (j := B + 1) (x := .cells [.imm .none (s.opn.map dInts), dInts b, dInts V, .imm sp2 (dLs s.leaves ns)]) (by omega)
        rw [← h4] at d0 d2 d3
        have dK : K (i + 1) hp4 := by rw [h4]; exact hK2 _ _ _ _ bK (by omega)
        have dR : Room (B + 4) hp4 sp2 (s.leaves.length + ns.length) 3 := by
          rcases bR with h | ⟨k, h1, h2, h5⟩
          · exact .inl h
          · exact .inr ⟨k, h1, h2, by rw [h4]; exact h5.ne (by omega)⟩
        obtain ⟨d, hp5, f1, sp', f2, f3, f4, f5⟩ := s167 (i := B + 1) (C := B + 4) (hp := hp4) b 1 s.leaves ns hnl d1 dR (by have := d3.lt; omega) (by omega)
        simp only [dInts] at f1 h4
        have fin : ∃ k', k' < m ∧
      ∃ x,
        k' = wO p (iter p x s).opn ∧
          (∀ (j : Nat), j < x → more j = true) ∧
            ∃ x_1,
              (iter p x s).leaves = s.leaves ++ x_1 ∧
                (∀ (x : Leaf), x ∈ x_1 → x.mult = []) ∧
                  At hp5 B (.cells (dProb p).cellsL) ∧
                    ∃ x_2 x_3,
                      At hp5 (B + 1) (.cells [.imm .none (s.opn.map dInts), dInts (iter p x s).best, dInts (iter p x s).value, .imm x_3 (dLs s.leaves x_1)]) ∧
                        At hp5 (B + 1 + 1) (.cells [.imm .exact [], .imm .exact [], .imm .exact [], .imm .exact []]) ∧
                          At hp5 (B + 3) (.cells [.imm x_2 ((iter p x s).opn.map dInts)]) ∧
                            Room (B + 4) hp5 x_3 (s.leaves.length + x_1.length) 3 ∧ K x hp5 :=
          ⟨_, by omega, i + 1, rfl, hmore2, ns ++ [⟨b, 1, []⟩], by rw [hu]; simp [hlv], fun x hx => (by
            rcases List.mem_append.1 hx with hx | hx
            · exact hmu x hx
            · rw [List.mem_singleton.1 hx]), f4.at (by omega) (by omega) d0, .exact, sp', by rw [hu]; exact f2, f4.at (by omega) (by omega) d2, by rw [hu]; exact f4.at (by omega) (by omega) d3, by rw [List.length_append]; exact f3, f4 (K (i + 1)) (hK1 _) (fun hp j o h hj => hK2 _ _ _ _ h (by omega)) dK⟩
        by_cases c1 : t.value = []
        · simp [g0.eq, g1.eq, g2.eq, g3.eq, a3.eq, e1, h0l, rTS_effh, gdD_b, h168, ← h3, b0.eq, b1.eq, he', h22, c1, ↓q1, ← h4, f1]
          exact fin
        · have c2 : cmpL V t.value < 0 := by
            have : ¬ t.value.length = 0 := fun h => c1 (List.eq_nil_of_length_eq_zero h)
            simpa [this] using hbt
          simp [g0.eq, g1.eq, g2.eq, g3.eq, a3.eq, e1, h0l, rTS_effh, gdD_b, h168, ← h3, b0.eq, b1.eq, he', h22, h87, c1, c2, ↓q1, ← h4, f1]
          exact fin
      · rw [if_neg hbt] at hu
        have c1 : ¬ t.value = [] := fun h => hbt (by simp [h])
        have c2 : ¬ cmpL V t.value < 0 := fun h => hbt (by simp [h])
        obtain ⟨d, hp5, f1, sp', f2, f3, f4, f5⟩ := s167 (i := B + 1) (C := B + 4) (hp := hp3) b 1 s.leaves ns hnl b1 bR (by have := b3.lt; omega) (by omega)
        simp only [dInts] at f1
        simp [g0.eq, g1.eq, g2.eq, g3.eq, a3.eq, e1, h0l, rTS_effh, gdD_b, h168, ← h3, b0.eq, b1.eq, he', h22, h87, c1, c2, f1]
        exact ⟨_, by omega, i + 1, rfl, hmore2, ns ++ [⟨b, 1, []⟩], by rw [hu]; simp [hlv], fun x hx => (by
            rcases List.mem_append.1 hx with hx | hx
            · exact hmu x hx
            · rw [List.mem_singleton.1 hx]), f4.at (by omega) (by omega) b0, .exact, sp', by rw [hu]; exact f2, f4.at (by omega) (by omega) b2, by rw [hu]; exact f4.at (by omega) (by omega) b3, by rw [List.length_append]; exact f3, f4 (K (i + 1)) (hK1 _) (fun hp j o h hj => hK2 _ _ _ _ h (by omega)) bK⟩
    have he' : ¬ (b.length : Int) = p.vars.length := by omega
    have hlt : b.length < p.vars.length := by have := okb.len; omega
    have h3' := r3 p b S hb20
    simp only [resB, bk_pos ok okb, if_true, ← hV] at h3'
    simp only [examB, if_neg he, shut, ← hV] at hu
    simp only [dProb, dInts] at h3' h87 h168
    by_cases hsh : (decide (0 < t.value.length) && decide (0 ≤ cmpL V t.value)) = true
    · rw [if_pos hsh] at hu
      have c1 : 0 < t.value.length := by simp at hsh; exact hsh.1
      have c2 : 0 ≤ cmpL V t.value := by simp at hsh; exact hsh.2
      obtain ⟨d, hp5, f1, sp', f2, f3, f4, f5⟩ := s167 (i := B + 1) (C := B + 4) (hp := hp3) b 2 s.leaves ns hnl b1 bR (by have := b3.lt; omega) (by omega)
      simp only [dInts] at f1
      simp [g0.eq, g1.eq, g2.eq, g3.eq, a3.eq, e1, h0l, rTS_effh, gdD_b, h168, ← h3, b0.eq, b1.eq, he', h3', h87, c1, c2, f1]
      exact ⟨_, by omega, i + 1, rfl, hmore2, ns ++ [⟨b, 2, []⟩], by rw [hu]; simp [hlv], fun x hx => (by
            rcases List.mem_append.1 hx with hx | hx
            · exact hmu x hx
            · rw [List.mem_singleton.1 hx]), f4.at (by omega) (by omega) b0, .exact, sp', by rw [hu]; exact f2, f4.at (by omega) (by omega) b2, by rw [hu]; exact f4.at (by omega) (by omega) b3, by rw [List.length_append]; exact f3, f4 (K (i + 1)) (hK1 _) (fun hp j o h hj => hK2 _ _ _ _ h (by omega)) bK⟩
    rw [if_neg hsh] at hu
    have h7 := r7 p b S hb20
    have h169 := r169 (nextL p b)
    obtain ⟨N, hN⟩ : ∃ N, N = nextL p b := ⟨_, rfl⟩
    simp only [resN, bk_pos ok okb, if_true, if_neg he, ← hN] at h7
    rw [← hN] at h169 hu
    simp only [dProb, dInts] at h7
    have hc : ¬ 0 < t.value.length ∨ (0 < t.value.length ∧ cmpL V t.value < 0) := by
      by_cases c1 : 0 < t.value.length
      · right
        have : ¬ 0 ≤ cmpL V t.value := fun h => hsh (by simp [c1, h])
        exact ⟨c1, by omega⟩
      · exact .inl c1
    have hNl : N.length ≤ 8 := by
      rw [hN, next_len hlt]
      exact S.choices _ (List.getElem_mem hlt)
    rcases hc with c1 | ⟨c1, c2⟩
    · simp [g0.eq, g1.eq, g2.eq, g3.eq, a3.eq, e1, h0l, rTS_effh, gdD_b, h168, ← h3, b0.eq, b1.eq, he', h3', c1, h7, h169]
      refine ⟨176, _, rfl, ?_⟩
      intro L hL hcb
      obtain ⟨lp, hlp⟩ : ∃ lp, lp = hp3.length := ⟨_, rfl⟩
      rw [← hlp] at hcb ⊢
      obtain ⟨J, hJ⟩ : ∃ J : List (List Int) → List Obj → Prop, J = fun rem hq => ∃ (dn W : List (List Int)) (sp : Spare), N.reverse = dn ++ rem ∧ W = l ++ dn ∧ At hq B (.cells (dProb p).cellsL) ∧
        At hq (B + 1) (.cells [.imm .none (s.opn.map dInts), dInts t.best, dInts t.value, .imm sp2 (dLs s.leaves ns)]) ∧ At hq (B + 1 + 1) (.cells [.imm .exact [], .imm .exact [], .imm .exact [], .imm .exact []]) ∧
        At hq (B + 3) (.cells [.imm sp (W.map dInts)]) ∧ Room (B + 4) hq sp W.length 1 ∧ Room (B + 4) hq sp2 (s.leaves.length + ns.length) 3 ∧ K (i + 1) hq ∧ At hq lp (L false none) := ⟨_, rfl⟩
      have hb3 := b3.lt
      obtain ⟨sl, ps, asg, body, hLe⟩ := hL
      have key2 := i176 N (by omega) lp J (fun _ => False) (by
        intro x rem hq hj
        rw [hJ] at hj
        obtain ⟨dn, W, sp, j1, jW, j2, j3, j4, j5, j6, j7, j8, j9⟩ := hj
        have hWl : W.length ≤ 1000000100 := by
          have := congrArg List.length j1
          rw [List.length_reverse, List.length_append] at this
          rw [jW, List.length_append]; omega
        obtain ⟨W', hW'⟩ : ∃ W', W' = W ++ [x] := ⟨_, rfl⟩
        have hcat : List.map dInts W ++ [D.imm Spare.none (List.map dI x)] = List.map dInts W' := by rw [hW']; simp
        have hlen' : W'.length = W.length + 1 := by rw [hW']; simp
        have hap : ∀ y, appOk E 1 (List.map dInts W) [y] := fun y => by
          refine ⟨?_, ?_, ?_, fitsA_ints⟩ <;> simp [maxBytes]
          omega
        have z5 := j5.ne (j := lp) (x := L true none) (by omega)
        have l9 := j9.lt
        have noTok : ∀ k a b, At hq k (.tok a b) → k ≠ lp := fun k a b h e => by
          subst e
          have := h.eq.symm.trans j9.eq
          rw [hLe] at this
          simp at this
        obtain ⟨t', hp2', y1, y2⟩ := hcb [dInts x] hq (fun t' hp' => t' = true ∧ J rem hp') rfl j9 (by
          rcases j6 with rfl | ⟨k, rfl, jk, jk2⟩
          · obtain ⟨T, hT⟩ : ∃ T, T = (hq.set lp (L true none) ++ [Obj.tok (W.length + 1) 1]).set (B + 3) (.cells [.imm (.tok hq.length) (W'.map dInts)]) := ⟨_, rfl⟩
            have t1 : ∀ {m o}, m ≠ lp → m ≠ B + 3 → At hq m o → At T m o := fun h1 h2 g => by
              rw [hT]; exact ((g.ne (fun e => h1 e.symm)).app).ne (fun e => h2 e.symm)
            have t2 : At T lp (L true none) := by rw [hT]; exact ((At.self l9).app).ne (by omega)
            have t3 : At T (B + 3) (.cells [.imm (.tok hq.length) (W'.map dInts)]) := by rw [hT]; exact At.self (by simp; have := j5.lt; omega)
            have t4 : At T hq.length (Obj.tok (W.length + 1) 1) := by
              rw [hT]
              refine At.ne ?_ (by have := j5.lt; omega)
              have := get_app2 (hp := hq.set lp (L true none)) (r := [Obj.tok (W.length + 1) 1]) (k := 0)
              simpa [At] using this
            have tK : K (i + 1) T := by rw [hT]; exact hK2 _ _ _ _ (hK1 _ _ _ (hK2 _ _ _ _ j8 (by omega))) (by omega)
            have tK2 : K (i + 1) (T.set lp (L false none)) := hK2 _ _ _ _ tK (by omega)
            have hJT : J rem (T.set lp (L false none)) := by
              rw [hJ]
              have n : ∀ {m o}, m ≠ lp → At T m o → At (T.set lp (L false none)) m o := fun h g => g.ne (fun e => h e.symm)
              refine ⟨dn ++ [x], W', .tok hq.length, by rw [j1]; simp, by rw [hW', jW]; simp, n (by omega) (t1 (by omega) (by omega) j2), n (by omega) (t1 (by omega) (by omega) j3), n (by omega) (t1 (by omega) (by omega) j4), n (by omega) t3,
                .inr ⟨_, rfl, by have := j5.lt; omega, by rw [hlen', Nat.mul_one]; exact n (by omega) t4⟩, ?_, tK2, At.self t2.lt⟩
              rcases j7 with h | ⟨k, h1, h2, h5⟩
              · exact .inl h
              · exact .inr ⟨k, h1, h2, n (noTok _ _ _ h5) (t1 (noTok _ _ _ h5) (by omega) h5)⟩
            simp [setAll, j9.eq, ↓z5.eq, ↓z5.appE, app0_step, app0_exact, hap, hcat, ← hT]
            exact ⟨t2.eq, hJT⟩
          · have hkl := noTok _ _ _ jk2
            have z6 := z5.ne (j := k) (x := .dead) (by omega)
            have z7 := jk2.ne (j := lp) (x := L true none) (fun e => hkl e.symm)
            obtain ⟨T, hT⟩ : ∃ T, T = ((hq.set lp (L true none)).set k .dead ++ [Obj.tok (W.length + 1) 1]).set (B + 3) (.cells [.imm (.tok hq.length) (W'.map dInts)]) := ⟨_, rfl⟩
            have t1 : ∀ {m o}, m ≠ lp → m ≠ B + 3 → m ≠ k → At hq m o → At T m o := fun h1 h2 h3 g => by
              rw [hT]; exact (((g.ne (fun e => h1 e.symm)).ne (fun e => h3 e.symm)).app).ne (fun e => h2 e.symm)
            have t2 : At T lp (L true none) := by rw [hT]; exact (((At.self l9).ne hkl).app).ne (by omega)
            have t3 : At T (B + 3) (.cells [.imm (.tok hq.length) (W'.map dInts)]) := by rw [hT]; exact At.self (by simp; have := j5.lt; omega)
            have t4 : At T hq.length (Obj.tok (W.length + 1) 1) := by
              rw [hT]
              refine At.ne ?_ (by have := j5.lt; omega)
              have := get_app2 (hp := (hq.set lp (L true none)).set k .dead) (r := [Obj.tok (W.length + 1) 1]) (k := 0)
              simpa [At] using this
            have tK : K (i + 1) T := by rw [hT]; exact hK2 _ _ _ _ (hK1 _ _ _ (hK2 _ _ _ _ (hK2 _ _ _ _ j8 (by omega)) (by omega))) (by omega)
            have tK2 : K (i + 1) (T.set lp (L false none)) := hK2 _ _ _ _ tK (by omega)
            have hJT : J rem (T.set lp (L false none)) := by
              rw [hJ]
              have n : ∀ {m o}, m ≠ lp → At T m o → At (T.set lp (L false none)) m o := fun h g => g.ne (fun e => h e.symm)
              refine ⟨dn ++ [x], W', .tok hq.length, by rw [j1]; simp, by rw [hW', jW]; simp, n (by omega) (t1 (by omega) (by omega) (by omega) j2), n (by omega) (t1 (by omega) (by omega) (by omega) j3), n (by omega) (t1 (by omega) (by omega) (by omega) j4), n (by omega) t3,
                .inr ⟨_, rfl, by have := j5.lt; omega, by rw [hlen', Nat.mul_one]; exact n (by have := l9; omega) t4⟩, ?_, tK2, At.self t2.lt⟩
              rcases j7 with h | ⟨k2, h1, h2, h5⟩
              · exact .inl h
              · have hkk : k2 ≠ k := fun e => by
                  subst e
                  have := h5.eq.symm.trans jk2.eq
                  simp at this
                exact .inr ⟨k2, h1, h2, n (noTok _ _ _ h5) (t1 (noTok _ _ _ h5) (by omega) hkk h5)⟩
            rw [Nat.mul_one] at z7
            simp [setAll, j9.eq, ↓z5.eq, ↓z6.appE, z7.eq, app0_step, app0_tok, hap, hcat, ← hT]
            exact ⟨t2.eq, hJT⟩)
        refine ⟨t', hp2', y1, fun _ => y2.2, fun h => ?_⟩
        rw [y2.1] at h; cases h) (hp := hp3 ++ [L false none]) (by
        rw [hJ]
        exact ⟨[], l, .exact, by simp, by simp, b0.app, b1.app, b2.app, b3.app, .inl rfl, (by
          rcases bR with h | ⟨k, h1, h2, h5⟩
          · exact .inl h
          · exact .inr ⟨k, h1, h2, h5.app⟩), hK1 _ _ _ bK, by rw [hlp]; simp [At]⟩)
      obtain ⟨d, hp', k1, k2 | k2⟩ := key2
      · rw [hJ] at k2
        obtain ⟨dn, W, sp, j1, jW, j2, j3, j4, j5, j6, j7, j8, j9⟩ := k2
        refine ⟨d, hp', k1, .inl ⟨j9.eq, ?_⟩⟩
        rw [List.append_nil] at j1
        have noTok : ∀ k a b, At hp' k (.tok a b) → k ≠ lp := fun k a b h e => by
          subst e
          have := h.eq.symm.trans j9.eq
          rw [hLe] at this
          simp at this
        have n : ∀ {m o}, m ≠ lp → At hp' m o → At (hp'.set lp .dead) m o := fun h g => g.ne (fun e => h e.symm)
        rw [jW, ← j1] at j5
        simp
        exact ⟨_, by omega, i + 1, rfl, hmore2, ns, by rw [hu]; exact hlv, hmu, n (by omega) j2, sp, sp2, by rw [hu]; exact n (by omega) j3, n (by omega) j4, by rw [hu]; exact n (by omega) j5, (by
          rcases j7 with h | ⟨k, h1, h2, h5⟩
          · exact .inl h
          · exact .inr ⟨k, h1, h2, n (noTok _ _ _ h5) h5⟩), hK2 _ _ _ _ j8 (by omega)⟩
      · exact k2.elim
    · have c3 : ¬ 0 ≤ cmpL V t.value := by omega
      simp [g0.eq, g1.eq, g2.eq, g3.eq, a3.eq, e1, h0l, rTS_effh, gdD_b, h168, ← h3, b0.eq, b1.eq, he', h3', h87, c1, c2, c3, h7, h169]
      refine ⟨176, _, rfl, ?_⟩
      intro L hL hcb
      obtain ⟨lp, hlp⟩ : ∃ lp, lp = hp3.length := ⟨_, rfl⟩
      rw [← hlp] at hcb ⊢
      obtain ⟨J, hJ⟩ : ∃ J : List (List Int) → List Obj → Prop, J = fun rem hq => ∃ (dn W : List (List Int)) (sp : Spare), N.reverse = dn ++ rem ∧ W = l ++ dn ∧ At hq B (.cells (dProb p).cellsL) ∧
        At hq (B + 1) (.cells [.imm .none (s.opn.map dInts), dInts t.best, dInts t.value, .imm sp2 (dLs s.leaves ns)]) ∧ At hq (B + 1 + 1) (.cells [.imm .exact [], .imm .exact [], .imm .exact [], .imm .exact []]) ∧
        At hq (B + 3) (.cells [.imm sp (W.map dInts)]) ∧ Room (B + 4) hq sp W.length 1 ∧ Room (B + 4) hq sp2 (s.leaves.length + ns.length) 3 ∧ K (i + 1) hq ∧ At hq lp (L false none) := ⟨_, rfl⟩
      have hb3 := b3.lt
      obtain ⟨sl, ps, asg, body, hLe⟩ := hL
      have key2 := i176 N (by omega) lp J (fun _ => False) (by
        intro x rem hq hj
        rw [hJ] at hj
        obtain ⟨dn, W, sp, j1, jW, j2, j3, j4, j5, j6, j7, j8, j9⟩ := hj
        have hWl : W.length ≤ 1000000100 := by
          have := congrArg List.length j1
          rw [List.length_reverse, List.length_append] at this
          rw [jW, List.length_append]; omega
        obtain ⟨W', hW'⟩ : ∃ W', W' = W ++ [x] := ⟨_, rfl⟩
        have hcat : List.map dInts W ++ [D.imm Spare.none (List.map dI x)] = List.map dInts W' := by rw [hW']; simp
        have hlen' : W'.length = W.length + 1 := by rw [hW']; simp
        have hap : ∀ y, appOk E 1 (List.map dInts W) [y] := fun y => by
          refine ⟨?_, ?_, ?_, fitsA_ints⟩ <;> simp [maxBytes]
          omega
        have z5 := j5.ne (j := lp) (x := L true none) (by omega)
        have l9 := j9.lt
        have noTok : ∀ k a b, At hq k (.tok a b) → k ≠ lp := fun k a b h e => by
          subst e
          have := h.eq.symm.trans j9.eq
          rw [hLe] at this
          simp at this
        obtain ⟨t', hp2', y1, y2⟩ := hcb [dInts x] hq (fun t' hp' => t' = true ∧ J rem hp') rfl j9 (by
          rcases j6 with rfl | ⟨k, rfl, jk, jk2⟩
          · obtain ⟨T, hT⟩ : ∃ T, T = (hq.set lp (L true none) ++ [Obj.tok (W.length + 1) 1]).set (B + 3) (.cells [.imm (.tok hq.length) (W'.map dInts)]) := ⟨_, rfl⟩
            have t1 : ∀ {m o}, m ≠ lp → m ≠ B + 3 → At hq m o → At T m o := fun h1 h2 g => by
              rw [hT]; exact ((g.ne (fun e => h1 e.symm)).app).ne (fun e => h2 e.symm)
            have t2 : At T lp (L true none) := by rw [hT]; exact ((At.self l9).app).ne (by omega)
            have t3 : At T (B + 3) (.cells [.imm (.tok hq.length) (W'.map dInts)]) := by rw [hT]; exact At.self (by simp; have := j5.lt; omega)
            have t4 : At T hq.length (Obj.tok (W.length + 1) 1) := by
              rw [hT]
              refine At.ne ?_ (by have := j5.lt; omega)
              have := get_app2 (hp := hq.set lp (L true none)) (r := [Obj.tok (W.length + 1) 1]) (k := 0)
              simpa [At] using this
            have tK : K (i + 1) T := by rw [hT]; exact hK2 _ _ _ _ (hK1 _ _ _ (hK2 _ _ _ _ j8 (by omega))) (by omega)
            have tK2 : K (i + 1) (T.set lp (L false none)) := hK2 _ _ _ _ tK (by omega)
            have hJT : J rem (T.set lp (L false none)) := by
              rw [hJ]
              have n : ∀ {m o}, m ≠ lp → At T m o → At (T.set lp (L false none)) m o := fun h g => g.ne (fun e => h e.symm)
              refine ⟨dn ++ [x], W', .tok hq.length, by rw [j1]; simp, by rw [hW', jW]; simp, n (by omega) (t1 (by omega) (by omega) j2), n (by omega) (t1 (by omega) (by omega) j3), n (by omega) (t1 (by omega) (by omega) j4), n (by omega) t3,
                .inr ⟨_, rfl, by have := j5.lt; omega, by rw [hlen', Nat.mul_one]; exact n (by omega) t4⟩, ?_, tK2, At.self t2.lt⟩
              rcases j7 with h | ⟨k, h1, h2, h5⟩
              · exact .inl h
              · exact .inr ⟨k, h1, h2, n (noTok _ _ _ h5) (t1 (noTok _ _ _ h5) (by omega) h5)⟩
            simp [setAll, j9.eq, ↓z5.eq, ↓z5.appE, app0_step, app0_exact, hap, hcat, ← hT]
            exact ⟨t2.eq, hJT⟩
          · have hkl := noTok _ _ _ jk2
            have z6 := z5.ne (j := k) (x := .dead) (by omega)
            have z7 := jk2.ne (j := lp) (x := L true none) (fun e => hkl e.symm)
            obtain ⟨T, hT⟩ : ∃ T, T = ((hq.set lp (L true none)).set k .dead ++ [Obj.tok (W.length + 1) 1]).set (B + 3) (.cells [.imm (.tok hq.length) (W'.map dInts)]) := ⟨_, rfl⟩
            have t1 : ∀ {m o}, m ≠ lp → m ≠ B + 3 → m ≠ k → At hq m o → At T m o := fun h1 h2 h3 g => by
              rw [hT]; exact (((g.ne (fun e => h1 e.symm)).ne (fun e => h3 e.symm)).app).ne (fun e => h2 e.symm)
            have t2 : At T lp (L true none) := by rw [hT]; exact (((At.self l9).ne hkl).app).ne (by omega)
            have t3 : At T (B + 3) (.cells [.imm (.tok hq.length) (W'.map dInts)]) := by rw [hT]; exact At.self (by simp; have := j5.lt; omega)
            have t4 : At T hq.length (Obj.tok (W.length + 1) 1) := by
              rw [hT]
              refine At.ne ?_ (by have := j5.lt; omega)
              have := get_app2 (hp := (hq.set lp (L true none)).set k .dead) (r := [Obj.tok (W.length + 1) 1]) (k := 0)
              simpa [At] using this
            have tK : K (i + 1) T := by rw [hT]; exact hK2 _ _ _ _ (hK1 _ _ _ (hK2 _ _ _ _ (hK2 _ _ _ _ j8 (by omega)) (by omega))) (by omega)
            have tK2 : K (i + 1) (T.set lp (L false none)) := hK2 _ _ _ _ tK (by omega)
            have hJT : J rem (T.set lp (L false none)) := by
              rw [hJ]
              have n : ∀ {m o}, m ≠ lp → At T m o → At (T.set lp (L false none)) m o := fun h g => g.ne (fun e => h e.symm)
              refine ⟨dn ++ [x], W', .tok hq.length, by rw [j1]; simp, by rw [hW', jW]; simp, n (by omega) (t1 (by omega) (by omega) (by omega) j2), n (by omega) (t1 (by omega) (by omega) (by omega) j3), n (by omega) (t1 (by omega) (by omega) (by omega) j4), n (by omega) t3,
                .inr ⟨_, rfl, by have := j5.lt; omega, by rw [hlen', Nat.mul_one]; exact n (by have := l9; omega) t4⟩, ?_, tK2, At.self t2.lt⟩
              rcases j7 with h | ⟨k2, h1, h2, h5⟩
              · exact .inl h
              · have hkk : k2 ≠ k := fun e => by
                  subst e
                  have := h5.eq.symm.trans jk2.eq
                  simp at this
                exact .inr ⟨k2, h1, h2, n (noTok _ _ _ h5) (t1 (noTok _ _ _ h5) (by omega) hkk h5)⟩
            rw [Nat.mul_one] at z7
            simp [setAll, j9.eq, ↓z5.eq, ↓z6.appE, z7.eq, app0_step, app0_tok, hap, hcat, ← hT]
            exact ⟨t2.eq, hJT⟩)
        refine ⟨t', hp2', y1, fun _ => y2.2, fun h => ?_⟩
        rw [y2.1] at h; cases h) (hp := hp3 ++ [L false none]) (by
        rw [hJ]
        exact ⟨[], l, .exact, by simp, by simp, b0.app, b1.app, b2.app, b3.app, .inl rfl, (by
          rcases bR with h | ⟨k, h1, h2, h5⟩
          · exact .inl h
          · exact .inr ⟨k, h1, h2, h5.app⟩), hK1 _ _ _ bK, by rw [hlp]; simp [At]⟩)
      obtain ⟨d, hp', k1, k2 | k2⟩ := key2
      · rw [hJ] at k2
        obtain ⟨dn, W, sp, j1, jW, j2, j3, j4, j5, j6, j7, j8, j9⟩ := k2
        refine ⟨d, hp', k1, .inl ⟨j9.eq, ?_⟩⟩
        rw [List.append_nil] at j1
        have noTok : ∀ k a b, At hp' k (.tok a b) → k ≠ lp := fun k a b h e => by
          subst e
          have := h.eq.symm.trans j9.eq
          rw [hLe] at this
          simp at this
        have n : ∀ {m o}, m ≠ lp → At hp' m o → At (hp'.set lp .dead) m o := fun h g => g.ne (fun e => h e.symm)
        rw [jW, ← j1] at j5
        simp
        exact ⟨_, by omega, i + 1, rfl, hmore2, ns, by rw [hu]; exact hlv, hmu, n (by omega) j2, sp, sp2, by rw [hu]; exact n (by omega) j3, n (by omega) j4, by rw [hu]; exact n (by omega) j5, (by
          rcases j7 with h | ⟨k, h1, h2, h5⟩
          · exact .inl h
          · exact .inr ⟨k, h1, h2, n (noTok _ _ _ h5) h5⟩), hK2 _ _ _ _ j8 (by omega)⟩
      · exact k2.elim
  rw [hR] at key
  exact key

theorem s151 {hp : List Obj} : runS E (dL E) 151 [] hp = some (.bool true, hp) := by
  obtain ⟨d, hp', h1, h2, h3⟩ := runS_T c151 (args := []) (hp := hp) (R := fun d hp' => d = .bool true ∧ hp' = hp) (by simp) (by
    simp [t151, n151])
  rw [h1, h2, h3]

theorem wgt_le : ∀ {vs : List Var}, (∀ v, v ∈ vs → v.choices.length ≤ 8) → wgt vs ≤ 9 ^ vs.length
  | [], _ => by simp [wgt]
  | v :: vs, h => by
    have h1 := wgt_le (vs := vs) fun w hw => h w (by simp [hw])
    have h2 := h v (by simp)
    have h3 := wgt_pos (vs := vs)
    have h4 : v.choices.length * wgt vs ≤ 8 * wgt vs := Nat.mul_le_mul_right _ h2
    simp only [wgt, List.length_cons, Nat.pow_succ]
    omega
theorem wB_le {p : Prob} (S : Small p) {b : List Int} : wB p b ≤ 531441 := by
  unfold wB
  have h1 := wgt_le (vs := p.vars.drop b.length) fun v hv => S.choices v (List.mem_of_mem_drop hv)
  have h2 : (p.vars.drop b.length).length ≤ 6 := by have := S.vars; simp; omega
  exact Nat.le_trans h1 (Nat.le_trans (Nat.pow_le_pow_right (by decide) h2) (by decide))
theorem wO_le {p : Prob} (S : Small p) : ∀ {l : List (List Int)}, wO p l ≤ l.length * 531441
  | [] => by simp [wO]
  | b :: l => by
    have h1 := wB_le S (b := b)
    have h2 := wO_le S (l := l)
    simp only [wO, List.length_cons]; omega
theorem SmS.of {p : Prob} (S : Small p) {s : Srch} (h1 : s.opn.length ≤ 1000) (h2 : s.leaves.length ≤ 100000000) : SmS p s := ⟨by
  have := wO_le S (l := s.opn)
  omega⟩
theorem startS_sm {p : Prob} (S : Small p) : SmS p startS := SmS.of S (by decide) (by decide)

theorem r150 (p : Prob) (s : Srch) (S : Small p) (ok : OkP p) (M : SmS p s) (hs : OkS p s) : ∃ n, (iter p n s).opn = [] ∧ runP E (dL E) 150 [dProb p, dSrch s, .fn 151 []] = some (dSrch (iter p n s)) := by
  obtain ⟨d, hp', f1, c, ns, sp1, sp2, f2, f3, f4, f5, f6, m, f7⟩ := s150 p s S ok M hs 151 [] (fun _ => true) [] (fun _ _ => True)
    (fun m hp _ => ⟨hp, s151, trivial, fun j o _ h => h⟩) (fun m hp r g => trivial) (fun m hp j o g hj => trivial) trivial
  have hz := frzL_dLs (hp := hp') (n := 6) (ls := s.leaves) (ns := ns) f5
  rw [← f4] at hz
  refine ⟨c, by simpa using f3, ?_⟩
  have hk : E.keep 150 = false := rfl
  unfold runP
  simp only [f1, f6, hk, frzK]
  simp [hz]

noncomputable def resSolve (p : Prob) : D := if ck p = 0 then .tup [dCert (certS (solveS p)), dI 0] else .tup [dCert cert0, dI (ck p)]

theorem ck_ok {p : Prob} (h : ck p = 0) : OkP p := by
  unfold ck at h
  split at h
  · assumption
  · cases h
theorem cert_solve {p : Prob} (S : Small p) (ok : OkP p) : resCert p (solveS p) = .tup [dCert (certS (solveS p)), dI 0] := by
  have h1 : OkS p (solveS p) := startS_ok.iter ok
  have h2 := solve_end ok
  obtain ⟨w, e, _⟩ := solve_best S ok
  have h3 : sk p (solveS p) = 0 := by simp [sk, ok, h1]
  unfold resCert
  rw [if_pos h3, if_pos ⟨by rw [h2]; rfl, by rw [e]; simp [boundL]⟩]

theorem r131 (p : Prob) (S : Small p) : runP E (dL E) 131 [dProb p] = some (resSolve p) := by
  refine runP_T c131 (by simp) ?_
  have h139 := r139 p S
  simp only [dProb] at h139
  unfold resStart at h139
  by_cases h : ck p = 0
  rotate_left
  · rw [if_neg h] at h139
    simp [t131, n131, h139, h, resSolve, srch0, cert0]
  have ok := ck_ok h
  rw [if_pos h] at h139
  obtain ⟨n, h1, h2⟩ := r150 p startS S ok (startS_sm S) startS_ok
  rw [iter_all ok h1] at h2
  have h133 := r133 p (solveS p) S ((startS_sm S).iter ok startS_ok)
  rw [cert_solve S ok] at h133
  obtain ⟨V, hV⟩ : ∃ V, V = solveS p := ⟨_, rfl⟩
  rw [← hV] at h2 h133
  simp only [dProb, dSrch, dInts] at h2 h133
  simp only [startS, dInts, List.map_cons, List.map_nil] at h2
  simp [t131, n131, h139, h, resSolve, ← hV, startS, h2, h133, certS, frzL_leaf]

theorem light_small {p : Prob} (h : lightB p = true) : Small p := by
  unfold lightB at h
  simp only [Bool.and_eq_true] at h
  exact few_small h.1

open Classical in
theorem q24 (p : Prob) (a b : List Int) (S : Small p) : runP E (dL E) 24 [dProb p, dInts a, dInts b] = some (resBt p a b) := by
  by_cases hab : a.length ≤ 20 ∧ b.length ≤ 20
  · exact r24 p a b S hab.1 hab.2
  have hn : ¬ (Whole p a ∧ Whole p b) := fun h => by
    by_cases ha : a.length ≤ 20
    · exact long_wk S (fun hb => hab ⟨ha, hb⟩) h.2
    · exact long_wk S ha h.1
  refine runP_T c24 (by simp) ?_
  have h1 := q22 p a S
  have h2 := q22 p b S
  unfold resV at h1 h2
  unfold resBt
  rw [if_neg hn]
  by_cases wa : Whole p a
  · have wb : ¬ Whole p b := fun h => hn ⟨wa, h⟩
    rw [if_pos wa] at h1
    rw [if_neg wb] at h2
    simp only [dProb, dInts] at h1 h2
    simp [t24, n24, h1, h2]
  · rw [if_neg wa] at h1
    simp only [dProb, dInts] at h1
    simp [t24, n24, h1]

def prodC : List Var → Nat
  | [] => 1
  | v :: vs => v.choices.length * prodC vs
/-- how many solutions are left -/
def remC : List Var → List Int → Nat
  | v :: vs, x :: xs => (v.choices.length - 1 - x.toNat) * prodC vs + remC vs xs
  | _, _ => 0
theorem prodC_pos : ∀ {vs : List Var}, (∀ v, v ∈ vs → 1 ≤ v.choices.length) → 1 ≤ prodC vs
  | [], _ => Nat.le_refl _
  | v :: vs, h => by
    have h1 := h v (by simp)
    have h2 := prodC_pos (vs := vs) fun w hw => h w (by simp [hw])
    exact Nat.mul_le_mul h1 h2
theorem remC_zero : ∀ {vs : List Var}, (∀ v, v ∈ vs → 1 ≤ v.choices.length) → remC vs (List.replicate vs.length 0) + 1 = prodC vs
  | [], _ => rfl
  | v :: vs, h => by
    have h1 := h v (by simp)
    have h2 := remC_zero (vs := vs) fun w hw => h w (by simp [hw])
    obtain ⟨n, hn⟩ : ∃ n, v.choices.length = n + 1 := ⟨v.choices.length - 1, by omega⟩
    simp only [List.length_cons, List.replicate_succ, remC, prodC, hn, Int.toNat_zero]
    rw [Nat.succ_mul]
    simp only [Nat.add_sub_cancel, Nat.sub_zero]
    omega
theorem remC_next : ∀ {vs : List Var} {x : List Int} {i : Nat} (hi : i < x.length) (hl : x.length = vs.length), (∀ v, v ∈ vs → 1 ≤ v.choices.length) → 0 ≤ x[i] → x[i] < (vs[i]'(by omega)).choices.length - 1 →
    remC vs (x.take i ++ (x[i] + 1) :: List.replicate (x.length - i - 1) 0) < remC vs x
  | [], [], i, hi, _, _, _, _ => by simp at hi
  | [], _ :: _, i, hi, hl, _, _, _ => by simp at hl
  | _ :: _, [], i, hi, _, _, _, _ => by simp at hi
  | v :: vs, a :: x, 0, hi, hl, h, h0, h1 => by
    simp only [List.length_cons, Nat.add_right_cancel_iff] at hl
    simp only [List.getElem_cons_zero] at h0 h1
    have hz := remC_zero (vs := vs) fun w hw => h w (by simp [hw])
    simp only [List.take_zero, List.nil_append, List.getElem_cons_zero, List.length_cons, remC, Nat.sub_zero, Nat.add_sub_cancel, hl]
    obtain ⟨k, hk⟩ : ∃ k, v.choices.length - 1 - a.toNat = k + 1 := ⟨v.choices.length - 1 - a.toNat - 1, by omega⟩
    have hk2 : v.choices.length - 1 - (a + 1).toNat = k := by omega
    rw [hk, hk2, Nat.succ_mul]
    omega
  | v :: vs, a :: x, i + 1, hi, hl, h, h0, h1 => by
    simp only [List.length_cons, Nat.add_right_cancel_iff] at hl
    simp only [List.getElem_cons_succ] at h0 h1
    have := remC_next (vs := vs) (x := x) (i := i) (by simpa using hi) hl (fun w hw => h w (by simp [hw])) h0 h1
    simp only [List.take_succ_cons, List.cons_append, List.getElem_cons_succ, List.length_cons, remC]
    rw [show x.length + 1 - (i + 1) - 1 = x.length - i - 1 from by omega]
    omega

/-- the row while it is counted up -/
def rowC (x : List Int) (i : Nat) : List Int := x.take i ++ List.replicate (x.length - i) 0
theorem rowC_len {x : List Int} {i : Nat} (h : i ≤ x.length) : (rowC x i).length = x.length := by simp [rowC]; omega
theorem rowC_get {x : List Int} {i j : Nat} (h : j < i) (h' : i ≤ x.length) : (rowC x i)[j]? = x[j]? := by
  unfold rowC
  rw [List.getElem?_append_left (by rw [List.length_take]; omega), List.getElem?_take, if_pos h]
theorem rowC_set {x : List Int} {i : Nat} (h : i < x.length) : (rowC x (i + 1)).set i 0 = rowC x i := by
  apply List.ext_getElem?
  intro j
  unfold rowC
  by_cases e : i = j
  · subst e
    rw [List.getElem?_set_self (by simp; omega), List.getElem?_append_right (by rw [List.length_take]; omega), List.getElem?_replicate, if_pos (by rw [List.length_take]; omega)]
  · rw [List.getElem?_set_ne e]
    by_cases hj : j < i
    · rw [List.getElem?_append_left (by rw [List.length_take]; omega), List.getElem?_append_left (by rw [List.length_take]; omega), List.getElem?_take, List.getElem?_take, if_pos (by omega), if_pos hj]
    · rw [List.getElem?_append_right (by rw [List.length_take]; omega), List.getElem?_append_right (by rw [List.length_take]; omega), List.getElem?_replicate, List.getElem?_replicate, List.length_take, List.length_take]
      by_cases hx : j < x.length
      · rw [if_pos (by omega), if_pos (by omega)]
      · rw [if_neg (by omega), if_neg (by omega)]
theorem rowC_up {x : List Int} {i : Nat} {a : Int} (h : i < x.length) : (rowC x (i + 1)).set i a = x.take i ++ a :: List.replicate (x.length - i - 1) 0 := by
  unfold rowC
  rw [List.take_succ_eq_append_getElem h, List.append_assoc, List.set_append_right _ _ (by rw [List.length_take]; omega)]
  congr 1
  rw [List.length_take, show i - min i x.length = 0 from by omega]
  simp only [List.singleton_append, List.set_cons_zero]
  rw [show x.length - (i + 1) = x.length - i - 1 from by omega]
theorem rowC_all {x : List Int} : rowC x x.length = x := by simp [rowC]

theorem next_whole {p : Prob} {x : List Int} {i : Nat} (w : Whole p x) (h : i < x.length) (h' : i < p.vars.length) (hc : x[i] < p.vars[i].choices.length - 1) : Whole p (x.take i ++ (x[i] + 1) :: List.replicate (x.length - i - 1) 0) := by
  obtain ⟨ok, okb, hl⟩ := w
  have hlen : (x.take i ++ (x[i] + 1) :: List.replicate (x.length - i - 1) 0).length = x.length := by simp; omega
  refine ⟨ok, ⟨by rw [hlen]; exact okb.len, fun j h1 h2 => ?_⟩, by rw [hlen]; exact hl⟩
  have h3 : j < x.length := by omega
  have hj := okb.each j h3 h2
  by_cases e : j < i
  · rw [List.getElem_append_left (by rw [List.length_take]; omega), List.getElem_take]
    exact hj
  · rw [List.getElem_append_right (by rw [List.length_take]; omega)]
    have hone := (ok.vars _ (List.getElem_mem h2)).one
    by_cases e2 : j = i
    · subst e2
      have h0 : j - (x.take j).length = 0 := by rw [List.length_take]; omega
      simp only [h0, List.getElem_cons_zero]
      unfold wi at hj ⊢
      omega
    · obtain ⟨k, hk⟩ : ∃ k, j - (x.take i).length = k + 1 := ⟨j - i - 1, by rw [List.length_take]; omega⟩
      simp only [hk, List.getElem_cons_succ, List.getElem_replicate]
      unfold wi
      omega

end Dv
