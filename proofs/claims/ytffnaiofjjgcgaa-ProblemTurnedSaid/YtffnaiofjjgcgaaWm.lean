/- Texts that a proof of this claim uses, joined: Lw.W34, Lw.W35, Lw.W36. -/
import Derived.Test.YtffnaiofjjgcgaaWx
import Derived.Test.YtffnaiofjjgcgaaWa
set_option linter.all false
/- Walks: the overloads, one after the other. -/
namespace Dv
attribute [local simp] wT_skip wK wT_ret wT_exit wR wRp wT_seq wC wT_block rTS_nil rTS_asg rTS_eff rTS_effk ob_some obP_some iteD_b condP_b xv_v xv_c xv_ite xv_bin_tt xv_bin_tc xv_bin_ct xv_bin_cc xv_un_t xv_conv_t xv_load xv_len xv_faddr xv_field xv_iaddr_tt xv_iaddr_tc xv_index_tt xv_index_tc xv_lookup_tt xv_max_tt xv_max_tc xv_max_ct xv_min_tt xv_min_tc xv_min_ct xv_slice_lo_t xv_slice_lo_c xv_slice_hi_t xv_slice_all xv_call xv_bslice bsliceV xv_build buildV xv_mkfn zeroE fillE buildD fillD List.replicate xvs_nil xvs_cons callV_fn frz_bool frz_int frz_imm frz_agg frz_tup frz_fn frz_iptr frzL_nil frzL_one frzL_dI frzL_cell frzL_use frzL_ints frzL_choice frzL_var depth dCell dUse dInts dChoice dVar dProb tStart addO Ret flat_dI flat_rep chunk_dI
 binD_add binD_sub binD_mul binD_eql binD_neq binD_lss binD_leq binD_gtr binD_geq binD_quo binD_rem binD_beql binD_bneq binD_aeql binD_aneq unD_not unD_neg lenD_imm lenD_sl lenD_str readO_cells readO_frozen loadD_loc loadD_iptr iaddrD_imm iaddrD_sl iaddrD_loc faddrD_loc faddrD_iptr fieldD_agg indexD_agg indexD_str cellsL_bool stor_bool atom_bool cellsL_int stor_int atom_int cellsL_str stor_str atom_str cellsL_imm stor_imm atom_imm cellsL_sl stor_sl atom_sl cellsL_loc stor_loc atom_loc cellsL_iptr stor_iptr atom_iptr cellsL_map stor_map atom_map cellsL_fn stor_fn atom_fn cellsL_agg stor_agg cellsL_nilfn stor_nilfn atom_nilfn cellsL_nilp stor_nilp atom_nilp takeC_z takeC_s ofCells_ag ofCells_one ag_bool ag_int ag_str ag_slice ag_struct ag_arr ag_map ag_ptr ag_func gOf_t gOf_c gOf_f kv_cons putE_some putE_none oneRes_one oneRes_two oneRes_three getAll_nil getAll_v getAll_c maxiD_two miniD_two extV_tup xv_ext stepOp_box stepOp_alloc stepOp_store writeO_cells storeD_loc setCells_nil setCells_cons stepOp_mkmap stepOp_mapset stepOp_call1 stepOp_call2 stepOp_app2 stepOp_app1 stepOp_bslice stepOp_mkslice mapO_map lookupD_some lookupD_ok mapsetD_some keyOk_agg kindsL_nil kindsL_bool kindsL_int eqL_nil eqL_cons atomEq_bool atomEq_int frz_sl tokO_tok app0_step app0_exact app0_tok frz_loc oneRes_nil listOf_imm
 ty_0 ty_1 ty_2 ty_3 ty_4 ty_5 ty_6 ty_7 ty_8 ty_9 ty_10 ty_11 ty_12 ty_13 ty_14 ty_15 ty_16 ty_17 ty_18 ty_19 ty_20 ty_21 ty_22 ty_23 ty_24 ty_25 ty_26 ty_27
attribute [local congr] wT_congr ob_congr obP_congr iteD_congr condP_congr

def gdD (t : D) (b : Bool) : Bool := match t with
  | .bool c => c == b
  | _ => false
theorem gdD_b {c b : Bool} : gdD (.bool c) b = (c == b) := rfl
theorem rTS_effg {E : Env} {cP : Nat → List D → Option D} {cS cY : Nat → List D → List Obj → Option (D × List Obj)} {base : Nat} {env : List D} {hp : List Obj} {x : Xp} {b : Bool} {dst : Option Nat} {op : DOp} {ks : Xs} {k : Option Nat} {r : List TS} :
    rTS E cP cS cY base (.eff (some (x, b)) dst op ks k :: r) env hp = ob (xv E cP env hp x) fun t => if gdD t b = true then rTS E cP cS cY base (.eff none dst op ks k :: r) env hp else rTS E cP cS cY base r (putE env dst .undef) hp := by
  simp only [rTS, gdT]
  cases xv E cP env hp x with
  | none => rfl
  | some d =>
    cases d with
    | bool c => cases c <;> cases b <;> rfl
    | _ => rfl

/-- is a list of choices a solution? -/
def Whole (p : Prob) (b : List Int) : Prop := OkP p ∧ OkB p b ∧ b.length = p.vars.length
open Classical in
noncomputable def wk (p : Prob) (b : List Int) : Int := if Whole p b then 0 else 270
theorem wk_pos {p : Prob} {b : List Int} (h : Whole p b) : wk p b = 0 := by simp [wk, h]
theorem wk_neg {p : Prob} {b : List Int} (h : ¬ Whole p b) : wk p b = 270 := by simp [wk, h]

set_option maxHeartbeats 4000000 in
theorem r83 (p : Prob) (b : List Int) (S : Small p) (hb : b.length ≤ 20) : runP E (dL E) 83 [dProb p, dInts b] = some (dI (wk p b)) := by
  refine runP_T c83 (by simp) ?_
  have h66 := r66 p b S hb
  simp only [dProb, dInts] at h66
  simp [t83, n83, h66]
  by_cases h0 : bk p b 270 = 0
  rotate_left
  · have e : wk p b = 270 := wk_neg fun h => h0 (bk_pos h.1 h.2.1)
    simp [bk_270 h0, e]
  obtain ⟨ok, okb⟩ := bk_ok h0 (by decide)
  by_cases h1 : b.length = p.vars.length
  · have e : wk p b = 0 := wk_pos ⟨ok, okb, h1⟩
    have h1' : (b.length : Int) = p.vars.length := by omega
    simp [h0, h1', e]
  · have e : wk p b = 270 := wk_neg fun h => h1 h.2.2
    have h1' : ¬ (b.length : Int) = p.vars.length := by omega
    simp [h0, h1', e]

theorem r84 (p : Prob) (b : List Int) : runP E (dL E) 84 [dProb p, dInts b] = some (.fn 110 [.iptr (dProb p).cellsL, .iptr [dInts b]]) := by
  refine runP_T c84 (by simp) ?_
  simp [t84, n84]

/-- a place and by how much its demand is too great -/
structure Over where
  leaf : Int
  cell : Int
  more : Int

def ovIR (leaf : Nat) : Nat → List Int → List Int → List Over
  | k, d :: ds, c :: cs => (if 0 < d - c then [⟨leaf, k, d - c⟩] else []) ++ ovIR leaf (k + 1) ds cs
  | _, _, _ => []
def ovIL (p : Prob) (b : List Int) : Nat → List (List Int) → List Over
  | _, [] => []
  | k, c :: cs => ovIR k 0 (dem p b k) c ++ ovIL p b (k + 1) cs
def ovI (p : Prob) (b : List Int) : List Over := ovIL p b 0 p.capacity

abbrev dPlace (x : Over) : D := .agg [dI x.leaf, dI x.cell]


set_option maxHeartbeats 16000000 in
theorem i110 (p : Prob) (b : List Int) (S : Small p) (hb : b.length ≤ 20) (ok : OkP p) (okb : OkB p b) (l : Nat) (J : List Over → List Obj → Prop) (Fin : List Obj → Prop)
    (hext : ∀ rem hp r, J rem hp → J rem (hp ++ r))
    (hy : ∀ x rem hp, J (x :: rem) hp → ∃ t hp', runY (dL E) l [dPlace x, dI x.more] hp = some (.bool t, hp') ∧ (t = true → J rem hp') ∧ (t = false → Fin hp')) {hp : List Obj}
    (h0 : J (ovI p b) hp) :
    ∃ d hp', runS E (dL E) 110 [.yld l, .iptr (dProb p).cellsL, .iptr [dInts b]] hp = some (d, hp') ∧ (J [] hp' ∨ Fin hp') := by
  refine runS_T c110 (R := fun _ hp' => J [] hp' ∨ Fin hp') (by simp) ?_
  have s1 := S.cells
  have s2 := S.cap
  have h68 := r68 p b S hb ok okb
  have hAl := demA_len (p := p) (b := b)
  simp only [dProb, dInts] at h68
  simp [t110, n110, h68, hAl]
  refine wT_up p.capacity.length (fun i env hp => ∃ (x3 x4 x5 x6 x7 x11 x12 x13 x14 x15 x16 x17 : D) , env = [.yld l, .iptr (dProb p).cellsL, .iptr [dInts b], x3, x4, x5, x6, x7, .imm .none ((demA p b).map dInts), dI p.capacity.length, dI i, x11, x12, x13, x14, x15, x16, x17] ∧
    J (ovIL p b i (p.capacity.drop i)) hp) 0 (by omega) ⟨_, _, _, _, _, _, _, _, _, _, _, _, rfl, by simpa [ovI] using h0⟩ ?_
  rintro i env hp hi ⟨x3, x4, x5, x6, x7, x11, x12, x13, x14, x15, x16, x17, rfl, hJ⟩
  by_cases hlt : i < p.capacity.length
  rotate_left
  · have : i = p.capacity.length := by omega
    subst this
    simp only [List.drop_length, ovIL] at hJ
    simp [hJ]
  have hget := demA_get ok (b := b) hlt
  have hgi : ∀ h : i < (demA p b).length, (demA p b)[i]'h = dem p b i := fun h => by
    rw [List.getElem?_eq_getElem h] at hget
    exact Option.some.inj hget
  have hcap := ok.cap _ (List.getElem_mem hlt)
  have hdl : (dem p b i).length = p.cells.length := by simp [dem, foldU_len]
  have hdb := dem_bd S ok (b := b) (leaf := i)
  obtain ⟨d, hd⟩ : ∃ d, d = dem p b i := ⟨_, rfl⟩
  obtain ⟨c, hc⟩ : ∃ c, c = p.capacity[i] := ⟨_, rfl⟩
  obtain ⟨rest, hre⟩ : ∃ rest, rest = ovIL p b (i + 1) (p.capacity.drop (i + 1)) := ⟨_, rfl⟩
  rw [drop_cons hlt] at hJ
  simp only [ovIL, ← hd, ← hc, ← hre] at hJ
  rw [← hc] at hcap
  rw [← hd] at hdl hdb
  simp [hlt, hAl, hgi, ← hd]
  refine wT_up d.length (fun j env hp => ∃ (x4 x5 x6 x7 x11 x15 x16 x17 : D) , env = [.yld l, .iptr (dProb p).cellsL, .iptr [dInts b], dI i, x4, x5, x6, x7, .imm .none ((demA p b).map dInts), dI p.capacity.length, dI i, x11, dInts d, dI d.length, dI j, x15, x16, x17] ∧
    J (ovIR i j (d.drop j) (c.drop j) ++ rest) hp) 0 (by omega) ⟨_, _, _, _, _, _, _, _, rfl, by simpa using hJ⟩ ?_
  rintro j env hp hj ⟨x4, x5, x6, x7, x11, x15, x16, x17, rfl, hJ⟩
  by_cases hlt2 : j < d.length
  rotate_left
  · have : j = d.length := by omega
    subst this
    simp only [List.drop_length, ovIR, List.nil_append] at hJ
    rw [hre] at hJ
    simp [wrap_up hlt (by omega), hlt, hJ]
  have hjc : j < c.length := by omega
  have hjc' : j < p.capacity[i].length := by rw [← hc]; exact hjc
  have e1 : p.capacity[i][j] = c[j] := by simp only [hc]
  rw [drop_cons hlt2, drop_cons hjc] at hJ
  simp only [ovIR] at hJ
  have hd1 := hdb _ (List.getElem_mem hlt2)
  have hc1 := hcap.2 _ (List.getElem_mem hjc)
  unfold wi at hc1
  have w1 := wrap_i64 (n := d[j] - c[j]) ⟨by omega, by omega⟩
  by_cases hg : 0 < d[j] - c[j]
  · have hg' : c[j] < d[j] := by omega
    rw [if_pos hg] at hJ
    change J ((⟨(i : Int), (j : Int), d[j] - c[j]⟩ : Over) :: (ovIR i (j + 1) (d.drop (j + 1)) (c.drop (j + 1)) ++ rest)) hp at hJ
    obtain ⟨t, hp2, hy1, hy2, hy3⟩ := hy _ _ _ hJ
    simp at hy1
    cases t with
    | true =>
      have hJ2 := hy2 rfl
      simp [hlt, hlt2, hjc', e1, w1, rTS_effg, gdD_b, hg', hy1, wrap_up hlt2 (by omega), hJ2]
    | false =>
      have hF := hy3 rfl
      simp [hlt, hlt2, hjc', e1, w1, rTS_effg, gdD_b, hg', hy1, hF]
  · have hg' : ¬ c[j] < d[j] := by omega
    rw [if_neg hg] at hJ
    simp only [List.nil_append] at hJ
    simp [hlt, hlt2, hjc', e1, w1, rTS_effg, gdD_b, hg', wrap_up hlt2 (by omega), hJ]

end Dv

/- Walks: comparing lists of numbers. -/
namespace Dv
attribute [local simp] wT_skip wK wT_ret wT_exit wR wRp wT_seq wC wT_block rTS_nil rTS_asg rTS_eff rTS_effk ob_some obP_some iteD_b condP_b xv_v xv_c xv_ite xv_bin_tt xv_bin_tc xv_bin_ct xv_bin_cc xv_un_t xv_conv_t xv_load xv_len xv_faddr xv_field xv_iaddr_tt xv_iaddr_tc xv_index_tt xv_index_tc xv_lookup_tt xv_max_tt xv_max_tc xv_max_ct xv_min_tt xv_min_tc xv_min_ct xv_slice_lo_t xv_slice_lo_c xv_slice_hi_t xv_slice_all xv_call xv_bslice bsliceV xv_build buildV xv_mkfn zeroE fillE buildD fillD List.replicate xvs_nil xvs_cons callV_fn frz_bool frz_int frz_imm frz_agg frz_tup frz_fn frz_iptr frzL_nil frzL_one frzL_dI frzL_cell frzL_use frzL_ints frzL_choice frzL_var depth dCell dUse dInts dChoice dVar dProb tStart addO Ret flat_dI flat_rep chunk_dI
 binD_add binD_sub binD_mul binD_eql binD_neq binD_lss binD_leq binD_gtr binD_geq binD_quo binD_rem binD_beql binD_bneq binD_aeql binD_aneq unD_not unD_neg lenD_imm lenD_sl lenD_str readO_cells readO_frozen loadD_loc loadD_iptr iaddrD_imm iaddrD_sl iaddrD_loc faddrD_loc faddrD_iptr fieldD_agg indexD_agg indexD_str cellsL_bool stor_bool atom_bool cellsL_int stor_int atom_int cellsL_str stor_str atom_str cellsL_imm stor_imm atom_imm cellsL_sl stor_sl atom_sl cellsL_loc stor_loc atom_loc cellsL_iptr stor_iptr atom_iptr cellsL_map stor_map atom_map cellsL_fn stor_fn atom_fn cellsL_agg stor_agg cellsL_nilfn stor_nilfn atom_nilfn cellsL_nilp stor_nilp atom_nilp takeC_z takeC_s ofCells_ag ofCells_one ag_bool ag_int ag_str ag_slice ag_struct ag_arr ag_map ag_ptr ag_func gOf_t gOf_c gOf_f kv_cons putE_some putE_none oneRes_one oneRes_two oneRes_three getAll_nil getAll_v getAll_c maxiD_two miniD_two extV_tup xv_ext stepOp_box stepOp_alloc stepOp_store writeO_cells storeD_loc setCells_nil setCells_cons stepOp_mkmap stepOp_mapset stepOp_call1 stepOp_call2 stepOp_app2 stepOp_app1 stepOp_bslice stepOp_mkslice mapO_map lookupD_some lookupD_ok mapsetD_some keyOk_agg kindsL_nil kindsL_bool kindsL_int eqL_nil eqL_cons atomEq_bool atomEq_int frz_sl tokO_tok app0_step app0_exact app0_tok frz_loc oneRes_nil listOf_imm
 ty_0 ty_1 ty_2 ty_3 ty_4 ty_5 ty_6 ty_7 ty_8 ty_9 ty_10 ty_11 ty_12 ty_13 ty_14 ty_15 ty_16 ty_17 ty_18 ty_19 ty_20 ty_21 ty_22 ty_23 ty_24 ty_25 ty_26 ty_27
attribute [local congr] wT_congr ob_congr obP_congr iteD_congr condP_congr

/-- by the first different number; a shorter list first -/
def cmpL : List Int → List Int → Int
  | [], [] => 0
  | [], _ :: _ => -1
  | _ :: _, [] => 1
  | x :: xs, y :: ys => if cmpI x y = 0 then cmpL xs ys else cmpI x y

theorem cmpI_zero {a b : Int} : cmpI a b = 0 ↔ a = b := by unfold cmpI; split <;> (try split) <;> omega
theorem cmpI_lt {a b : Int} : cmpI a b < 0 ↔ a < b := by unfold cmpI; split <;> (try split) <;> omega
theorem cmpI_val {a b : Int} : cmpI a b = -1 ∨ cmpI a b = 0 ∨ cmpI a b = 1 := by unfold cmpI; split <;> (try split) <;> omega

set_option maxHeartbeats 4000000 in
theorem r87 (a b : List Int) (ha : a.length ≤ 1000000) (hb : b.length ≤ 1000000) : runP E (dL E) 87 [dInts a, dInts b] = some (dI (cmpL a b)) := by
  refine runP_T c87 (by simp) ?_
  generalize hB : cmpL a b = B
  simp [t87, n87]
  refine wT_up a.length (fun i env hp => ∃ (x3 x4 x5 x6 x10 x11 x12 x13 : D) , env = [dInts a, dInts b, dI 0, x3, x4, x5, x6, dInts a, dI a.length, dI i, x10, x11, x12, x13] ∧ i ≤ b.length ∧ cmpL (a.drop i) (b.drop i) = B) 0 (by omega) ⟨_, _, _, _, _, _, _, _, rfl, by omega, by simpa using hB⟩ ?_
  rintro i env hp hi ⟨x3, x4, x5, x6, x10, x11, x12, x13, rfl, hib, hc⟩
  by_cases hlt : i < a.length
  · rw [drop_cons hlt] at hc
    by_cases h2 : i < b.length
    · rw [drop_cons h2] at hc
      simp only [cmpL] at hc
      by_cases h0 : cmpI a[i] b[i] = 0
      · rw [if_pos h0] at hc
        have h2' : ¬ b.length ≤ i := by omega
        simp [hlt, h2, h2', r74, h0, wrap_up hlt (by omega)]
        exact ⟨by omega, hc⟩
      · rw [if_neg h0] at hc
        have h2' : ¬ b.length ≤ i := by omega
        rw [hc] at h0
        simp [hlt, h2, h2', r74, h0, hc]
    · have hbd : b.drop i = [] := List.drop_of_length_le (by omega)
      rw [hbd] at hc
      simp only [cmpL] at hc
      have h2' : b.length ≤ i := by omega
      simp [hlt, h2', hc]
  · have hi' : i = a.length := by omega
    subst hi'
    rw [List.drop_length] at hc
    by_cases h2 : a.length < b.length
    · rw [drop_cons h2] at hc
      simp only [cmpL] at hc
      simp [h2, hc]
    · have hbd : b.drop a.length = [] := List.drop_of_length_le (by omega)
      rw [hbd] at hc
      simp only [cmpL] at hc
      simp [h2, hc]

def resC (a b : List Int) : D := if a.length = b.length then .tup [dI (cmpL a b), dI 0] else .tup [dI 0, dI 60]

theorem r30 (a b : List Int) (ha : a.length ≤ 1000000) (hb : b.length ≤ 1000000) : runP E (dL E) 30 [dInts a, dInts b] = some (resC a b) := by
  refine runP_T c30 (by simp) ?_
  have h87 := r87 a b ha hb
  simp only [dInts] at h87
  by_cases h : a.length = b.length
  · simp [t30, n30, h, h87, resC]
  · have h' : ¬ (a.length : Int) = b.length := by omega
    simp [t30, n30, h, h', resC]

/-! the order of lists of one length -/

theorem cmpL_refl : ∀ {a : List Int}, cmpL a a = 0
  | [] => rfl
  | x :: a => by simp only [cmpL, cmpI_zero.2 rfl, if_true, cmpL_refl]
theorem cmpL_zero : ∀ {a b : List Int}, a.length = b.length → (cmpL a b = 0 ↔ a = b)
  | [], [], _ => by simp [cmpL]
  | [], _ :: _, h => by simp at h
  | _ :: _, [], h => by simp at h
  | x :: a, y :: b, h => by
    have ih := cmpL_zero (a := a) (b := b) (by simpa using h)
    simp only [cmpL]
    by_cases e : cmpI x y = 0
    · rw [if_pos e, ih, cmpI_zero.1 e]; simp
    · rw [if_neg e]
      have : x ≠ y := fun h => e (cmpI_zero.2 h)
      simp [e, this]
theorem cmpL_val : ∀ {a b : List Int}, cmpL a b = -1 ∨ cmpL a b = 0 ∨ cmpL a b = 1
  | [], [] => by simp [cmpL]
  | [], _ :: _ => by simp [cmpL]
  | _ :: _, [] => by simp [cmpL]
  | x :: a, y :: b => by
    simp only [cmpL]
    by_cases e : cmpI x y = 0
    · rw [if_pos e]; exact cmpL_val
    · rw [if_neg e]; exact cmpI_val
theorem cmpL_anti : ∀ {a b : List Int}, cmpL b a = - cmpL a b
  | [], [] => by simp [cmpL]
  | [], _ :: _ => by simp [cmpL]
  | _ :: _, [] => by simp [cmpL]
  | x :: a, y :: b => by
    have ih := cmpL_anti (a := a) (b := b)
    have e : cmpI y x = - cmpI x y := by unfold cmpI; split <;> split <;> (try split) <;> omega
    simp only [cmpL]
    by_cases h : cmpI x y = 0
    · rw [if_pos h, if_pos (by omega), ih]
    · rw [if_neg h, if_neg (by omega), e]
theorem cmpL_trans : ∀ {a b c : List Int}, cmpL a b < 0 → cmpL b c < 0 → cmpL a c < 0
  | [], [], _, h, _ => by simp [cmpL] at h
  | [], _ :: _, [], _, h => by simp [cmpL] at h
  | [], _ :: _, _ :: _, _, _ => by simp [cmpL]
  | _ :: _, [], _, h, _ => by simp [cmpL] at h
  | _ :: _, _ :: _, [], _, h => by simp [cmpL] at h
  | x :: a, y :: b, z :: c, h1, h2 => by
    simp only [cmpL] at h1 h2 ⊢
    by_cases e1 : cmpI x y = 0
    · rw [if_pos e1] at h1
      rw [cmpI_zero.1 e1]
      by_cases e2 : cmpI y z = 0
      · rw [if_pos e2] at h2 ⊢
        exact cmpL_trans h1 h2
      · rw [if_neg e2] at h2 ⊢; exact h2
    · rw [if_neg e1] at h1
      by_cases e2 : cmpI y z = 0
      · rw [← cmpI_zero.1 e2, if_neg e1]; exact h1
      · rw [if_neg e2] at h2
        have h3 := cmpI_lt.1 h1
        have h4 := cmpI_lt.1 h2
        have h5 : x < z := by omega
        rw [if_neg (fun h => by have := cmpI_zero.1 h; omega)]
        exact cmpI_lt.2 h5
theorem cmpL_below : ∀ {a b : List Int}, a.length = b.length → (∀ n, a.getD n 0 ≤ b.getD n 0) → cmpL a b ≤ 0
  | [], [], _, _ => by simp [cmpL]
  | [], _ :: _, h, _ => by simp at h
  | _ :: _, [], h, _ => by simp at h
  | x :: a, y :: b, h, hn => by
    have h0 := hn 0
    simp only [List.getD_cons_zero] at h0
    simp only [cmpL]
    by_cases e : cmpI x y = 0
    · rw [if_pos e]
      exact cmpL_below (by simpa using h) fun n => by have := hn (n + 1); simpa using this
    · rw [if_neg e]
      have : x < y := by
        have : x ≠ y := fun h => e (cmpI_zero.2 h)
        omega
      have := cmpI_lt.2 this
      omega

end Dv

/- Walks: Value. -/
namespace Dv
attribute [local simp] wT_skip wK wT_ret wT_exit wR wRp wT_seq wC wT_block rTS_nil rTS_asg rTS_eff rTS_effk ob_some obP_some iteD_b condP_b xv_v xv_c xv_ite xv_bin_tt xv_bin_tc xv_bin_ct xv_bin_cc xv_un_t xv_conv_t xv_load xv_len xv_faddr xv_field xv_iaddr_tt xv_iaddr_tc xv_index_tt xv_index_tc xv_lookup_tt xv_max_tt xv_max_tc xv_max_ct xv_min_tt xv_min_tc xv_min_ct xv_slice_lo_t xv_slice_lo_c xv_slice_hi_t xv_slice_all xv_call xv_bslice bsliceV xv_build buildV xv_mkfn zeroE fillE buildD fillD List.replicate xvs_nil xvs_cons callV_fn frz_bool frz_int frz_imm frz_agg frz_tup frz_fn frz_iptr frzL_nil frzL_one frzL_dI frzL_cell frzL_use frzL_ints frzL_choice frzL_var depth dCell dUse dInts dChoice dVar dProb tStart addO Ret flat_dI flat_rep chunk_dI
 binD_add binD_sub binD_mul binD_eql binD_neq binD_lss binD_leq binD_gtr binD_geq binD_quo binD_rem binD_beql binD_bneq binD_aeql binD_aneq unD_not unD_neg lenD_imm lenD_sl lenD_str readO_cells readO_frozen loadD_loc loadD_iptr iaddrD_imm iaddrD_sl iaddrD_loc faddrD_loc faddrD_iptr fieldD_agg indexD_agg indexD_str cellsL_bool stor_bool atom_bool cellsL_int stor_int atom_int cellsL_str stor_str atom_str cellsL_imm stor_imm atom_imm cellsL_sl stor_sl atom_sl cellsL_loc stor_loc atom_loc cellsL_iptr stor_iptr atom_iptr cellsL_map stor_map atom_map cellsL_fn stor_fn atom_fn cellsL_agg stor_agg cellsL_nilfn stor_nilfn atom_nilfn cellsL_nilp stor_nilp atom_nilp takeC_z takeC_s ofCells_ag ofCells_one ag_bool ag_int ag_str ag_slice ag_struct ag_arr ag_map ag_ptr ag_func gOf_t gOf_c gOf_f kv_cons putE_some putE_none oneRes_one oneRes_two oneRes_three getAll_nil getAll_v getAll_c maxiD_two miniD_two extV_tup xv_ext stepOp_box stepOp_alloc stepOp_store writeO_cells storeD_loc setCells_nil setCells_cons stepOp_mkmap stepOp_mapset stepOp_call1 stepOp_call2 stepOp_app2 stepOp_app1 stepOp_bslice stepOp_mkslice mapO_map lookupD_some lookupD_ok mapsetD_some keyOk_agg kindsL_nil kindsL_bool kindsL_int eqL_nil eqL_cons atomEq_bool atomEq_int frz_sl tokO_tok app0_step app0_exact app0_tok frz_loc oneRes_nil listOf_imm
 ty_0 ty_1 ty_2 ty_3 ty_4 ty_5 ty_6 ty_7 ty_8 ty_9 ty_10 ty_11 ty_12 ty_13 ty_14 ty_15 ty_16 ty_17 ty_18 ty_19 ty_20 ty_21 ty_22 ty_23 ty_24 ty_25 ty_26 ty_27
attribute [local congr] wT_congr ob_congr obP_congr iteD_congr condP_congr

def sumI : List Over → Int
  | [] => 0
  | x :: r => x.more + sumI r
theorem sumI_app : ∀ {l r : List Over}, sumI (l ++ r) = sumI l + sumI r
  | [], r => by simp [sumI]
  | x :: l, r => by simp only [List.cons_append, sumI, sumI_app]; omega
theorem sumI_R {leaf : Nat} : ∀ {k : Nat} {d c : List Int}, sumI (ovIR leaf k d c) = ovR d c
  | _, [], _ => by simp [ovIR, ovR, sumI]
  | _, _ :: _, [] => by simp [ovIR, ovR, sumI]
  | k, d :: ds, c :: cs => by
    simp only [ovIR, ovR, sumI_app, sumI_R]
    by_cases h : 0 < d - c
    · have : mx (d - c) 0 = d - c := by unfold mx; rw [if_neg (by omega)]
      rw [if_pos h, this]; simp [sumI]
    · have : mx (d - c) 0 = 0 := by unfold mx; split <;> omega
      rw [if_neg h, this]; simp [sumI]
theorem sumI_L {p : Prob} {b : List Int} : ∀ {cs : List (List Int)} {k : Nat}, sumI (ovIL p b k cs) = ovL p b k cs
  | [], _ => by simp [ovIL, ovL, sumI]
  | c :: cs, k => by simp only [ovIL, ovL, sumI_app, sumI_R, sumI_L]
theorem sumI_ov {p : Prob} {b : List Int} : sumI (ovI p b) = ov p b := sumI_L

def okO (p : Prob) (x : Over) : Prop := 0 < x.more ∧ (0 ≤ x.leaf ∧ x.leaf ≤ 1000) ∧ 0 ≤ x.cell ∧ x.cell ≤ 1000
theorem okO_R {p : Prob} {leaf : Nat} (hl : leaf ≤ 1000) : ∀ {k : Nat} {d c : List Int}, k + d.length ≤ 1000 → ∀ x, x ∈ ovIR leaf k d c → okO p x
  | _, [], _, _, x, h => by simp [ovIR] at h
  | _, _ :: _, [], _, x, h => by simp [ovIR] at h
  | k, d :: ds, c :: cs, hk, x, h => by
    simp only [List.length_cons] at hk
    simp only [ovIR, List.mem_append] at h
    rcases h with h | h
    · by_cases hg : 0 < d - c
      · rw [if_pos hg] at h
        simp only [List.mem_singleton] at h
        subst h
        exact ⟨hg, ⟨by simp only; omega, by simp only; omega⟩, by simp only; omega, by simp only; omega⟩
      · rw [if_neg hg] at h; cases h
    · exact okO_R hl (by omega) x h
theorem okO_L {p : Prob} {b : List Int} (h1 : p.cells.length ≤ 12) : ∀ {cs : List (List Int)} {k : Nat}, k + cs.length ≤ 1000 → ∀ x, x ∈ ovIL p b k cs → okO p x
  | [], _, _, x, h => by simp [ovIL] at h
  | c :: cs, k, hk, x, h => by
    simp only [List.length_cons] at hk
    simp only [ovIL, List.mem_append] at h
    rcases h with h | h
    · exact okO_R (by omega) (by have : (dem p b k).length = p.cells.length := by simp [dem, foldU_len]
                                 omega) x h
    · exact okO_L h1 (by omega) x h

theorem sumI_pos : ∀ {l : List Over}, (∀ x, x ∈ l → 0 < x.more) → 0 ≤ sumI l
  | [], _ => by simp [sumI]
  | x :: l, h => by
    have h1 := h x (by simp)
    have h2 := sumI_pos (l := l) fun y hy => h y (by simp [hy])
    simp only [sumI]; omega

open Classical in
noncomputable def resV (p : Prob) (b : List Int) : D := if Whole p b then .tup [dInts (boundL p b), dI 0] else .tup [dInts [], dI 270]

set_option maxHeartbeats 16000000 in
theorem r22 (p : Prob) (b : List Int) (S : Small p) (hb : b.length ≤ 20) : runP E (dL E) 22 [dProb p, dInts b] = some (resV p b) := by
  refine runP_T c22 (by simp) ?_
  have h83 := r83 p b S hb
  have s1 := S.cells
  have s2 := S.cap
  have s3 := S.vars
  simp only [dProb, dInts] at h83
  simp [t22, n22, h83]
  by_cases h0 : Whole p b
  rotate_left
  · simp [wk_neg h0, resV, h0]
  simp only [resV, h0, if_true]
  simp [wk_pos h0]
  obtain ⟨ok, okb, hbl⟩ := h0
  have h84 := r84 p b
  simp only [dProb, dInts] at h84
  simp [h84]
  have hov := ov_le S ok (b := b)
  obtain ⟨V, hV⟩ : ∃ V, V = ov p b := ⟨_, rfl⟩
  rw [← hV] at hov
  have hbd := bd_picks (vs := p.vars) (b := b) (fun v hv => ⟨ok.vars v hv, S.leaves v hv⟩)
  have hpl := picks_len (vs := p.vars) (b := b)
  have hCb := sumC_bd hbd
  have hGb := sumG_bd hbd
  obtain ⟨M, hM⟩ : ∃ M, M = maxD 0 (picks p.vars b) := ⟨_, rfl⟩
  obtain ⟨C, hC⟩ : ∃ C, C = sumC (picks p.vars b) := ⟨_, rfl⟩
  obtain ⟨G, hG⟩ : ∃ G, G = sumG (picks p.vars b) := ⟨_, rfl⟩
  rw [← hC] at hCb
  rw [← hG] at hGb
  have hfin : boundL p b = [V, M, C, G] := by rw [hV, hM, hC, hG]; rfl
  rw [hfin]
  clear hfin
  refine ⟨110, _, rfl, ?_⟩
  intro L hL hcb
  obtain ⟨J, hJ⟩ : ∃ J : List Over → List Obj → Prop, J = fun rem hp' => ∃ (s : Int) (h' : List Obj), hp' = .cells (dProb p).cellsL :: .cells [dI s, dI 0, dI 0, dI 0] :: h' ∧
    At h' 0 (L false none) ∧ 0 ≤ s ∧ s + sumI rem = V ∧ (∀ x, x ∈ rem → okO p x) := ⟨_, rfl⟩
  have key := i110 p b S hb ok okb 2 J (fun _ => False) (by
      rw [hJ]
      rintro rem hp' r ⟨s, h', rfl, a1, a2⟩
      exact ⟨s, h' ++ r, rfl, a1.app, a2⟩) (by
      intro x rem hp1 hj
      rw [hJ] at hj
      obtain ⟨s, h', rfl, a1, a2, a3, a4⟩ := hj
      have hx := (a4 x (by simp)).1
      have hr2 := sumI_pos (l := rem) (fun y hy => (a4 y (by simp [hy])).1)
      simp only [sumI] at a3
      have w1 := wrap_i64 (n := s + x.more) ⟨by omega, by omega⟩
      have hl1 := a1.lt
      obtain ⟨t, hp2, e1, e2⟩ := hcb [dPlace x, dI x.more] (.cells (dProb p).cellsL :: .cells [dI s, dI 0, dI 0, dI 0] :: h') (fun t hp' => t = true ∧ J rem hp') rfl (by simpa [At] using a1) (by
        simp [setAll, w1]
        refine ⟨a1, At.self hl1, ?_⟩
        rw [hJ]
        exact ⟨s + x.more, _, rfl, At.self hl1, by omega, by omega, fun y hy => a4 y (by simp [hy])⟩)
      obtain ⟨rfl, e3⟩ := e2
      exact ⟨true, hp2, e1, fun _ => e3, fun h => by cases h⟩) (hp := .cells (dProb p).cellsL :: .cells [dI 0, dI 0, dI 0, dI 0] :: [L false none]) (by
      rw [hJ]
      exact ⟨0, _, rfl, rfl, by omega, by rw [sumI_ov, hV]; omega, okO_L s1 (by omega)⟩)
  obtain ⟨d, hp', h1, h2⟩ := key
  rcases h2 with h2 | h2
  rotate_left
  · exact h2.elim
  rw [hJ] at h2
  obtain ⟨s, h', rfl, a1, a2, a3, a4⟩ := h2
  simp only [sumI, Int.add_zero] at a3
  subst a3
  refine ⟨d, _, h1, .inl ⟨a1, ?_⟩⟩
  simp
  refine wT_up p.vars.length (fun i env hp => ∃ (x6 x7 x8 x9 x10 x11 x12 x13 x14 x18 x19 x20 x21 x22 x23 : D) (v1 v2 v3 : Int) (h : List Obj), env = [dProb p, dInts b, .loc 0 0, .imm .exact [], dI 0, .loc 1 0, x6, x7, x8, x9, x10, x11, x12, x13, x14, dInts b, dI b.length, dI i, x18, x19, x20, x21, x22, x23] ∧
    hp = .cells (dProb p).cellsL :: .cells [dI s, dI v1, dI v2, dI v3] :: h ∧ 0 ≤ v2 ∧ 0 ≤ v3 ∧ maxD v1 (picks (p.vars.drop i) (b.drop i)) = M ∧ v2 + sumC (picks (p.vars.drop i) (b.drop i)) = C ∧
    v3 + sumG (picks (p.vars.drop i) (b.drop i)) = G) 0 (by omega) ⟨_, _, _, _, _, _, _, _, _, _, _, _, _, _, _, 0, 0, 0, _, rfl, rfl, by omega, by omega, by simp [hM], by simp [hC], by simp [hG]⟩ ?_
  rintro i env hp hi ⟨x6, x7, x8, x9, x10, x11, x12, x13, x14, x18, x19, x20, x21, x22, x23, v1, v2, v3, h, rfl, rfl, a2, a3, a4, a5, a6⟩
  by_cases hlt2 : i < p.vars.length
  · have hib : i < b.length := by omega
    have okv := ok.vars _ (List.getElem_mem hlt2)
    have l1 := S.leaves _ (List.getElem_mem hlt2)
    have hr := bd_picks (vs := p.vars.drop (i + 1)) (b := b.drop (i + 1)) (fun v hv => ⟨ok.vars v (List.mem_of_mem_drop hv), S.leaves v (List.mem_of_mem_drop hv)⟩)
    have hr2 := sumC_bd hr
    have hr3 := sumG_bd hr
    have hbp := bd_pick okv (n := b[i]?)
    rw [drop_cons hlt2] at a4 a5 a6
    simp only [picks, List.tail_drop, List.head?_drop, sumC, sumG] at a4 a5 a6
    obtain ⟨n, hn⟩ : ∃ n : Int, n = p.vars[i].leaves.length := ⟨_, rfl⟩
    rw [← hn] at a4 a5 a6
    obtain ⟨⟨d1, d2⟩, ⟨c1, c2⟩, ⟨g1, g2⟩⟩ := hbp
    obtain ⟨c, hc⟩ : ∃ c, c = pick p.vars[i] b[i]? := ⟨_, rfl⟩
    rw [← hc] at a4 a5 a6 d1 d2 c1 c2 g1 g2
    have m1 := mul_bd c1 c2 (n := n) (by omega) (by omega)
    have m2 := mul_bd g1 g2 (n := n) (by omega) (by omega)
    have w1 := wrap_i64 (n := c.cost * n) ⟨by omega, by omega⟩
    have w2 := wrap_i64 (n := v2 + c.cost * n) ⟨by omega, by omega⟩
    have w3 := wrap_i64 (n := c.changes * n) ⟨by omega, by omega⟩
    have w4 := wrap_i64 (n := v3 + c.changes * n) ⟨by omega, by omega⟩
    have hmx : maxD (mx v1 c.delay) (picks (p.vars.drop (i + 1)) (b.drop (i + 1))) = M := a4
    have hw := okb.each i hib hlt2
    obtain ⟨m, hm⟩ : ∃ m : Nat, b[i] = m := ⟨b[i].toNat, by unfold wi at hw; omega⟩
    have hm' : m < p.vars[i].choices.length := by unfold wi at hw; omega
    rw [List.getElem?_eq_getElem hib, hm] at hc
    simp only [pick, Int.toNat_natCast, List.getD_eq_getElem?_getD, List.getElem?_eq_getElem hm', Option.getD_some] at hc
    simp [hlt2, hib, hm, hm', ↓get_app2, ↓set_app2, ← hc, ← hn, w1, w2, w3, w4, wrap_up hib (by omega), chkT_cons, chkT_nil, chk1, did, idsNe]
    exact ⟨_, _, _, ⟨rfl, rfl, rfl⟩, by omega, by omega, hmx, by omega, by omega⟩
  · have : i = p.vars.length := by omega
    subst this
    simp only [List.drop_length, picks, maxD, List.foldl_nil, sumC, sumG, Int.add_zero] at a4 a5 a6
    subst a4 a5 a6
    simp [chunk, hbl, sliceD, bnd]

end Dv
