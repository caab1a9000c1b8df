/- Texts that a proof of this claim uses, joined: Lw.W76. -/
import Derived.Test.YtffnaiofjjgcgaaRb
import Derived.Test.YtffnaiofjjgcgaaWy
set_option linter.all false
/- The law DualImprove. -/
namespace Dv
attribute [local simp] wT_skip wK wT_ret wT_exit wR wRp wT_seq wC wT_block rTS_nil rTS_asg rTS_eff rTS_effk ob_some obP_some iteD_b condP_b xv_v xv_c xv_ite xv_bin_tt xv_bin_tc xv_bin_ct xv_bin_cc xv_un_t xv_conv_t xv_load xv_len xv_faddr xv_field xv_iaddr_tt xv_iaddr_tc xv_index_tt xv_index_tc xv_lookup_tt xv_max_tt xv_max_tc xv_max_ct xv_min_tt xv_min_tc xv_min_ct xv_slice_lo_t xv_slice_lo_c xv_slice_hi_t xv_slice_all xv_call xv_bslice bsliceV xv_build buildV xv_mkfn zeroE fillE buildD fillD List.replicate xvs_nil xvs_cons callV_fn frz_bool frz_int frz_imm frz_agg frz_tup frz_fn frz_iptr frzL_nil frzL_one frzL_dI frzL_cell frzL_use frzL_ints frzL_choice frzL_var depth dCell dUse dInts dChoice dVar dProb tStart addO Ret flat_dI flat_rep chunk_dI
 binD_add binD_sub binD_mul binD_eql binD_neq binD_lss binD_leq binD_gtr binD_geq binD_quo binD_rem binD_beql binD_bneq binD_aeql binD_aneq unD_not unD_neg lenD_imm lenD_sl lenD_str readO_cells readO_frozen loadD_loc loadD_iptr iaddrD_imm iaddrD_sl iaddrD_loc faddrD_loc faddrD_iptr fieldD_agg indexD_agg indexD_str cellsL_bool stor_bool atom_bool cellsL_int stor_int atom_int cellsL_str stor_str atom_str cellsL_imm stor_imm atom_imm cellsL_sl stor_sl atom_sl cellsL_loc stor_loc atom_loc cellsL_iptr stor_iptr atom_iptr cellsL_map stor_map atom_map cellsL_fn stor_fn atom_fn cellsL_agg stor_agg cellsL_nilfn stor_nilfn atom_nilfn cellsL_nilp stor_nilp atom_nilp takeC_z takeC_s ofCells_ag ofCells_one ag_bool ag_int ag_str ag_slice ag_struct ag_arr ag_map ag_ptr ag_func gOf_t gOf_c gOf_f kv_cons putE_some putE_none oneRes_one oneRes_two oneRes_three getAll_nil getAll_v getAll_c maxiD_two miniD_two extV_tup xv_ext stepOp_box stepOp_alloc stepOp_store writeO_cells storeD_loc setCells_nil setCells_cons stepOp_mkmap stepOp_mapset stepOp_call1 stepOp_call2 stepOp_app2 stepOp_app1 stepOp_bslice stepOp_mkslice mapO_map lookupD_some lookupD_ok mapsetD_some keyOk_agg kindsL_nil kindsL_bool kindsL_int eqL_nil eqL_cons atomEq_bool atomEq_int frz_sl tokO_tok app0_step app0_exact app0_tok frz_loc oneRes_nil listOf_imm
 ty_0 ty_1 ty_2 ty_3 ty_4 ty_5 ty_6 ty_7 ty_8 ty_9 ty_10 ty_11 ty_12 ty_13 ty_14 ty_15 ty_16 ty_17 ty_18 ty_19 ty_20 ty_21 ty_22 ty_23 ty_24 ty_25 ty_26 ty_27
attribute [local congr] wT_congr ob_congr obP_congr iteD_congr condP_congr

def plU (c : Cell) (us : List Use) (a : Int) : Int := us.foldl (fun a u => if u.cell = c then mx a u.places else a) a
def plV (c : Cell) (cs : List Choice) (a : Int) : Int := cs.foldl (fun a x => plU c x.uses a) a
/-- the places that all variables together may want -/
def mostL (c : Cell) (k : Int) : List Var → Int
  | [] => 0
  | v :: vs => (if v.leaves.contains k = true then plV c v.choices 0 else 0) + mostL c k vs

theorem mx_ge {a b : Int} : a ≤ mx a b ∧ b ≤ mx a b := by unfold mx; split <;> omega
theorem plU_ge {c : Cell} : ∀ {us : List Use} {a : Int}, a ≤ plU c us a
  | [], _ => Int.le_refl _
  | u :: us, a => by
    unfold plU
    rw [List.foldl_cons]
    refine Int.le_trans ?_ plU_ge
    split
    · exact mx_ge.1
    · exact Int.le_refl _
theorem plU_le {c : Cell} : ∀ {us : List Use} {a : Int}, a ≤ 8 → (∀ u, u ∈ us → u.places ≤ 8) → plU c us a ≤ 8
  | [], _, h, _ => h
  | u :: us, a, h, hu => by
    unfold plU
    rw [List.foldl_cons]
    have h1 := hu u (by simp)
    refine plU_le ?_ fun v hv => hu v (by simp [hv])
    split
    · unfold mx; split <;> omega
    · exact h
theorem plV_ge {c : Cell} : ∀ {cs : List Choice} {a : Int}, a ≤ plV c cs a
  | [], _ => Int.le_refl _
  | x :: cs, a => by
    unfold plV
    rw [List.foldl_cons]
    exact Int.le_trans plU_ge plV_ge
theorem plV_le {c : Cell} : ∀ {cs : List Choice} {a : Int}, a ≤ 8 → (∀ x, x ∈ cs → ∀ u, u ∈ x.uses → u.places ≤ 8) → plV c cs a ≤ 8
  | [], _, h, _ => h
  | x :: cs, a, h, hu => by
    unfold plV
    rw [List.foldl_cons]
    exact plV_le (plU_le h (hu x (by simp))) fun y hy => hu y (by simp [hy])
theorem plU_mono {c : Cell} : ∀ {us : List Use} {a b : Int}, a ≤ b → plU c us a ≤ plU c us b
  | [], _, _, h => h
  | u :: us, a, b, h => by
    unfold plU
    rw [List.foldl_cons, List.foldl_cons]
    refine plU_mono ?_
    split
    · unfold mx; split <;> split <;> omega
    · exact h
theorem plV_in {c : Cell} : ∀ {cs : List Choice} {x : Choice} {a : Int}, 0 ≤ a → x ∈ cs → plU c x.uses 0 ≤ plV c cs a
  | y :: cs, x, a, h, hx => by
    unfold plV
    rw [List.foldl_cons]
    rcases List.mem_cons.1 hx with rfl | hx
    · exact Int.le_trans (plU_mono h) plV_ge
    · exact plV_in (Int.le_trans h plU_ge) hx
theorem mostL_bd {p : Prob} {c : Cell} {k : Int} : ∀ {vs : List Var}, (∀ v, v ∈ vs → OkVar p v) → 0 ≤ mostL c k vs ∧ mostL c k vs ≤ 8 * vs.length
  | [], _ => by simp [mostL]
  | v :: vs, h => by
    have h1 := mostL_bd (c := c) (k := k) (vs := vs) fun w hw => h w (by simp [hw])
    have h2 : plV c v.choices 0 ≤ 8 := plV_le (by omega) fun x hx u hu => ((h v (by simp)).choices x hx |>.uses u hu).places.2
    have h3 : 0 ≤ plV c v.choices 0 := plV_ge
    simp only [mostL, List.length_cons]
    split <;> omega

theorem at_iff {p : Prob} (ok : OkP p) {c : Cell} (hc : c ∈ p.cells) {N : Nat} (hN : N < p.cells.length) : (atS c p.cells 0).toNat = N ↔ c = p.cells[N] := by
  constructor
  · intro h
    obtain ⟨k, hk, rfl⟩ := List.getElem_of_mem hc
    rw [at_index ok.incr hk] at h
    have : k = N := by omega
    subst this; rfl
  · rintro rfl
    rw [at_index ok.incr hN]; omega
theorem cnt_none {p : Prob} (ok : OkP p) {N : Nat} (hN : N < p.cells.length) : ∀ {us : List Use}, (∀ u, u ∈ us → u.cell ∈ p.cells ∧ u.cell ≠ p.cells[N]) → cntU p N us = 0
  | [], _ => rfl
  | u :: us, h => by
    have h1 := h u (by simp)
    simp only [cntU]
    rw [if_neg (fun e => h1.2 ((at_iff ok h1.1 hN).1 e)), cnt_none ok hN fun v hv => h v (by simp [hv])]; rfl
theorem cnt_le {p : Prob} (ok : OkP p) {N : Nat} (hN : N < p.cells.length) : ∀ {us : List Use} {a : Int}, 0 ≤ a → (∀ u, u ∈ us → OkUse p u) → us.Pairwise (fun u v => u.cell ≠ v.cell) → cntU p N us ≤ plU p.cells[N] us a
  | [], a, ha, _, _ => by simpa [cntU, plU] using ha
  | u :: us, a, ha, hu, hp => by
    have h1 := hu u (by simp)
    rw [List.pairwise_cons] at hp
    unfold plU
    simp only [cntU, List.foldl_cons]
    by_cases e : u.cell = p.cells[N]
    · rw [if_pos ((at_iff ok h1.known hN).2 e), if_pos e, cnt_none ok hN fun v hv => ⟨(hu v (by simp [hv])).known, fun e2 => hp.1 v hv (e.trans e2.symm)⟩, Int.add_zero]
      exact Int.le_trans mx_ge.2 plU_ge
    · rw [if_neg (fun h => e ((at_iff ok h1.known hN).1 h)), if_neg e, Int.zero_add]
      exact cnt_le ok hN ha (fun v hv => hu v (by simp [hv])) hp.2
theorem uses_pair {p : Prob} {c : Choice} (h : OkChoice p c) : c.uses.Pairwise (fun u v => u.cell ≠ v.cell) := by
  rw [List.pairwise_iff_getElem]
  intro i j hi hj hij e
  have := incr_ne (l := c.uses.map (·.cell)) (fun k hk => by
    rw [List.length_map] at hk
    simp only [List.getElem_map]
    exact h.incr k hk) j i (by simpa using hj) hij
  simp only [List.getElem_map] at this
  exact this e
theorem cntK_le {p : Prob} (ok : OkP p) {b : List Int} {g : Int} {m : List (List Int)} {k : Int} {N : Nat} (hN : N < p.cells.length) : ∀ {vs : List Var} {i : Nat}, (∀ v, v ∈ vs → OkVar p v) → 0 ≤ cntU p N (usesK p b g m k i vs) ∧ cntU p N (usesK p b g m k i vs) ≤ mostL p.cells[N] k vs
  | [], _, _ => by simp [usesK, cntU, mostL]
  | v :: vs, i, h => by
    have h1 := cntK_le ok (b := b) (g := g) (m := m) (k := k) hN (vs := vs) (i := i + 1) fun w hw => h w (by simp [hw])
    have okv := h v (by simp)
    simp only [usesK, mostL, cntU_app]
    have h3 : 0 ≤ plV p.cells[N] v.choices 0 := plV_ge
    split
    · have h2 : 0 ≤ cntU p N (usesB p b g m i v) := cntU_pos fun u hu => (usesB_ok okv u hu).places.1 |> fun h => by omega
      have h4 : cntU p N (usesB p b g m i v) ≤ plV p.cells[N] v.choices 0 := by
        unfold usesB
        cases hb : bestK (costOf p m v 1) (candL b g i 0 v.choices) with
        | none => simpa [chOf, cntU] using h3
        | some y =>
          obtain ⟨y, n⟩ := y
          have hm := (bestK_mem hb).2.1
          have okc := okv.choices _ hm
          exact Int.le_trans (cnt_le ok hN (Int.le_refl 0) okc.uses (uses_pair okc)) (plV_in (Int.le_refl 0) hm)
      omega
    · simp only [cntU]; omega

theorem foldU_val2 {p : Prob} : ∀ {l : List Use} {r : List Int} {k : Int}, (∀ u, u ∈ l → 0 ≤ u.places ∧ u.places ≤ 8) → 0 ≤ k → (∀ x, x ∈ r → -k ≤ x ∧ x ≤ k) → k + 8 * l.length ≤ 1000000 →
    ∀ n, n < r.length → (l.foldl (addU p) r).getD n 0 = r.getD n 0 + cntU p n l
  | [], r, k, _, _, hr, _, n, hn => by simp [cntU]
  | u :: l, r, k, hu, hk, hr, hb, n, hn => by
    simp only [List.length_cons] at hb ⊢
    rw [List.foldl_cons]
    have hu1 := hu u (by simp)
    have h1 : -k ≤ r.getD (atS u.cell p.cells 0).toNat 0 ∧ r.getD (atS u.cell p.cells 0).toNat 0 ≤ k := by
      rcases getD_or (r := r) (a := (atS u.cell p.cells 0).toNat) with h | h
      · exact hr _ h
      · rw [h]; omega
    have := foldU_val2 (p := p) (l := l) (r := addU p r u) (k := k + 8) (fun v hv => hu v (by simp [hv])) (by omega) (fun y hy => by
      unfold addU at hy
      rcases List.mem_or_eq_of_mem_set hy with h | h
      · have := hr y h; omega
      · rw [h, wr_id ⟨by omega, by omega⟩]; omega) (by omega) n (by rw [addU_len]; exact hn)
    rw [this]
    unfold addU
    rw [wr_id ⟨by omega, by omega⟩]
    simp only [cntU]
    by_cases e : (atS u.cell p.cells 0).toNat = n
    · rw [if_pos e]
      subst e
      rw [List.getD_eq_getElem?_getD, List.getD_eq_getElem?_getD, List.getElem?_set_self hn, Option.getD_some, List.getElem?_eq_getElem hn, Option.getD_some]; omega
    · rw [if_neg e, List.getD_eq_getElem?_getD (l := List.set _ _ _), List.getElem?_set_ne e, ← List.getD_eq_getElem?_getD]; omega
theorem usesK_ok {p : Prob} {b : List Int} {g : Int} {m : List (List Int)} {k : Int} : ∀ {vs : List Var} {i : Nat}, (∀ v, v ∈ vs → OkVar p v) → ∀ u, u ∈ usesK p b g m k i vs → OkUse p u
  | [], _, _, u, h => by simp [usesK] at h
  | v :: vs, i, hv, u, h => by
    simp only [usesK, List.mem_append] at h
    rcases h with h | h
    · split at h
      · exact usesB_ok (hv v (by simp)) u h
      · cases h
    · exact usesK_ok (fun w hw => hv w (by simp [hw])) u h
theorem usesK_len {p : Prob} {b : List Int} {g : Int} {m : List (List Int)} {k : Int} : ∀ {vs : List Var} {i : Nat}, (∀ v, v ∈ vs → ∀ c, c ∈ v.choices → c.uses.length ≤ 12) → (usesK p b g m k i vs).length ≤ 12 * vs.length
  | [], _, _ => by simp [usesK]
  | v :: vs, i, hv => by
    have h1 := usesK_len (p := p) (b := b) (g := g) (m := m) (k := k) (vs := vs) (i := i + 1) fun w hw => hv w (by simp [hw])
    have h2 : (usesB p b g m i v).length ≤ 12 := by
      unfold usesB
      cases hb : bestK (costOf p m v 1) (candL b g i 0 v.choices) with
      | none => simp [chOf]
      | some y =>
        obtain ⟨y, n⟩ := y
        exact hv v (by simp) _ (bestK_mem hb).2.1
    simp only [usesK, List.length_append, List.length_cons]
    split
    · omega
    · simp only [List.length_nil]; omega

/-- a better multiplier -/
theorem imp_val {p : Prob} {b : List Int} {g : Int} {m : List (List Int)} (S : Small p) (ok : OkP p) (M : OkM p m) {i N : Nat} (hi : i < p.capacity.length) (hN : N < p.cells.length)
    (h1 : i < (impL p b g m).length) (h2 : N < (impL p b g m)[i].length) (h3 : i < m.length) (h4 : N < m[i].length) (h5 : N < p.capacity[i].length) :
    ∃ c, 0 ≤ c ∧ c ≤ mostL p.cells[N] i p.vars ∧ (impL p b g m)[i][N] = clampI (m[i][N] - p.capacity[i][N] + c) := by
  have hr : i < (row0 p m).length := by rw [row0_len M]; exact hi
  have hs := sumA_get (b := b) (g := g) ok M hr
  have hrg := row0_get hr h3 hi
  obtain ⟨c0, c1⟩ := cntK_le ok (b := b) (g := g) (m := m) (k := (i : Int)) hN (vs := p.vars) (i := 0) (fun v hv => ok.vars v hv)
  refine ⟨_, c0, c1, ?_⟩
  have e1 : (impL p b g m)[i]? = some (((usesK p b g m i 0 p.vars).foldl (addU p) (row0 p m)[i]).map clampI) := by
    unfold impL
    rw [List.getElem?_map, hs]; rfl
  rw [List.getElem?_eq_getElem h1] at e1
  have e1 := Option.some.inj e1
  have hl : (row0 p m)[i].length = p.cells.length := by
    rw [hrg]
    have := (M.rows _ (List.getElem_mem h3)).1
    have := (ok.cap _ (List.getElem_mem hi)).1
    simp [subR]; omega
  have s3 := S.vars
  have hk := usesK_len (p := p) (b := b) (g := g) (m := m) (k := (i : Int)) (vs := p.vars) (i := 0) S.uses
  have hv := foldU_val2 (p := p) (l := usesK p b g m i 0 p.vars) (r := (row0 p m)[i]) (k := 70000) (fun u hu => by
    have := (usesK_ok (fun v hv => ok.vars v hv) u hu).places
    unfold wi at this; omega) (by omega) (fun x hx => by
    rw [hrg] at hx
    obtain ⟨j, hj, rfl⟩ := List.getElem_of_mem hx
    simp only [subR, List.getElem_zipWith]
    have a1 := (M.rows _ (List.getElem_mem h3)).2 _ (List.getElem_mem (show j < m[i].length by simp [subR] at hj; omega))
    have a2 := (ok.cap _ (List.getElem_mem hi)).2 _ (List.getElem_mem (show j < p.capacity[i].length by simp [subR] at hj; omega))
    unfold wi at a2; omega) (by omega) N (by omega)
  have hg : ((row0 p m)[i]).getD N 0 = m[i][N] - p.capacity[i][N] := by
    have hlN : N < (subR m[i] p.capacity[i]).length := by simp [subR]; omega
    rw [hrg, List.getD_eq_getElem?_getD, List.getElem?_eq_getElem hlN, Option.getD_some]
    simp [subR]
  rw [hg] at hv
  have e2 : (impL p b g m)[i][N]? = some (clampI (m[i][N] - p.capacity[i][N] + cntU p N (usesK p b g m i 0 p.vars))) := by
    rw [e1, List.getElem?_map]
    rw [List.getD_eq_getElem?_getD] at hv
    have hfl : N < ((usesK p b g m i 0 p.vars).foldl (addU p) (row0 p m)[i]).length := by rw [foldU_len]; omega
    rw [List.getElem?_eq_getElem hfl] at hv ⊢
    simp only [Option.getD_some, Option.map_some] at hv ⊢
    rw [hv]
  rw [List.getElem?_eq_getElem h2] at e2
  exact Option.some.inj e2
theorem clamp_bd {n : Int} : 0 ≤ clampI n ∧ clampI n ≤ 65536 := by unfold clampI mn mx; split <;> split <;> omega
theorem imp_ok {p : Prob} {b : List Int} {g : Int} {m : List (List Int)} (ok : OkP p) (M : OkM p m) : OkM p (impL p b g m) := by
  refine ⟨impL_len M, fun l hl => ⟨impL_wid ok M l hl, fun n hn => ?_⟩⟩
  unfold impL at hl
  obtain ⟨s, hs, rfl⟩ := List.mem_map.1 hl
  obtain ⟨y, hy, rfl⟩ := List.mem_map.1 hn
  exact clamp_bd
theorem imp_bd {m c d y : Int} (hm : 0 ≤ m ∧ m ≤ 65536) (hc : 0 ≤ c) (hd : 0 ≤ d) (hy : d ≤ y) : ¬ clampI (m - c + d) < m - c ∧ ¬ (if (0 : Int) < m + y - c then m + y - c else 0) < clampI (m - c + d) := by
  unfold clampI mn mx
  split <;> split <;> split <;> omega

open Classical in
set_option maxHeartbeats 16000000 in
theorem law50 (h1 : runP E (dL E) 35 [] = some (.bool true)) (p : Prob) (b : List Int) (g : Int) (m : List (List Int)) (hm : m.length ≤ Go.maxLen) : runP E (dL E) 50 [dProb p, dInts b, dI g, .imm .none (m.map dInts)] = some (.bool true) := by
  refine runP_T c50 (by simp) ?_
  have h2 := r2 p
  have h36 := r36 m hm
  simp only [dProb] at h2
  simp [t50, n50, h1, h2, h36]
  cases hf : fewB p with
  | false => simp
  | true =>
  have S := few_small hf
  simp
  cases hfm : fewM m with
  | false => simp
  | true =>
  have SM := few_smallM hfm
  simp
  by_cases hb : (20 : Int) < b.length
  · have hb2 : ¬ (b.length : Int) ≤ 20 := by omega
    simp [hb, hb2]
  have hb' : b.length ≤ 20 := by omega
  have hb2 : (b.length : Int) ≤ 20 := by omega
  have h44 := r44 p b g m S hb' SM
  unfold resI at h44
  by_cases h0 : dk p b m = 0
  rotate_left
  · rw [if_neg h0] at h44
    simp only [dProb, dInts] at h44
    simp [hb, hb2, h44, h0]
  obtain ⟨ok, M, _⟩ := dk_ok h0
  rw [if_pos h0] at h44
  have s1 := S.cells
  have s2 := S.cap
  have s3 := S.vars
  have m1 := M.len
  have xl := impL_len (b := b) (g := g) M
  have xw := impL_wid (b := b) (g := g) ok M
  have h41 := r41 p (impL p b g m) S ⟨by omega, fun l hl => by have := xw l hl; omega⟩
  have hmk : mk p (impL p b g m) = 0 := by unfold mk; rw [if_pos ok, if_pos (imp_ok ok M)]
  rw [hmk] at h41
  have xv := fun {i N : Nat} => imp_val (b := b) (g := g) (i := i) (N := N) S ok M
  obtain ⟨X, hX⟩ : ∃ X, X = impL p b g m := ⟨_, rfl⟩
  simp only [← hX] at h44 h41 xl xw xv
  simp only [dProb, dInts] at h44 h41
  simp [hb, hb2, h44, h41]
  refine wT_up X.length (fun i env hp => ∃ (x5 x6 x7 x8 x9 x10 x11 x12 x13 x14 x15 x16 x17 x18 x19 x20 x21 x22 x23 x27 x28 x29 x30 x31 x32 x33 x34 x35 x36 x37 x38 x39 x40 x41 x42 x43 x44 x45 x46 x47 x48 x49 x50 x51 x52 x53 : D) , env = [dProb p, dInts b, dI g, .imm .none (m.map dInts), .loc 0 0, x5, x6, x7, x8, x9, x10, x11, x12, x13, x14, x15, x16, x17, x18, x19, x20, x21, x22, x23, .imm .none (X.map dInts), dI X.length, dI i, x27, x28, x29, x30, x31, x32, x33, x34, x35, x36, x37, x38, x39, x40, x41, x42, x43, x44, x45, x46, x47, x48, x49, x50, x51, x52, x53] ∧ At hp 0 (.cells (dProb p).cellsL)) 0 (by omega) ⟨_, _, _, _, _, _, _, _, _, _, _, _, _, _, _, _, _, _, _, _, _, _, _, _, _, _, _, _, _, _, _, _, _, _, _, _, _, _, _, _, _, _, _, _, _, _, rfl, rfl⟩ ?_
  rintro i env hp hi ⟨x5, x6, x7, x8, x9, x10, x11, x12, x13, x14, x15, x16, x17, x18, x19, x20, x21, x22, x23, x27, x28, x29, x30, x31, x32, x33, x34, x35, x36, x37, x38, x39, x40, x41, x42, x43, x44, x45, x46, x47, x48, x49, x50, x51, x52, x53, rfl, g0⟩
  by_cases hlt : i < X.length
  rotate_left
  · simp [hlt]
  have hxi := xw _ (List.getElem_mem hlt)
  have hic : i < p.capacity.length := by omega
  have him : i < m.length := by omega
  have hmi := M.rows _ (List.getElem_mem him)
  have hci := ok.cap _ (List.getElem_mem hic)
  simp [hlt]
  refine wT_up X[i].length (fun k env hp => ∃ (x5 x6 x7 x9 x10 x11 x12 x13 x14 x15 x16 x17 x18 x19 x20 x21 x22 x23 x27 x31 x32 x33 x34 x35 x36 x37 x38 x39 x40 x41 x42 x43 x44 x45 x46 x47 x48 x49 x50 x51 x52 x53 : D) , env = [dProb p, dInts b, dI g, .imm .none (m.map dInts), .loc 0 0, x5, x6, x7, dI i, x9, x10, x11, x12, x13, x14, x15, x16, x17, x18, x19, x20, x21, x22, x23, .imm .none (X.map dInts), dI X.length, dI i, x27, dInts X[i], dI X[i].length, dI k, x31, x32, x33, x34, x35, x36, x37, x38, x39, x40, x41, x42, x43, x44, x45, x46, x47, x48, x49, x50, x51, x52, x53] ∧ At hp 0 (.cells (dProb p).cellsL)) 0 (by omega) ⟨_, _, _, _, _, _, _, _, _, _, _, _, _, _, _, _, _, _, _, _, _, _, _, _, _, _, _, _, _, _, _, _, _, _, _, _, _, _, _, _, _, _, rfl, g0⟩ ?_
  clear g0
  rintro k env hp hk ⟨x5, x6, x7, x9, x10, x11, x12, x13, x14, x15, x16, x17, x18, x19, x20, x21, x22, x23, x27, x31, x32, x33, x34, x35, x36, x37, x38, x39, x40, x41, x42, x43, x44, x45, x46, x47, x48, x49, x50, x51, x52, x53, rfl, g0⟩
  by_cases hlt2 : k < X[i].length
  rotate_left
  · simp [hlt2, wrap_up hlt (by omega)]
    exact g0
  have hkc : k < p.cells.length := by omega
  have hkm : k < m[i].length := by omega
  have hkp : k < p.capacity[i].length := by omega
  obtain ⟨c, c0, c1, c2⟩ := xv hic hkc hlt hlt2 him hkm hkp
  have hb1 := hmi.2 _ (List.getElem_mem hkm)
  have hb2 := hci.2 _ (List.getElem_mem hkp)
  unfold wi at hb2
  obtain ⟨CL, hCL⟩ : ∃ CL, CL = p.cells[k] := ⟨_, rfl⟩
  obtain ⟨MOST, hMOST⟩ : ∃ MOST, MOST = mostL CL i p.vars := ⟨_, rfl⟩
  rw [← hCL, ← hMOST] at c1
  have h8 := mostL_bd (c := CL) (k := (i : Int)) (vs := p.vars) fun v hv => ok.vars v hv
  rw [← hMOST] at h8
  simp [hlt2, g0.eq]
  refine wT_up p.vars.length (fun a env hp => ∃ (x5 x6 x7 x9 x13 x14 x15 x16 x17 x18 x19 x20 x21 x22 x23 x27 x31 x35 x36 x37 x38 x39 x40 x41 x42 x43 x44 x45 x46 x47 x48 x49 x50 x51 x52 x53 : D) (s : Int), env = [dProb p, dInts b, dI g, .imm .none (m.map dInts), .loc 0 0, x5, x6, x7, dI i, x9, dI k, dI X[i][k], dI s, x13, x14, x15, x16, x17, x18, x19, x20, x21, x22, x23, .imm .none (X.map dInts), dI X.length, dI i, x27, dInts X[i], dI X[i].length, dI k, x31, .imm .none (p.vars.map dVar), dI p.vars.length, dI a, x35, x36, x37, x38, x39, x40, x41, x42, x43, x44, x45, x46, x47, x48, x49, x50, x51, x52, x53] ∧
    At hp 0 (.cells (dProb p).cellsL) ∧ 0 ≤ s ∧ s ≤ 8 * a ∧ s + mostL CL i (p.vars.drop a) = MOST) 0 (by omega) ⟨_, _, _, _, _, _, _, _, _, _, _, _, _, _, _, _, _, _, _, _, _, _, _, _, _, _, _, _, _, _, _, _, _, _, _, _, 0, rfl, g0, by omega, by omega, by simp [hMOST]⟩ ?_
  clear g0
  rintro a env hp ha ⟨x5, x6, x7, x9, x13, x14, x15, x16, x17, x18, x19, x20, x21, x22, x23, x27, x31, x35, x36, x37, x38, x39, x40, x41, x42, x43, x44, x45, x46, x47, x48, x49, x50, x51, x52, x53, s, rfl, g0, hs0, hs1, hs⟩
  by_cases hlt3 : a < p.vars.length
  rotate_left
  · have : a = p.vars.length := by omega
    subst this
    rw [List.drop_length] at hs
    simp only [mostL, Int.add_zero] at hs
    subst hs
    obtain ⟨f1, f2⟩ := imp_bd (m := m[i][k]) (c := p.capacity[i][k]) (d := c) (y := s) hb1 hb2.1 c0 c1
    rw [← c2] at f1 f2
    have w1 := wrap_i64 (n := m[i][k] - p.capacity[i][k]) ⟨by omega, by omega⟩
    have w2 := wrap_i64 (n := m[i][k] + s) ⟨by omega, by omega⟩
    have w3 := wrap_i64 (n := m[i][k] + s - p.capacity[i][k]) ⟨by omega, by omega⟩
    obtain ⟨Z, hZ⟩ : ∃ Z : Int, Z = if 0 < m[i][k] + s - p.capacity[i][k] then m[i][k] + s - p.capacity[i][k] else 0 := ⟨_, rfl⟩
    rw [← hZ] at f2
    obtain ⟨V, hV⟩ : ∃ V, V = X[i][k] := ⟨_, rfl⟩
    simp only [← hV] at f1 f2 ⊢
    by_cases hq : p.capacity[i][k] < m[i][k] + s
    · rw [if_pos (by omega)] at hZ
      have f3 : V ≤ m[i][k] + s - p.capacity[i][k] := by omega
      simp [hlt3, g0.eq, ↓g0.appE, him, hic, hkm, hkp, w1, w2, w3, f1, hq, f3, wrap_up hlt2 (by omega)]
      exact g0.app
    · rw [if_neg (by omega)] at hZ
      have f3 : V ≤ 0 := by omega
      simp [hlt3, g0.eq, ↓g0.appE, him, hic, hkm, hkp, w1, w2, w3, f1, hq, f3, wrap_up hlt2 (by omega)]
      exact g0.app
  have okv := ok.vars _ (List.getElem_mem hlt3)
  have lv := S.leaves _ (List.getElem_mem hlt3)
  have lc := S.choices _ (List.getElem_mem hlt3)
  have lu := S.uses _ (List.getElem_mem hlt3)
  rw [drop_cons hlt3] at hs
  obtain ⟨v, hv⟩ : ∃ v, v = p.vars[a] := ⟨_, rfl⟩
  rw [← hv] at okv lv lc lu hs
  simp only [mostL] at hs
  simp [hlt3, ← hv, g0.eq, ↓g0.appE]
  obtain ⟨l, hl⟩ : ∃ l, l = hp.length := ⟨_, rfl⟩
  rw [← hl]
  refine wT_up v.leaves.length (fun e env hp => ∃ (x5 x6 x7 x9 x16 x17 x18 x19 x20 x21 x22 x23 x27 x31 x35 x36 x40 x41 x42 x43 x44 x45 x46 x47 x48 x49 x50 x51 x52 x53 : D) (t : Bool), env = [dProb p, dInts b, dI g, .imm .none (m.map dInts), .loc 0 0, x5, x6, x7, dI i, x9, dI k, dI X[i][k], dI s, .loc l 0, .bool t, dI 0, x16, x17, x18, x19, x20, x21, x22, x23, .imm .none (X.map dInts), dI X.length, dI i, x27, dInts X[i], dI X[i].length, dI k, x31, .imm .none (p.vars.map dVar), dI p.vars.length, dI a, x35, x36, dInts v.leaves, dI v.leaves.length, dI e, x40, x41, x42, x43, x44, x45, x46, x47, x48, x49, x50, x51, x52, x53] ∧
    At hp 0 (.cells (dProb p).cellsL) ∧ At hp l (.cells (dVar v).cellsL) ∧ (t || (v.leaves.drop e).contains (i : Int)) = v.leaves.contains (i : Int)) 0 (by omega) ⟨_, _, _, _, _, _, _, _, _, _, _, _, _, _, _, _, _, _, _, _, _, _, _, _, _, _, _, _, _, _, false, rfl, g0.app, by rw [hl]; simp [At], by simp⟩ ?_
  clear g0
  rintro e env hp he ⟨x5, x6, x7, x9, x16, x17, x18, x19, x20, x21, x22, x23, x27, x31, x35, x36, x40, x41, x42, x43, x44, x45, x46, x47, x48, x49, x50, x51, x52, x53, t, rfl, g0, gv, ht⟩
  by_cases hlt4 : e < v.leaves.length
  · rw [drop_cons hlt4, List.contains_cons] at ht
    by_cases hq : v.leaves[e] = (i : Int)
    · have ht2 : (true || (v.leaves.drop (e + 1)).contains (i : Int)) = v.leaves.contains (i : Int) := by
        rw [← ht, hq]; simp
      have hin : (i : Int) ∈ v.leaves := by rw [← hq]; exact List.getElem_mem hlt4
      cases t with
      | true =>
        simp [hlt4, hq, wrap_up hlt4 (by omega)]
        exact ⟨g0, gv, hin⟩
      | false =>
        simp [hlt4, hq, wrap_up hlt4 (by omega)]
        exact ⟨g0, gv, hin⟩
    · have hq2 : ((i : Int) == v.leaves[e]) = false := by simp; omega
      rw [hq2, Bool.false_or] at ht
      have ht' := Bool.eq_iff_iff.1 ht
      cases t with
      | true =>
        simp [hlt4, hq, wrap_up hlt4 (by omega)]
        exact ⟨g0, gv, by simpa using ht'⟩
      | false =>
        simp [hlt4, hq, wrap_up hlt4 (by omega)]
        exact ⟨g0, gv, by simpa using ht'⟩
  have hee : e = v.leaves.length := by omega
  subst hee
  rw [List.drop_length] at ht
  simp only [List.contains_nil, Bool.or_false] at ht
  rw [← ht] at hs
  obtain ⟨PL, hPL⟩ : ∃ PL, PL = plV CL v.choices 0 := ⟨_, rfl⟩
  rw [← hPL] at hs
  have hPLb : PL ≤ 8 ∧ 0 ≤ PL := ⟨by rw [hPL]; exact plV_le (by omega) fun x hx u hu => (okv.choices x hx |>.uses u hu).places.2, by rw [hPL]; exact plV_ge⟩
  simp [hlt4, gv.eq]
  refine wT_up v.choices.length (fun f env hp => ∃ (x5 x6 x7 x9 x16 x17 x18 x19 x20 x21 x22 x23 x27 x31 x35 x36 x37 x38 x39 x40 x44 x45 x46 x47 x48 x49 x50 x51 x52 x53 : D) (pl : Int), env = [dProb p, dInts b, dI g, .imm .none (m.map dInts), .loc 0 0, x5, x6, x7, dI i, x9, dI k, dI X[i][k], dI s, .loc l 0, .bool t, dI pl, x16, x17, x18, x19, x20, x21, x22, x23, .imm .none (X.map dInts), dI X.length, dI i, x27, dInts X[i], dI X[i].length, dI k, x31, .imm .none (p.vars.map dVar), dI p.vars.length, dI a, x35, x36, x37, x38, x39, x40, .imm .none (v.choices.map dChoice), dI v.choices.length, dI f, x44, x45, x46, x47, x48, x49, x50, x51, x52, x53] ∧
    At hp 0 (.cells (dProb p).cellsL) ∧ plV CL (v.choices.drop f) pl = PL) 0 (by omega) ⟨_, _, _, _, _, _, _, _, _, _, _, _, _, _, _, _, _, _, _, _, _, _, _, _, _, _, _, _, _, _, 0, rfl, g0, by simpa using hPL.symm⟩ ?_
  clear g0 gv
  rintro f env hp hf2 ⟨x5, x6, x7, x9, x16, x17, x18, x19, x20, x21, x22, x23, x27, x31, x35, x36, x37, x38, x39, x40, x44, x45, x46, x47, x48, x49, x50, x51, x52, x53, pl, rfl, g0, hpl⟩
  by_cases hlt5 : f < v.choices.length
  · rw [drop_cons hlt5] at hpl
    obtain ⟨x, hx⟩ : ∃ x, x = v.choices[f] := ⟨_, rfl⟩
    have lx := lu _ (List.getElem_mem hlt5)
    rw [← hx] at hpl lx
    simp only [plV, List.foldl_cons] at hpl
    simp [hlt5, ← hx]
    refine wT_up x.uses.length (fun u env hp => ∃ (x5 x6 x7 x9 x16 x17 x18 x19 x20 x21 x22 x23 x27 x31 x35 x36 x37 x38 x39 x40 x44 x45 x49 x50 x51 x52 x53 : D) (pl : Int), env = [dProb p, dInts b, dI g, .imm .none (m.map dInts), .loc 0 0, x5, x6, x7, dI i, x9, dI k, dI X[i][k], dI s, .loc l 0, .bool t, dI pl, x16, x17, x18, x19, x20, x21, x22, x23, .imm .none (X.map dInts), dI X.length, dI i, x27, dInts X[i], dI X[i].length, dI k, x31, .imm .none (p.vars.map dVar), dI p.vars.length, dI a, x35, x36, x37, x38, x39, x40, .imm .none (v.choices.map dChoice), dI v.choices.length, dI f, x44, x45, .imm .none (x.uses.map dUse), dI x.uses.length, dI u, x49, x50, x51, x52, x53] ∧
      At hp 0 (.cells (dProb p).cellsL) ∧ plV CL (v.choices.drop (f + 1)) (plU CL (x.uses.drop u) pl) = PL) 0 (by omega) ⟨_, _, _, _, _, _, _, _, _, _, _, _, _, _, _, _, _, _, _, _, _, _, _, _, _, _, _, pl, rfl, g0.app, by simpa [plV] using hpl⟩ ?_
    clear g0 hpl
    rintro u env hp hu ⟨x5, x6, x7, x9, x16, x17, x18, x19, x20, x21, x22, x23, x27, x31, x35, x36, x37, x38, x39, x40, x44, x45, x49, x50, x51, x52, x53, pl, rfl, g0, hpl⟩
    by_cases hlt6 : u < x.uses.length
    · rw [drop_cons hlt6] at hpl
      obtain ⟨y, hy⟩ : ∃ y, y = x.uses[u] := ⟨_, rfl⟩
      rw [← hy] at hpl
      simp only [plU, List.foldl_cons] at hpl
      by_cases e : y.cell = CL
      · rw [if_pos e] at hpl
        have e1 : p.cells[k].airport = y.cell.airport := by rw [← hCL, e]
        have e2 : p.cells[k].index = y.cell.index := by rw [← hCL, e]
        have e3 : p.cells[k].minute = y.cell.minute := by rw [← hCL, e]
        have hmx : (if pl < y.places then y.places else pl) = mx pl y.places := rfl
        simp [hlt6, ← hy, g0.eq, ↓g0.appE, hkc, e1, e2, e3, hmx, wrap_up hlt6 (by omega)]
        repeat apply Exists.intro
        exact ⟨by and_intros <;> rfl, g0.app, hpl⟩
      · rw [if_neg e] at hpl
        have hne : ¬ (y.cell.airport = p.cells[k].airport ∧ y.cell.index = p.cells[k].index ∧ y.cell.minute = p.cells[k].minute) := fun h => e (by
          rw [hCL]
          cases hx : p.cells[k]; cases hz : y.cell; simp_all)
        simp [hlt6, ← hy, g0.eq, ↓g0.appE, hkc, wrap_up hlt6 (by omega)]
        rw [if_neg hne]
        repeat apply Exists.intro
        exact ⟨by and_intros <;> rfl, g0.app, hpl⟩
    have hue : u = x.uses.length := by omega
    subst hue
    rw [List.drop_length] at hpl
    simp only [plU, List.foldl_nil] at hpl
    simp [hlt6, wrap_up hlt5 (by omega)]
    repeat apply Exists.intro
    exact ⟨by and_intros <;> rfl, g0, hpl⟩
  have hfe : f = v.choices.length := by omega
  subst hfe
  rw [List.drop_length] at hpl
  simp only [plV, List.foldl_nil] at hpl
  subst hpl
  clear ht
  cases t with
  | true =>
    rw [if_pos rfl] at hs
    have w1 := wrap_i64 (n := s + pl) ⟨by omega, by omega⟩
    simp [hlt5, w1, wrap_up hlt3 (by omega)]
    repeat apply Exists.intro
    exact ⟨by and_intros <;> rfl, g0, by omega, by omega, by omega⟩
  | false =>
    rw [if_neg (by simp)] at hs
    simp [hlt5, wrap_up hlt3 (by omega)]
    repeat apply Exists.intro
    exact ⟨by and_intros <;> rfl, g0, hs0, by omega, by omega⟩

theorem dualImprove : ∀ xs, TypedL E [0, 1, 2, 9] xs → ∃ n, runP E (dC E n) 50 xs = some (.bool true) := by
  intro xs h
  match xs, h with
  | [x, y, z, w], ⟨h1, h2, h3, h4, _⟩ =>
    obtain ⟨p, rfl, _⟩ := ty_prob h1
    obtain ⟨l, rfl, _⟩ := ty_nums h2 rfl
    obtain ⟨n, rfl, _⟩ := ty_num h3 rfl
    obtain ⟨m, rfl, hm⟩ := ty_rows h4
    exact runP_ex (law50 sane35' p l n m hm)
  | [], h => exact h.elim
  | [_], h => exact h.2.elim
  | [_, _], h => exact h.2.2.elim
  | [_, _, _], h => exact h.2.2.2.elim
  | _ :: _ :: _ :: _ :: _ :: _, h => exact h.2.2.2.2.elim

end Dv
