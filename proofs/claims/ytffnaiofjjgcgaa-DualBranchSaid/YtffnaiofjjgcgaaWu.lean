/- Texts that a proof of this claim uses, joined: Lw.W77. -/
import Derived.Test.YtffnaiofjjgcgaaWz
import Derived.Test.YtffnaiofjjgcgaaWq
import Derived.Test.YtffnaiofjjgcgaaWf
import Derived.Test.YtffnaiofjjgcgaaWc
import Derived.Test.YtffnaiofjjgcgaaSd
import Derived.KernelRfl
set_option linter.all false
/- The law DualBranch. -/
namespace Dv
attribute [local simp] wT_skip wK wT_ret wT_exit wR wRp wT_seq wC wT_block rTS_nil rTS_asg rTS_eff rTS_effk ob_some obP_some iteD_b condP_b xv_v xv_c xv_ite xv_bin_tt xv_bin_tc xv_bin_ct xv_bin_cc xv_un_t xv_conv_t xv_load xv_len xv_faddr xv_field xv_iaddr_tt xv_iaddr_tc xv_index_tt xv_index_tc xv_lookup_tt xv_max_tt xv_max_tc xv_max_ct xv_min_tt xv_min_tc xv_min_ct xv_slice_lo_t xv_slice_lo_c xv_slice_hi_t xv_slice_all xv_call xv_bslice bsliceV xv_build buildV xv_mkfn zeroE fillE buildD fillD List.replicate xvs_nil xvs_cons callV_fn frz_bool frz_int frz_imm frz_agg frz_tup frz_fn frz_iptr frzL_nil frzL_one frzL_dI frzL_cell frzL_use frzL_ints frzL_choice frzL_var depth dCell dUse dInts dChoice dVar dProb tStart addO Ret flat_dI flat_rep chunk_dI
 binD_add binD_sub binD_mul binD_eql binD_neq binD_lss binD_leq binD_gtr binD_geq binD_quo binD_rem binD_beql binD_bneq binD_aeql binD_aneq unD_not unD_neg lenD_imm lenD_sl lenD_str readO_cells readO_frozen loadD_loc loadD_iptr iaddrD_imm iaddrD_sl iaddrD_loc faddrD_loc faddrD_iptr fieldD_agg indexD_agg indexD_str cellsL_bool stor_bool atom_bool cellsL_int stor_int atom_int cellsL_str stor_str atom_str cellsL_imm stor_imm atom_imm cellsL_sl stor_sl atom_sl cellsL_loc stor_loc atom_loc cellsL_iptr stor_iptr atom_iptr cellsL_map stor_map atom_map cellsL_fn stor_fn atom_fn cellsL_agg stor_agg cellsL_nilfn stor_nilfn atom_nilfn cellsL_nilp stor_nilp atom_nilp takeC_z takeC_s ofCells_ag ofCells_one ag_bool ag_int ag_str ag_slice ag_struct ag_arr ag_map ag_ptr ag_func gOf_t gOf_c gOf_f kv_cons putE_some putE_none oneRes_one oneRes_two oneRes_three getAll_nil getAll_v getAll_c maxiD_two miniD_two extV_tup xv_ext stepOp_box stepOp_alloc stepOp_store writeO_cells storeD_loc setCells_nil setCells_cons stepOp_mkmap stepOp_mapset stepOp_call1 stepOp_call2 stepOp_app2 stepOp_app1 stepOp_bslice stepOp_mkslice mapO_map lookupD_some lookupD_ok mapsetD_some keyOk_agg kindsL_nil kindsL_bool kindsL_int eqL_nil eqL_cons atomEq_bool atomEq_int frz_sl tokO_tok app0_step app0_exact app0_tok frz_loc oneRes_nil listOf_imm
 ty_0 ty_1 ty_2 ty_3 ty_4 ty_5 ty_6 ty_7 ty_8 ty_9 ty_10 ty_11 ty_12 ty_13 ty_14 ty_15 ty_16 ty_17 ty_18 ty_19 ty_20 ty_21 ty_22 ty_23 ty_24 ty_25 ty_26 ty_27
attribute [local congr] wT_congr ob_congr obP_congr iteD_congr condP_congr

/- overflight/overflightlaw29.DualBranch -/
def n47 : List Nat := [0, 1, 2, 3, 4, 5, 6, 12, 13, 14, 15, 16, 17, 18, 19, 20, 21, 22, 23, 24, 25, 26, 27, 29, 42, 45, 47, 48, 57, 70, 74, 83, 115, 116, 117, 120, 123, 130, 131, 134, 137, 148]
def t47 : TC := .seq (.run 0 [.eff none (some 6) (.box 0 (.t 0)) (.cons 0 (.v 0) .nil) none,
     .asg 7 (.c (.bool false))])
  (.seq (.seq (.run 0 [.asg 23 (.n (.un .not (.t 28)) (.cons 28 (.n (.call 0 (.f 35) []) .nil) .nil))])
   (.cond 23 (.seq (.run 0 [.asg 7 (.c (.bool false))])
     (.ret)) (.skip)))
  (.seq (.seq (.run 0 [.asg 24 (.ite (.ite (.n (.un .not (.t 31)) (.cons 31 (.n (.call 0 (.f 2) [(.t 30)]) (.cons 30 (.n (.load 0 (.t 6)) (.cons 6 (.v 6) .nil)) .nil)) .nil)) (.c (.bool true)) (.n (.un .not (.t 35)) (.cons 35 (.n (.call 0 (.f 36) [(.t 34)]) (.cons 34 (.v 5) .nil)) .nil))) (.c (.bool true)) (.n (.bin .gtr 2 (.t 40) (.c (.int .i64 20))) (.cons 40 (.n (.len 1 (.t 39)) (.cons 39 (.v 1) .nil)) .nil)))])
   (.cond 24 (.seq (.run 0 [.asg 7 (.c (.bool true))])
     (.ret)) (.skip)))
  (.seq (.seq (.run 0 [.asg 25 (.n (.bin .gtr 2 (.t 43) (.t 44)) (.cons 43 (.v 4) (.cons 44 (.v 3) .nil)))])
   (.cond 25 (.run 0 [.asg 26 (.v 4),
       .asg 4 (.v 3),
       .asg 3 (.v 26)]) (.skip)))
  (.seq (.run 0 [.asg 27 (.n (.call 0 (.f 37) [(.t 49), (.t 50), (.t 51), (.t 52)]) (.cons 49 (.n (.load 0 (.t 6)) (.cons 6 (.v 6) .nil)) (.cons 50 (.v 1) (.cons 51 (.v 3) (.cons 52 (.v 5) .nil))))),
     .asg 8 (.n (.extract (.t 48) 0) (.cons 48 (.v 27) .nil)),
     .asg 9 (.n (.extract (.t 48) 1) (.cons 48 (.v 27) .nil)),
     .asg 10 (.n (.extract (.t 48) 2) (.cons 48 (.v 27) .nil))])
  (.seq (.run 0 [.asg 28 (.n (.call 0 (.f 39) [(.t 58), (.t 59), (.t 60), (.t 61)]) (.cons 58 (.n (.load 0 (.t 6)) (.cons 6 (.v 6) .nil)) (.cons 59 (.v 1) (.cons 60 (.v 3) (.cons 61 (.v 5) .nil))))),
     .asg 11 (.n (.extract (.t 57) 0) (.cons 57 (.v 28) .nil)),
     .asg 12 (.n (.extract (.t 57) 1) (.cons 57 (.v 28) .nil))])
  (.seq (.seq (.run 0 [.asg 29 (.ite (.n (.bin .neq 3 (.t 65) (.c (.int .i64 0))) (.cons 65 (.v 10) .nil)) (.c (.bool true)) (.n (.bin .neq 3 (.t 68) (.c (.int .i64 0))) (.cons 68 (.v 12) .nil)))])
   (.cond 29 (.seq (.run 0 [.asg 7 (.n (.bin .eql 3 (.t 71) (.t 72)) (.cons 71 (.v 10) (.cons 72 (.v 12) .nil)))])
     (.ret)) (.skip)))
  (.seq (.run 0 [.asg 30 (.n (.call 0 (.f 37) [(.t 75), (.t 76), (.t 77), (.t 78)]) (.cons 75 (.n (.load 0 (.t 6)) (.cons 6 (.v 6) .nil)) (.cons 76 (.v 1) (.cons 77 (.v 4) (.cons 78 (.v 5) .nil))))),
     .asg 13 (.n (.extract (.t 74) 0) (.cons 74 (.v 30) .nil)),
     .asg 14 (.n (.extract (.t 74) 1) (.cons 74 (.v 30) .nil)),
     .asg 15 (.n (.extract (.t 74) 2) (.cons 74 (.v 30) .nil))])
  (.seq (.run 0 [.asg 31 (.n (.call 0 (.f 39) [(.t 84), (.t 85), (.t 86), (.t 87)]) (.cons 84 (.n (.load 0 (.t 6)) (.cons 6 (.v 6) .nil)) (.cons 85 (.v 1) (.cons 86 (.v 4) (.cons 87 (.v 5) .nil))))),
     .asg 16 (.n (.extract (.t 83) 0) (.cons 83 (.v 31) .nil)),
     .asg 17 (.n (.extract (.t 83) 1) (.cons 83 (.v 31) .nil))])
  (.seq (.seq (.run 0 [.asg 32 (.ite (.ite (.ite (.n (.bin .neq 3 (.t 91) (.c (.int .i64 0))) (.cons 91 (.v 15) .nil)) (.c (.bool true)) (.n (.bin .neq 3 (.t 94) (.c (.int .i64 0))) (.cons 94 (.v 17) .nil))) (.c (.bool true)) (.ite (.v 14) (.ite (.n (.un .not (.t 100)) (.cons 100 (.v 9) .nil)) (.c (.bool true)) (.n (.bin .lss 2 (.t 103) (.t 104)) (.cons 103 (.v 13) (.cons 104 (.v 8) .nil)))) (.c (.bool false)))) (.c (.bool true)) (.ite (.v 11) (.n (.un .not (.t 112)) (.cons 112 (.v 16) .nil)) (.c (.bool false))))])
   (.cond 32 (.seq (.run 0 [.asg 7 (.c (.bool false))])
     (.ret)) (.skip)))
  (.seq (.run 17 [.asg 34 (.n (.load 0 (.t 6)) (.cons 6 (.v 6) .nil)),
     .eff none (some 35) (.append 0 1 1 (.t 118) (.t 119)) (.cons 118 (.n (.bslice false 1 0 []) .nil) (.cons 119 (.v 1) .nil)) (some 3),
     .eff none (some 36) (.append 0 1 1 (.t 120) (.t 122)) (.cons 120 (.v 35) (.cons 122 (.n (.bslice false 1 1 [(0, (.t 121))]) (.cons 121 (.v 2) .nil)) .nil)) (some 6),
     .asg 33 (.n (.call 0 (.f 37) [(.t 117), (.t 123), (.t 124), (.t 125)]) (.cons 117 (.v 34) (.cons 123 (.v 36) (.cons 124 (.v 3) (.cons 125 (.v 5) .nil))))),
     .asg 18 (.n (.extract (.t 116) 0) (.cons 116 (.v 33) .nil)),
     .asg 19 (.n (.extract (.t 116) 1) (.cons 116 (.v 33) .nil)),
     .asg 20 (.n (.extract (.t 116) 2) (.cons 116 (.v 33) .nil))])
  (.seq (.run 15 [.asg 38 (.n (.load 0 (.t 6)) (.cons 6 (.v 6) .nil)),
     .eff none (some 39) (.append 0 1 1 (.t 132) (.t 133)) (.cons 132 (.n (.bslice false 1 0 []) .nil) (.cons 133 (.v 1) .nil)) (some 3),
     .eff none (some 40) (.append 0 1 1 (.t 134) (.t 136)) (.cons 134 (.v 39) (.cons 136 (.n (.bslice false 1 1 [(0, (.t 135))]) (.cons 135 (.v 2) .nil)) .nil)) (some 6),
     .asg 37 (.n (.call 0 (.f 39) [(.t 131), (.t 137), (.t 138), (.t 139)]) (.cons 131 (.v 38) (.cons 137 (.v 40) (.cons 138 (.v 3) (.cons 139 (.v 5) .nil))))),
     .asg 21 (.n (.extract (.t 130) 0) (.cons 130 (.v 37) .nil)),
     .asg 22 (.n (.extract (.t 130) 1) (.cons 130 (.v 37) .nil))])
  (.seq (.seq (.run 0 [.asg 41 (.ite (.n (.bin .neq 3 (.t 143) (.c (.int .i64 0))) (.cons 143 (.v 20) .nil)) (.c (.bool true)) (.n (.bin .neq 3 (.t 146) (.c (.int .i64 0))) (.cons 146 (.v 22) .nil)))])
   (.cond 41 (.seq (.run 0 [.asg 7 (.ite (.n (.bin .eql 3 (.t 149) (.c (.int .i64 290))) (.cons 149 (.v 20) .nil)) (.n (.bin .eql 3 (.t 152) (.c (.int .i64 290))) (.cons 152 (.v 22) .nil)) (.c (.bool false)))])
     (.ret)) (.skip)))
  (.seq (.run 0 [.asg 7 (.ite (.n (.un .not (.t 164)) (.cons 164 (.ite (.v 19) (.ite (.n (.un .not (.t 157)) (.cons 157 (.v 9) .nil)) (.c (.bool true)) (.n (.bin .lss 2 (.t 160) (.t 161)) (.cons 160 (.v 18) (.cons 161 (.v 8) .nil)))) (.c (.bool false))) .nil)) (.n (.un .not (.t 171)) (.cons 171 (.ite (.v 11) (.n (.un .not (.t 169)) (.cons 169 (.v 21) .nil)) (.c (.bool false))) .nil)) (.c (.bool false)))])
  (.ret))))))))))))))
theorem c47 : TF E 47 n47 [(7, none)] t47 174 := tf_of (F := f47) rfl (by kernel_rfl) (by decide)

/-- what a bound is, and whether there is one -/
def bN (s : Option Int) : Int := s.getD 0
theorem resDB_eq {p : Prob} {b : List Int} {g : Int} {m : List (List Int)} (h : dk p b m = 0) : resDB p b g m = .tup [dI (bN (sumD p b g m 1)), .bool (sumD p b g m 1).isSome, dI 0] := by
  unfold resDB
  rw [if_pos h]
  cases sumD p b g m 1 <;> rfl
theorem resDP_eq {p : Prob} {b : List Int} {g : Int} {m : List (List Int)} (h : dk p b m = 0) : resDP p b g m = .tup [.bool (provD (sumD p b g m 0)), dI 0] := by
  unfold resDP
  rw [if_pos h]
theorem bound_sub {p : Prob} {b b' : List Int} {g g' : Int} {m : List (List Int)} (h : ∀ i k c, cntB b' g' i k c = true → cntB b g i k c = true) :
    ((sumD p b' g' m 1).isSome = true → (sumD p b g m 1).isSome = true ∧ ¬ bN (sumD p b' g' m 1) < bN (sumD p b g m 1)) ∧ (provD (sumD p b g m 0) = true → provD (sumD p b' g' m 0) = true) := by
  refine ⟨fun hs => ?_, provD_sub h⟩
  cases hx : sumD p b' g' m 1 with
  | none => rw [hx] at hs; cases hs
  | some N =>
    obtain ⟨K, h1, h2⟩ := sumD_sub h hx
    rw [h1]
    exact ⟨rfl, by simp only [bN, Option.getD_some]; omega⟩
theorem dk_snoc {p : Prob} {b : List Int} {m : List (List Int)} {n : Int} (h : dk p b m = 0) : dk p (b ++ [n]) m = 0 ∨ dk p (b ++ [n]) m = 290 := by
  obtain ⟨ok, M, _⟩ := dk_ok h
  unfold dk
  rw [if_pos ok]
  by_cases h2 : OkM p m ∧ OkB p (b ++ [n])
  · rw [if_pos h2]; exact .inl rfl
  · rw [if_neg h2]; exact .inr rfl

set_option maxHeartbeats 16000000 in
theorem law47 (h1 : runP E (dL E) 35 [] = some (.bool true)) (p : Prob) (b : List Int) (next g l : Int) (m : List (List Int)) (hml : m.length ≤ Go.maxLen) : runP E (dL E) 47 [dProb p, dInts b, dI next, dI g, dI l, .imm .none (m.map dInts)] = some (.bool true) := by
  refine runP_T c47 (by simp) ?_
  have h2 := r2 p
  have h36 := r36 m hml
  simp only [dProb] at h2
  simp [t47, n47, h1, h2, h36]
  cases hf : fewB p with
  | false => simp
  | true =>
  have S := few_small hf
  simp
  cases hfm : fewM m with
  | false => simp
  | true =>
  have SM := few_smallM hfm
  simp
  by_cases hb : (20 : Int) < b.length
  · have hb2 : ¬ (b.length : Int) ≤ 20 := by omega
    simp [hb, hb2]
  have hb' : b.length ≤ 20 := by omega
  have hb2 : (b.length : Int) ≤ 20 := by omega
  simp [hb, hb2]
  by_cases hsw : g < l
  obtain ⟨G, hG⟩ : ∃ G, G = l := ⟨_, rfl⟩
  obtain ⟨L, hL⟩ : ∃ L, L = g := ⟨_, rfl⟩
  have hGL : L ≤ G := by omega
  simp [hsw]
  rotate_left
  obtain ⟨G, hG⟩ : ∃ G, G = g := ⟨_, rfl⟩
  obtain ⟨L, hL⟩ : ∃ L, L = l := ⟨_, rfl⟩
  have hGL : L ≤ G := by omega
  simp [hsw]
  all_goals (
    rw [← hG, ← hL]
    have h37 := r37 p b G m S hb' SM
    have h39 := r39 p b G m S hb' SM
    have k37 := r37 p b L m S hb' SM
    have k39 := r39 p b L m S hb' SM
    by_cases h0 : dk p b m = 0
    rotate_left
    · unfold resDB at h37
      unfold resDP at h39
      rw [if_neg h0] at h37 h39
      simp only [dProb, dInts] at h37 h39
      simp [h37, h39, h0]
    rw [resDB_eq h0] at h37 k37
    rw [resDP_eq h0] at h39 k39
    obtain ⟨ok, M, okb⟩ := dk_ok h0
    have hbl := okb.len
    have s3 := S.vars
    obtain ⟨f1, f2⟩ := bound_sub (p := p) (m := m) (cnt_less (b := b) hGL)
    obtain ⟨q1, q2⟩ := bound_sub (p := p) (m := m) (cnt_more (b := b) (g := G) (n := next))
    have j37 := r37 p (b ++ [next]) G m S (by rw [List.length_append, List.length_singleton]; omega) SM
    have j39 := r39 p (b ++ [next]) G m S (by rw [List.length_append, List.length_singleton]; omega) SM
    obtain ⟨N1, hN1⟩ : ∃ x, x = bN (sumD p b G m 1) := ⟨_, rfl⟩
    obtain ⟨N2, hN2⟩ : ∃ x, x = bN (sumD p b L m 1) := ⟨_, rfl⟩
    obtain ⟨A1, hA1⟩ : ∃ x, x = (sumD p b G m 1).isSome := ⟨_, rfl⟩
    obtain ⟨A2, hA2⟩ : ∃ x, x = (sumD p b L m 1).isSome := ⟨_, rfl⟩
    obtain ⟨P1, hP1⟩ : ∃ x, x = provD (sumD p b G m 0) := ⟨_, rfl⟩
    obtain ⟨P2, hP2⟩ : ∃ x, x = provD (sumD p b L m 0) := ⟨_, rfl⟩
    rw [← hN1, ← hA1] at h37
    rw [← hN2, ← hA2] at k37
    rw [← hP1] at h39
    rw [← hP2] at k39
    rw [← hN1, ← hN2, ← hA1, ← hA2] at f1
    rw [← hP1, ← hP2] at f2
    rw [← hN1, ← hA1] at q1
    rw [← hP1] at q2
    clear hN1 hN2 hA1 hA2 hP1 hP2
    have hfz : frzL (frz [] 11) (b.map dI ++ [dI next]) = some (b.map dI ++ [dI next]) := by
      have := frzL_dI (hp := []) (n := 10) (l := b ++ [next])
      simpa using this
    have a1 : appOk E 2 [] (b.map dI) := appOk_dI (l := []) (by simp; omega)
    have a2 : appOk E 2 (b.map dI) [dI next] := appOk_dI (by simp; omega)
    rcases dk_snoc (n := next) h0 with e | e
    · rw [resDB_eq e] at j37
      rw [resDP_eq e] at j39
      obtain ⟨N3, hN3⟩ : ∃ x, x = bN (sumD p (b ++ [next]) G m 1) := ⟨_, rfl⟩
      obtain ⟨A3, hA3⟩ : ∃ x, x = (sumD p (b ++ [next]) G m 1).isSome := ⟨_, rfl⟩
      obtain ⟨P3, hP3⟩ : ∃ x, x = provD (sumD p (b ++ [next]) G m 0) := ⟨_, rfl⟩
      rw [← hN3, ← hA3] at j37 q1
      rw [← hP3] at j39 q2
      clear hN3 hA3 hP3
      simp only [dProb, dInts, List.map_append, List.map_cons, List.map_nil] at h37 h39 k37 k39 j37 j39
      have hA : (A1 = false ∧ A2 = false ∧ A3 = false) ∨ (A1 = true ∧ A2 = false ∧ A3 = false) ∨ (A1 = true ∧ A2 = true ∧ ¬ N2 < N1 ∧ A3 = false) ∨ (A1 = true ∧ A2 = false ∧ A3 = true ∧ ¬ N3 < N1) ∨ (A1 = true ∧ A2 = true ∧ ¬ N2 < N1 ∧ A3 = true ∧ ¬ N3 < N1) := by
        cases A1 <;> cases A2 <;> cases A3 <;> simp_all
      have hP : P1 = false ∨ P1 = true ∧ P2 = true ∧ P3 = true := by
        cases P1 <;> simp_all
      clear f1 f2 q1 q2
      rcases hA with ⟨rfl, rfl, rfl⟩ | ⟨rfl, rfl, rfl⟩ | ⟨rfl, rfl, n2, rfl⟩ | ⟨rfl, rfl, rfl, n3⟩ | ⟨rfl, rfl, n2, rfl, n3⟩
      · rcases hP with rfl | ⟨rfl, rfl, rfl⟩ <;> simp [h37, h39, k37, k39, j37, j39, app0_step, app0_exact, app0_tok, all_dI, hfz, a1, a2]
      · rcases hP with rfl | ⟨rfl, rfl, rfl⟩ <;> simp [h37, h39, k37, k39, j37, j39, app0_step, app0_exact, app0_tok, all_dI, hfz, a1, a2]
      · rcases hP with rfl | ⟨rfl, rfl, rfl⟩ <;> simp [h37, h39, k37, k39, j37, j39, app0_step, app0_exact, app0_tok, all_dI, hfz, a1, a2, n2]
      · rcases hP with rfl | ⟨rfl, rfl, rfl⟩ <;> simp [h37, h39, k37, k39, j37, j39, app0_step, app0_exact, app0_tok, all_dI, hfz, a1, a2, n3]
      · rcases hP with rfl | ⟨rfl, rfl, rfl⟩ <;> simp [h37, h39, k37, k39, j37, j39, app0_step, app0_exact, app0_tok, all_dI, hfz, a1, a2, n2, n3]
    · unfold resDB at j37
      unfold resDP at j39
      rw [if_neg (by omega), e] at j37 j39
      simp only [dProb, dInts, List.map_append, List.map_cons, List.map_nil] at h37 h39 k37 k39 j37 j39
      have hA : (A1 = false ∧ A2 = false) ∨ (A1 = true ∧ A2 = false) ∨ (A1 = true ∧ A2 = true ∧ ¬ N2 < N1) := by
        cases A1 <;> cases A2 <;> simp_all
      have hP : P1 = false ∨ P1 = true ∧ P2 = true := by
        cases P1 <;> simp_all
      clear f1 f2 q1 q2
      rcases hA with ⟨rfl, rfl⟩ | ⟨rfl, rfl⟩ | ⟨rfl, rfl, n2⟩
      · rcases hP with rfl | ⟨rfl, rfl⟩ <;> simp [h37, h39, k37, k39, j37, j39, app0_step, app0_exact, app0_tok, all_dI, hfz, a1, a2]
      · rcases hP with rfl | ⟨rfl, rfl⟩ <;> simp [h37, h39, k37, k39, j37, j39, app0_step, app0_exact, app0_tok, all_dI, hfz, a1, a2]
      · rcases hP with rfl | ⟨rfl, rfl⟩ <;> simp [h37, h39, k37, k39, j37, j39, app0_step, app0_exact, app0_tok, all_dI, hfz, a1, a2, n2])

theorem dualBranch : ∀ xs, TypedL E [0, 1, 2, 2, 2, 9] xs → ∃ n, runP E (dC E n) 47 xs = some (.bool true) := by
  intro xs h
  match xs, h with
  | [x, y, z, w, c, d], ⟨h1, h2, h3, h4, h5, h6, _⟩ =>
    obtain ⟨p, rfl, _⟩ := ty_prob h1
    obtain ⟨l, rfl, _⟩ := ty_nums h2 rfl
    obtain ⟨n, rfl, _⟩ := ty_num h3 rfl
    obtain ⟨g, rfl, _⟩ := ty_num h4 rfl
    obtain ⟨k, rfl, _⟩ := ty_num h5 rfl
    obtain ⟨m, rfl, hm⟩ := ty_rows h6
    exact runP_ex (law47 sane35' p l n g k m hm)
  | [], h => exact h.elim
  | [_], h => exact h.2.elim
  | [_, _], h => exact h.2.2.elim
  | [_, _, _], h => exact h.2.2.2.elim
  | [_, _, _, _], h => exact h.2.2.2.2.elim
  | [_, _, _, _, _], h => exact h.2.2.2.2.2.elim
  | _ :: _ :: _ :: _ :: _ :: _ :: _ :: _, h => exact h.2.2.2.2.2.2.elim

end Dv
