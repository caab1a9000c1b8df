/- Texts that a proof of this claim uses, joined: Lw.W121, Lw.W122, Lw.S42, Lw.W131. -/
import Derived.Test.YtpekfakljjogjaaGb
import Derived.KernelRfl
set_option linter.all false
namespace Dv
attribute [local simp] wT_skip wK wT_ret wT_exit wR wRp wT_seq wC wT_block rTS_nil rTS_asg rTS_eff rTS_effk rTS_effg gdV_b binD_and binD_or binD_xor stepOp_call3 closed_bool closed_int closed_tup flatB_bool flatB_int frzX_tup frzX_exact frz1_exact frz1_none frz1_int ob_some obP_some iteD_b condP_b xv_v xv_c xv_ite xv_bin_tt xv_bin_tc xv_bin_ct xv_bin_cc xv_un_t xv_conv_t xv_load xv_len xv_faddr xv_field xv_iaddr_tt xv_iaddr_tc xv_index_tt xv_index_tc xv_lookup_tt xv_max_tt xv_max_tc xv_max_ct xv_min_tt xv_min_tc xv_min_ct xv_slice_lo_t xv_slice_lo_c xv_slice_hi_t xv_slice_all xv_call xv_bslice bsliceV xv_build buildV xv_mkfn zeroE fillE buildD fillD List.replicate xvs_nil xvs_cons callV_fn frz_bool frz_int frz_imm frz_agg frz_tup frz_fn frz_iptr frzL_nil frzL_one frzL_dI frzL_cell frzL_use frzL_ints frzL_choice frzL_var depth dCell dUse dInts dChoice dVar dProb tStart addO Ret flat_dI flat_rep chunk_dI
 binD_add binD_sub binD_mul binD_eql binD_neq binD_lss binD_leq binD_gtr binD_geq binD_quo binD_rem binD_beql binD_bneq binD_aeql binD_aneq unD_not unD_neg lenD_imm lenD_sl lenD_str readO_cells readO_frozen loadD_loc loadD_iptr iaddrD_imm iaddrD_sl iaddrD_loc faddrD_loc faddrD_iptr fieldD_agg indexD_agg indexD_str cellsL_bool stor_bool atom_bool cellsL_int stor_int atom_int cellsL_str stor_str atom_str cellsL_imm stor_imm atom_imm cellsL_sl stor_sl atom_sl cellsL_loc stor_loc atom_loc cellsL_iptr stor_iptr atom_iptr cellsL_map stor_map atom_map cellsL_fn stor_fn atom_fn cellsL_agg stor_agg cellsL_nilfn stor_nilfn atom_nilfn cellsL_nilp stor_nilp atom_nilp takeC_z takeC_s ofCells_ag ofCells_one ag_bool ag_int ag_str ag_slice ag_struct ag_arr ag_map ag_ptr ag_func gOf_t gOf_c gOf_f kv_cons putE_some putE_none oneRes_one oneRes_two oneRes_three getAll_nil getAll_v getAll_c maxiD_two miniD_two extV_tup xv_ext stepOp_box stepOp_alloc stepOp_store writeO_cells storeD_loc setCells_nil setCells_cons stepOp_mkmap stepOp_mapset stepOp_call1 stepOp_call2 stepOp_app2 stepOp_app1 stepOp_bslice stepOp_mkslice mapO_map lookupD_some lookupD_ok mapsetD_some keyOk_agg kindsL_nil kindsL_bool kindsL_int eqL_nil eqL_cons atomEq_bool atomEq_int frz_sl tokO_tok app0_step app0_exact app0_tok frz_loc oneRes_nil listOf_imm
  ty_0 ty_1 ty_2 ty_3 ty_4 ty_6 ty_7 ty_9 ty_10 ty_11 ty_13 ty_14 ty_15 ty_16 ty_17 ty_18 ty_19 ty_20 ty_21 ty_22 ty_26 ty_28 ty_29 ty_31 ty_32 ty_33 ty_35 ty_36 ty_37 ty_38 ty_39 ty_40
attribute [local congr] wT_congr ob_congr obP_congr iteD_congr condP_congr gdV_congr


set_option maxHeartbeats 8000000 in
theorem q196 (v : Var) (h1 : v.leaves.length ≤ 1000) (h2 : v.choices.length ≤ 1000) (h3 : ∀ c, c ∈ v.choices → c.uses.length ≤ 1000) : runP E (dL E) 196 [dVar v, dVar v] = some (.bool true) := by
  refine runP_T c196 (by simp) ?_
  have h20 := r20 v.leaves v.leaves (by omega)
  simp only [dInts, decide_true] at h20
  simp [t196, n196, h20]
  refine wT_up v.choices.length (fun i env hp => ∃ (x6 x7 x8 x9 x10 x11 x12 x13 x14 x15 : D) , env = [dVar v, dVar v, .loc 0 0, .loc 1 0, .bool false, dI i, x6, x7, x8, x9, x10, x11, x12, x13, x14, x15] ∧ At hp 0 (.cells (dVar v).cellsL) ∧ At hp 1 (.cells (dVar v).cellsL)) 0 (by omega) ⟨_, _, _, _, _, _, _, _, _, _, rfl, by simp [At], by simp [At]⟩ ?_
  rintro i env hp hi ⟨x6, x7, x8, x9, x10, x11, x12, x13, x14, x15, rfl, g0, g1⟩
  by_cases hlt : i < v.choices.length
  · obtain ⟨c, hc⟩ : ∃ c, c = v.choices[i] := ⟨_, rfl⟩
    have hu := h3 c (by rw [hc]; exact List.getElem_mem hlt)
    simp [hlt, ← hc, g0.eq, g1.eq, ↓g0.appE, ↓g1.appE]
    obtain ⟨A, hA⟩ : ∃ A, A = hp.length := ⟨_, rfl⟩
    have l0 := g0.lt
    have l1 := g1.lt
    refine wT_up c.uses.length (fun k env hq => ∃ (x9 x10 x11 x12 x13 x14 x15 : D) (y6 y7 : D), env = [dVar v, dVar v, .loc 0 0, .loc 1 0, .bool false, dI i, y6, y7, dI k, x9, x10, x11, x12, x13, x14, x15] ∧ y6 = .loc A 0 ∧ y7 = .loc (A + 1) 0 ∧ At hq 0 (.cells (dVar v).cellsL) ∧ At hq 1 (.cells (dVar v).cellsL) ∧ At hq A (.cells (dChoice c).cellsL) ∧ At hq (A + 1) (.cells (dChoice c).cellsL)) 0 (by omega)
      ⟨_, _, _, _, _, _, _, _, _, rfl, by rw [hA], by rw [hA], g0.app, g1.app, by rw [hA]; simp [At], by rw [hA]; simp [At]⟩ ?_
    rintro k env hq hk ⟨x9, x10, x11, x12, x13, x14, x15, y6, y7, rfl, rfl, rfl, k0, k1, k2, k3⟩
    have lk := k3.lt
    by_cases hkl : k < c.uses.length
    · simp [hkl, k2.eq, k3.eq, ↓k0.appE, ↓k1.appE, ↓k2.appE, ↓k3.appE, wrap_up hkl (by omega)]
      repeat apply Exists.intro
      exact ⟨by and_intros <;> rfl, rfl, rfl, k0.app, k1.app, k2.app, k3.app⟩
    · have : k = c.uses.length := by omega
      subst this
      simp [hkl, k2.eq, wrap_up hlt (by omega)]
      exact ⟨k0, k1⟩
  · have : i = v.choices.length := by omega
    subst this
    simp [hlt, g0.eq, g1.eq]

set_option maxHeartbeats 8000000 in
theorem q188 (p : Prob) (S : Small p) : runP E (dL E) 188 [dProb p, dProb p] = some (.bool true) := by
  refine runP_T c188 (by simp) ?_
  have s1 := S.cells
  have s2 := S.cap
  have s3 := S.vars
  simp [t188, n188]
  refine wT_up p.cells.length (fun i env hp => ∃ (x6 x7 x8 x9 x10 x11 x12 x13 x14 : D) , env = [dProb p, dProb p, .loc 0 0, .loc 1 0, .bool false, dI i, x6, x7, x8, x9, x10, x11, x12, x13, x14] ∧ At hp 0 (.cells (dProb p).cellsL) ∧ At hp 1 (.cells (dProb p).cellsL)) 0 (by omega) ⟨_, _, _, _, _, _, _, _, _, rfl, by simp [At], by simp [At]⟩ ?_
  rintro i env hp hi ⟨x6, x7, x8, x9, x10, x11, x12, x13, x14, rfl, g0, g1⟩
  by_cases hlt : i < p.cells.length
  · simp [hlt, g0.eq, g1.eq, ↓g0.appE, ↓g1.appE, wrap_up hlt (by omega)]
    exact ⟨g0.app, g1.app⟩
  have : i = p.cells.length := by omega
  subst this
  simp [hlt, g0.eq, g1.eq]
  refine wT_up p.capacity.length (fun i env hp => ∃ (x5 x7 x8 x9 x10 x11 x12 x13 x14 : D) , env = [dProb p, dProb p, .loc 0 0, .loc 1 0, .bool false, x5, dI i, x7, x8, x9, x10, x11, x12, x13, x14] ∧ At hp 0 (.cells (dProb p).cellsL) ∧ At hp 1 (.cells (dProb p).cellsL)) 0 (by omega) ⟨_, _, _, _, _, _, _, _, _, rfl, g0, g1⟩ ?_
  clear g0 g1 hlt hp
  rintro i env hp hi ⟨x5, x7, x8, x9, x10, x11, x12, x13, x14, rfl, g0, g1⟩
  by_cases hlt : i < p.capacity.length
  · have h20 := r20 p.capacity[i] p.capacity[i] (by have := S.rows _ (List.getElem_mem hlt); omega)
    simp only [dInts, decide_true] at h20
    simp [hlt, g0.eq, g1.eq, ↓g0.appE, ↓g1.appE, h20, wrap_up hlt (by omega)]
    exact ⟨g0.app, g1.app⟩
  have : i = p.capacity.length := by omega
  subst this
  simp [hlt, g0.eq, g1.eq]
  refine wT_up p.vars.length (fun i env hp => ∃ (x5 x6 x8 x9 x10 x11 x12 x13 x14 : D) , env = [dProb p, dProb p, .loc 0 0, .loc 1 0, .bool false, x5, x6, dI i, x8, x9, x10, x11, x12, x13, x14] ∧ At hp 0 (.cells (dProb p).cellsL) ∧ At hp 1 (.cells (dProb p).cellsL)) 0 (by omega) ⟨_, _, _, _, _, _, _, _, _, rfl, g0, g1⟩ ?_
  clear g0 g1 hlt hp
  rintro i env hp hi ⟨x5, x6, x8, x9, x10, x11, x12, x13, x14, rfl, g0, g1⟩
  by_cases hlt : i < p.vars.length
  · have a1 := S.leaves _ (List.getElem_mem hlt)
    have a2 := S.choices _ (List.getElem_mem hlt)
    have h := q196 p.vars[i] (by omega) (by omega) (fun c hc => by have := S.uses _ (List.getElem_mem hlt) c hc; omega)
    simp only [dVar, dInts] at h
    simp [hlt, g0.eq, g1.eq, ↓g0.appE, ↓g1.appE, h, wrap_up hlt (by omega)]
    exact ⟨g0.app, g1.app⟩
  have : i = p.vars.length := by omega
  subst this
  simp [hlt, g0.eq, g1.eq]

def useE (n : Int) : Use := ⟨⟨false, 0, n⟩, 1⟩
def varE : Var := ⟨0, 0, [0], [⟨0, 0, 0, [useE 5]⟩, ⟨10, 10, 0, [useE 6]⟩]⟩
def pE : Prob := ⟨[⟨false, 0, 5⟩, ⟨false, 0, 6⟩], [[1, 2]], [varE, varE]⟩
def cE : List Cause := [⟨7, [[1, 0]]⟩]
def xE : Prob := ⟨[⟨false, 0, 5⟩, ⟨false, 0, 6⟩], [[2, 2]], [varE, varE]⟩

theorem up {k : Nat} {a : List D} {r : D} {n : Nat} (h : runP E (dC E n) k a = some r) : runP E (dL E) k a = some r := runP_mono (fun _ _ _ h => dC_dL _ _ _ h) h

abbrev dCs (c : List Cause) : D := .imm .none (c.map dCause)
abbrev dShs (c : List Share) : D := .imm .none (c.map dShare)

theorem e190 : runP E (dL E) 190 [] = some (.tup [dProb pE, dCs cE]) := up (n := 100) (by kernel_rfl)
theorem e184a : runP E (dL E) 184 [dProb pE] = some (.tup [dInts [0, 10], dI 0]) := up (n := 200) (by kernel_rfl)
theorem e184b : runP E (dL E) 184 [dProb xE] = some (.tup [dInts [0, 0], dI 0]) := up (n := 200) (by kernel_rfl)
theorem e184c : runP E (dL E) 184 [dProb ⟨[], [[]], []⟩] = some (.tup [dInts [], dI 0]) := up (n := 200) (by kernel_rfl)
theorem e183a : runP E (dL E) 183 [dProb pE, dCs cE, dI 0] = some (.tup [dProb xE, dI 0]) := up (n := 100) (by kernel_rfl)
theorem e183b : runP E (dL E) 183 [dProb pE, dCs [], dI 0] = some (.tup [dProb pE, dI 0]) := up (n := 100) (by kernel_rfl)
theorem e183c : runP E (dL E) 183 [dProb pE, dCs cE, dI (-1)] = some (.tup [dProb ⟨[], [], []⟩, dI 1]) := up (n := 100) (by kernel_rfl)
theorem e180c : runP E (dL E) 180 [dProb ⟨[], [], []⟩, dCs []] = some (.tup [dShs [], dI 270]) := up (n := 100) (by kernel_rfl)
theorem e181a : runP E (dL E) 181 [dProb pE, dCs []] = some (dI 0) := up (n := 100) (by kernel_rfl)
theorem e181b : runP E (dL E) 181 [dProb pE, dCs [⟨0, [[1]]⟩]] = some (dI 420) := up (n := 100) (by kernel_rfl)
theorem e181c : runP E (dL E) 181 [dProb pE, dCs cE] = some (dI 0) := up (n := 100) (by kernel_rfl)
theorem smallE : Small pE := ⟨by decide, by decide, by decide, by decide, by decide, by decide, by decide⟩
theorem smCE : SmC cE := ⟨by decide, by decide, by decide⟩
theorem smC0 : SmC [] := ⟨by decide, by decide, by decide⟩
theorem withE : withP pE cE 0 = xE := rfl
theorem dI_inj {a b : Int} (h : some (dI a) = some (dI b)) : a = b := by injection h with h; injection h
theorem ints_inj {a b : List Int} {x y : D} (h : some (D.tup [dInts a, x]) = some (D.tup [dInts b, y])) : a = b := by
  injection h with h; injection h with h; injection h with h _; injection h with _ h
  exact List.map_inj_right (fun _ _ h => by injection h) |>.1 h
theorem dly_of {p : Prob} {l : List Int} (S : Small p) (h : runP E (dL E) 184 [dProb p] = some (.tup [dInts l, dI 0])) (h0 : OkP p) : dlyL p = l := by
  rw [r184 p S] at h
  unfold resDly at h
  rw [if_pos (by simp [ck, h0])] at h
  exact ints_inj h
theorem e180a : runP E (dL E) 180 [dProb pE, dCs cE] = some (.tup [dShs [⟨0, 1, 10⟩], dI 0]) := by
  have h0 : ckC pE cE = 0 := dI_inj ((r181 pE cE smallE smCE).symm.trans e181c)
  obtain ⟨ok, C⟩ := ckC_ok h0
  have d0 := dly_of (by rw [← withE]; exact withP_small ok C smallE) e184b (by rw [← withE]; exact withP_ok ok C)
  have d1 := dly_of smallE e184a ok
  have w1 : withP pE cE 1 = pE := withP_all (by decide)
  rw [r180 pE cE smallE smCE, resSh, if_pos h0]
  have : sharesL pE cE = [⟨0, 1, 10⟩] := by
    have hs : stages pE cE = [[0, 0], [0, 10]] := by
      unfold stages
      rw [show cE.length + 1 = 2 from rfl]
      simp only [List.range_succ, List.range_zero, List.nil_append, List.cons_append, List.map_cons, List.map_nil, withE, w1, d0, d1]
    unfold sharesL
    rw [hs]; rfl
  rw [this]
theorem e180b : runP E (dL E) 180 [dProb pE, dCs []] = some (.tup [dShs [⟨-1, 1, 10⟩], dI 0]) := by
  have h0 : ckC pE [] = 0 := dI_inj ((r181 pE [] smallE smC0).symm.trans e181a)
  obtain ⟨ok, C⟩ := ckC_ok h0
  have d1 := dly_of smallE e184a ok
  have w1 : withP pE [] 0 = pE := withP_all (by decide)
  rw [r180 pE [] smallE smC0, resSh, if_pos h0]
  have : sharesL pE [] = [⟨-1, 1, 10⟩] := by
    have hs : stages pE [] = [[0, 10]] := by
      unfold stages
      rw [show ([] : List Cause).length + 1 = 1 from rfl]
      simp only [List.range_succ, List.range_zero, List.nil_append, List.map_cons, List.map_nil, w1, d1]
    unfold sharesL
    rw [hs]; rfl
  rw [this]
theorem e20a : runP E (dL E) 20 [dInts [0, 10], dInts [0, 10]] = some (.bool true) := up (n := 100) (by kernel_rfl)
theorem e20b : runP E (dL E) 20 [dInts [0, 0], dInts [0, 0]] = some (.bool true) := up (n := 100) (by kernel_rfl)
theorem e187a : runP E (dL E) 187 [dShs [⟨0, 1, 10⟩], dShs [⟨0, 1, 10⟩]] = some (.bool true) := up (n := 100) (by kernel_rfl)
theorem e187b : runP E (dL E) 187 [dShs [⟨-1, 1, 10⟩], dShs [⟨-1, 1, 10⟩]] = some (.bool true) := up (n := 100) (by kernel_rfl)
theorem e188 : runP E (dL E) 188 [dProb pE, dProb pE] = some (.bool true) := q188 pE smallE

set_option maxHeartbeats 16000000 in
theorem sane178' : runP E (dL E) 178 [] = some (.bool true) := by
  refine runP_T c178 (by simp) ?_
  have h1 := e190
  have h2 := e184a
  have h3 := e184b
  have h4 := e184c
  have h5 := e183a
  have h6 := e183b
  have h7 := e183c
  have h8 := e180a
  have h9 := e180b
  have h10 := e180c
  have h11 := e181a
  have h12 := e181b
  have h13 := e20a
  have h14 := e20b
  have h15 := e187a
  have h16 := e187b
  have h17 := e188
  simp only [dProb, dInts, dCause, dShare, dCs, dShs, pE, xE, cE, varE, useE, dVar, dChoice, dUse, dCell, List.map_cons, List.map_nil] at h1 h2 h3 h4 h5 h6 h7 h8 h9 h10 h11 h12 h13 h14 h15 h16 h17
  simp [t178, n178, h1, h2, h3, h4, h5, h6, h7, h8, h9, h10, h11, h12, h13, h14, h15, h16, h17, frzL_one, frzL_nil]

end Dv

/- The law CausesMore. -/
namespace Dv

theorem causesMore' : ∀ xs, TypedL E [0, 38, 13, 13] xs → ∃ n, runP E (dC E n) 189 xs = some (.bool true) := causesMore sane178'

end Dv
