/- Texts that a proof of this claim uses, joined: Lw.W149, Lw.W150, Lw.W151, Lw.W152, Lw.W153, Lw.W154, Lw.W155, Lw.W156, Lw.W157, Lw.S33, Lw.W158. -/
import Derived.Test.YtkhdnmaebokedaaGb
import Derived.Test.YtkhdnmaebokedaaGa
import Derived.KernelRfl
set_option linter.all false
namespace Dv
attribute [local simp] wT_skip wK wT_ret wT_exit wR wRp wT_seq wC wT_block rTS_nil rTS_asg rTS_eff rTS_effk rTS_effg gdV_b binD_and binD_or binD_xor stepOp_call3 closed_bool closed_int closed_tup flatB_bool flatB_int frzX_tup frzX_exact frz1_exact frz1_none frz1_int ob_some obP_some iteD_b condP_b xv_v xv_c xv_ite xv_bin_tt xv_bin_tc xv_bin_ct xv_bin_cc xv_un_t xv_conv_t xv_load xv_len xv_faddr xv_field xv_iaddr_tt xv_iaddr_tc xv_index_tt xv_index_tc xv_lookup_tt xv_max_tt xv_max_tc xv_max_ct xv_min_tt xv_min_tc xv_min_ct xv_slice_lo_t xv_slice_lo_c xv_slice_hi_t xv_slice_all xv_call xv_bslice bsliceV xv_build buildV xv_mkfn zeroE fillE buildD fillD List.replicate xvs_nil xvs_cons callV_fn frz_bool frz_int frz_imm frz_agg frz_tup frz_fn frz_iptr frzL_nil frzL_one frzL_dI frzL_cell frzL_use frzL_ints frzL_choice frzL_var depth dCell dUse dInts dChoice dVar dProb tStart addO Ret flat_dI flat_rep chunk_dI
 binD_add binD_sub binD_mul binD_eql binD_neq binD_lss binD_leq binD_gtr binD_geq binD_quo binD_rem binD_beql binD_bneq binD_aeql binD_aneq unD_not unD_neg lenD_imm lenD_sl lenD_str readO_cells readO_frozen loadD_loc loadD_iptr iaddrD_imm iaddrD_sl iaddrD_loc faddrD_loc faddrD_iptr fieldD_agg indexD_agg indexD_str cellsL_bool stor_bool atom_bool cellsL_int stor_int atom_int cellsL_str stor_str atom_str cellsL_imm stor_imm atom_imm cellsL_sl stor_sl atom_sl cellsL_loc stor_loc atom_loc cellsL_iptr stor_iptr atom_iptr cellsL_map stor_map atom_map cellsL_fn stor_fn atom_fn cellsL_agg stor_agg cellsL_nilfn stor_nilfn atom_nilfn cellsL_nilp stor_nilp atom_nilp takeC_z takeC_s ofCells_ag ofCells_one ag_bool ag_int ag_str ag_slice ag_struct ag_arr ag_map ag_ptr ag_func gOf_t gOf_c gOf_f kv_cons putE_some putE_none oneRes_one oneRes_two oneRes_three getAll_nil getAll_v getAll_c maxiD_two miniD_two extV_tup xv_ext stepOp_box stepOp_alloc stepOp_store writeO_cells storeD_loc setCells_nil setCells_cons stepOp_mkmap stepOp_mapset stepOp_call1 stepOp_call2 stepOp_app2 stepOp_app1 stepOp_bslice stepOp_mkslice mapO_map lookupD_some lookupD_ok mapsetD_some keyOk_agg kindsL_nil kindsL_bool kindsL_int eqL_nil eqL_cons atomEq_bool atomEq_int frz_sl tokO_tok app0_step app0_exact app0_tok frz_loc oneRes_nil listOf_imm
 isMark_bool isMark_int isMark_str isMark_imm isMark_sl isMark_fn isMark_loc isMark_undef isMark_tup isMark_agg isMark_tup0 isMark_agg0 isU_undef isU_bool isU_int isU_str isU_imm isU_agg isU_fn isU_loc isU_sl noMark_s markP_t markP_f wI wT_dead stepOp_call5 stepOp_call6 nilcD_loc nilcD_iptr xv_nilc xv_mark_t xv_mark_c markV_int markV_agg ty_0 ty_1 ty_2 ty_3 ty_4 ty_6 ty_7 ty_9 ty_10 ty_11 ty_12 ty_13 ty_14 ty_15 ty_16 ty_17 ty_18 ty_19 ty_20 ty_21 ty_22 ty_23 ty_24 ty_25 ty_26 ty_27 ty_29 ty_31 ty_32 ty_41 ty_42 ty_43 ty_44 ty_45 ty_47 ty_48 ty_49 ty_50 ty_51 ty_52 mp_228 mp_229 mp_241 mp_242 mp_243 mp_246
attribute [local congr] wT_congr ob_congr obP_congr iteD_congr condP_congr gdV_congr markP_congr


theorem Keep.le2 {W C C' : Nat} {hp hp' : List Obj} (h : Keep W C hp hp') (hC : C' ≤ C) : Keep W C' hp hp' := fun J h1 h2 h3 => h J h1 (fun hp j o hj hk => h2 hp j o hj (by omega)) h3

theorem r232 (a : List Use) (hl : a.length ≤ 1000000) : runP E (dL E) 232 [.imm .none (a.map dUse), .imm .none (a.map dUse)] = some (.bool true) := by
  refine runP_T c232 (by simp) ?_
  simp [t232, n232]
  refine wT_up a.length (fun i env hp => ∃ (x4 x5 x6 : D) , env = [.imm .none (a.map dUse), .imm .none (a.map dUse), .bool false, dI i, x4, x5, x6]) 0 (by omega) ⟨_, _, _, rfl⟩ ?_
  rintro i env hp hi ⟨x4, x5, x6, rfl⟩
  by_cases hlt : i < a.length
  · simp [hlt, wrap_up hlt (by omega), eqL, atomEq]
  · have : i = a.length := by omega
    subst this
    simp

theorem r218 (v : Var) (h1 : v.leaves.length ≤ 1000000) (h2 : v.choices.length ≤ 1000000) (h3 : ∀ c, c ∈ v.choices → c.uses.length ≤ 1000000) : runP E (dL E) 218 [dVar v, dVar v] = some (.bool true) := by
  refine runP_T c218 (by simp) ?_
  have h20 := r20 v.leaves v.leaves h1
  simp only [dInts, decide_true] at h20
  simp [t218, n218, h20]
  refine wT_up v.choices.length (fun i env hp => ∃ (x6 x7 x8 x9 x10 x11 x12 : D) , env = [dVar v, dVar v, .loc 0 0, .loc 1 0, .bool false, dI i, x6, x7, x8, x9, x10, x11, x12] ∧ At hp 0 (.cells (dVar v).cellsL) ∧ At hp 1 (.cells (dVar v).cellsL)) 0 (by omega) ⟨_, _, _, _, _, _, _, rfl, rfl, rfl⟩ ?_
  rintro i env hp hi ⟨x6, x7, x8, x9, x10, x11, x12, rfl, a1, a2⟩
  by_cases hlt : i < v.choices.length
  · have h232 := r232 v.choices[i].uses (h3 _ (List.getElem_mem hlt))
    have l1 := a1.lt
    have l2 := a2.lt
    simp [hlt, wrap_up hlt (by omega), a1.eq, a2.eq, ↓a1.appE, ↓a2.appE, h232]
    exact ⟨a1.app, a2.app⟩
  · have : i = v.choices.length := by omega
    subst this
    simp [a1.eq]


set_option maxHeartbeats 8000000 in
theorem r219 (p : Prob) (S : Small p) : runP E (dL E) 219 [dProb p, dProb p] = some (.bool true) := by
  refine runP_T c219 (by simp) ?_
  have s1 := S.cells
  have s2 := S.cap
  have s3 := S.vars
  simp [t219, n219]
  refine wT_up p.cells.length (fun i env hp => ∃ (x6 x7 x8 x9 x10 x11 x12 x13 x14 : D) , env = [dProb p, dProb p, .loc 0 0, .loc 1 0, .bool false, dI i, x6, x7, x8, x9, x10, x11, x12, x13, x14] ∧ At hp 0 (.cells (dProb p).cellsL) ∧ At hp 1 (.cells (dProb p).cellsL)) 0 (by omega) ⟨_, _, _, _, _, _, _, _, _, rfl, rfl, rfl⟩ ?_
  rintro i env hp hi ⟨x6, x7, x8, x9, x10, x11, x12, x13, x14, rfl, a1, a2⟩
  by_cases hlt : i < p.cells.length
  · simp [hlt, wrap_up hlt (by omega), a1.eq, a2.eq, ↓a1.appE, ↓a2.appE, eqL, atomEq]
    exact ⟨a1.app, a2.app⟩
  have : i = p.cells.length := by omega
  subst this
  simp [a1.eq]
  refine wT_up p.capacity.length (fun i env hp => ∃ (x5 x7 x8 x9 x10 x11 x12 x13 x14 : D) , env = [dProb p, dProb p, .loc 0 0, .loc 1 0, .bool false, x5, dI i, x7, x8, x9, x10, x11, x12, x13, x14] ∧ At hp 0 (.cells (dProb p).cellsL) ∧ At hp 1 (.cells (dProb p).cellsL)) 0 (by omega) ⟨_, _, _, _, _, _, _, _, _, rfl, a1, a2⟩ ?_
  clear a1 a2 hlt hi
  rintro i env hp hi ⟨x5, x7, x8, x9, x10, x11, x12, x13, x14, rfl, a1, a2⟩
  by_cases hlt : i < p.capacity.length
  · have h20 := r20 p.capacity[i] p.capacity[i] (by have := S.rows _ (List.getElem_mem hlt); omega)
    simp only [dInts, decide_true] at h20
    simp [hlt, wrap_up hlt (by omega), a1.eq, a2.eq, ↓a1.appE, ↓a2.appE, h20]
    exact ⟨a1.app, a2.app⟩
  have : i = p.capacity.length := by omega
  subst this
  simp [a1.eq]
  refine wT_up p.vars.length (fun i env hp => ∃ (x5 x6 x8 x9 x10 x11 x12 x13 x14 : D) , env = [dProb p, dProb p, .loc 0 0, .loc 1 0, .bool false, x5, x6, dI i, x8, x9, x10, x11, x12, x13, x14] ∧ At hp 0 (.cells (dProb p).cellsL) ∧ At hp 1 (.cells (dProb p).cellsL)) 0 (by omega) ⟨_, _, _, _, _, _, _, _, _, rfl, a1, a2⟩ ?_
  clear a1 a2 hlt hi
  rintro i env hp hi ⟨x5, x6, x8, x9, x10, x11, x12, x13, x14, rfl, a1, a2⟩
  by_cases hlt : i < p.vars.length
  · have hm := List.getElem_mem hlt
    have h218 := r218 p.vars[i] (by have := S.leaves _ hm; omega) (by have := S.choices _ hm; omega) (fun c hc => by have := S.uses _ hm c hc; omega)
    simp only [dVar, dInts] at h218
    simp [hlt, wrap_up hlt (by omega), a1.eq, a2.eq, ↓a1.appE, ↓a2.appE, h218]
    exact ⟨a1.app, a2.app⟩
  have : i = p.vars.length := by omega
  subst this
  simp [a1.eq]

structure SmV (v : Var) : Prop where
  leaves : v.leaves.length ≤ 8
  choices : v.choices.length ≤ 8
  uses : ∀ c, c ∈ v.choices → c.uses.length ≤ 12
structure MidV (v : Var) : Prop where
  leaves : v.leaves.length ≤ 9223372036854775807
  choices : v.choices.length ≤ 9223372036854775807
  uses : ∀ c, c ∈ v.choices → c.uses.length ≤ 9223372036854775807
theorem SmV.mid {v : Var} (h : SmV v) : MidV v := ⟨by have := h.leaves; omega, by have := h.choices; omega, fun c hc => by have := h.uses c hc; omega⟩
theorem Small.var {p : Prob} (S : Small p) {v : Var} (hv : v ∈ p.vars) : SmV v := ⟨S.leaves v hv, S.choices v hv, S.uses v hv⟩
theorem Small.put {p : Prob} (S : Small p) {v : Var} (V : SmV v) (j : Nat) : Small (putVar p j v) := by
  have h : ∀ w, w ∈ p.vars.set j v → SmV w := fun w hw => by
    rcases List.mem_or_eq_of_mem_set hw with h | rfl
    · exact S.var h
    · exact V
  exact ⟨S.cells, S.cap, S.rows, by simp only [putVar, List.length_set]; exact S.vars, fun w hw => (h w hw).leaves, fun w hw => (h w hw).choices, fun w hw => (h w hw).uses⟩
theorem Small.mid {p : Prob} (S : Small p) {v : Var} (V : MidV v) (j : Nat) : Mid (putVar p j v) := by
  have h : ∀ w, w ∈ p.vars.set j v → MidV w := fun w hw => by
    rcases List.mem_or_eq_of_mem_set hw with h | rfl
    · exact (S.var h).mid
    · exact V
  exact ⟨S.cells, S.cap, S.rows, by simp only [putVar, List.length_set]; exact S.vars, fun w hw => (h w hw).leaves, fun w hw => (h w hw).choices, fun w hw => (h w hw).uses⟩
theorem put_put {p : Prob} {j : Nat} {v : Var} (hj : j < p.vars.length) : putVar (putVar p j v) j p.vars[j] = p := by
  unfold putVar
  simp

set_option maxHeartbeats 8000000 in
theorem law217 (h1 : runP E (dL E) 212 [] = some (.bool true)) (p : Prob) (i : Int) (v : Var) : runP E (dL E) 217 [dProb p, dI i, dVar v] = some (.bool true) := by
  refine runP_T c217 (by simp) ?_
  have h2 := r2 p
  have h2v := r2 ⟨[], [], [v]⟩
  simp only [dProb, dInts] at h2
  simp at h2v
  cases hf : fewB p with
  | false => simp [t217, n217, h1, h2, hf]
  | true =>
  cases hg : fewB ⟨[], [], [v]⟩ with
  | false =>
    rw [hf] at h2
    rw [hg] at h2v
    simp [t217, n217, h1, h2, h2v]
  | true =>
  have S := few_small hf
  have V : SmV v := (few_small hg).var (by simp)
  have h214 := r214 p i v S (fun j _ => S.mid V.mid j)
  rw [hf] at h2
  rw [hg] at h2v
  unfold resRep prob0 at h214
  simp only [dProb, dInts, dVar] at h214
  by_cases ok : OkP p
  rotate_left
  · rw [if_neg ok] at h214
    simp [t217, n217, h1, h2, h2v, h214]
  rw [if_pos ok] at h214
  by_cases hi : 0 ≤ i ∧ i < p.vars.length
  rotate_left
  · rw [if_neg hi] at h214
    simp [t217, n217, h1, h2, h2v, h214]
  rw [if_pos hi] at h214
  obtain ⟨j, rfl⟩ : ∃ j : Nat, i = (j : Int) := ⟨i.toNat, by omega⟩
  have hj : j < p.vars.length := by omega
  rw [Int.toNat_natCast] at h214
  by_cases okq : OkP (putVar p j v)
  rotate_left
  · rw [if_neg okq] at h214
    simp [t217, n217, h1, h2, h2v, h214]
  rw [if_pos okq] at h214
  have Sq := S.put V j
  have h15 := r15 (putVar p j v) Sq
  have e : ck (putVar p j v) = 0 := by simp [ck, okq]
  have h218 := r218 v (by have := V.leaves; omega) (by have := V.choices; omega) (fun c hc => by have := V.uses c hc; omega)
  have hql : (putVar p j v).vars.length = p.vars.length := by simp [putVar]
  have h214b := r214 (putVar p j v) j p.vars[j] Sq (fun k _ => Sq.mid (S.var (List.getElem_mem hj)).mid k)
  unfold resRep prob0 at h214b
  rw [if_pos okq, hql, if_pos hi, Int.toNat_natCast, put_put hj, if_pos ok] at h214b
  have hqj : (putVar p j v).vars[j]? = some v := by simp [putVar, hj]
  have h219 := r219 p S
  have hqj' : ∀ h : j < (putVar p j v).vars.length, (putVar p j v).vars[j] = v := fun h => by
    rw [List.getElem?_eq_getElem h] at hqj
    exact Option.some.inj hqj
  obtain ⟨Q, hQ⟩ : ∃ Q, Q = putVar p j v := ⟨_, rfl⟩
  rw [← hQ] at h214 h15 h214b e hql
  simp only [← hQ] at hqj'
  rw [e] at h15
  have hjn : ¬ (j : Int) < 0 := by omega
  have hjn2 : ¬ (p.vars.length : Int) ≤ j := by omega
  simp only [dProb, dInts, dVar] at h214 h15 h214b h218 h219
  simp [t217, n217, h1, h2, h2v, h214, hjn, hjn2, hj, h15, hql, hqj', h218, h214b, h219]

theorem ty_choiceM {x : D} (h : Typed E 17 x) : ∃ c, x = dChoice c ∧ c.uses.length ≤ 9223372036854775807 := by
  obtain ⟨ds, rfl, h1⟩ := typed_agg h rfl
  obtain ⟨hl, hf⟩ := ty_struct h1 (fs := [(0, 2), (1, 2), (2, 2), (3, 18)]) rfl
  obtain ⟨x, y, z, w, rfl⟩ := four hl
  obtain ⟨a, h2, o2⟩ := ty_int (hf 0 _ rfl) rfl
  obtain ⟨b, h3, o3⟩ := ty_int (hf 1 _ rfl) rfl
  obtain ⟨c, h4, o4⟩ := ty_int (hf 2 _ rfl) rfl
  obtain ⟨els, h5, hn, h6⟩ := ty_slice (hf 3 _ rfl) (e := 19) rfl
  simp [E, tyTab] at h2 h3 h4 h5
  subst h2 h3 h4 h5
  obtain ⟨l, rfl, o⟩ := list_of (f := dUse) (R := okUse) (els := els) fun x hx => ty_use (h6 x hx)
  have hm : Go.maxLen ≤ 9223372036854775807 := by decide
  exact ⟨⟨a, b, c, l⟩, rfl, by simp at hn; simp; omega⟩

theorem ty_varM {x : D} (h : Typed E 15 x) : ∃ v, x = dVar v ∧ MidV v := by
  obtain ⟨ds, rfl, h1⟩ := typed_agg h rfl
  obtain ⟨hl, hf⟩ := ty_struct h1 (fs := [(0, 2), (1, 2), (2, 6), (3, 16)]) rfl
  obtain ⟨x, y, z, w, rfl⟩ := four hl
  obtain ⟨a, h2, o2⟩ := ty_int (hf 0 _ rfl) rfl
  obtain ⟨b, h3, o3⟩ := ty_int (hf 1 _ rfl) rfl
  obtain ⟨els0, h4, hn0, g4⟩ := ty_slice (hf 2 _ rfl) (e := 2) rfl
  obtain ⟨els, h5, hn, h6⟩ := ty_slice (hf 3 _ rfl) (e := 17) rfl
  simp [E, tyTab] at h2 h3 h4 h5
  subst h2 h3 h4 h5
  obtain ⟨l0, rfl, o0⟩ := list_of (f := dI) (R := i64) (els := els0) fun x hx => by
    obtain ⟨n, h2, o⟩ := ty_int (typed_one (g4 x hx) rfl) rfl
    simp at h2; exact ⟨n, h2, o⟩
  obtain ⟨l, rfl, o⟩ := list_of (f := dChoice) (R := fun c => c.uses.length ≤ 9223372036854775807) (els := els) fun x hx => ty_choiceM (h6 x hx)
  have hm : Go.maxLen ≤ 9223372036854775807 := by decide
  exact ⟨⟨a, b, l0, l⟩, rfl, by simp at hn0; simp; omega, by simp at hn; simp; omega, o⟩

theorem repairBack (h1 : runP E (dL E) 212 [] = some (.bool true)) : ∀ xs, TypedL E [0, 2, 15] xs → ∃ n, runP E (dC E n) 217 xs = some (.bool true) := by
  intro xs h
  match xs, h with
  | [x, y, z], ⟨t1, t2, t3, _⟩ =>
    obtain ⟨p, rfl, _⟩ := ty_prob t1
    obtain ⟨i, rfl, _⟩ := ty_num t2 rfl
    obtain ⟨v, rfl, V⟩ := ty_varM t3
    exact runP_ex (law217 h1 p i v)
  | [], h => exact h.elim
  | [_], h => exact h.2.elim
  | [_, _], h => exact h.2.2.elim
  | _ :: _ :: _ :: _ :: _, h => exact h.2.2.2.elim

def c9E : Cell := ⟨false, 0, 9⟩
def nowE : Choice := ⟨0, 0, 0, [⟨c9E, 1⟩]⟩
def svE : Var := ⟨0, 0, [0], [nowE, ⟨10, 3, 0, []⟩]⟩
def swE : Var := ⟨0, 0, [0], [nowE, ⟨10, 5, 0, []⟩]⟩
def freE : Var := ⟨0, 0, [0], [⟨0, 1, 0, []⟩]⟩
def spE : Prob := ⟨[c9E], [[1]], [svE, swE]⟩
def sqE : Prob := ⟨[c9E], [[1]], [freE, swE]⟩
def noE : Prob := ⟨[], [[]], []⟩
def acE : Cert := ⟨[1, 0], [0, 10, 3, 0], [⟨[0, 0], 1, []⟩, ⟨[0, 1], 1, []⟩, ⟨[1, 0], 1, []⟩, ⟨[1, 1], 1, []⟩]⟩
def bcE : Cert := ⟨[0, 0], [0, 0, 1, 0], [⟨[0, 0], 1, []⟩, ⟨[0, 1], 1, []⟩]⟩
def ccE : Cert := ⟨[], [0, 0, 0, 0], [⟨[], 1, []⟩]⟩

theorem up33 {k : Nat} {a : List D} {r : D} {n : Nat} (h : runP E (dC E n) k a = some r) : runP E (dL E) k a = some r := runP_mono (fun _ _ _ h => dC_dL _ _ _ h) h

theorem e221 : runP E (dL E) 221 [] = some (dProb spE) := up33 (n := 100) (by kernel_rfl)
theorem e215a : runP E (dL E) 215 [dProb spE, dCert cert0] = some (.tup [dCert acE, dI 0]) := up33 (n := 100) (by kernel_rfl)
theorem e214a : runP E (dL E) 214 [dProb spE, dI 0, dVar freE] = some (.tup [dProb sqE, dI 0]) := up33 (n := 100) (by kernel_rfl)
theorem e215b : runP E (dL E) 215 [dProb sqE, dCert acE] = some (.tup [dCert bcE, dI 0]) := up33 (n := 100) (by kernel_rfl)
theorem e222a : runP E (dL E) 222 [dProb spE, dCert acE] = some (.tup [.bool true, dI 0]) := up33 (n := 100) (by kernel_rfl)
theorem e222b : runP E (dL E) 222 [dProb sqE, dCert acE] = some (.tup [.bool false, dI 0]) := up33 (n := 100) (by kernel_rfl)
theorem e214b : runP E (dL E) 214 [dProb noE, dI 0, dVar freE] = some (.tup [dProb prob0, dI 330]) := up33 (n := 100) (by kernel_rfl)
theorem e222c : runP E (dL E) 222 [dProb spE, dCert cert0] = some (.tup [.bool false, dI 0]) := up33 (n := 100) (by kernel_rfl)
theorem e215c : runP E (dL E) 215 [dProb noE, dCert cert0] = some (.tup [dCert ccE, dI 0]) := up33 (n := 100) (by kernel_rfl)
theorem e215d : runP E (dL E) 215 [dProb prob0, dCert acE] = some (.tup [dCert cert0, dI 270]) := up33 (n := 100) (by kernel_rfl)
theorem e216a : runP E (dL E) 216 [dProb spE, dCert acE] = some (dI 0) := up33 (n := 100) (by kernel_rfl)
theorem e216b : runP E (dL E) 216 [dProb sqE, dCert bcE] = some (dI 0) := up33 (n := 100) (by kernel_rfl)
theorem e216c : runP E (dL E) 216 [dProb noE, dCert ccE] = some (dI 0) := up33 (n := 100) (by kernel_rfl)

set_option maxHeartbeats 16000000 in
theorem sane212 : runP E (dL E) 212 [] = some (.bool true) := by
  refine runP_T c212 (by simp) ?_
  have h1 := e221
  have h2 := e215a
  have h3 := e214a
  have h4 := e215b
  have h5 := e222a
  have h6 := e222b
  have h7 := e214b
  have h8 := e222c
  have h9 := e215c
  have h10 := e215d
  have h11 := e216a
  have h12 := e216b
  have h13 := e216c
  have h14 := fun l hl => r20 l l hl
  simp only [decide_true] at h14
  have h15 := h14 [1, 0] (by simp)
  have h16 := h14 [0, 10, 3, 0] (by simp)
  have h17 := h14 [0, 0] (by simp)
  have h18 := h14 [0, 0, 0, 0] (by simp)
  simp only [dProb, dInts, dCert, cert0, prob0, spE, sqE, noE, svE, swE, freE, nowE, c9E, acE, bcE, ccE, dLeaf, dVar, dChoice, dUse, dCell, List.map_cons, List.map_nil] at h1 h2 h3 h4 h5 h6 h7 h8 h9 h10 h11 h12 h13 h15 h16 h17 h18
  simp [t212, n212, h1, h2, h3, h4, h5, h6, h7, h8, h9, h10, h11, h12, h13, h15, h16, h17, h18, frzL_one, frzL_nil]

end Dv

/- The laws of layer 33. -/
namespace Dv

theorem repairBack' : ∀ xs, TypedL E [0, 2, 15] xs → ∃ n, runP E (dC E n) 217 xs = some (.bool true) := repairBack sane212
end Dv
