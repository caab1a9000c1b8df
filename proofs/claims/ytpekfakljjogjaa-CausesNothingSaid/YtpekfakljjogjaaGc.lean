/- Texts that a proof of this claim uses, joined: Lw.W123, Lw.W124, Lw.W120, Lw.W121, Lw.W122, Lw.W108, Lw.W125, Lw.W126, Lw.S42, Lw.W129. -/
import Derived.Test.YtpekfakljjogjaaGb
import Derived.Test.YtpekfakljjogjaaGa
import Derived.KernelRfl
set_option linter.all false
namespace Dv
attribute [local simp] wT_skip wK wT_ret wT_exit wR wRp wT_seq wC wT_block rTS_nil rTS_asg rTS_eff rTS_effk rTS_effg gdV_b binD_and binD_or binD_xor stepOp_call3 closed_bool closed_int closed_tup flatB_bool flatB_int frzX_tup frzX_exact frz1_exact frz1_none frz1_int ob_some obP_some iteD_b condP_b xv_v xv_c xv_ite xv_bin_tt xv_bin_tc xv_bin_ct xv_bin_cc xv_un_t xv_conv_t xv_load xv_len xv_faddr xv_field xv_iaddr_tt xv_iaddr_tc xv_index_tt xv_index_tc xv_lookup_tt xv_max_tt xv_max_tc xv_max_ct xv_min_tt xv_min_tc xv_min_ct xv_slice_lo_t xv_slice_lo_c xv_slice_hi_t xv_slice_all xv_call xv_bslice bsliceV xv_build buildV xv_mkfn zeroE fillE buildD fillD List.replicate xvs_nil xvs_cons callV_fn frz_bool frz_int frz_imm frz_agg frz_tup frz_fn frz_iptr frzL_nil frzL_one frzL_dI frzL_cell frzL_use frzL_ints frzL_choice frzL_var depth dCell dUse dInts dChoice dVar dProb tStart addO Ret flat_dI flat_rep chunk_dI
 binD_add binD_sub binD_mul binD_eql binD_neq binD_lss binD_leq binD_gtr binD_geq binD_quo binD_rem binD_beql binD_bneq binD_aeql binD_aneq unD_not unD_neg lenD_imm lenD_sl lenD_str readO_cells readO_frozen loadD_loc loadD_iptr iaddrD_imm iaddrD_sl iaddrD_loc faddrD_loc faddrD_iptr fieldD_agg indexD_agg indexD_str cellsL_bool stor_bool atom_bool cellsL_int stor_int atom_int cellsL_str stor_str atom_str cellsL_imm stor_imm atom_imm cellsL_sl stor_sl atom_sl cellsL_loc stor_loc atom_loc cellsL_iptr stor_iptr atom_iptr cellsL_map stor_map atom_map cellsL_fn stor_fn atom_fn cellsL_agg stor_agg cellsL_nilfn stor_nilfn atom_nilfn cellsL_nilp stor_nilp atom_nilp takeC_z takeC_s ofCells_ag ofCells_one ag_bool ag_int ag_str ag_slice ag_struct ag_arr ag_map ag_ptr ag_func gOf_t gOf_c gOf_f kv_cons putE_some putE_none oneRes_one oneRes_two oneRes_three getAll_nil getAll_v getAll_c maxiD_two miniD_two extV_tup xv_ext stepOp_box stepOp_alloc stepOp_store writeO_cells storeD_loc setCells_nil setCells_cons stepOp_mkmap stepOp_mapset stepOp_call1 stepOp_call2 stepOp_app2 stepOp_app1 stepOp_bslice stepOp_mkslice mapO_map lookupD_some lookupD_ok mapsetD_some keyOk_agg kindsL_nil kindsL_bool kindsL_int eqL_nil eqL_cons atomEq_bool atomEq_int frz_sl tokO_tok app0_step app0_exact app0_tok frz_loc oneRes_nil listOf_imm
  ty_0 ty_1 ty_2 ty_3 ty_4 ty_6 ty_7 ty_9 ty_10 ty_11 ty_13 ty_14 ty_15 ty_16 ty_17 ty_18 ty_19 ty_20 ty_21 ty_22 ty_26 ty_28 ty_29 ty_31 ty_32 ty_33 ty_35 ty_36 ty_37 ty_38 ty_39 ty_40
attribute [local congr] wT_congr ob_congr obP_congr iteD_congr condP_congr gdV_congr


theorem shares_len {p : Prob} {c : List Cause} (ok : OkP p) (C : OkC p c) (S : Small p) : (sharesL p c).length ≤ 9000 := by
  have := shr_len (m := p.vars.length) (l := stages p c) (k := 0) (b := List.replicate p.vars.length 0) (fun x hx => by
    obtain ⟨j, _, rfl⟩ := List.mem_map.1 hx
    rw [dlyL_len (withP_small ok C S) (withP_ok ok C)]; exact Nat.le_refl _)
  have c8 := C.len
  have s3 := S.vars
  have hl : (stages p c).length = c.length + 1 := by simp [stages]
  rw [hl] at this
  have h2 : (c.length + 1) * p.vars.length ≤ 9 * 1000 := Nat.mul_le_mul (by omega) (by omega)
  unfold sharesL; omega

theorem share_ok {p : Prob} {c : List Cause} (ok : OkP p) (C : OkC p c) (S : Small p) : ∀ s, s ∈ sharesL p c → -1 ≤ s.cause ∧ s.cause < c.length ∧ 0 ≤ s.vr ∧ s.vr < p.vars.length ∧ s.minutes ≠ 0 := by
  intro s hs
  have := shr_mem (m := p.vars.length) (l := stages p c) (k := 0) (b := List.replicate p.vars.length 0) (fun x hx => by
    obtain ⟨j, _, rfl⟩ := List.mem_map.1 hx
    rw [dlyL_len (withP_small ok C S) (withP_ok ok C)]; rfl) hs
  have hl : (stages p c).length = c.length + 1 := by simp [stages]
  rw [hl] at this
  obtain ⟨a, b, c', d, e⟩ := this
  exact ⟨by omega, by omega, c', d, e⟩

theorem ty_cause {x : D} (h : Typed E 39 x) : ∃ c, x = dCause c ∧ True := by
  obtain ⟨ds, rfl, h1⟩ := typed_agg h rfl
  obtain ⟨hl, hf⟩ := ty_struct h1 (fs := [(0, 2), (1, 9)]) rfl
  have hl2 : ds.length = 2 := hl
  match ds, hl2 with
  | [x, y], _ =>
    obtain ⟨n, h2, _⟩ := ty_int (hf 0 _ rfl) rfl
    obtain ⟨els, h3, _, h4⟩ := ty_slice (hf 1 _ rfl) (e := 6) rfl
    simp [E, tyTab] at h2 h3
    subst h2 h3
    obtain ⟨l, rfl, _⟩ := list_of (f := dInts) (R := fun _ => True) (els := els) fun x hx => by
      obtain ⟨l, h5, _⟩ := ty_ints (typed_one (h4 x hx) rfl) rfl
      simp at h5; exact ⟨l, h5, trivial⟩
    exact ⟨⟨n, l⟩, rfl, trivial⟩
theorem ty_causes {x : D} (h : Typed E 38 x) : ∃ c : List Cause, x = .imm .none (c.map dCause) ∧ c.length ≤ 9223372036854775807 := by
  obtain ⟨els, h3, hl, he⟩ := ty_slice (e := 39) (typed_one h rfl) rfl
  simp only [List.cons.injEq, and_true] at h3
  obtain ⟨c, h4, _⟩ := list_of (f := dCause) (R := fun _ => True) (els := els) fun y hy => ty_cause (he y hy)
  subst h4
  have : Go.maxLen ≤ 9223372036854775807 := by decide
  exact ⟨c, h3, by simp at hl; omega⟩

set_option maxHeartbeats 8000000 in
theorem q196 (v : Var) (h1 : v.leaves.length ≤ 1000) (h2 : v.choices.length ≤ 1000) (h3 : ∀ c, c ∈ v.choices → c.uses.length ≤ 1000) : runP E (dL E) 196 [dVar v, dVar v] = some (.bool true) := by
  refine runP_T c196 (by simp) ?_
  have h20 := r20 v.leaves v.leaves (by omega)
  simp only [dInts, decide_true] at h20
  simp [t196, n196, h20]
  refine wT_up v.choices.length (fun i env hp => ∃ (x6 x7 x8 x9 x10 x11 x12 x13 x14 x15 : D) , env = [dVar v, dVar v, .loc 0 0, .loc 1 0, .bool false, dI i, x6, x7, x8, x9, x10, x11, x12, x13, x14, x15] ∧ At hp 0 (.cells (dVar v).cellsL) ∧ At hp 1 (.cells (dVar v).cellsL)) 0 (by omega) ⟨_, _, _, _, _, _, _, _, _, _, rfl, by simp [At], by simp [At]⟩ ?_
  rintro i env hp hi ⟨x6, x7, x8, x9, x10, x11, x12, x13, x14, x15, rfl, g0, g1⟩
  by_cases hlt : i < v.choices.length
  · obtain ⟨c, hc⟩ : ∃ c, c = v.choices[i] := ⟨_, rfl⟩
    have hu := h3 c (by rw [hc]; exact List.getElem_mem hlt)
    simp [hlt, ← hc, g0.eq, g1.eq, ↓g0.appE, ↓g1.appE]
    obtain ⟨A, hA⟩ : ∃ A, A = hp.length := ⟨_, rfl⟩
    have l0 := g0.lt
    have l1 := g1.lt
    refine wT_up c.uses.length (fun k env hq => ∃ (x9 x10 x11 x12 x13 x14 x15 : D) (y6 y7 : D), env = [dVar v, dVar v, .loc 0 0, .loc 1 0, .bool false, dI i, y6, y7, dI k, x9, x10, x11, x12, x13, x14, x15] ∧ y6 = .loc A 0 ∧ y7 = .loc (A + 1) 0 ∧ At hq 0 (.cells (dVar v).cellsL) ∧ At hq 1 (.cells (dVar v).cellsL) ∧ At hq A (.cells (dChoice c).cellsL) ∧ At hq (A + 1) (.cells (dChoice c).cellsL)) 0 (by omega)
      ⟨_, _, _, _, _, _, _, _, _, rfl, by rw [hA], by rw [hA], g0.app, g1.app, by rw [hA]; simp [At], by rw [hA]; simp [At]⟩ ?_
    rintro k env hq hk ⟨x9, x10, x11, x12, x13, x14, x15, y6, y7, rfl, rfl, rfl, k0, k1, k2, k3⟩
    have lk := k3.lt
    by_cases hkl : k < c.uses.length
    · simp [hkl, k2.eq, k3.eq, ↓k0.appE, ↓k1.appE, ↓k2.appE, ↓k3.appE, wrap_up hkl (by omega)]
      repeat apply Exists.intro
      exact ⟨by and_intros <;> rfl, rfl, rfl, k0.app, k1.app, k2.app, k3.app⟩
    · have : k = c.uses.length := by omega
      subst this
      simp [hkl, k2.eq, wrap_up hlt (by omega)]
      exact ⟨k0, k1⟩
  · have : i = v.choices.length := by omega
    subst this
    simp [hlt, g0.eq, g1.eq]

set_option maxHeartbeats 8000000 in
theorem q188 (p : Prob) (S : Small p) : runP E (dL E) 188 [dProb p, dProb p] = some (.bool true) := by
  refine runP_T c188 (by simp) ?_
  have s1 := S.cells
  have s2 := S.cap
  have s3 := S.vars
  simp [t188, n188]
  refine wT_up p.cells.length (fun i env hp => ∃ (x6 x7 x8 x9 x10 x11 x12 x13 x14 : D) , env = [dProb p, dProb p, .loc 0 0, .loc 1 0, .bool false, dI i, x6, x7, x8, x9, x10, x11, x12, x13, x14] ∧ At hp 0 (.cells (dProb p).cellsL) ∧ At hp 1 (.cells (dProb p).cellsL)) 0 (by omega) ⟨_, _, _, _, _, _, _, _, _, rfl, by simp [At], by simp [At]⟩ ?_
  rintro i env hp hi ⟨x6, x7, x8, x9, x10, x11, x12, x13, x14, rfl, g0, g1⟩
  by_cases hlt : i < p.cells.length
  · simp [hlt, g0.eq, g1.eq, ↓g0.appE, ↓g1.appE, wrap_up hlt (by omega)]
    exact ⟨g0.app, g1.app⟩
  have : i = p.cells.length := by omega
  subst this
  simp [hlt, g0.eq, g1.eq]
  refine wT_up p.capacity.length (fun i env hp => ∃ (x5 x7 x8 x9 x10 x11 x12 x13 x14 : D) , env = [dProb p, dProb p, .loc 0 0, .loc 1 0, .bool false, x5, dI i, x7, x8, x9, x10, x11, x12, x13, x14] ∧ At hp 0 (.cells (dProb p).cellsL) ∧ At hp 1 (.cells (dProb p).cellsL)) 0 (by omega) ⟨_, _, _, _, _, _, _, _, _, rfl, g0, g1⟩ ?_
  clear g0 g1 hlt hp
  rintro i env hp hi ⟨x5, x7, x8, x9, x10, x11, x12, x13, x14, rfl, g0, g1⟩
  by_cases hlt : i < p.capacity.length
  · have h20 := r20 p.capacity[i] p.capacity[i] (by have := S.rows _ (List.getElem_mem hlt); omega)
    simp only [dInts, decide_true] at h20
    simp [hlt, g0.eq, g1.eq, ↓g0.appE, ↓g1.appE, h20, wrap_up hlt (by omega)]
    exact ⟨g0.app, g1.app⟩
  have : i = p.capacity.length := by omega
  subst this
  simp [hlt, g0.eq, g1.eq]
  refine wT_up p.vars.length (fun i env hp => ∃ (x5 x6 x8 x9 x10 x11 x12 x13 x14 : D) , env = [dProb p, dProb p, .loc 0 0, .loc 1 0, .bool false, x5, x6, dI i, x8, x9, x10, x11, x12, x13, x14] ∧ At hp 0 (.cells (dProb p).cellsL) ∧ At hp 1 (.cells (dProb p).cellsL)) 0 (by omega) ⟨_, _, _, _, _, _, _, _, _, rfl, g0, g1⟩ ?_
  clear g0 g1 hlt hp
  rintro i env hp hi ⟨x5, x6, x8, x9, x10, x11, x12, x13, x14, rfl, g0, g1⟩
  by_cases hlt : i < p.vars.length
  · have a1 := S.leaves _ (List.getElem_mem hlt)
    have a2 := S.choices _ (List.getElem_mem hlt)
    have h := q196 p.vars[i] (by omega) (by omega) (fun c hc => by have := S.uses _ (List.getElem_mem hlt) c hc; omega)
    simp only [dVar, dInts] at h
    simp [hlt, g0.eq, g1.eq, ↓g0.appE, ↓g1.appE, h, wrap_up hlt (by omega)]
    exact ⟨g0.app, g1.app⟩
  have : i = p.vars.length := by omega
  subst this
  simp [hlt, g0.eq, g1.eq]

theorem fits_causes {l : List Cause} : ((l.map dCause).all fun d => d.storable && d.cellsL.length == 2) = true := by
  rw [List.all_eq_true]
  intro x hx
  obtain ⟨r, _, rfl⟩ := List.mem_map.1 hx
  rfl
section
variable {hp : List Obj}
end

/-- a list grows -/
theorem pushL {t e sz : Nat} (ht : (E.ty t).k = .slice e) (hs : (E.ty e).size = sz) {hp : List Obj} {sp s2 : Spare} {els new : List D} {B id : Nat} (hok : appOk E e els new) (hx : (new.all fun d => d.storable && d.cellsL.length == sz) = true) (R : Room B hp sp els.length sz) (hid : id ≤ hp.length) :
    ∃ hp', app0 E hp id t t (.imm sp els) (.imm s2 new) = some (.imm (.tok id) (els ++ new), hp') ∧ At hp' id (.tok ((els.length + new.length) * sz) sz) ∧ hp.length ≤ hp'.length ∧
      ∀ i o, At hp i o → (∀ k, sp = .tok k → i ≠ k) → i ≠ id → At hp' i o := by
  subst hs
  rcases R with rfl | ⟨k, rfl, _, g⟩
  · obtain ⟨a1, a2, a3⟩ := addO_at (o := .tok ((els.length + new.length) * (E.ty e).size) (E.ty e).size) hid
    refine ⟨_, ?_, a1, a2, fun i o g _ hne => a3 i o g hne⟩
    rw [app0_exact, ht]
    simp only [listOf_imm, hx, if_true, ob_some, if_pos hok]
  · have hg := g.eq
    obtain ⟨a1, a2, a3⟩ := addO_at (hp := hp.set k .dead) (id := id) (o := .tok ((els.length + new.length) * (E.ty e).size) (E.ty e).size) (by simpa using hid)
    refine ⟨_, ?_, a1, by simpa using a2, fun i o g hk hne => a3 i o (g.ne (Ne.symm (hk k rfl))) hne⟩
    rw [app0_tok, ht]
    simp only [listOf_imm, hx, if_true, ob_some, if_pos hok, hg, tokO_tok, and_self]

theorem appOk_rowsG {l : List D} {x : D} (h : l.length ≤ 100000) (hl : ∀ d, d ∈ l → ∃ sp els, d = .imm sp els) : appOk E 6 l [x] := by
  refine ⟨?_, ?_, ?_, ?_⟩
  · simp [maxBytes, E, tyTab]; omega
  · simp [E, tyTab]
  · rfl
  · simp only [fitsE, List.all_eq_true]
    intro d hd
    obtain ⟨sp, els, rfl⟩ := hl d hd
    rfl
theorem appOk_causes {l : List Cause} {new : List D} (h : l.length + new.length ≤ 100000) : appOk E 39 (l.map dCause) new := by
  refine ⟨?_, ?_, ?_, ?_⟩
  · simp [maxBytes, E, tyTab]; omega
  · simp [E, tyTab]
  · rfl
  · cases l <;> simp [fitsE, E, tyTab, D.storable, D.atom, D.cellsL]
theorem appOk_causesC {l : List Cause} {x : D} {new : List D} (h : l.length + new.length ≤ 100000) (hx : ∃ a sp els, x = .agg [dI a, .imm sp els]) : appOk E 39 (l.map dCause ++ [x]) new := by
  obtain ⟨a, sp, els, rfl⟩ := hx
  refine ⟨?_, ?_, ?_, ?_⟩
  · simp [maxBytes, E, tyTab]; omega
  · simp [E, tyTab]
  · rfl
  · cases l <;> simp [fitsE, E, tyTab, D.storable, D.atom, D.cellsL]

theorem slice_causes_hi {c : List Cause} {k : Nat} (h : k ≤ c.length) : sliceD E 38 (.imm .none (c.map dCause)) none (some (.int .i64 (k : Int))) none = some (.imm .none ((c.take k).map dCause)) := by
  have hh : headFits 2 (c.map dCause) = true := by cases c <;> rfl
  by_cases e : k = c.length
  · subst e
    have : List.take c.length (List.map dCause c) = List.map dCause c := List.take_of_length_le (by simp)
    simp [sliceD, bnd, hh, sliceSpare, this]
  · simp [sliceD, bnd, hh, h, sliceSpare, List.map_take, e]

def moreC (p : Prob) (c : List Cause) (k : Nat) (index : Int) : List Cause := c.take k ++ zeroC p index :: c.drop k
theorem more_smC {p : Prob} (S : Small p) {c : List Cause} (C : OkC p c) (M : SmC c) {k : Nat} {index : Int} (h4 : c.length ≤ 4) : SmC (moreC p c k index) := by
  have s1 := S.cells
  have s2 := S.cap
  have hm : ∀ a, a ∈ moreC p c k index → a ∈ c ∨ a = zeroC p index := fun a ha => by
    simp only [moreC, List.mem_append, List.mem_cons] at ha
    rcases ha with h | h | h
    · exact .inl (List.mem_of_mem_take h)
    · exact .inr h
    · exact .inl (List.mem_of_mem_drop h)
  refine ⟨by simp [moreC]; omega, fun a ha => ?_, fun a ha r hr => ?_⟩
  · rcases hm a ha with h | h
    · exact M.less a h
    · subst h; simp [zeroC]; omega
  · rcases hm a ha with h | h
    · exact M.rows a h r hr
    · subst h
      simp only [zeroC] at hr
      rw [List.eq_of_mem_replicate hr]; simp; omega
theorem more_okC {p : Prob} {c : List Cause} (C : OkC p c) {k : Nat} {index : Int} (h4 : c.length ≤ 4) : OkC p (moreC p c k index) ↔ 0 ≤ index ∧ index ≤ 1048576 := by
  have hm : ∀ a, a ∈ moreC p c k index → a ∈ c ∨ a = zeroC p index := fun a ha => by
    simp only [moreC, List.mem_append, List.mem_cons] at ha
    rcases ha with h | h | h
    · exact .inl (List.mem_of_mem_take h)
    · exact .inr h
    · exact .inl (List.mem_of_mem_drop h)
  constructor
  · intro h
    exact h.idx (zeroC p index) (by simp [moreC])
  · intro h
    refine ⟨by simp [moreC]; omega, fun a ha => ?_, fun a ha => ?_, fun a ha r hr => ?_⟩
    · rcases hm a ha with h' | h'
      · exact C.idx a h'
      · subst h'; exact h
    · rcases hm a ha with h' | h'
      · exact C.rows a h'
      · subst h'; simp [zeroC]
    · rcases hm a ha with h' | h'
      · exact C.wid a h' r hr
      · subst h'
        simp only [zeroC] at hr
        rw [List.eq_of_mem_replicate hr]
        exact ⟨by simp, fun n hn => by have := List.eq_of_mem_replicate hn; omega⟩

set_option maxHeartbeats 16000000 in
theorem law185 (h1 : runP E (dL E) 178 [] = some (.bool true)) (p : Prob) (c : List Cause) (hc : c.length ≤ 9223372036854775807) (m : Nat) (hm : m ≤ 255) (index : Int) :
    runP E (dL E) 185 [dProb p, .imm .none (c.map dCause), .int .u8 m, dI index] = some (.bool true) := by
  refine runP_T c185 (by simp) ?_
  have h179 := r179 p c hc
  simp only [dProb, dInts, dCause] at h179
  cases hf : fewCB p c with
  | false => simp [t185, n185, h1, h179, hf, frzL_cause]
  | true =>
  obtain ⟨S, M, c4⟩ := fewC_sm hf
  have h180 := r180 p c S M
  have h181 := r181 p c S M
  simp only [dProb, dInts, dCause] at h181
  unfold resSh at h180
  by_cases h0 : ckC p c = 0
  rotate_left
  · simp [t185, n185, h1, h179, hf, h181, h0, frzL_cause]
  rw [if_pos h0] at h180
  obtain ⟨ok, C⟩ := ckC_ok h0
  have s1 := S.cells
  have s2 := S.cap
  have h8 : (c.length : Int) < 8 := by omega
  have w := wrap_i64 (n := (c.length : Int) + 1) ⟨by omega, by omega⟩
  have w1 := wrap_i64 (n := (m : Int)) ⟨by omega, by omega⟩
  obtain ⟨k, hkd⟩ : ∃ k, k = m % (c.length + 1) := ⟨_, rfl⟩
  have e1 : (m : Int).tmod ((c.length : Int) + 1) = k := by rw [hkd]; exact (Int.ofNat_tmod m (c.length + 1)).symm
  have hk' : k < c.length + 1 := by rw [hkd]; exact Nat.mod_lt _ (by omega)
  have nz : ¬ (c.length : Int) + 1 = 0 := by omega
  clear hkd
  have hk : k ≤ c.length := by omega
  have Mm := more_smC S C M (k := k) (index := index) c4
  have h181m := r181 p _ S Mm
  have h180m := r180 p _ S Mm
  have hshr := shares_zero ok C (index := index) hk
  have hsl := shares_len ok C S
  have hso := share_ok ok C S
  obtain ⟨cm, hcm⟩ : ∃ cm, cm = c.map dCause := ⟨_, rfl⟩
  have hcl : cm.length = c.length := by rw [hcm, List.length_map]
  have hcf : ∀ hp n, frzL (frz hp (n + 4)) cm = some cm := fun hp n => by rw [hcm]; exact frzL_cause
  have sl1 := slice_causes_hi hk
  have sl2 := slice_causes hk
  rw [← hcm] at h179 h180 h181 sl1 sl2 ⊢
  obtain ⟨Zr, hZr⟩ : ∃ Zr : D, Zr = .imm .exact (List.replicate p.cells.length (dI 0)) := ⟨_, rfl⟩
  have hmk : mksliceV E 6 (dI p.cells.length) (dI p.cells.length) = some Zr := by
    have hmb : (p.cells.length : Int) * 9 ≤ 17592186044416 := by omega
    simp [mksliceV, maxBytes, hmb, hZr]
  have stZ : Zr.storable = true := by rw [hZr]; rfl
  have clZ : Zr.cellsL = [Zr] := by rw [hZr]; rfl
  simp [t185, n185, h1, h179, hf, h181, h0, h8, hcl, hcf]
  obtain ⟨Lf, hLf⟩ : ∃ Lf : Nat → List D, Lf = fun i => List.replicate i Zr := ⟨_, rfl⟩
  have hL0 : Lf 0 = [] := by rw [hLf]; rfl
  have hL1 : ∀ i, Lf i ++ [Zr] = Lf (i + 1) := fun i => by rw [hLf]; simp only []; rw [List.replicate_succ']
  have hLl : ∀ i, (Lf i).length = i := fun i => by rw [hLf]; simp
  have hLm : ∀ i d, d ∈ Lf i → ∃ sp els, d = .imm sp els := fun i d hd => by
    rw [hLf] at hd; exact ⟨_, _, (List.eq_of_mem_replicate hd).trans hZr⟩
  have hLz : ∀ hp n i, frzL (frz hp (n + 2)) (Lf i) = some ((List.replicate i (List.replicate p.cells.length 0)).map dInts) := fun hp n i => by
    rw [hLf]; simp only []
    induction i with
    | zero => rfl
    | succ i ih =>
      rw [List.replicate_succ, frzL_one, hZr, frz_imm]
      have : List.replicate p.cells.length (dI 0) = (List.replicate p.cells.length (0 : Int)).map dI := by simp
      rw [this, frzL_dI]
      rw [hZr] at ih
      rw [this] at ih
      simp only [Option.map_some, ob_some, ih, List.replicate_succ, List.map_cons]
  refine wT_up p.capacity.length (fun i env hp => ∃ (x5 x7 x8 x9 x10 x11 x12 x13 x14 x15 x16 x19 x20 x21 x22 x23 x24 x25 x26 x27 x28 x29 x30 x31 x32 x33 x34 x35 : D) (sp : Spare), env = [dProb p, .imm .none cm, .int .u8 m, dI index, .loc 0 0, x5, .loc 1 0, x7, x8, x9, x10, x11, x12, x13, x14, x15, x16, dI p.capacity.length, dI i, x19, x20, x21, x22, x23, x24, x25, x26, x27, x28, x29, x30, x31, x32, x33, x34, x35] ∧
    At hp 0 (.cells (dProb p).cellsL) ∧ At hp 1 (.cells [dI index, .imm sp (Lf i)]) ∧ Room 2 hp sp i 1) 0 (by omega) ⟨_, _, _, _, _, _, _, _, _, _, _, _, _, _, _, _, _, _, _, _, _, _, _, _, _, _, _, _, .exact, rfl, by simp [At], by rw [hL0]; simp [At], .inl rfl⟩ ?_
  rintro i env hp hi ⟨x5, x7, x8, x9, x10, x11, x12, x13, x14, x15, x16, x19, x20, x21, x22, x23, x24, x25, x26, x27, x28, x29, x30, x31, x32, x33, x34, x35, sp, rfl, g0, g1, R⟩
  have l1 := g1.lt
  have hne : ∀ n, n < 2 → ∀ k', sp = .tok k' → n ≠ k' := fun n hn k' hk' => by
    rcases R with h | ⟨k2, h1, h2, _⟩
    · rw [h] at hk'; cases hk'
    · rw [h1] at hk'; cases hk'; omega
  by_cases hlt : i < p.capacity.length
  · have R3 : Room 2 (hp ++ [Obj.dead, Obj.dead, Obj.dead, Obj.dead, Obj.dead, Obj.dead, Obj.dead, Obj.dead, Obj.dead, Obj.dead]) sp (Lf i).length 1 := by
      rw [hLl]
      rcases R with h | ⟨k', h1, h2, h3⟩
      · exact .inl h
      · exact .inr ⟨k', h1, h2, h3.app⟩
    obtain ⟨h', e1, e2, e3, e4⟩ := push9 (x := Zr) (id := hp.length + 7) (appOk_rowsG (l := Lf i) (by rw [hLl]; omega) (hLm i)) (by rw [stZ, clZ]; rfl) R3 (by simp)
    rw [hL1] at e1
    rw [hLl] at e2
    have q0 := e4 0 _ g0.app (hne 0 (by omega)) (by omega)
    have q1 := e4 1 _ g1.app (hne 1 (by omega)) (by omega)
    simp [hlt, ↓g0.appE, ↓g1.appE, xv_mkslice, hmk, stZ, clZ, e1, q1.eq, wrap_up hlt (by omega)]
    exact ⟨q0.ne (by omega), _, At.self q1.lt, .inr ⟨_, rfl, by omega, e2.ne (by omega)⟩⟩
  · have : i = p.capacity.length := by omega
    subst this
    obtain ⟨n, hn⟩ : ∃ n, n = p.capacity.length := ⟨_, rfl⟩
    rw [← hn] at g1 R
    obtain ⟨H, hH⟩ : ∃ H, H = hp ++ [Obj.dead, Obj.dead, Obj.dead, Obj.dead, Obj.dead, Obj.dead, Obj.dead, Obj.dead, Obj.dead, Obj.dead, Obj.dead, Obj.dead, Obj.dead] := ⟨_, rfl⟩
    have hHl : H.length = hp.length + 13 := by rw [hH]; simp
    have k0 : At H 0 (.cells (dProb p).cellsL) := by rw [hH]; exact g0.app
    have k1 : At H 1 (.cells [dI index, .imm sp (Lf n)]) := by rw [hH]; exact g1.app
    have kR : Room 2 H sp n 1 := by
      rcases R with h | ⟨k', h1, h2, h3⟩
      · exact .inl h
      · exact .inr ⟨k', h1, h2, by rw [hH]; exact h3.app⟩
    obtain ⟨H1, a1, a2, a3, a4⟩ := pushL (t := 38) (e := 39) (sz := 2) rfl rfl (hp := H) (sp := .exact) (s2 := .none) (els := []) (new := (c.take k).map dCause) (B := 0) (id := hp.length + 4) (appOk_causes (l := []) (by simp; omega)) fits_causes (.inl rfl) (by omega)
    have b0 := a4 0 _ k0 (fun k hk => by cases hk) (by have := g0.lt; omega)
    have b1 := a4 1 _ k1 (fun k hk => by cases hk) (by omega)
    rw [List.nil_append, List.length_nil, Nat.zero_add] at *
    obtain ⟨Y, hY⟩ : ∃ Y : D, Y = .agg [dI index, .imm sp (Lf n)] := ⟨_, rfl⟩
    obtain ⟨H2, c1, c2, c3, c4'⟩ := pushL (t := 38) (e := 39) (sz := 2) rfl rfl (hp := H1) (sp := .tok (hp.length + 4)) (s2 := .exact) (els := (c.take k).map dCause) (new := [Y]) (B := 0) (id := hp.length + 7) (appOk_causes (by simp; omega)) (by rw [hY]; rfl) (.inr ⟨_, rfl, by omega, by rw [List.length_map] at *; exact a2⟩) (by omega)
    have b0' := c4' 0 _ b0 (fun k hk => by injection hk with hk; omega) (by omega)
    obtain ⟨T, hT⟩ : ∃ T, T = (c.take k).map dCause := ⟨_, rfl⟩
    obtain ⟨W, hWd⟩ : ∃ W, W = (c.drop k).map dCause := ⟨_, rfl⟩
    have hTl : T.length ≤ 4 := by rw [hT]; simp; omega
    obtain ⟨H3, d1, d2, d3, d4⟩ := pushL (t := 38) (e := 39) (sz := 2) rfl rfl (hp := H2) (sp := .tok (hp.length + 7)) (s2 := .none) (els := (c.take k).map dCause ++ [Y]) (new := (c.drop k).map dCause) (B := 0) (id := hp.length + 11) (appOk_causesC (by simp; omega) ⟨_, _, _, hY⟩) fits_causes
      (.inr ⟨_, rfl, by omega, by rw [List.length_append]; exact c2⟩) (by omega)
    have b0'' := d4 0 _ b0' (fun k hk => by injection hk with hk; omega) (by omega)
    rw [← hT] at a1 c1 d1 sl1
    rw [← hWd] at d1 sl2
    obtain ⟨ML, hML⟩ : ∃ ML, ML = T ++ [Y] ++ W := ⟨_, rfl⟩
    rw [← hML] at d1
    have hmf : ∀ hp m, frzL (frz hp (m + 6)) ML = some ((moreC p c k index).map dCause) := fun hp m => by
      have h1 : frzL (frz hp (m + 6)) T = some T := by rw [hT]; exact frzL_cause
      have h2 : frzL (frz hp (m + 6)) W = some W := by rw [hWd]; exact frzL_cause
      have h3 : frz hp (m + 6) Y = some (dCause (zeroC p index)) := by
        rw [hY, frz_agg]
        simp only [frzL_one, frz_int, ob_some, frz_imm, hLz, Option.map_some, frzL_nil]
        rw [hn]; rfl
      rw [hML, frzL_app, frzL_app, h1, h2, frzL_one, h3]
      simp [moreC, hT, hWd, frzL_nil]
    obtain ⟨MC, hMC⟩ : ∃ MC, MC = (moreC p c k index).map dCause := ⟨_, rfl⟩
    rw [← hMC] at hmf h181m h180m
    simp only [dI, hY] at c1 d1
    rw [hH] at a1
    simp only [dProb, dInts] at h181m
    by_cases hidx : 0 ≤ index ∧ index ≤ 1048576
    rotate_left
    · have hck : ckC p (moreC p c k index) = 420 := by
        have : ¬ OkC p (moreC p c k index) := fun h => hidx ((more_okC C c4).1 h)
        simp [ckC, ok, this]
      rw [hck] at h181m
      simp [convD, w, w1, e1, nz, hcl, sl1, sl2, a1, b1.eq, c1, d1, b0''.eq, hmf, h181m]
      by_cases hlo : index < 0
      · simp [hlo]
      · have hhi : 1048576 < index := by omega
        simp [hlo, hhi]
    · have hck : ckC p (moreC p c k index) = 0 := by
        have : OkC p (moreC p c k index) := (more_okC C c4).2 hidx
        simp [ckC, ok, this]
      rw [hck] at h181m
      unfold resSh at h180m
      rw [if_pos hck, show sharesL p (moreC p c k index) = _ from hshr] at h180m
      obtain ⟨sh, hsh⟩ : ∃ sh, sh = sharesL p c := ⟨_, rfl⟩
      rw [← hsh] at h180 h180m hsl hso
      obtain ⟨g, hg⟩ : ∃ g : Share → Share, g = fun s => if (k : Int) ≤ s.cause then incS s else s := ⟨_, rfl⟩
      rw [← hg] at h180m
      have hcf' : frzL (frz [] 11) cm = some cm := hcf [] 7
      simp only [dProb, dInts] at h180 h180m
      simp [convD, w, w1, e1, nz, hcl, sl1, sl2, a1, b1.eq, c1, d1, b0''.eq, hmf, h181m, h180, h180m, hcf']
      refine wT_up sh.length (fun j env hq => ∃ (x2 x3 x5 x6 x8 x10 x12 x13 x14 x15 x16 x17 x18 x19 x20 x21 x22 x23 x24 x25 x26 x27 x28 x32 x33 x34 x35 : D) , env = [dProb p, .imm .none cm, x2, x3, .loc 0 0, x5, x6, dI k, x8, .imm .none (sh.map dShare), x10, .imm .none ((sh.map g).map dShare), x12, x13, x14, x15, x16, x17, x18, x19, x20, x21, x22, x23, x24, x25, x26, x27, x28, .imm .none (sh.map dShare), dI sh.length, dI j, x32, x33, x34, x35]) 0 (by omega) (by
        simp only [List.map_map]
        repeat apply Exists.intro
        and_intros <;> rfl) ?_
      rintro j env hq hj ⟨x2, x3, x5, x6, x8, x10, x12, x13, x14, x15, x16, x17, x18, x19, x20, x21, x22, x23, x24, x25, x26, x27, x28, x32, x33, x34, x35, rfl⟩
      by_cases hjl : j < sh.length
      · have hs := hso _ (List.getElem_mem hjl)
        have w3 := wrap_i64 (n := sh[j].cause + 1) ⟨by omega, by omega⟩
        have gj : g sh[j] = if (k : Int) ≤ sh[j].cause then incS sh[j] else sh[j] := by rw [hg]
        by_cases k1 : (k : Int) ≤ sh[j].cause
        · rw [if_pos k1] at gj
          simp [hjl, k1, w3, gj, incS, wrap_up hjl (by omega)]
        · rw [if_neg k1] at gj
          simp [hjl, k1, gj, wrap_up hjl (by omega)]
      · have : j = sh.length := by omega
        subst this
        simp

def useE (n : Int) : Use := ⟨⟨false, 0, n⟩, 1⟩
def varE : Var := ⟨0, 0, [0], [⟨0, 0, 0, [useE 5]⟩, ⟨10, 10, 0, [useE 6]⟩]⟩
def pE : Prob := ⟨[⟨false, 0, 5⟩, ⟨false, 0, 6⟩], [[1, 2]], [varE, varE]⟩
def cE : List Cause := [⟨7, [[1, 0]]⟩]
def xE : Prob := ⟨[⟨false, 0, 5⟩, ⟨false, 0, 6⟩], [[2, 2]], [varE, varE]⟩

theorem up {k : Nat} {a : List D} {r : D} {n : Nat} (h : runP E (dC E n) k a = some r) : runP E (dL E) k a = some r := runP_mono (fun _ _ _ h => dC_dL _ _ _ h) h

abbrev dCs (c : List Cause) : D := .imm .none (c.map dCause)
abbrev dShs (c : List Share) : D := .imm .none (c.map dShare)

theorem e190 : runP E (dL E) 190 [] = some (.tup [dProb pE, dCs cE]) := up (n := 100) (by kernel_rfl)
theorem e184a : runP E (dL E) 184 [dProb pE] = some (.tup [dInts [0, 10], dI 0]) := up (n := 200) (by kernel_rfl)
theorem e184b : runP E (dL E) 184 [dProb xE] = some (.tup [dInts [0, 0], dI 0]) := up (n := 200) (by kernel_rfl)
theorem e184c : runP E (dL E) 184 [dProb ⟨[], [[]], []⟩] = some (.tup [dInts [], dI 0]) := up (n := 200) (by kernel_rfl)
theorem e183a : runP E (dL E) 183 [dProb pE, dCs cE, dI 0] = some (.tup [dProb xE, dI 0]) := up (n := 100) (by kernel_rfl)
theorem e183b : runP E (dL E) 183 [dProb pE, dCs [], dI 0] = some (.tup [dProb pE, dI 0]) := up (n := 100) (by kernel_rfl)
theorem e183c : runP E (dL E) 183 [dProb pE, dCs cE, dI (-1)] = some (.tup [dProb ⟨[], [], []⟩, dI 1]) := up (n := 100) (by kernel_rfl)
theorem e180c : runP E (dL E) 180 [dProb ⟨[], [], []⟩, dCs []] = some (.tup [dShs [], dI 270]) := up (n := 100) (by kernel_rfl)
theorem e181a : runP E (dL E) 181 [dProb pE, dCs []] = some (dI 0) := up (n := 100) (by kernel_rfl)
theorem e181b : runP E (dL E) 181 [dProb pE, dCs [⟨0, [[1]]⟩]] = some (dI 420) := up (n := 100) (by kernel_rfl)
theorem e181c : runP E (dL E) 181 [dProb pE, dCs cE] = some (dI 0) := up (n := 100) (by kernel_rfl)
theorem smallE : Small pE := ⟨by decide, by decide, by decide, by decide, by decide, by decide, by decide⟩
theorem smCE : SmC cE := ⟨by decide, by decide, by decide⟩
theorem smC0 : SmC [] := ⟨by decide, by decide, by decide⟩
theorem withE : withP pE cE 0 = xE := rfl
theorem dI_inj {a b : Int} (h : some (dI a) = some (dI b)) : a = b := by injection h with h; injection h
theorem ints_inj {a b : List Int} {x y : D} (h : some (D.tup [dInts a, x]) = some (D.tup [dInts b, y])) : a = b := by
  injection h with h; injection h with h; injection h with h _; injection h with _ h
  exact List.map_inj_right (fun _ _ h => by injection h) |>.1 h
theorem dly_of {p : Prob} {l : List Int} (S : Small p) (h : runP E (dL E) 184 [dProb p] = some (.tup [dInts l, dI 0])) (h0 : OkP p) : dlyL p = l := by
  rw [r184 p S] at h
  unfold resDly at h
  rw [if_pos (by simp [ck, h0])] at h
  exact ints_inj h
theorem e180a : runP E (dL E) 180 [dProb pE, dCs cE] = some (.tup [dShs [⟨0, 1, 10⟩], dI 0]) := by
  have h0 : ckC pE cE = 0 := dI_inj ((r181 pE cE smallE smCE).symm.trans e181c)
  obtain ⟨ok, C⟩ := ckC_ok h0
  have d0 := dly_of (by rw [← withE]; exact withP_small ok C smallE) e184b (by rw [← withE]; exact withP_ok ok C)
  have d1 := dly_of smallE e184a ok
  have w1 : withP pE cE 1 = pE := withP_all (by decide)
  rw [r180 pE cE smallE smCE, resSh, if_pos h0]
  have : sharesL pE cE = [⟨0, 1, 10⟩] := by
    have hs : stages pE cE = [[0, 0], [0, 10]] := by
      unfold stages
      rw [show cE.length + 1 = 2 from rfl]
      simp only [List.range_succ, List.range_zero, List.nil_append, List.cons_append, List.map_cons, List.map_nil, withE, w1, d0, d1]
    unfold sharesL
    rw [hs]; rfl
  rw [this]
theorem e180b : runP E (dL E) 180 [dProb pE, dCs []] = some (.tup [dShs [⟨-1, 1, 10⟩], dI 0]) := by
  have h0 : ckC pE [] = 0 := dI_inj ((r181 pE [] smallE smC0).symm.trans e181a)
  obtain ⟨ok, C⟩ := ckC_ok h0
  have d1 := dly_of smallE e184a ok
  have w1 : withP pE [] 0 = pE := withP_all (by decide)
  rw [r180 pE [] smallE smC0, resSh, if_pos h0]
  have : sharesL pE [] = [⟨-1, 1, 10⟩] := by
    have hs : stages pE [] = [[0, 10]] := by
      unfold stages
      rw [show ([] : List Cause).length + 1 = 1 from rfl]
      simp only [List.range_succ, List.range_zero, List.nil_append, List.map_cons, List.map_nil, w1, d1]
    unfold sharesL
    rw [hs]; rfl
  rw [this]
theorem e20a : runP E (dL E) 20 [dInts [0, 10], dInts [0, 10]] = some (.bool true) := up (n := 100) (by kernel_rfl)
theorem e20b : runP E (dL E) 20 [dInts [0, 0], dInts [0, 0]] = some (.bool true) := up (n := 100) (by kernel_rfl)
theorem e187a : runP E (dL E) 187 [dShs [⟨0, 1, 10⟩], dShs [⟨0, 1, 10⟩]] = some (.bool true) := up (n := 100) (by kernel_rfl)
theorem e187b : runP E (dL E) 187 [dShs [⟨-1, 1, 10⟩], dShs [⟨-1, 1, 10⟩]] = some (.bool true) := up (n := 100) (by kernel_rfl)
theorem e188 : runP E (dL E) 188 [dProb pE, dProb pE] = some (.bool true) := q188 pE smallE

set_option maxHeartbeats 16000000 in
theorem sane178' : runP E (dL E) 178 [] = some (.bool true) := by
  refine runP_T c178 (by simp) ?_
  have h1 := e190
  have h2 := e184a
  have h3 := e184b
  have h4 := e184c
  have h5 := e183a
  have h6 := e183b
  have h7 := e183c
  have h8 := e180a
  have h9 := e180b
  have h10 := e180c
  have h11 := e181a
  have h12 := e181b
  have h13 := e20a
  have h14 := e20b
  have h15 := e187a
  have h16 := e187b
  have h17 := e188
  simp only [dProb, dInts, dCause, dShare, dCs, dShs, pE, xE, cE, varE, useE, dVar, dChoice, dUse, dCell, List.map_cons, List.map_nil] at h1 h2 h3 h4 h5 h6 h7 h8 h9 h10 h11 h12 h13 h14 h15 h16 h17
  simp [t178, n178, h1, h2, h3, h4, h5, h6, h7, h8, h9, h10, h11, h12, h13, h14, h15, h16, h17, frzL_one, frzL_nil]

end Dv

/- The law CausesNothing, for typed arguments. -/
namespace Dv

theorem causesNothing : ∀ xs, TypedL E [0, 38, 13, 2] xs → ∃ n, runP E (dC E n) 185 xs = some (.bool true) := by
  intro xs h
  match xs, h with
  | [x, y, z, w], ⟨t1, t2, t3, t4, _⟩ =>
    obtain ⟨p, rfl, _⟩ := ty_prob t1
    obtain ⟨c, rfl, hc⟩ := ty_causes t2
    obtain ⟨m, rfl, hm⟩ := ty_u8 t3 rfl
    obtain ⟨n, h2, _⟩ := ty_int (typed_one t4 rfl) rfl
    simp only [List.cons.injEq, and_true] at h2
    subst h2
    exact runP_ex (law185 sane178' p c hc m hm n)
  | [], h => exact h.elim
  | [_], h => exact h.2.elim
  | [_, _], h => exact h.2.2.elim
  | [_, _, _], h => exact h.2.2.2.elim
  | _ :: _ :: _ :: _ :: _ :: _, h => exact h.2.2.2.2.elim

end Dv
