/- Texts that a proof of this claim uses, joined: Lw.W123, Lw.W124, Lw.W120, Lw.W121, Lw.W122, Lw.W108, Lw.W125, Lw.S42, Lw.W130. -/
import Derived.Test.YtpekfakljjogjaaGb
import Derived.Test.YtpekfakljjogjaaGa
import Derived.KernelRfl
set_option linter.all false
namespace Dv
attribute [local simp] wT_skip wK wT_ret wT_exit wR wRp wT_seq wC wT_block rTS_nil rTS_asg rTS_eff rTS_effk rTS_effg gdV_b binD_and binD_or binD_xor stepOp_call3 closed_bool closed_int closed_tup flatB_bool flatB_int frzX_tup frzX_exact frz1_exact frz1_none frz1_int ob_some obP_some iteD_b condP_b xv_v xv_c xv_ite xv_bin_tt xv_bin_tc xv_bin_ct xv_bin_cc xv_un_t xv_conv_t xv_load xv_len xv_faddr xv_field xv_iaddr_tt xv_iaddr_tc xv_index_tt xv_index_tc xv_lookup_tt xv_max_tt xv_max_tc xv_max_ct xv_min_tt xv_min_tc xv_min_ct xv_slice_lo_t xv_slice_lo_c xv_slice_hi_t xv_slice_all xv_call xv_bslice bsliceV xv_build buildV xv_mkfn zeroE fillE buildD fillD List.replicate xvs_nil xvs_cons callV_fn frz_bool frz_int frz_imm frz_agg frz_tup frz_fn frz_iptr frzL_nil frzL_one frzL_dI frzL_cell frzL_use frzL_ints frzL_choice frzL_var depth dCell dUse dInts dChoice dVar dProb tStart addO Ret flat_dI flat_rep chunk_dI
 binD_add binD_sub binD_mul binD_eql binD_neq binD_lss binD_leq binD_gtr binD_geq binD_quo binD_rem binD_beql binD_bneq binD_aeql binD_aneq unD_not unD_neg lenD_imm lenD_sl lenD_str readO_cells readO_frozen loadD_loc loadD_iptr iaddrD_imm iaddrD_sl iaddrD_loc faddrD_loc faddrD_iptr fieldD_agg indexD_agg indexD_str cellsL_bool stor_bool atom_bool cellsL_int stor_int atom_int cellsL_str stor_str atom_str cellsL_imm stor_imm atom_imm cellsL_sl stor_sl atom_sl cellsL_loc stor_loc atom_loc cellsL_iptr stor_iptr atom_iptr cellsL_map stor_map atom_map cellsL_fn stor_fn atom_fn cellsL_agg stor_agg cellsL_nilfn stor_nilfn atom_nilfn cellsL_nilp stor_nilp atom_nilp takeC_z takeC_s ofCells_ag ofCells_one ag_bool ag_int ag_str ag_slice ag_struct ag_arr ag_map ag_ptr ag_func gOf_t gOf_c gOf_f kv_cons putE_some putE_none oneRes_one oneRes_two oneRes_three getAll_nil getAll_v getAll_c maxiD_two miniD_two extV_tup xv_ext stepOp_box stepOp_alloc stepOp_store writeO_cells storeD_loc setCells_nil setCells_cons stepOp_mkmap stepOp_mapset stepOp_call1 stepOp_call2 stepOp_app2 stepOp_app1 stepOp_bslice stepOp_mkslice mapO_map lookupD_some lookupD_ok mapsetD_some keyOk_agg kindsL_nil kindsL_bool kindsL_int eqL_nil eqL_cons atomEq_bool atomEq_int frz_sl tokO_tok app0_step app0_exact app0_tok frz_loc oneRes_nil listOf_imm
  ty_0 ty_1 ty_2 ty_3 ty_4 ty_6 ty_7 ty_9 ty_10 ty_11 ty_13 ty_14 ty_15 ty_16 ty_17 ty_18 ty_19 ty_20 ty_21 ty_22 ty_26 ty_28 ty_29 ty_31 ty_32 ty_33 ty_35 ty_36 ty_37 ty_38 ty_39 ty_40
attribute [local congr] wT_congr ob_congr obP_congr iteD_congr condP_congr gdV_congr


theorem shares_len {p : Prob} {c : List Cause} (ok : OkP p) (C : OkC p c) (S : Small p) : (sharesL p c).length ≤ 9000 := by
  have := shr_len (m := p.vars.length) (l := stages p c) (k := 0) (b := List.replicate p.vars.length 0) (fun x hx => by
    obtain ⟨j, _, rfl⟩ := List.mem_map.1 hx
    rw [dlyL_len (withP_small ok C S) (withP_ok ok C)]; exact Nat.le_refl _)
  have c8 := C.len
  have s3 := S.vars
  have hl : (stages p c).length = c.length + 1 := by simp [stages]
  rw [hl] at this
  have h2 : (c.length + 1) * p.vars.length ≤ 9 * 1000 := Nat.mul_le_mul (by omega) (by omega)
  unfold sharesL; omega

theorem ty_cause {x : D} (h : Typed E 39 x) : ∃ c, x = dCause c ∧ True := by
  obtain ⟨ds, rfl, h1⟩ := typed_agg h rfl
  obtain ⟨hl, hf⟩ := ty_struct h1 (fs := [(0, 2), (1, 9)]) rfl
  have hl2 : ds.length = 2 := hl
  match ds, hl2 with
  | [x, y], _ =>
    obtain ⟨n, h2, _⟩ := ty_int (hf 0 _ rfl) rfl
    obtain ⟨els, h3, _, h4⟩ := ty_slice (hf 1 _ rfl) (e := 6) rfl
    simp [E, tyTab] at h2 h3
    subst h2 h3
    obtain ⟨l, rfl, _⟩ := list_of (f := dInts) (R := fun _ => True) (els := els) fun x hx => by
      obtain ⟨l, h5, _⟩ := ty_ints (typed_one (h4 x hx) rfl) rfl
      simp at h5; exact ⟨l, h5, trivial⟩
    exact ⟨⟨n, l⟩, rfl, trivial⟩
theorem ty_causes {x : D} (h : Typed E 38 x) : ∃ c : List Cause, x = .imm .none (c.map dCause) ∧ c.length ≤ 9223372036854775807 := by
  obtain ⟨els, h3, hl, he⟩ := ty_slice (e := 39) (typed_one h rfl) rfl
  simp only [List.cons.injEq, and_true] at h3
  obtain ⟨c, h4, _⟩ := list_of (f := dCause) (R := fun _ => True) (els := els) fun y hy => ty_cause (he y hy)
  subst h4
  have : Go.maxLen ≤ 9223372036854775807 := by decide
  exact ⟨c, h3, by simp at hl; omega⟩

set_option maxHeartbeats 8000000 in
theorem q196 (v : Var) (h1 : v.leaves.length ≤ 1000) (h2 : v.choices.length ≤ 1000) (h3 : ∀ c, c ∈ v.choices → c.uses.length ≤ 1000) : runP E (dL E) 196 [dVar v, dVar v] = some (.bool true) := by
  refine runP_T c196 (by simp) ?_
  have h20 := r20 v.leaves v.leaves (by omega)
  simp only [dInts, decide_true] at h20
  simp [t196, n196, h20]
  refine wT_up v.choices.length (fun i env hp => ∃ (x6 x7 x8 x9 x10 x11 x12 x13 x14 x15 : D) , env = [dVar v, dVar v, .loc 0 0, .loc 1 0, .bool false, dI i, x6, x7, x8, x9, x10, x11, x12, x13, x14, x15] ∧ At hp 0 (.cells (dVar v).cellsL) ∧ At hp 1 (.cells (dVar v).cellsL)) 0 (by omega) ⟨_, _, _, _, _, _, _, _, _, _, rfl, by simp [At], by simp [At]⟩ ?_
  rintro i env hp hi ⟨x6, x7, x8, x9, x10, x11, x12, x13, x14, x15, rfl, g0, g1⟩
  by_cases hlt : i < v.choices.length
  · obtain ⟨c, hc⟩ : ∃ c, c = v.choices[i] := ⟨_, rfl⟩
    have hu := h3 c (by rw [hc]; exact List.getElem_mem hlt)
    simp [hlt, ← hc, g0.eq, g1.eq, ↓g0.appE, ↓g1.appE]
    obtain ⟨A, hA⟩ : ∃ A, A = hp.length := ⟨_, rfl⟩
    have l0 := g0.lt
    have l1 := g1.lt
    refine wT_up c.uses.length (fun k env hq => ∃ (x9 x10 x11 x12 x13 x14 x15 : D) (y6 y7 : D), env = [dVar v, dVar v, .loc 0 0, .loc 1 0, .bool false, dI i, y6, y7, dI k, x9, x10, x11, x12, x13, x14, x15] ∧ y6 = .loc A 0 ∧ y7 = .loc (A + 1) 0 ∧ At hq 0 (.cells (dVar v).cellsL) ∧ At hq 1 (.cells (dVar v).cellsL) ∧ At hq A (.cells (dChoice c).cellsL) ∧ At hq (A + 1) (.cells (dChoice c).cellsL)) 0 (by omega)
      ⟨_, _, _, _, _, _, _, _, _, rfl, by rw [hA], by rw [hA], g0.app, g1.app, by rw [hA]; simp [At], by rw [hA]; simp [At]⟩ ?_
    rintro k env hq hk ⟨x9, x10, x11, x12, x13, x14, x15, y6, y7, rfl, rfl, rfl, k0, k1, k2, k3⟩
    have lk := k3.lt
    by_cases hkl : k < c.uses.length
    · simp [hkl, k2.eq, k3.eq, ↓k0.appE, ↓k1.appE, ↓k2.appE, ↓k3.appE, wrap_up hkl (by omega)]
      repeat apply Exists.intro
      exact ⟨by and_intros <;> rfl, rfl, rfl, k0.app, k1.app, k2.app, k3.app⟩
    · have : k = c.uses.length := by omega
      subst this
      simp [hkl, k2.eq, wrap_up hlt (by omega)]
      exact ⟨k0, k1⟩
  · have : i = v.choices.length := by omega
    subst this
    simp [hlt, g0.eq, g1.eq]

set_option maxHeartbeats 8000000 in
theorem q188 (p : Prob) (S : Small p) : runP E (dL E) 188 [dProb p, dProb p] = some (.bool true) := by
  refine runP_T c188 (by simp) ?_
  have s1 := S.cells
  have s2 := S.cap
  have s3 := S.vars
  simp [t188, n188]
  refine wT_up p.cells.length (fun i env hp => ∃ (x6 x7 x8 x9 x10 x11 x12 x13 x14 : D) , env = [dProb p, dProb p, .loc 0 0, .loc 1 0, .bool false, dI i, x6, x7, x8, x9, x10, x11, x12, x13, x14] ∧ At hp 0 (.cells (dProb p).cellsL) ∧ At hp 1 (.cells (dProb p).cellsL)) 0 (by omega) ⟨_, _, _, _, _, _, _, _, _, rfl, by simp [At], by simp [At]⟩ ?_
  rintro i env hp hi ⟨x6, x7, x8, x9, x10, x11, x12, x13, x14, rfl, g0, g1⟩
  by_cases hlt : i < p.cells.length
  · simp [hlt, g0.eq, g1.eq, ↓g0.appE, ↓g1.appE, wrap_up hlt (by omega)]
    exact ⟨g0.app, g1.app⟩
  have : i = p.cells.length := by omega
  subst this
  simp [hlt, g0.eq, g1.eq]
  refine wT_up p.capacity.length (fun i env hp => ∃ (x5 x7 x8 x9 x10 x11 x12 x13 x14 : D) , env = [dProb p, dProb p, .loc 0 0, .loc 1 0, .bool false, x5, dI i, x7, x8, x9, x10, x11, x12, x13, x14] ∧ At hp 0 (.cells (dProb p).cellsL) ∧ At hp 1 (.cells (dProb p).cellsL)) 0 (by omega) ⟨_, _, _, _, _, _, _, _, _, rfl, g0, g1⟩ ?_
  clear g0 g1 hlt hp
  rintro i env hp hi ⟨x5, x7, x8, x9, x10, x11, x12, x13, x14, rfl, g0, g1⟩
  by_cases hlt : i < p.capacity.length
  · have h20 := r20 p.capacity[i] p.capacity[i] (by have := S.rows _ (List.getElem_mem hlt); omega)
    simp only [dInts, decide_true] at h20
    simp [hlt, g0.eq, g1.eq, ↓g0.appE, ↓g1.appE, h20, wrap_up hlt (by omega)]
    exact ⟨g0.app, g1.app⟩
  have : i = p.capacity.length := by omega
  subst this
  simp [hlt, g0.eq, g1.eq]
  refine wT_up p.vars.length (fun i env hp => ∃ (x5 x6 x8 x9 x10 x11 x12 x13 x14 : D) , env = [dProb p, dProb p, .loc 0 0, .loc 1 0, .bool false, x5, x6, dI i, x8, x9, x10, x11, x12, x13, x14] ∧ At hp 0 (.cells (dProb p).cellsL) ∧ At hp 1 (.cells (dProb p).cellsL)) 0 (by omega) ⟨_, _, _, _, _, _, _, _, _, rfl, g0, g1⟩ ?_
  clear g0 g1 hlt hp
  rintro i env hp hi ⟨x5, x6, x8, x9, x10, x11, x12, x13, x14, rfl, g0, g1⟩
  by_cases hlt : i < p.vars.length
  · have a1 := S.leaves _ (List.getElem_mem hlt)
    have a2 := S.choices _ (List.getElem_mem hlt)
    have h := q196 p.vars[i] (by omega) (by omega) (fun c hc => by have := S.uses _ (List.getElem_mem hlt) c hc; omega)
    simp only [dVar, dInts] at h
    simp [hlt, g0.eq, g1.eq, ↓g0.appE, ↓g1.appE, h, wrap_up hlt (by omega)]
    exact ⟨g0.app, g1.app⟩
  have : i = p.vars.length := by omega
  subst this
  simp [hlt, g0.eq, g1.eq]

/-! what leads nowhere -/
section
variable {hp : List Obj}
def NoId (hp : List Obj) (d : D) : Prop := ∀ n, ids hp n d = []
theorem noId_int {k : Go.IntKind} {n : Int} : NoId hp (.int k n) := fun m => by cases m <;> rfl
theorem noId_bool {b : Bool} : NoId hp (.bool b) := fun m => by cases m <;> rfl
theorem noIds {l : List D} (h : ∀ d, d ∈ l → NoId hp d) (n : Nat) : l.flatMap (ids hp n) = [] := List.flatMap_eq_nil_iff.2 fun d hd => h d hd n
theorem noId_imm {sp : Spare} {l : List D} (h : ∀ d, d ∈ l → NoId hp d) : NoId hp (.imm sp l) := fun m => by
  cases m with
  | zero => rfl
  | succ m => exact noIds h m
theorem noId_agg {l : List D} (h : ∀ d, d ∈ l → NoId hp d) : NoId hp (.agg l) := fun m => by
  cases m with
  | zero => rfl
  | succ m => exact noIds h m
theorem noId_map {A : Type} {f : A → D} {l : List A} (h : ∀ a, NoId hp (f a)) : ∀ d, d ∈ l.map f → NoId hp d := fun d hd => by
  obtain ⟨a, _, rfl⟩ := List.mem_map.1 hd; exact h a
theorem noId_ints {l : List Int} : NoId hp (dInts l) := noId_imm (noId_map fun _ => noId_int)
theorem noId_cell {c : Cell} : NoId hp (dCell c) := noId_agg (by simp [noId_bool, noId_int])
theorem noId_use {u : Use} : NoId hp (dUse u) := noId_agg (by simp [noId_bool, noId_int])
theorem noId_choice {c : Choice} : NoId hp (dChoice c) := noId_agg (by
  simp only [List.mem_cons, List.not_mem_nil, or_false]
  rintro d (rfl | rfl | rfl | rfl)
  · exact noId_int
  · exact noId_int
  · exact noId_int
  · exact noId_imm (noId_map fun _ => noId_use))
end

theorem ids_sl {hp : List Obj} {n id off len sz : Nat} {ag gr : Bool} {cs : List D} (h : rowOf hp id = some cs) : ids hp (n + 1) (.sl id off len sz ag gr) = id :: ((cs.drop off).take (len * sz)).flatMap (ids hp n) := by
  simp only [ids, h]

def ccells (a : Cause) : List D := [dI a.index, .imm .none (a.less.map dInts)]
theorem flat_causes : ∀ {l : List Cause}, flat (l.map dCause) = l.flatMap ccells
  | [] => rfl
  | v :: l => by
    have := flat_causes (l := l)
    simp only [flat] at this
    simp only [List.map_cons, flat, List.flatMap_cons, this]
    rfl
theorem ccells_len : ∀ {l : List Cause}, (l.flatMap ccells).length = l.length * 2
  | [] => rfl
  | v :: l => by rw [List.flatMap_cons, List.length_append, ccells_len, List.length_cons]; simp [ccells]; omega
theorem ccells_set : ∀ {l : List Cause} {i : Nat} {n : Int} (h : i < l.length), (l.flatMap ccells).set (i * 2) (dI n) = (l.set i { l[i] with index := n }).flatMap ccells
  | v :: l, 0, cs, _ => by simp [ccells]
  | v :: l, i + 1, cs, h => by
    have h' : i < l.length := by simpa using h
    have := ccells_set (l := l) (i := i) (n := cs) h'
    rw [List.flatMap_cons, List.set_append_right _ _ (by simp [ccells]; omega)]
    rw [show (i + 1) * 2 - (ccells v).length = i * 2 from by simp [ccells]; omega, this]
    simp
theorem take_ccells {v : Cause} {r : List D} : takeC (ccells v ++ r) 0 2 = some (ccells v) := by simp [ccells, takeC]
theorem chunk_causes : ∀ {l : List Cause}, chunk 2 true l.length (l.flatMap ccells) = some (l.map dCause)
  | [] => rfl
  | v :: l => by
    rw [List.flatMap_cons, List.length_cons, chunk, take_ccells]
    have : ((ccells v ++ l.flatMap ccells).drop 2) = l.flatMap ccells := by simp [ccells]
    simp only [this, chunk_causes]
    rfl
theorem fits_causes {l : List Cause} : ((l.map dCause).all fun d => d.storable && d.cellsL.length == 2) = true := by
  rw [List.all_eq_true]
  intro x hx
  obtain ⟨r, _, rfl⟩ := List.mem_map.1 hx
  rfl
theorem app1_causes {hp : List Obj} {id : Nat} {l : List Cause} (h1 : 1 ≤ l.length) (h2 : l.length ≤ 1000) :
    appendM E hp id 38 38 (.imm .exact []) (.imm .none (l.map dCause)) = some ⟨.sl id 0 l.length 2 true true, some (.cells (l.flatMap ccells)), none⟩ := by
  have h3 : ¬ l.length = 0 := by omega
  have h4 : ¬ l = [] := fun e => h3 (by rw [e]; rfl)
  simp [appendM, listOf, fits_causes, h4, fitsE, flat_nil, flat_causes, maxBytes]
  omega

section
variable {hp : List Obj}
theorem noId_ccells {v : Cause} : ∀ d, d ∈ ccells v → NoId hp d := by
  simp only [ccells, List.mem_cons, List.not_mem_nil, or_false]
  rintro d (rfl | rfl)
  · exact noId_int
  · exact noId_imm (noId_map fun _ => noId_ints)
theorem noId_crow {l : List Cause} : ∀ d, d ∈ l.flatMap ccells → NoId hp d := fun d hd => by
  obtain ⟨v, _, h⟩ := List.mem_flatMap.1 hd; exact noId_ccells d h
end

def numC (n : Int) (a : Cause) : Cause := { a with index := n }
theorem withP_num {p : Prob} {c : List Cause} {n : Int} {k : Nat} : withP p (c.map (numC n)) k = withP p c k := by
  unfold withP
  congr 1
  refine List.map_congr_left fun i _ => ?_
  unfold capW
  congr 1
  rw [← List.map_drop, List.map_map]
  rfl
theorem shares_num {p : Prob} {c : List Cause} {n : Int} : sharesL p (c.map (numC n)) = sharesL p c := by
  unfold sharesL stages
  simp only [withP_num, List.length_map]
theorem smC_num {c : List Cause} {n : Int} (M : SmC c) : SmC (c.map (numC n)) := ⟨by simpa using M.len, fun a ha => by
  obtain ⟨b, hb, rfl⟩ := List.mem_map.1 ha
  exact M.less b hb, fun a ha => by
  obtain ⟨b, hb, rfl⟩ := List.mem_map.1 ha
  exact M.rows b hb⟩
theorem okC_num {p : Prob} {c : List Cause} {n : Int} (C : OkC p c) (h : 0 ≤ n ∧ n ≤ 1048576) : OkC p (c.map (numC n)) := ⟨by simpa using C.len, fun a ha => by
  obtain ⟨b, hb, rfl⟩ := List.mem_map.1 ha
  exact h, fun a ha => by
  obtain ⟨b, hb, rfl⟩ := List.mem_map.1 ha
  exact C.rows b hb, fun a ha => by
  obtain ⟨b, hb, rfl⟩ := List.mem_map.1 ha
  exact C.wid b hb⟩

theorem noId_var2 {hp : List Obj} {v : Var} : NoId hp (dVar v) := noId_agg (by
  simp only [List.mem_cons, List.not_mem_nil, or_false]
  rintro d (rfl | rfl | rfl | rfl)
  · exact noId_int
  · exact noId_int
  · exact noId_ints
  · exact noId_imm (noId_map fun _ => noId_choice))
theorem noId_prob {hp : List Obj} {p : Prob} : NoId hp (dProb p) := noId_agg (by
  simp only [List.mem_cons, List.not_mem_nil, or_false]
  rintro d (rfl | rfl | rfl)
  · exact noId_imm (noId_map fun _ => noId_cell)
  · exact noId_imm (noId_map fun _ => noId_ints)
  · exact noId_imm (noId_map fun _ => noId_var2))

set_option maxHeartbeats 16000000 in
theorem law186 (h1 : runP E (dL E) 178 [] = some (.bool true)) (p : Prob) (c : List Cause) (hc : c.length ≤ 9223372036854775807) (n : Nat) (hn : n ≤ 255) :
    runP E (dL E) 186 [dProb p, .imm .none (c.map dCause), .int .u8 n] = some (.bool true) := by
  refine runP_T c186 (by simp) ?_
  have h179 := r179 p c hc
  simp only [dProb, dInts, dCause] at h179
  cases hf : fewCB p c with
  | false => simp [t186, n186, h1, h179, hf, frzL_cause]
  | true =>
  obtain ⟨S, M, c4⟩ := fewC_sm hf
  have h180 := r180 p c S M
  have h181 := r181 p c S M
  simp only [dProb, dInts, dCause] at h181
  unfold resSh at h180
  by_cases h0 : ckC p c = 0
  rotate_left
  · simp [t186, n186, h1, h179, hf, h181, h0, frzL_cause]
  rw [if_pos h0] at h180
  obtain ⟨ok, C⟩ := ckC_ok h0
  obtain ⟨c', hc'⟩ : ∃ c', c' = c.map (numC n) := ⟨_, rfl⟩
  have M' : SmC c' := by rw [hc']; exact smC_num M
  have C' : OkC p c' := by rw [hc']; exact okC_num C (by omega)
  have h0' : ckC p c' = 0 := by simp [ckC, ok, C']
  have h180' := r180 p c' S M'
  unfold resSh at h180'
  rw [if_pos h0', show sharesL p c' = sharesL p c from by rw [hc', shares_num]] at h180'
  have hsl := shares_len ok C S
  have w1 := wrap_i64 (n := (n : Int)) ⟨by omega, by omega⟩
  have w := wrap_i64 (n := (c.length : Int) + 1) ⟨by omega, by omega⟩
  have h187 := r187 (sharesL p c) (sharesL p c) (by omega)
  rw [show decide (sharesL p c = sharesL p c) = true from by simp] at h187
  obtain ⟨sh, hsh⟩ : ∃ sh, sh = sharesL p c := ⟨_, rfl⟩
  rw [← hsh] at h180 h180' h187
  have h188 := q188 p S
  simp only [dProb, dInts, dCause] at h180 h180' h188
  obtain ⟨cm, hcm⟩ : ∃ cm, cm = c.map dCause := ⟨_, rfl⟩
  obtain ⟨cm', hcm'⟩ : ∃ cm', cm' = c'.map dCause := ⟨_, rfl⟩
  have hcl : cm.length = c.length := by rw [hcm, List.length_map]
  have hcf : ∀ hp n, frzL (frz hp (n + 4)) cm = some cm := fun hp n => by rw [hcm]; exact frzL_cause
  have hi0 : ∀ hp, ids hp 12 (D.agg [D.imm Spare.none (List.map dCell p.cells), D.imm Spare.none (List.map dInts p.capacity), D.imm Spare.none (List.map dVar p.vars)]) = [] := fun hp => noId_prob (hp := hp) (p := p) 12
  have hfs : ∀ hp n, frzL (frz hp (n + 4)) (sh.map dShare) = some (sh.map dShare) := fun hp n => frzL_share
  have hW : ∀ k : Nat, k ≤ c.length → runP E (dL E) 183 [dProb p, .imm .none cm, dI k] = some (.tup [dProb (withP p c k), dI 0]) := fun k hk => by
    rw [hcm, r183 p c k S M, resWith, if_pos h0, if_pos ⟨by omega, by omega⟩, Int.toNat_natCast]
  have hK : ∀ k : Nat, runP E (dL E) 15 [dProb (withP p c k)] = some (dI 0) := fun k => by
    rw [r15 _ (withP_small ok C S)]; simp [ck, withP_ok ok C]
  rw [← hcm] at h179 h180 h181 ⊢
  rw [← hcm'] at h180'
  by_cases hc0 : c = []
  · have e1 : cm = [] := by rw [hcm, hc0]; rfl
    have e2 : cm' = [] := by rw [hcm', hc', hc0]; rfl
    have ap : ∀ hp id, appendM E hp id 38 38 (.imm .exact []) (.imm .none cm) = some ⟨.imm .exact [], none, none⟩ := fun hp id => by rw [e1]; simp [appendM]
    simp [t186, n186, h1, h179, hf, h181, h180, h0, hcf, ap, applyEf]
    refine wT_up 0 (fun i env hp => ∃ (x4 x6 x7 x8 x9 x10 x11 x12 x13 x14 x15 x16 x19 x20 x21 x22 x23 x24 x25 x26 x27 : D) , env = [dProb p, .imm .none cm, .int .u8 n, .loc 0 0, x4, .imm .exact [], x6, x7, x8, x9, x10, x11, x12, x13, x14, x15, x16, dI 0, dI i, x19, x20, x21, x22, x23, x24, x25, x26, x27] ∧ At hp 0 (.cells (dProb p).cellsL)) 0 (by omega) ⟨_, _, _, _, _, _, _, _, _, _, _, _, _, _, _, _, _, _, _, _, _, rfl, by simp [At]⟩ ?_
    rintro i env hp hi ⟨x4, x6, x7, x8, x9, x10, x11, x12, x13, x14, x15, x16, x19, x20, x21, x22, x23, x24, x25, x26, x27, rfl, g0⟩
    have : i = 0 := by omega
    subst this
    rw [e2] at h180'
    have hi1 : ids hp 12 (D.imm Spare.exact []) = [] := rfl
    simp [g0.eq, h180, hcf, h180', h187, hcl, w, hi0, hi1, hfs, freezeAll]
    refine wT_up (c.length + 1) (fun k env hq => ∃ (x2 x4 x5 x6 x7 x8 x9 x10 x11 x12 x13 x14 x15 x16 x17 x18 x19 x20 x21 x22 x25 x26 x27 : D) , env = [dProb p, .imm .none cm, x2, .loc 0 0, x4, x5, x6, x7, x8, x9, x10, x11, x12, x13, x14, x15, x16, x17, x18, x19, x20, x21, x22, dI (c.length + 1), dI k, x25, x26, x27] ∧ At hq 0 (.cells (dProb p).cellsL)) 0 (by omega) ⟨_, _, _, _, _, _, _, _, _, _, _, _, _, _, _, _, _, _, _, _, _, _, _, rfl, g0⟩ ?_
    rintro k env hq hk ⟨x2, x4, x5, x6, x7, x8, x9, x10, x11, x12, x13, x14, x15, x16, x17, x18, x19, x20, x21, x22, x25, x26, x27, rfl, k0⟩
    by_cases hkl : k ≤ c.length
    · have hw := hW k hkl
      have hk15 := hK k
      have hkw := wrap_i64 (n := (k : Int) + 1) ⟨by omega, by omega⟩
      have hk1 : k < c.length + 1 := by omega
      by_cases hke : k = c.length
      · rw [withP_all (by omega)] at hw hk15
        subst hke
        simp only [dProb, dInts] at hw hk15
        have hk2 : (c.length : Int) < c.length + 1 := by omega
        simp [hk1, hk2, hw, hk15, hcf, hcl, h188, hkw, ↓k0.eq, ↓k0.appE]
        exact k0.app
      · have hke' : ¬ (k : Int) = c.length := by omega
        obtain ⟨X, hX⟩ : ∃ X, X = withP p c k := ⟨_, rfl⟩
        rw [← hX] at hw hk15
        simp only [dProb, dInts] at hw hk15
        have hk2 : (k : Int) < c.length + 1 := by omega
        simp [hk1, hk2, hw, hk15, hcf, hcl, hke, hke', hkw, ↓k0.eq, ↓k0.appE]
        exact k0.app
    · have : k = c.length + 1 := by omega
      subst this
      simp
  have hc1 : 1 ≤ c.length := by
    rcases Nat.eq_zero_or_pos c.length with h | h
    · exact absurd (List.eq_nil_of_length_eq_zero h) hc0
    · exact h
  have ap := fun hp id => app1_causes (hp := hp) (id := id) (l := c) hc1 (by omega)
  simp only [← hcm] at ap
  simp [t186, n186, h1, h179, hf, h181, h180, h0, hcf, ap, applyEf]
  obtain ⟨R, hR⟩ : ∃ R : Nat → List D, R = fun i => ((c.take i).map (numC n) ++ c.drop i).flatMap ccells := ⟨_, rfl⟩
  have hR0 : R 0 = c.flatMap ccells := by rw [hR]; simp
  have hRl : ∀ i, (R i).length = c.length * 2 := fun i => by rw [hR]; simp only []; rw [ccells_len]; simp; omega
  have hR1 : ∀ i, i < c.length → (R i).set (i * 2) (dI n) = R (i + 1) := fun i hi => by
    rw [hR]; simp only []
    rw [ccells_set (by simp; omega)]
    congr 1
    refine List.ext_getElem (by simp; omega) fun j h1 h2 => ?_
    rw [List.getElem_set]
    have hil : ((c.take i).map (numC n)).length = i := by simp; omega
    have hj : j < c.length := by simp at h1; omega
    have g1 : ((c.take i).map (numC n) ++ c.drop i)[i]? = some c[i] := by
      rw [List.getElem?_append_right (by omega), hil, Nat.sub_self, List.getElem?_drop, Nat.add_zero, List.getElem?_eq_getElem hi]
    have g2 : ∀ m, m ≤ c.length → ((c.take m).map (numC n) ++ c.drop m)[j]? = some (if j < m then numC n c[j] else c[j]) := fun m hm => by
      have hml : ((c.take m).map (numC n)).length = m := by simp; omega
      by_cases e : j < m
      · rw [List.getElem?_append_left (by omega), List.getElem?_map, List.getElem?_take, if_pos e, List.getElem?_eq_getElem hj, if_pos e]; rfl
      · rw [List.getElem?_append_right (by omega), hml, List.getElem?_drop, show m + (j - m) = j from by omega, List.getElem?_eq_getElem hj, if_neg e]
    have g3 : ((c.take i).map (numC n) ++ c.drop i)[i]'(by simp; omega) = c[i] := by
      have := g1; rw [List.getElem?_eq_getElem (by simp; omega), Option.some.injEq] at this; exact this
    have g4 := g2 (i + 1) (by omega)
    rw [List.getElem?_eq_getElem h2, Option.some.injEq] at g4
    rw [g4]
    by_cases e : i = j
    · subst e
      rw [if_pos rfl, if_pos (by omega), g3]; rfl
    · have g5 := g2 i (by omega)
      rw [List.getElem?_eq_getElem (by simp; omega), Option.some.injEq] at g5
      rw [if_neg e, g5]
      by_cases e2 : j < i
      · rw [if_pos e2, if_pos (by omega)]
      · rw [if_neg e2, if_neg (by omega)]
  have hRn : R c.length = c'.flatMap ccells := by rw [hR, hc']; simp
  rw [← hR0]
  refine wT_up c.length (fun i env hp => ∃ (x4 x6 x7 x8 x9 x10 x11 x12 x13 x14 x15 x16 x19 x20 x21 x22 x23 x24 x25 x26 x27 : D) , env = [dProb p, .imm .none cm, .int .u8 n, .loc 0 0, x4, .sl 1 0 c.length 2 true true, x6, x7, x8, x9, x10, x11, x12, x13, x14, x15, x16, dI c.length, dI i, x19, x20, x21, x22, x23, x24, x25, x26, x27] ∧ At hp 0 (.cells (dProb p).cellsL) ∧ At hp 1 (.cells (R i))) 0 (by omega) ⟨_, _, _, _, _, _, _, _, _, _, _, _, _, _, _, _, _, _, _, _, _, rfl, by simp [At], by simp [At]⟩ ?_
  rintro i env hp hi ⟨x4, x6, x7, x8, x9, x10, x11, x12, x13, x14, x15, x16, x19, x20, x21, x22, x23, x24, x25, x26, x27, rfl, g0, g1⟩
  by_cases hlt : i < c.length
  · have l1 := g1.lt
    have k1 : i * 2 + 1 ≤ c.length * 2 := by omega
    have hr := hR1 i hlt
    simp only [dI] at hr
    simp [hlt, g1.eq, hRl, w1, convD, k1, hr, wrap_up hlt (by omega)]
    exact ⟨g0.ne (by omega), At.self l1⟩
  · have : i = c.length := by omega
    subst this
    rw [hRn] at g1
    have hch := chunk_causes (l := c')
    rw [show c'.length = c.length from by rw [hc', List.length_map]] at hch
    rw [← hcm'] at hch
    have hi1 : ids hp 12 (.sl 1 0 c.length 2 true true) = [1] := by
      rw [show (12 : Nat) = 11 + 1 from rfl, ids_sl (cs := c'.flatMap ccells) (by simp [rowOf, g1.eq]), List.drop_zero, noIds fun d hd => noId_crow d (List.mem_of_mem_take hd)]
    have hfz : freezeAll hp [1] = hp.set 1 (.frozen (c'.flatMap ccells)) := by simp [freezeAll, freeze1, g1.eq]
    have hcf' : ∀ hp n, frzL (frz hp (n + 4)) cm' = some cm' := fun hp n => by rw [hcm']; exact frzL_cause
    obtain ⟨FR, hFR⟩ : ∃ FR, FR = c'.flatMap ccells := ⟨_, rfl⟩
    rw [← hFR] at hch hfz g1
    simp [g0.eq, g1.eq, h180, hcf, hcf', h180', h187, hcl, w, hch, hi0, hi1, hfz, hfs]
    refine wT_up (c.length + 1) (fun k env hq => ∃ (x2 x4 x5 x6 x7 x8 x9 x10 x11 x12 x13 x14 x15 x16 x17 x18 x19 x20 x21 x22 x25 x26 x27 : D) , env = [dProb p, .imm .none cm, x2, .loc 0 0, x4, x5, x6, x7, x8, x9, x10, x11, x12, x13, x14, x15, x16, x17, x18, x19, x20, x21, x22, dI (c.length + 1), dI k, x25, x26, x27] ∧ At hq 0 (.cells (dProb p).cellsL)) 0 (by omega) ⟨_, _, _, _, _, _, _, _, _, _, _, _, _, _, _, _, _, _, _, _, _, _, _, rfl, g0.ne (by omega)⟩ ?_
    rintro k env hq hk ⟨x2, x4, x5, x6, x7, x8, x9, x10, x11, x12, x13, x14, x15, x16, x17, x18, x19, x20, x21, x22, x25, x26, x27, rfl, k0⟩
    by_cases hkl : k ≤ c.length
    · have hw := hW k hkl
      have hk15 := hK k
      have hkw := wrap_i64 (n := (k : Int) + 1) ⟨by omega, by omega⟩
      have hk1 : k < c.length + 1 := by omega
      by_cases hke : k = c.length
      · rw [withP_all (by omega)] at hw hk15
        subst hke
        simp only [dProb, dInts] at hw hk15
        have hk2 : (c.length : Int) < c.length + 1 := by omega
        simp [hk1, hk2, hw, hk15, hcf, hcl, h188, hkw, ↓k0.eq, ↓k0.appE]
        exact k0.app
      · have hke' : ¬ (k : Int) = c.length := by omega
        obtain ⟨X, hX⟩ : ∃ X, X = withP p c k := ⟨_, rfl⟩
        rw [← hX] at hw hk15
        simp only [dProb, dInts] at hw hk15
        have hk2 : (k : Int) < c.length + 1 := by omega
        simp [hk1, hk2, hw, hk15, hcf, hcl, hke, hke', hkw, ↓k0.eq, ↓k0.appE]
        exact k0.app
    · have : k = c.length + 1 := by omega
      subst this
      simp

def useE (n : Int) : Use := ⟨⟨false, 0, n⟩, 1⟩
def varE : Var := ⟨0, 0, [0], [⟨0, 0, 0, [useE 5]⟩, ⟨10, 10, 0, [useE 6]⟩]⟩
def pE : Prob := ⟨[⟨false, 0, 5⟩, ⟨false, 0, 6⟩], [[1, 2]], [varE, varE]⟩
def cE : List Cause := [⟨7, [[1, 0]]⟩]
def xE : Prob := ⟨[⟨false, 0, 5⟩, ⟨false, 0, 6⟩], [[2, 2]], [varE, varE]⟩

theorem up {k : Nat} {a : List D} {r : D} {n : Nat} (h : runP E (dC E n) k a = some r) : runP E (dL E) k a = some r := runP_mono (fun _ _ _ h => dC_dL _ _ _ h) h

abbrev dCs (c : List Cause) : D := .imm .none (c.map dCause)
abbrev dShs (c : List Share) : D := .imm .none (c.map dShare)

theorem e190 : runP E (dL E) 190 [] = some (.tup [dProb pE, dCs cE]) := up (n := 100) (by kernel_rfl)
theorem e184a : runP E (dL E) 184 [dProb pE] = some (.tup [dInts [0, 10], dI 0]) := up (n := 200) (by kernel_rfl)
theorem e184b : runP E (dL E) 184 [dProb xE] = some (.tup [dInts [0, 0], dI 0]) := up (n := 200) (by kernel_rfl)
theorem e184c : runP E (dL E) 184 [dProb ⟨[], [[]], []⟩] = some (.tup [dInts [], dI 0]) := up (n := 200) (by kernel_rfl)
theorem e183a : runP E (dL E) 183 [dProb pE, dCs cE, dI 0] = some (.tup [dProb xE, dI 0]) := up (n := 100) (by kernel_rfl)
theorem e183b : runP E (dL E) 183 [dProb pE, dCs [], dI 0] = some (.tup [dProb pE, dI 0]) := up (n := 100) (by kernel_rfl)
theorem e183c : runP E (dL E) 183 [dProb pE, dCs cE, dI (-1)] = some (.tup [dProb ⟨[], [], []⟩, dI 1]) := up (n := 100) (by kernel_rfl)
theorem e180c : runP E (dL E) 180 [dProb ⟨[], [], []⟩, dCs []] = some (.tup [dShs [], dI 270]) := up (n := 100) (by kernel_rfl)
theorem e181a : runP E (dL E) 181 [dProb pE, dCs []] = some (dI 0) := up (n := 100) (by kernel_rfl)
theorem e181b : runP E (dL E) 181 [dProb pE, dCs [⟨0, [[1]]⟩]] = some (dI 420) := up (n := 100) (by kernel_rfl)
theorem e181c : runP E (dL E) 181 [dProb pE, dCs cE] = some (dI 0) := up (n := 100) (by kernel_rfl)
theorem smallE : Small pE := ⟨by decide, by decide, by decide, by decide, by decide, by decide, by decide⟩
theorem smCE : SmC cE := ⟨by decide, by decide, by decide⟩
theorem smC0 : SmC [] := ⟨by decide, by decide, by decide⟩
theorem withE : withP pE cE 0 = xE := rfl
theorem dI_inj {a b : Int} (h : some (dI a) = some (dI b)) : a = b := by injection h with h; injection h
theorem ints_inj {a b : List Int} {x y : D} (h : some (D.tup [dInts a, x]) = some (D.tup [dInts b, y])) : a = b := by
  injection h with h; injection h with h; injection h with h _; injection h with _ h
  exact List.map_inj_right (fun _ _ h => by injection h) |>.1 h
theorem dly_of {p : Prob} {l : List Int} (S : Small p) (h : runP E (dL E) 184 [dProb p] = some (.tup [dInts l, dI 0])) (h0 : OkP p) : dlyL p = l := by
  rw [r184 p S] at h
  unfold resDly at h
  rw [if_pos (by simp [ck, h0])] at h
  exact ints_inj h
theorem e180a : runP E (dL E) 180 [dProb pE, dCs cE] = some (.tup [dShs [⟨0, 1, 10⟩], dI 0]) := by
  have h0 : ckC pE cE = 0 := dI_inj ((r181 pE cE smallE smCE).symm.trans e181c)
  obtain ⟨ok, C⟩ := ckC_ok h0
  have d0 := dly_of (by rw [← withE]; exact withP_small ok C smallE) e184b (by rw [← withE]; exact withP_ok ok C)
  have d1 := dly_of smallE e184a ok
  have w1 : withP pE cE 1 = pE := withP_all (by decide)
  rw [r180 pE cE smallE smCE, resSh, if_pos h0]
  have : sharesL pE cE = [⟨0, 1, 10⟩] := by
    have hs : stages pE cE = [[0, 0], [0, 10]] := by
      unfold stages
      rw [show cE.length + 1 = 2 from rfl]
      simp only [List.range_succ, List.range_zero, List.nil_append, List.cons_append, List.map_cons, List.map_nil, withE, w1, d0, d1]
    unfold sharesL
    rw [hs]; rfl
  rw [this]
theorem e180b : runP E (dL E) 180 [dProb pE, dCs []] = some (.tup [dShs [⟨-1, 1, 10⟩], dI 0]) := by
  have h0 : ckC pE [] = 0 := dI_inj ((r181 pE [] smallE smC0).symm.trans e181a)
  obtain ⟨ok, C⟩ := ckC_ok h0
  have d1 := dly_of smallE e184a ok
  have w1 : withP pE [] 0 = pE := withP_all (by decide)
  rw [r180 pE [] smallE smC0, resSh, if_pos h0]
  have : sharesL pE [] = [⟨-1, 1, 10⟩] := by
    have hs : stages pE [] = [[0, 10]] := by
      unfold stages
      rw [show ([] : List Cause).length + 1 = 1 from rfl]
      simp only [List.range_succ, List.range_zero, List.nil_append, List.map_cons, List.map_nil, w1, d1]
    unfold sharesL
    rw [hs]; rfl
  rw [this]
theorem e20a : runP E (dL E) 20 [dInts [0, 10], dInts [0, 10]] = some (.bool true) := up (n := 100) (by kernel_rfl)
theorem e20b : runP E (dL E) 20 [dInts [0, 0], dInts [0, 0]] = some (.bool true) := up (n := 100) (by kernel_rfl)
theorem e187a : runP E (dL E) 187 [dShs [⟨0, 1, 10⟩], dShs [⟨0, 1, 10⟩]] = some (.bool true) := up (n := 100) (by kernel_rfl)
theorem e187b : runP E (dL E) 187 [dShs [⟨-1, 1, 10⟩], dShs [⟨-1, 1, 10⟩]] = some (.bool true) := up (n := 100) (by kernel_rfl)
theorem e188 : runP E (dL E) 188 [dProb pE, dProb pE] = some (.bool true) := q188 pE smallE

set_option maxHeartbeats 16000000 in
theorem sane178' : runP E (dL E) 178 [] = some (.bool true) := by
  refine runP_T c178 (by simp) ?_
  have h1 := e190
  have h2 := e184a
  have h3 := e184b
  have h4 := e184c
  have h5 := e183a
  have h6 := e183b
  have h7 := e183c
  have h8 := e180a
  have h9 := e180b
  have h10 := e180c
  have h11 := e181a
  have h12 := e181b
  have h13 := e20a
  have h14 := e20b
  have h15 := e187a
  have h16 := e187b
  have h17 := e188
  simp only [dProb, dInts, dCause, dShare, dCs, dShs, pE, xE, cE, varE, useE, dVar, dChoice, dUse, dCell, List.map_cons, List.map_nil] at h1 h2 h3 h4 h5 h6 h7 h8 h9 h10 h11 h12 h13 h14 h15 h16 h17
  simp [t178, n178, h1, h2, h3, h4, h5, h6, h7, h8, h9, h10, h11, h12, h13, h14, h15, h16, h17, frzL_one, frzL_nil]

end Dv

/- The law CausesNumbers, for typed arguments. -/
namespace Dv

theorem causesNumbers : ∀ xs, TypedL E [0, 38, 13] xs → ∃ n, runP E (dC E n) 186 xs = some (.bool true) := by
  intro xs h
  match xs, h with
  | [x, y, z], ⟨t1, t2, t3, _⟩ =>
    obtain ⟨p, rfl, _⟩ := ty_prob t1
    obtain ⟨c, rfl, hc⟩ := ty_causes t2
    obtain ⟨m, rfl, hm⟩ := ty_u8 t3 rfl
    exact runP_ex (law186 sane178' p c hc m hm)
  | [], h => exact h.elim
  | [_], h => exact h.2.elim
  | [_, _], h => exact h.2.2.elim
  | _ :: _ :: _ :: _ :: _, h => exact h.2.2.2.elim

end Dv
