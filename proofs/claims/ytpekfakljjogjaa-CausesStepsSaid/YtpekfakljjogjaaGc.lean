/- Texts that a proof of this claim uses, joined: Lw.W123, Lw.W120, Lw.W121, Lw.W122, Lw.S42, Lw.W128. -/
import Derived.Test.YtpekfakljjogjaaGb
import Derived.Test.YtpekfakljjogjaaGa
import Derived.KernelRfl
set_option linter.all false
namespace Dv
attribute [local simp] wT_skip wK wT_ret wT_exit wR wRp wT_seq wC wT_block rTS_nil rTS_asg rTS_eff rTS_effk rTS_effg gdV_b binD_and binD_or binD_xor stepOp_call3 closed_bool closed_int closed_tup flatB_bool flatB_int frzX_tup frzX_exact frz1_exact frz1_none frz1_int ob_some obP_some iteD_b condP_b xv_v xv_c xv_ite xv_bin_tt xv_bin_tc xv_bin_ct xv_bin_cc xv_un_t xv_conv_t xv_load xv_len xv_faddr xv_field xv_iaddr_tt xv_iaddr_tc xv_index_tt xv_index_tc xv_lookup_tt xv_max_tt xv_max_tc xv_max_ct xv_min_tt xv_min_tc xv_min_ct xv_slice_lo_t xv_slice_lo_c xv_slice_hi_t xv_slice_all xv_call xv_bslice bsliceV xv_build buildV xv_mkfn zeroE fillE buildD fillD List.replicate xvs_nil xvs_cons callV_fn frz_bool frz_int frz_imm frz_agg frz_tup frz_fn frz_iptr frzL_nil frzL_one frzL_dI frzL_cell frzL_use frzL_ints frzL_choice frzL_var depth dCell dUse dInts dChoice dVar dProb tStart addO Ret flat_dI flat_rep chunk_dI
 binD_add binD_sub binD_mul binD_eql binD_neq binD_lss binD_leq binD_gtr binD_geq binD_quo binD_rem binD_beql binD_bneq binD_aeql binD_aneq unD_not unD_neg lenD_imm lenD_sl lenD_str readO_cells readO_frozen loadD_loc loadD_iptr iaddrD_imm iaddrD_sl iaddrD_loc faddrD_loc faddrD_iptr fieldD_agg indexD_agg indexD_str cellsL_bool stor_bool atom_bool cellsL_int stor_int atom_int cellsL_str stor_str atom_str cellsL_imm stor_imm atom_imm cellsL_sl stor_sl atom_sl cellsL_loc stor_loc atom_loc cellsL_iptr stor_iptr atom_iptr cellsL_map stor_map atom_map cellsL_fn stor_fn atom_fn cellsL_agg stor_agg cellsL_nilfn stor_nilfn atom_nilfn cellsL_nilp stor_nilp atom_nilp takeC_z takeC_s ofCells_ag ofCells_one ag_bool ag_int ag_str ag_slice ag_struct ag_arr ag_map ag_ptr ag_func gOf_t gOf_c gOf_f kv_cons putE_some putE_none oneRes_one oneRes_two oneRes_three getAll_nil getAll_v getAll_c maxiD_two miniD_two extV_tup xv_ext stepOp_box stepOp_alloc stepOp_store writeO_cells storeD_loc setCells_nil setCells_cons stepOp_mkmap stepOp_mapset stepOp_call1 stepOp_call2 stepOp_app2 stepOp_app1 stepOp_bslice stepOp_mkslice mapO_map lookupD_some lookupD_ok mapsetD_some keyOk_agg kindsL_nil kindsL_bool kindsL_int eqL_nil eqL_cons atomEq_bool atomEq_int frz_sl tokO_tok app0_step app0_exact app0_tok frz_loc oneRes_nil listOf_imm
  ty_0 ty_1 ty_2 ty_3 ty_4 ty_6 ty_7 ty_9 ty_10 ty_11 ty_13 ty_14 ty_15 ty_16 ty_17 ty_18 ty_19 ty_20 ty_21 ty_22 ty_26 ty_28 ty_29 ty_31 ty_32 ty_33 ty_35 ty_36 ty_37 ty_38 ty_39 ty_40
attribute [local congr] wT_congr ob_congr obP_congr iteD_congr condP_congr gdV_congr


/-- what the first shares take from a variable -/
def subS (i k : Nat) (l : List Share) : Int := sumS i (l.filter fun s => decide (s.cause < (k : Int)))
theorem subS_nil {i k : Nat} : subS i k [] = 0 := rfl
theorem subS_snoc {i k : Nat} {l : List Share} {s : Share} : subS i k (l ++ [s]) = subS i k l + if s.vr = i ∧ s.cause < (k : Int) then s.minutes else 0 := by
  unfold subS
  rw [List.filter_append, sumS_app]
  by_cases h1 : s.cause < (k : Int)
  · simp only [List.filter_cons, h1, decide_true, if_true, List.filter_nil, sumS, and_true]
    split <;> omega
  · simp [List.filter_cons, h1, sumS]
theorem subS_bd {i k : Nat} {M : Int} (hM : 0 ≤ M) : ∀ {l : List Share}, (∀ s, s ∈ l → -M ≤ s.minutes ∧ s.minutes ≤ M) → -(l.length * M) ≤ subS i k l ∧ subS i k l ≤ l.length * M := by
  intro l
  induction l with
  | nil => intro _; simp [subS, sumS]
  | cons s l ih =>
    intro h
    obtain ⟨h1, h2⟩ := ih fun x hx => h x (by simp [hx])
    obtain ⟨h3, h4⟩ := h s (by simp)
    have e : subS i k (s :: l) = subS i k l + if s.vr = i ∧ s.cause < (k : Int) then s.minutes else 0 := by
      unfold subS
      by_cases h1 : s.cause < (k : Int)
      · simp only [List.filter_cons, h1, decide_true, if_true, sumS, and_true]
        split <;> omega
      · simp [List.filter_cons, h1]
    have e2 : ((s :: l).length : Int) * M = l.length * M + M := by
      rw [List.length_cons, Int.natCast_add, Int.add_mul]; simp
    rw [e, e2]
    split <;> omega

theorem steps_zero {p : Prob} {c : List Cause} (ok : OkP p) (C : OkC p c) (S : Small p) {k i : Nat} (hk : k ≤ c.length) (hi : i < p.vars.length) :
    subS i k (sharesL p c) = (dlyL (withP p c k)).getD i 0 := by
  unfold subS
  rw [shares_take hk]
  have hl : ∀ x, x ∈ (stages p c).take (k + 1) → x.length = p.vars.length := fun x hx => by
    have hx := List.mem_of_mem_take hx
    obtain ⟨j, _, rfl⟩ := List.mem_map.1 hx
    rw [dlyL_len (withP_small ok C S) (withP_ok ok C)]; rfl
  rw [sumS_shr (m := p.vars.length) (by simp) hl hi]
  have e : (stages p c).take (k + 1) = (stages p c).take k ++ [dlyL (withP p c k)] := by
    have : k < (stages p c).length := by simp [stages]; omega
    rw [List.take_succ_eq_append_getElem this]
    simp [stages]
  rw [e]
  simp [List.getD_eq_getElem?_getD, List.getElem?_replicate]
  split <;> simp

theorem chg_bd {cause M : Int} : ∀ {k : Nat} {b n : List Int}, (∀ x, x ∈ b → 0 ≤ x ∧ x ≤ M) → (∀ x, x ∈ n → 0 ≤ x ∧ x ≤ M) → ∀ s, s ∈ chg cause k b n → -M ≤ s.minutes ∧ s.minutes ≤ M
  | _, [], _, _, _, s, h => by simp [chg] at h
  | _, _ :: _, [], _, _, s, h => by simp [chg] at h
  | k, x :: b, y :: n, h1, h2, s, h => by
    simp only [chg, List.mem_append] at h
    have a1 := h1 x (by simp)
    have a2 := h2 y (by simp)
    rcases h with h | h
    · split at h
      · simp at h; subst h; simp only []; omega
      · simp at h
    · exact chg_bd (fun z hz => h1 z (by simp [hz])) (fun z hz => h2 z (by simp [hz])) s h
theorem shr_bd {M : Int} : ∀ {l : List (List Int)} {k : Nat} {b : List Int}, (∀ x, x ∈ b → 0 ≤ x ∧ x ≤ M) → (∀ y, y ∈ l → ∀ x, x ∈ y → 0 ≤ x ∧ x ≤ M) → ∀ s, s ∈ shr k b l → -M ≤ s.minutes ∧ s.minutes ≤ M
  | [], _, _, _, _, s, h => by simp [shr] at h
  | n :: l, k, b, h1, h2, s, h => by
    simp only [shr, List.mem_append] at h
    rcases h with h | h
    · exact chg_bd h1 (h2 n (by simp)) s h
    · exact shr_bd (h2 n (by simp)) (fun y hy => h2 y (by simp [hy])) s h

theorem shares_bd {p : Prob} {c : List Cause} (ok : OkP p) (C : OkC p c) : ∀ s, s ∈ sharesL p c → -1000000000 ≤ s.minutes ∧ s.minutes ≤ 1000000000 := by
  refine shr_bd (fun x hx => ?_) (fun y hy x hx => ?_)
  · have := List.eq_of_mem_replicate hx; omega
  · obtain ⟨j, _, rfl⟩ := List.mem_map.1 hy
    exact dlyL_bd (withP_ok ok C) x hx
theorem shares_len {p : Prob} {c : List Cause} (ok : OkP p) (C : OkC p c) (S : Small p) : (sharesL p c).length ≤ 9000 := by
  have := shr_len (m := p.vars.length) (l := stages p c) (k := 0) (b := List.replicate p.vars.length 0) (fun x hx => by
    obtain ⟨j, _, rfl⟩ := List.mem_map.1 hx
    rw [dlyL_len (withP_small ok C S) (withP_ok ok C)]; exact Nat.le_refl _)
  have c8 := C.len
  have s3 := S.vars
  have hl : (stages p c).length = c.length + 1 := by simp [stages]
  rw [hl] at this
  have h2 : (c.length + 1) * p.vars.length ≤ 9 * 1000 := Nat.mul_le_mul (by omega) (by omega)
  unfold sharesL; omega

set_option maxHeartbeats 16000000 in
theorem law182 (h1 : runP E (dL E) 178 [] = some (.bool true)) (p : Prob) (c : List Cause) (hc : c.length ≤ 9223372036854775807) (m : Nat) (hm : m ≤ 255) :
    runP E (dL E) 182 [dProb p, .imm .none (c.map dCause), .int .u8 m] = some (.bool true) := by
  refine runP_T c182 (by simp) ?_
  have h179 := r179 p c hc
  simp only [dProb, dInts, dCause] at h179
  cases hf : fewCB p c with
  | false => simp [t182, n182, h1, h179, hf, frzL_cause]
  | true =>
  obtain ⟨S, M, c4⟩ := fewC_sm hf
  have h180 := r180 p c S M
  unfold resSh at h180
  by_cases h0 : ckC p c = 0
  rotate_left
  · rw [if_neg h0] at h180
    simp only [dProb, dInts, dCause] at h180
    simp [t182, n182, h1, h179, hf, h180, h0, frzL_cause]
  rw [if_pos h0] at h180
  obtain ⟨ok, C⟩ := ckC_ok h0
  have w := wrap_i64 (n := (c.length : Int) + 1) ⟨by omega, by omega⟩
  have w1 := wrap_i64 (n := (m : Int)) ⟨by omega, by omega⟩
  obtain ⟨k, hkd⟩ : ∃ k, k = m % (c.length + 1) := ⟨_, rfl⟩
  have e1 : (m : Int).tmod ((c.length : Int) + 1) = k := by rw [hkd]; exact (Int.ofNat_tmod m (c.length + 1)).symm
  have hk' : k < c.length + 1 := by rw [hkd]; exact Nat.mod_lt _ (by omega)
  have nz : ¬ (c.length : Int) + 1 = 0 := by omega
  clear hkd
  have hk : k ≤ c.length := by omega
  have S' := withP_small ok C S (k := k)
  have ok' := withP_ok ok C (k := k)
  have h183 := r183 p c k S M
  rw [resWith, if_pos h0, if_pos ⟨by omega, by omega⟩, Int.toNat_natCast] at h183
  have h184 := r184 (withP p c k) S'
  unfold resDly at h184
  rw [if_pos (by simp [ck, ok'])] at h184
  obtain ⟨X, hX⟩ : ∃ X, X = withP p c k := ⟨_, rfl⟩
  have hZ : ∀ i, i < p.vars.length → subS i k (sharesL p c) = (dlyL (withP p c k)).getD i 0 := fun i hi => steps_zero ok C S hk hi
  have hLl : (dlyL (withP p c k)).length = p.vars.length := dlyL_len S' ok'
  have hLb := dlyL_bd ok'
  have hsb := shares_bd ok C
  have hsl := shares_len ok C S
  rw [← hX] at h183 h184 hZ hLl hLb
  obtain ⟨l, hl⟩ : ∃ l, l = dlyL X := ⟨_, rfl⟩
  obtain ⟨sh, hsh⟩ : ∃ sh, sh = sharesL p c := ⟨_, rfl⟩
  rw [← hl] at h184 hZ hLl hLb
  rw [← hsh] at h180 hZ hsb hsl
  simp only [dProb, dInts, dCause] at h180 h183 h184
  simp [t182, n182, h1, h179, hf, h180, h0, frzL_cause, frzL_share, convD, w, w1, e1, nz, h183, h184, hLl]
  have s3 := S.vars
  refine wT_up p.vars.length (fun i env hp => ∃ (x4 x6 x8 x9 x11 x12 x13 x14 x15 x16 x17 x18 x19 x20 x21 x25 x26 x27 x28 x29 x30 x31 x32 : D) , env = [dProb p, .imm .none (c.map dCause), .int .u8 m, .loc 0 0, x4, .imm .none (sh.map dShare), x6, dI k, x8, x9, dInts l, x11, x12, x13, x14, x15, x16, x17, x18, x19, x20, x21, dInts l, dI p.vars.length, dI i, x25, x26, x27, x28, x29, x30, x31, x32]) 0 (by omega)
    (by repeat apply Exists.intro
        and_intros <;> rfl) ?_
  rintro i env hp hi ⟨x4, x6, x8, x9, x11, x12, x13, x14, x15, x16, x17, x18, x19, x20, x21, x25, x26, x27, x28, x29, x30, x31, x32, rfl⟩
  by_cases hlt : i < p.vars.length
  · have hil : i < l.length := by omega
    have hb := hLb _ (List.getElem_mem hil)
    have hz := hZ i hlt
    rw [List.getD_eq_getElem?_getD, List.getElem?_eq_getElem hil, Option.getD_some] at hz
    obtain ⟨n, hn⟩ : ∃ n, n = l[i] := ⟨_, rfl⟩
    rw [← hn] at hb hz
    obtain ⟨N, hN⟩ : ∃ N : Nat → Int, N = fun j => n - subS i k (sh.take j) := ⟨_, rfl⟩
    have hN0 : N 0 = n := by rw [hN]; simp [subS_nil]
    have hN1 : ∀ (j : Nat) (h : j < sh.length), N (j + 1) = N j - if sh[j].vr = i ∧ sh[j].cause < (k : Int) then sh[j].minutes else 0 := fun j h => by
      rw [hN]; simp only []; rw [List.take_succ_eq_append_getElem h, subS_snoc]; omega
    have hNn : N sh.length = 0 := by rw [hN]; simp only []; rw [List.take_length]; omega
    have hNb : ∀ j, -100000000000000 ≤ N j ∧ N j ≤ 100000000000000 := fun j => by
      have h := subS_bd (i := i) (k := k) (M := 1000000000) (by omega) (l := sh.take j) fun s hs => hsb s (List.mem_of_mem_take hs)
      have h2 : (sh.take j).length ≤ 9000 := by simp only [List.length_take]; omega
      rw [hN]; simp only []; omega
    simp [hlt, hil, ← hn]
    rw [← hN0]
    refine wT_up sh.length (fun j env hq => ∃ (x4 x6 x8 x9 x11 x14 x15 x16 x17 x18 x19 x20 x21 x25 x29 x30 x31 x32 : D) , env = [dProb p, .imm .none (c.map dCause), .int .u8 m, .loc 0 0, x4, .imm .none (sh.map dShare), x6, dI k, x8, x9, dInts l, x11, dI i, dI (N j), x14, x15, x16, x17, x18, x19, x20, x21, dInts l, dI p.vars.length, dI i, x25, .imm .none (sh.map dShare), dI sh.length, dI j, x29, x30, x31, x32]) 0 (by omega)
      (by repeat apply Exists.intro
          and_intros <;> rfl) ?_
    rintro j env hq hj ⟨x4, x6, x8, x9, x11, x14, x15, x16, x17, x18, x19, x20, x21, x25, x29, x30, x31, x32, rfl⟩
    by_cases hjl : j < sh.length
    · have hs := hN1 j hjl
      have w3 := wrap_i64 (n := N j - sh[j].minutes) ⟨by have := hNb j; have := hsb _ (List.getElem_mem hjl); omega, by have := hNb j; have := hsb _ (List.getElem_mem hjl); omega⟩
      by_cases k1 : sh[j].vr = i
      · by_cases k2 : sh[j].cause < (k : Int)
        · rw [if_pos ⟨k1, k2⟩] at hs
          rw [← hs] at w3
          simp [hjl, k1, k2, w3, ← hs, wrap_up hjl (by omega)]
        · rw [if_neg (fun h => k2 h.2), Int.sub_zero] at hs
          simp [hjl, k1, k2, ← hs, wrap_up hjl (by omega)]
      · rw [if_neg (fun h => k1 h.1), Int.sub_zero] at hs
        simp [hjl, k1, ← hs, wrap_up hjl (by omega)]
    · have : j = sh.length := by omega
      subst this
      simp [hNn, wrap_up hlt (by omega)]
  · have : i = p.vars.length := by omega
    subst this
    simp

theorem ty_cause {x : D} (h : Typed E 39 x) : ∃ c, x = dCause c ∧ True := by
  obtain ⟨ds, rfl, h1⟩ := typed_agg h rfl
  obtain ⟨hl, hf⟩ := ty_struct h1 (fs := [(0, 2), (1, 9)]) rfl
  have hl2 : ds.length = 2 := hl
  match ds, hl2 with
  | [x, y], _ =>
    obtain ⟨n, h2, _⟩ := ty_int (hf 0 _ rfl) rfl
    obtain ⟨els, h3, _, h4⟩ := ty_slice (hf 1 _ rfl) (e := 6) rfl
    simp [E, tyTab] at h2 h3
    subst h2 h3
    obtain ⟨l, rfl, _⟩ := list_of (f := dInts) (R := fun _ => True) (els := els) fun x hx => by
      obtain ⟨l, h5, _⟩ := ty_ints (typed_one (h4 x hx) rfl) rfl
      simp at h5; exact ⟨l, h5, trivial⟩
    exact ⟨⟨n, l⟩, rfl, trivial⟩
theorem ty_causes {x : D} (h : Typed E 38 x) : ∃ c : List Cause, x = .imm .none (c.map dCause) ∧ c.length ≤ 9223372036854775807 := by
  obtain ⟨els, h3, hl, he⟩ := ty_slice (e := 39) (typed_one h rfl) rfl
  simp only [List.cons.injEq, and_true] at h3
  obtain ⟨c, h4, _⟩ := list_of (f := dCause) (R := fun _ => True) (els := els) fun y hy => ty_cause (he y hy)
  subst h4
  have : Go.maxLen ≤ 9223372036854775807 := by decide
  exact ⟨c, h3, by simp at hl; omega⟩

set_option maxHeartbeats 8000000 in
theorem q196 (v : Var) (h1 : v.leaves.length ≤ 1000) (h2 : v.choices.length ≤ 1000) (h3 : ∀ c, c ∈ v.choices → c.uses.length ≤ 1000) : runP E (dL E) 196 [dVar v, dVar v] = some (.bool true) := by
  refine runP_T c196 (by simp) ?_
  have h20 := r20 v.leaves v.leaves (by omega)
  simp only [dInts, decide_true] at h20
  simp [t196, n196, h20]
  refine wT_up v.choices.length (fun i env hp => ∃ (x6 x7 x8 x9 x10 x11 x12 x13 x14 x15 : D) , env = [dVar v, dVar v, .loc 0 0, .loc 1 0, .bool false, dI i, x6, x7, x8, x9, x10, x11, x12, x13, x14, x15] ∧ At hp 0 (.cells (dVar v).cellsL) ∧ At hp 1 (.cells (dVar v).cellsL)) 0 (by omega) ⟨_, _, _, _, _, _, _, _, _, _, rfl, by simp [At], by simp [At]⟩ ?_
  rintro i env hp hi ⟨x6, x7, x8, x9, x10, x11, x12, x13, x14, x15, rfl, g0, g1⟩
  by_cases hlt : i < v.choices.length
  · obtain ⟨c, hc⟩ : ∃ c, c = v.choices[i] := ⟨_, rfl⟩
    have hu := h3 c (by rw [hc]; exact List.getElem_mem hlt)
    simp [hlt, ← hc, g0.eq, g1.eq, ↓g0.appE, ↓g1.appE]
    obtain ⟨A, hA⟩ : ∃ A, A = hp.length := ⟨_, rfl⟩
    have l0 := g0.lt
    have l1 := g1.lt
    refine wT_up c.uses.length (fun k env hq => ∃ (x9 x10 x11 x12 x13 x14 x15 : D) (y6 y7 : D), env = [dVar v, dVar v, .loc 0 0, .loc 1 0, .bool false, dI i, y6, y7, dI k, x9, x10, x11, x12, x13, x14, x15] ∧ y6 = .loc A 0 ∧ y7 = .loc (A + 1) 0 ∧ At hq 0 (.cells (dVar v).cellsL) ∧ At hq 1 (.cells (dVar v).cellsL) ∧ At hq A (.cells (dChoice c).cellsL) ∧ At hq (A + 1) (.cells (dChoice c).cellsL)) 0 (by omega)
      ⟨_, _, _, _, _, _, _, _, _, rfl, by rw [hA], by rw [hA], g0.app, g1.app, by rw [hA]; simp [At], by rw [hA]; simp [At]⟩ ?_
    rintro k env hq hk ⟨x9, x10, x11, x12, x13, x14, x15, y6, y7, rfl, rfl, rfl, k0, k1, k2, k3⟩
    have lk := k3.lt
    by_cases hkl : k < c.uses.length
    · simp [hkl, k2.eq, k3.eq, ↓k0.appE, ↓k1.appE, ↓k2.appE, ↓k3.appE, wrap_up hkl (by omega)]
      repeat apply Exists.intro
      exact ⟨by and_intros <;> rfl, rfl, rfl, k0.app, k1.app, k2.app, k3.app⟩
    · have : k = c.uses.length := by omega
      subst this
      simp [hkl, k2.eq, wrap_up hlt (by omega)]
      exact ⟨k0, k1⟩
  · have : i = v.choices.length := by omega
    subst this
    simp [hlt, g0.eq, g1.eq]

set_option maxHeartbeats 8000000 in
theorem q188 (p : Prob) (S : Small p) : runP E (dL E) 188 [dProb p, dProb p] = some (.bool true) := by
  refine runP_T c188 (by simp) ?_
  have s1 := S.cells
  have s2 := S.cap
  have s3 := S.vars
  simp [t188, n188]
  refine wT_up p.cells.length (fun i env hp => ∃ (x6 x7 x8 x9 x10 x11 x12 x13 x14 : D) , env = [dProb p, dProb p, .loc 0 0, .loc 1 0, .bool false, dI i, x6, x7, x8, x9, x10, x11, x12, x13, x14] ∧ At hp 0 (.cells (dProb p).cellsL) ∧ At hp 1 (.cells (dProb p).cellsL)) 0 (by omega) ⟨_, _, _, _, _, _, _, _, _, rfl, by simp [At], by simp [At]⟩ ?_
  rintro i env hp hi ⟨x6, x7, x8, x9, x10, x11, x12, x13, x14, rfl, g0, g1⟩
  by_cases hlt : i < p.cells.length
  · simp [hlt, g0.eq, g1.eq, ↓g0.appE, ↓g1.appE, wrap_up hlt (by omega)]
    exact ⟨g0.app, g1.app⟩
  have : i = p.cells.length := by omega
  subst this
  simp [hlt, g0.eq, g1.eq]
  refine wT_up p.capacity.length (fun i env hp => ∃ (x5 x7 x8 x9 x10 x11 x12 x13 x14 : D) , env = [dProb p, dProb p, .loc 0 0, .loc 1 0, .bool false, x5, dI i, x7, x8, x9, x10, x11, x12, x13, x14] ∧ At hp 0 (.cells (dProb p).cellsL) ∧ At hp 1 (.cells (dProb p).cellsL)) 0 (by omega) ⟨_, _, _, _, _, _, _, _, _, rfl, g0, g1⟩ ?_
  clear g0 g1 hlt hp
  rintro i env hp hi ⟨x5, x7, x8, x9, x10, x11, x12, x13, x14, rfl, g0, g1⟩
  by_cases hlt : i < p.capacity.length
  · have h20 := r20 p.capacity[i] p.capacity[i] (by have := S.rows _ (List.getElem_mem hlt); omega)
    simp only [dInts, decide_true] at h20
    simp [hlt, g0.eq, g1.eq, ↓g0.appE, ↓g1.appE, h20, wrap_up hlt (by omega)]
    exact ⟨g0.app, g1.app⟩
  have : i = p.capacity.length := by omega
  subst this
  simp [hlt, g0.eq, g1.eq]
  refine wT_up p.vars.length (fun i env hp => ∃ (x5 x6 x8 x9 x10 x11 x12 x13 x14 : D) , env = [dProb p, dProb p, .loc 0 0, .loc 1 0, .bool false, x5, x6, dI i, x8, x9, x10, x11, x12, x13, x14] ∧ At hp 0 (.cells (dProb p).cellsL) ∧ At hp 1 (.cells (dProb p).cellsL)) 0 (by omega) ⟨_, _, _, _, _, _, _, _, _, rfl, g0, g1⟩ ?_
  clear g0 g1 hlt hp
  rintro i env hp hi ⟨x5, x6, x8, x9, x10, x11, x12, x13, x14, rfl, g0, g1⟩
  by_cases hlt : i < p.vars.length
  · have a1 := S.leaves _ (List.getElem_mem hlt)
    have a2 := S.choices _ (List.getElem_mem hlt)
    have h := q196 p.vars[i] (by omega) (by omega) (fun c hc => by have := S.uses _ (List.getElem_mem hlt) c hc; omega)
    simp only [dVar, dInts] at h
    simp [hlt, g0.eq, g1.eq, ↓g0.appE, ↓g1.appE, h, wrap_up hlt (by omega)]
    exact ⟨g0.app, g1.app⟩
  have : i = p.vars.length := by omega
  subst this
  simp [hlt, g0.eq, g1.eq]

def useE (n : Int) : Use := ⟨⟨false, 0, n⟩, 1⟩
def varE : Var := ⟨0, 0, [0], [⟨0, 0, 0, [useE 5]⟩, ⟨10, 10, 0, [useE 6]⟩]⟩
def pE : Prob := ⟨[⟨false, 0, 5⟩, ⟨false, 0, 6⟩], [[1, 2]], [varE, varE]⟩
def cE : List Cause := [⟨7, [[1, 0]]⟩]
def xE : Prob := ⟨[⟨false, 0, 5⟩, ⟨false, 0, 6⟩], [[2, 2]], [varE, varE]⟩

theorem up {k : Nat} {a : List D} {r : D} {n : Nat} (h : runP E (dC E n) k a = some r) : runP E (dL E) k a = some r := runP_mono (fun _ _ _ h => dC_dL _ _ _ h) h

abbrev dCs (c : List Cause) : D := .imm .none (c.map dCause)
abbrev dShs (c : List Share) : D := .imm .none (c.map dShare)

theorem e190 : runP E (dL E) 190 [] = some (.tup [dProb pE, dCs cE]) := up (n := 100) (by kernel_rfl)
theorem e184a : runP E (dL E) 184 [dProb pE] = some (.tup [dInts [0, 10], dI 0]) := up (n := 200) (by kernel_rfl)
theorem e184b : runP E (dL E) 184 [dProb xE] = some (.tup [dInts [0, 0], dI 0]) := up (n := 200) (by kernel_rfl)
theorem e184c : runP E (dL E) 184 [dProb ⟨[], [[]], []⟩] = some (.tup [dInts [], dI 0]) := up (n := 200) (by kernel_rfl)
theorem e183a : runP E (dL E) 183 [dProb pE, dCs cE, dI 0] = some (.tup [dProb xE, dI 0]) := up (n := 100) (by kernel_rfl)
theorem e183b : runP E (dL E) 183 [dProb pE, dCs [], dI 0] = some (.tup [dProb pE, dI 0]) := up (n := 100) (by kernel_rfl)
theorem e183c : runP E (dL E) 183 [dProb pE, dCs cE, dI (-1)] = some (.tup [dProb ⟨[], [], []⟩, dI 1]) := up (n := 100) (by kernel_rfl)
theorem e180c : runP E (dL E) 180 [dProb ⟨[], [], []⟩, dCs []] = some (.tup [dShs [], dI 270]) := up (n := 100) (by kernel_rfl)
theorem e181a : runP E (dL E) 181 [dProb pE, dCs []] = some (dI 0) := up (n := 100) (by kernel_rfl)
theorem e181b : runP E (dL E) 181 [dProb pE, dCs [⟨0, [[1]]⟩]] = some (dI 420) := up (n := 100) (by kernel_rfl)
theorem e181c : runP E (dL E) 181 [dProb pE, dCs cE] = some (dI 0) := up (n := 100) (by kernel_rfl)
theorem smallE : Small pE := ⟨by decide, by decide, by decide, by decide, by decide, by decide, by decide⟩
theorem smCE : SmC cE := ⟨by decide, by decide, by decide⟩
theorem smC0 : SmC [] := ⟨by decide, by decide, by decide⟩
theorem withE : withP pE cE 0 = xE := rfl
theorem dI_inj {a b : Int} (h : some (dI a) = some (dI b)) : a = b := by injection h with h; injection h
theorem ints_inj {a b : List Int} {x y : D} (h : some (D.tup [dInts a, x]) = some (D.tup [dInts b, y])) : a = b := by
  injection h with h; injection h with h; injection h with h _; injection h with _ h
  exact List.map_inj_right (fun _ _ h => by injection h) |>.1 h
theorem dly_of {p : Prob} {l : List Int} (S : Small p) (h : runP E (dL E) 184 [dProb p] = some (.tup [dInts l, dI 0])) (h0 : OkP p) : dlyL p = l := by
  rw [r184 p S] at h
  unfold resDly at h
  rw [if_pos (by simp [ck, h0])] at h
  exact ints_inj h
theorem e180a : runP E (dL E) 180 [dProb pE, dCs cE] = some (.tup [dShs [⟨0, 1, 10⟩], dI 0]) := by
  have h0 : ckC pE cE = 0 := dI_inj ((r181 pE cE smallE smCE).symm.trans e181c)
  obtain ⟨ok, C⟩ := ckC_ok h0
  have d0 := dly_of (by rw [← withE]; exact withP_small ok C smallE) e184b (by rw [← withE]; exact withP_ok ok C)
  have d1 := dly_of smallE e184a ok
  have w1 : withP pE cE 1 = pE := withP_all (by decide)
  rw [r180 pE cE smallE smCE, resSh, if_pos h0]
  have : sharesL pE cE = [⟨0, 1, 10⟩] := by
    have hs : stages pE cE = [[0, 0], [0, 10]] := by
      unfold stages
      rw [show cE.length + 1 = 2 from rfl]
      simp only [List.range_succ, List.range_zero, List.nil_append, List.cons_append, List.map_cons, List.map_nil, withE, w1, d0, d1]
    unfold sharesL
    rw [hs]; rfl
  rw [this]
theorem e180b : runP E (dL E) 180 [dProb pE, dCs []] = some (.tup [dShs [⟨-1, 1, 10⟩], dI 0]) := by
  have h0 : ckC pE [] = 0 := dI_inj ((r181 pE [] smallE smC0).symm.trans e181a)
  obtain ⟨ok, C⟩ := ckC_ok h0
  have d1 := dly_of smallE e184a ok
  have w1 : withP pE [] 0 = pE := withP_all (by decide)
  rw [r180 pE [] smallE smC0, resSh, if_pos h0]
  have : sharesL pE [] = [⟨-1, 1, 10⟩] := by
    have hs : stages pE [] = [[0, 10]] := by
      unfold stages
      rw [show ([] : List Cause).length + 1 = 1 from rfl]
      simp only [List.range_succ, List.range_zero, List.nil_append, List.map_cons, List.map_nil, w1, d1]
    unfold sharesL
    rw [hs]; rfl
  rw [this]
theorem e20a : runP E (dL E) 20 [dInts [0, 10], dInts [0, 10]] = some (.bool true) := up (n := 100) (by kernel_rfl)
theorem e20b : runP E (dL E) 20 [dInts [0, 0], dInts [0, 0]] = some (.bool true) := up (n := 100) (by kernel_rfl)
theorem e187a : runP E (dL E) 187 [dShs [⟨0, 1, 10⟩], dShs [⟨0, 1, 10⟩]] = some (.bool true) := up (n := 100) (by kernel_rfl)
theorem e187b : runP E (dL E) 187 [dShs [⟨-1, 1, 10⟩], dShs [⟨-1, 1, 10⟩]] = some (.bool true) := up (n := 100) (by kernel_rfl)
theorem e188 : runP E (dL E) 188 [dProb pE, dProb pE] = some (.bool true) := q188 pE smallE

set_option maxHeartbeats 16000000 in
theorem sane178' : runP E (dL E) 178 [] = some (.bool true) := by
  refine runP_T c178 (by simp) ?_
  have h1 := e190
  have h2 := e184a
  have h3 := e184b
  have h4 := e184c
  have h5 := e183a
  have h6 := e183b
  have h7 := e183c
  have h8 := e180a
  have h9 := e180b
  have h10 := e180c
  have h11 := e181a
  have h12 := e181b
  have h13 := e20a
  have h14 := e20b
  have h15 := e187a
  have h16 := e187b
  have h17 := e188
  simp only [dProb, dInts, dCause, dShare, dCs, dShs, pE, xE, cE, varE, useE, dVar, dChoice, dUse, dCell, List.map_cons, List.map_nil] at h1 h2 h3 h4 h5 h6 h7 h8 h9 h10 h11 h12 h13 h14 h15 h16 h17
  simp [t178, n178, h1, h2, h3, h4, h5, h6, h7, h8, h9, h10, h11, h12, h13, h14, h15, h16, h17, frzL_one, frzL_nil]

end Dv

/- The law CausesSteps, for typed arguments. -/
namespace Dv

theorem causesSteps : ∀ xs, TypedL E [0, 38, 13] xs → ∃ n, runP E (dC E n) 182 xs = some (.bool true) := by
  intro xs h
  match xs, h with
  | [x, y, z], ⟨t1, t2, t3, _⟩ =>
    obtain ⟨p, rfl, _⟩ := ty_prob t1
    obtain ⟨c, rfl, hc⟩ := ty_causes t2
    obtain ⟨m, rfl, hm⟩ := ty_u8 t3 rfl
    exact runP_ex (law182 sane178' p c hc m hm)
  | [], h => exact h.elim
  | [_], h => exact h.2.elim
  | [_, _], h => exact h.2.2.elim
  | _ :: _ :: _ :: _ :: _, h => exact h.2.2.2.elim

end Dv
