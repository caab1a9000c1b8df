/- Texts that a proof of this claim uses, joined: Lw.W45. -/
import Derived.Test.YtffnaiofjjgcgaaWm
import Derived.Test.YtffnaiofjjgcgaaSb
set_option linter.all false
/- The law ProblemRoom. -/
namespace Dv
attribute [local simp] wT_skip wK wT_ret wT_exit wR wRp wT_seq wC wT_block rTS_nil rTS_asg rTS_eff rTS_effk ob_some obP_some iteD_b condP_b xv_v xv_c xv_ite xv_bin_tt xv_bin_tc xv_bin_ct xv_bin_cc xv_un_t xv_conv_t xv_load xv_len xv_faddr xv_field xv_iaddr_tt xv_iaddr_tc xv_index_tt xv_index_tc xv_lookup_tt xv_max_tt xv_max_tc xv_max_ct xv_min_tt xv_min_tc xv_min_ct xv_slice_lo_t xv_slice_lo_c xv_slice_hi_t xv_slice_all xv_call xv_bslice bsliceV xv_build buildV xv_mkfn zeroE fillE buildD fillD List.replicate xvs_nil xvs_cons callV_fn frz_bool frz_int frz_imm frz_agg frz_tup frz_fn frz_iptr frzL_nil frzL_one frzL_dI frzL_cell frzL_use frzL_ints frzL_choice frzL_var depth dCell dUse dInts dChoice dVar dProb tStart addO Ret flat_dI flat_rep chunk_dI
 binD_add binD_sub binD_mul binD_eql binD_neq binD_lss binD_leq binD_gtr binD_geq binD_quo binD_rem binD_beql binD_bneq binD_aeql binD_aneq unD_not unD_neg lenD_imm lenD_sl lenD_str readO_cells readO_frozen loadD_loc loadD_iptr iaddrD_imm iaddrD_sl iaddrD_loc faddrD_loc faddrD_iptr fieldD_agg indexD_agg indexD_str cellsL_bool stor_bool atom_bool cellsL_int stor_int atom_int cellsL_str stor_str atom_str cellsL_imm stor_imm atom_imm cellsL_sl stor_sl atom_sl cellsL_loc stor_loc atom_loc cellsL_iptr stor_iptr atom_iptr cellsL_map stor_map atom_map cellsL_fn stor_fn atom_fn cellsL_agg stor_agg cellsL_nilfn stor_nilfn atom_nilfn cellsL_nilp stor_nilp atom_nilp takeC_z takeC_s ofCells_ag ofCells_one ag_bool ag_int ag_str ag_slice ag_struct ag_arr ag_map ag_ptr ag_func gOf_t gOf_c gOf_f kv_cons putE_some putE_none oneRes_one oneRes_two oneRes_three getAll_nil getAll_v getAll_c maxiD_two miniD_two extV_tup xv_ext stepOp_box stepOp_alloc stepOp_store writeO_cells storeD_loc setCells_nil setCells_cons stepOp_mkmap stepOp_mapset stepOp_call1 stepOp_call2 stepOp_app2 stepOp_app1 stepOp_bslice stepOp_mkslice mapO_map lookupD_some lookupD_ok mapsetD_some keyOk_agg kindsL_nil kindsL_bool kindsL_int eqL_nil eqL_cons atomEq_bool atomEq_int frz_sl tokO_tok app0_step app0_exact app0_tok frz_loc oneRes_nil listOf_imm
 ty_0 ty_1 ty_2 ty_3 ty_4 ty_5 ty_6 ty_7 ty_8 ty_9 ty_10 ty_11 ty_12 ty_13 ty_14 ty_15 ty_16 ty_17 ty_18 ty_19 ty_20 ty_21 ty_22 ty_23 ty_24 ty_25 ty_26 ty_27
attribute [local congr] wT_congr ob_congr obP_congr iteD_congr condP_congr

theorem frzL_set {f : D → Option D} {x y : D} : ∀ {l l' : List D} {i : Nat}, frzL f l = some l' → f x = some y → frzL f (l.set i x) = some (l'.set i y)
  | [], l', i, h, _ => by simp [frzL] at h; subst h; simp [frzL]
  | a :: l, l', i, h, hx => by
    simp only [frzL_one] at h
    cases ha : f a with
    | none => rw [ha] at h; cases h
    | some a' =>
      rw [ha] at h
      simp only [ob_some] at h
      cases hl : frzL f l with
      | none => rw [hl] at h; cases h
      | some r =>
        rw [hl] at h
        simp only [ob_some, Option.some.injEq] at h
        subst h
        cases i with
        | zero => simp only [List.set_cons_zero, frzL_one, hx, ob_some, hl]
        | succ i => simp only [List.set_cons_succ, frzL_one, ha, ob_some, frzL_set hl hx]

theorem flat_ints {l : List (List Int)} : flat (l.map dInts) = l.map dInts := by
  induction l with
  | nil => rfl
  | cons x r ih => simp only [List.map_cons, flat, List.flatMap_cons] at ih ⊢; rw [ih]; rfl
theorem all_ints {l : List (List Int)} : ((l.map dInts).all fun d => d.storable && d.cellsL.length == 1) = true := by
  rw [List.all_eq_true]
  intro d hd
  obtain ⟨n, _, rfl⟩ := List.mem_map.1 hd
  rfl
theorem all_nums {l : List Int} : ((l.map dI).all fun d => d.storable && d.cellsL.length == 1) = true := by
  rw [List.all_eq_true]
  intro d hd
  obtain ⟨n, _, rfl⟩ := List.mem_map.1 hd
  rfl

theorem app1_rows {hp : List Obj} {id : Nat} {cs : List (List Int)} (h1 : 1 ≤ cs.length) (h2 : cs.length ≤ 1000) :
    appendM E hp id 9 9 (.imm .exact []) (.imm .none (cs.map dInts)) = some ⟨.sl id 0 cs.length 1 false true, some (.cells (cs.map dInts)), none⟩ := by
  have h3 : ¬ cs.length = 0 := by omega
  have h4 : ¬ cs = [] := fun e => h3 (by rw [e]; rfl)
  have h5 : cs.length * 25 ≤ 17592186044416 := by omega
  simp [appendM, all_ints, h4, fitsE, flat_ints, maxBytes, h5]
  rfl
theorem app1_nums {hp : List Obj} {id : Nat} {cs : List Int} (h1 : 1 ≤ cs.length) (h2 : cs.length ≤ 1000) :
    appendM E hp id 6 6 (.imm .exact []) (.imm .none (cs.map dI)) = some ⟨.sl id 0 cs.length 1 false true, some (.cells (cs.map dI)), none⟩ := by
  have h3 : ¬ cs.length = 0 := by omega
  have h4 : ¬ cs = [] := fun e => h3 (by rw [e]; rfl)
  have h5 : cs.length * 9 ≤ 17592186044416 := by omega
  simp [appendM, all_nums, h4, fitsE, flat_dI, maxBytes, h5]
  rfl

/-- more room at a place -/
def room (p : Prob) (i k : Nat) (x : Int) : Prob := { p with capacity := p.capacity.set i ((p.capacity.getD i []).set k x) }

theorem room_ok {p : Prob} (ok : OkP p) {i k : Nat} {x : Int} (hi : i < p.capacity.length) (hx : 0 ≤ x ∧ x ≤ 4096) : OkP (room p i k x) := by
  have hg : p.capacity.getD i [] = p.capacity[i] := by rw [List.getD_eq_getElem?_getD, List.getElem?_eq_getElem hi, Option.getD_some]
  refine ⟨by simp only [room, List.length_set]; exact ok.some, ok.nonneg, ok.incr, fun l hl => ?_, fun v hv => ?_⟩
  · rcases List.mem_or_eq_of_mem_set hl with h | h
    · exact ok.cap l h
    · subst h
      rw [hg]
      have hc := ok.cap _ (List.getElem_mem hi)
      refine ⟨by rw [List.length_set]; exact hc.1, fun n hn => ?_⟩
      rcases List.mem_or_eq_of_mem_set hn with h | h
      · exact hc.2 n h
      · subst h; exact hx
  · obtain ⟨h1, h2, h3, h4, h5, h6⟩ := ok.vars v hv
    exact ⟨h1, h2, h3, fun n hn => by simpa [room] using h4 n hn, h5, fun c hc => by
      obtain ⟨a1, a2, a3, a4, a5⟩ := h6 c hc
      exact ⟨a1, a2, a3, fun u hu => ⟨(a4 u hu).known, (a4 u hu).places⟩, a5⟩⟩
theorem room_small {p : Prob} (S : Small p) {i k : Nat} {x : Int} (hi : i < p.capacity.length) : Small (room p i k x) := by
  have hg : p.capacity.getD i [] = p.capacity[i] := by rw [List.getD_eq_getElem?_getD, List.getElem?_eq_getElem hi, Option.getD_some]
  refine ⟨S.cells, by simp only [room, List.length_set]; exact S.cap, fun l hl => ?_, S.vars, S.leaves, S.choices, S.uses⟩
  rcases List.mem_or_eq_of_mem_set hl with h | h
  · exact S.rows l h
  · subst h
    rw [hg, List.length_set]
    exact S.rows _ (List.getElem_mem hi)
theorem room_whole {p : Prob} {a : List Int} (h : Whole p a) {i k : Nat} {x : Int} (hi : i < p.capacity.length) (hx : 0 ≤ x ∧ x ≤ 4096) : Whole (room p i k x) a :=
  ⟨room_ok h.1 hi hx, ⟨h.2.1.len, h.2.1.each⟩, h.2.2⟩

theorem ovL_same {p q : Prob} {a : List Int} (h : ∀ leaf, dem q a leaf = dem p a leaf) : ∀ {cs : List (List Int)} {k : Nat}, ovL q a k cs = ovL p a k cs
  | [], _ => rfl
  | c :: cs, k => by simp only [ovL, h, ovL_same h]

theorem ovR_set : ∀ {d c : List Int} {k : Nat} {x : Int} (h : k < d.length) (h' : k < c.length), ovR d (c.set k x) = ovR d c - mx (d[k] - c[k]) 0 + mx (d[k] - x) 0
  | d :: ds, c :: cs, 0, x, _, _ => by simp only [List.set_cons_zero, ovR, List.getElem_cons_zero]; omega
  | d :: ds, c :: cs, k + 1, x, h, h' => by
    have := ovR_set (d := ds) (c := cs) (k := k) (x := x) (by simpa using h) (by simpa using h')
    simp only [List.set_cons_succ, ovR, List.getElem_cons_succ, this]; omega
theorem ovL_set {p : Prob} {a : List Int} {c' : List Int} : ∀ {cs : List (List Int)} {k i : Nat} (h : i < cs.length), ovL p a k (cs.set i c') = ovL p a k cs - ovR (dem p a ((k + i : Nat) : Int)) cs[i] + ovR (dem p a ((k + i : Nat) : Int)) c'
  | c :: cs, k, 0, _ => by simp only [List.set_cons_zero, ovL, List.getElem_cons_zero, Nat.add_zero]; omega
  | c :: cs, k, i + 1, h => by
    have := ovL_set (p := p) (a := a) (c' := c') (cs := cs) (k := k + 1) (i := i) (by simpa using h)
    have e : k + 1 + i = k + (i + 1) := by omega
    rw [e] at this
    simp only [List.set_cons_succ, ovL, List.getElem_cons_succ, this]; omega

/-- the overload with more room -/
theorem ov_room {p : Prob} (ok : OkP p) {a : List Int} {i k : Nat} {x more : Int} (hi : i < p.capacity.length) (hk : k < p.cells.length)
    (hx : (p.capacity.getD i []).getD k 0 ≤ x ∧ x ≤ (p.capacity.getD i []).getD k 0 + more) : ov (room p i k x) a ≤ ov p a ∧ ov p a - ov (room p i k x) a ≤ more := by
  have hg : p.capacity.getD i [] = p.capacity[i] := by rw [List.getD_eq_getElem?_getD, List.getElem?_eq_getElem hi, Option.getD_some]
  have hc := (ok.cap _ (List.getElem_mem hi)).1
  have hkc : k < p.capacity[i].length := by omega
  have hgk : (p.capacity.getD i []).getD k 0 = p.capacity[i][k] := by rw [hg, List.getD_eq_getElem?_getD, List.getElem?_eq_getElem hkc, Option.getD_some]
  rw [hgk] at hx
  have hdl : (dem p a ((0 + i : Nat) : Int)).length = p.cells.length := by simp [dem, foldU_len]
  have e : ov (room p i k x) a = ovL p a 0 (p.capacity.set i (p.capacity[i].set k x)) := by
    have h1 : ov (room p i k x) a = ovL p a 0 (room p i k x).capacity := ovL_same (p := p) (q := room p i k x) (fun leaf => rfl)
    rw [h1]
    simp only [room, hg]
  rw [e, ovL_set hi, ovR_set (by omega) hkc]
  unfold ov
  obtain ⟨d, hd⟩ : ∃ d, d = (dem p a ((0 + i : Nat) : Int))[k]'(by omega) := ⟨_, rfl⟩
  rw [← hd]
  obtain ⟨c, hcc⟩ : ∃ c, c = p.capacity[i][k] := ⟨_, rfl⟩
  rw [← hcc] at hx ⊢
  have h1 : mx (d - x) 0 ≤ mx (d - c) 0 ∧ mx (d - c) 0 - mx (d - x) 0 ≤ more := by unfold mx; split <;> split <;> omega
  omega

theorem ty_u64 {x : D} {c : Nat} (h : Typed E c x) (hk : (E.ty c).k = .int .u64) : ∃ m : Nat, x = .int .u64 m ∧ m < 18446744073709551616 := by
  have ha : (E.ty c).ag = false := by unfold TI.ag; rw [hk]
  have h1 := typed_one h ha
  clear h
  cases h1 with
  | int h' hw =>
    rename_i n
    rw [hk] at h'; cases h'
    simp [Go.Lit.wf] at hw
    obtain ⟨a1, a2⟩ := hw
    have e1 : Go.IntKind.u64.min = 0 := by decide
    have e2 : Go.IntKind.u64.max = 18446744073709551615 := by decide
    have b1 : 0 ≤ n := by first | exact a1 | (rw [e1] at a1; exact a1)
    have b2 : n ≤ 18446744073709551615 := by first | exact a2 | (rw [e2] at a2; exact a2)
    exact ⟨n.toNat, by rw [Int.toNat_of_nonneg b1], by omega⟩
  | bool h' => rw [hk] at h'; cases h'
  | str h' => rw [hk] at h'; cases h'
  | slice h' _ _ _ => rw [hk] at h'; cases h'
  | struct h' _ _ => rw [hk] at h'; cases h'

theorem tmodN {m k : Nat} : Int.tmod (m : Int) (k : Int) = ((m % k : Nat) : Int) := by
  rw [Int.tmod_eq_emod_of_nonneg (by omega)]; omega

theorem wrap_u64 {n : Nat} (h : n < 18446744073709551616) : Go.IntKind.u64.wrap (n : Int) = n := by
  have : Go.IntKind.u64.wrap (n : Int) = (n : Int) % 18446744073709551616 := by
    first | rfl | simp [Go.IntKind.wrap, Go.IntKind.bits, Go.IntKind.signed]
  rw [this]; omega

set_option maxHeartbeats 16000000 in
theorem law33 (h1 : runP E (dL E) 17 [] = some (.bool true)) (p : Prob) (a : List Int) (leaf cell more : Nat) (hlf : leaf < 18446744073709551616) (hcl : cell < 18446744073709551616) (hm : more ≤ 255) :
    runP E (dL E) 33 [dProb p, dInts a, .int .u64 leaf, .int .u64 cell, .int .u8 more] = some (.bool true) := by
  refine runP_T c33 (by simp) ?_
  have h2 := r2 p
  simp only [dProb] at h2
  simp [t33, n33, h1, h2]
  cases hf : fewB p with
  | false => simp
  | true =>
  have S := few_small hf
  simp
  by_cases hb : (20 : Int) < a.length
  · have hb2 : ¬ (a.length : Int) ≤ 20 := by omega
    simp [hb, hb2]
  have hb' : a.length ≤ 20 := by omega
  have hb2 : (a.length : Int) ≤ 20 := by omega
  simp [hb, hb2]
  have h22 := r22 p a S hb'
  by_cases h0 : Whole p a
  rotate_left
  · simp only [resV, if_neg h0] at h22
    simp only [dProb, dInts] at h22
    simp [h22]
  simp only [resV, if_pos h0] at h22
  obtain ⟨v, hv⟩ : ∃ v, v = boundL p a := ⟨_, rfl⟩
  rw [← hv] at h22
  simp only [dProb, dInts] at h22
  by_cases z1 : p.cells.length = 0
  · have z1' : p.cells = [] := List.eq_nil_of_length_eq_zero z1
    have h22' := h22
    simp only [z1', List.map_nil] at h22'
    simp [h22', z1']
  have z1' : ¬ p.cells = [] := fun e => z1 (by rw [e]; rfl)
  have hone := h0.1.some
  have z2' : ¬ p.capacity = [] := fun e => by rw [e] at hone; simp at hone
  have s1 := S.cells
  have s2 := S.cap
  have u1 := wrap_u64 (n := p.capacity.length) (by omega)
  have u2 := wrap_u64 (n := p.cells.length) (by omega)
  obtain ⟨i, hi⟩ : ∃ i, i = leaf % p.capacity.length := ⟨_, rfl⟩
  obtain ⟨k, hk⟩ : ∃ k, k = cell % p.cells.length := ⟨_, rfl⟩
  have hil : i < p.capacity.length := by rw [hi]; exact Nat.mod_lt _ (by omega)
  have hkl : k < p.cells.length := by rw [hk]; exact Nat.mod_lt _ (by omega)
  have t1 : Int.tmod (leaf : Int) (p.capacity.length : Int) = (i : Int) := by rw [tmodN, ← hi]
  have t2 : Int.tmod (cell : Int) (p.cells.length : Int) = (k : Int) := by rw [tmodN, ← hk]
  have w1 := wrap_i64 (n := (i : Int)) ⟨by omega, by omega⟩
  have w2 := wrap_i64 (n := (k : Int)) ⟨by omega, by omega⟩
  have hcap := h0.1.cap _ (List.getElem_mem hil)
  have a1 := fun hp id => app1_rows (hp := hp) (id := id) (cs := p.capacity) hone (by omega)
  have a2 := fun hp id => app1_nums (hp := hp) (id := id) (cs := p.capacity[i]) (by omega) (by omega)
  have hki : k < p.capacity[i].length := by omega
  have hc1 := hcap.2 _ (List.getElem_mem hki)
  unfold wi at hc1
  have w3 := wrap_i64 (n := (more : Int)) ⟨by omega, by omega⟩
  have w4 := wrap_i64 (n := p.capacity[i][k] + more) ⟨by omega, by omega⟩
  have hil1 : i + 1 ≤ p.capacity.length := hil
  have hki1 : k + 1 ≤ p.capacity[i].length := hki
  have hrl : p.capacity[i].length = p.cells.length := hcap.1
  have hchk := chunk_one (l := (List.map dInts p.capacity).set i (.sl 28 0 p.capacity[i].length 1 false true))
  rw [List.length_set, List.length_map] at hchk
  obtain ⟨x, hx⟩ : ∃ x : Int, x = if p.capacity[i][k] + more < 4096 then p.capacity[i][k] + more else 4096 := ⟨_, rfl⟩
  have hx1 : 0 ≤ x ∧ x ≤ 4096 := by rw [hx]; split <;> omega
  have hfr : ∀ (hp : List Obj) (n : Nat), hp[28]? = some (.cells ((List.map dI p.capacity[i]).set k (.int .i64 x))) →
      frzL (frz hp (n + 2)) ((List.map dInts p.capacity).set i (.sl 28 0 p.capacity[i].length 1 false true)) = some ((p.capacity.set i (p.capacity[i].set k x)).map dInts) := fun hp n hg => by
    rw [List.map_set]
    refine frzL_set frzL_ints ?_
    have hr : (List.map dI p.capacity[i]).set k (.int .i64 x) = (p.capacity[i].set k x).map dI := by rw [List.map_set]
    have hch := chunk_dI (l := p.capacity[i].set k x)
    rw [List.length_set] at hch
    rw [frz_sl, hg, hr]
    simp only [readO_cells, ob_some, List.drop_zero, hch, frzL_dI, Option.map_some]
  have hgd : p.capacity.getD i [] = p.capacity[i] := by rw [List.getD_eq_getElem?_getD, List.getElem?_eq_getElem hil, Option.getD_some]
  have hgk : (p.capacity.getD i []).getD k 0 = p.capacity[i][k] := by rw [hgd, List.getD_eq_getElem?_getD, List.getElem?_eq_getElem hki, Option.getD_some]
  have hv2 := r22 (room p i k x) a (room_small S hil) hb'
  simp only [resV, if_pos (room_whole h0 hil hx1 (k := k))] at hv2
  have hor := ov_room h0.1 (a := a) (k := k) (x := x) (more := more) hil hkl (by rw [hgk, hx]; split <;> omega)
  have hb1 : boundL (room p i k x) a = [ov (room p i k x) a, maxD 0 (picks p.vars a), sumC (picks p.vars a), sumG (picks p.vars a)] := rfl
  have hb2 : v = [ov p a, maxD 0 (picks p.vars a), sumC (picks p.vars a), sumG (picks p.vars a)] := by rw [hv]; rfl
  have hov := ov_le S h0.1 (b := a)
  have hop : 0 ≤ ov (room p i k x) a := ovL_pos
  rw [hb1] at hv2
  rw [hb2] at h22
  clear hb1 hb2 hv
  obtain ⟨V, hV⟩ : ∃ V, V = ov p a := ⟨_, rfl⟩
  obtain ⟨W, hW⟩ : ∃ W, W = ov (room p i k x) a := ⟨_, rfl⟩
  obtain ⟨M, hM⟩ : ∃ M, M = maxD 0 (picks p.vars a) := ⟨_, rfl⟩
  obtain ⟨C, hC⟩ : ∃ C, C = sumC (picks p.vars a) := ⟨_, rfl⟩
  obtain ⟨G, hG⟩ : ∃ G, G = sumG (picks p.vars a) := ⟨_, rfl⟩
  rw [← hV, ← hM, ← hC, ← hG] at h22
  rw [← hW, ← hM, ← hC, ← hG] at hv2
  rw [← hV, ← hW] at hor
  rw [← hV] at hov
  rw [← hW] at hop
  simp only [dProb, dInts, room, hgd, List.map_cons, List.map_nil] at hv2 h22
  obtain ⟨caps, hcaps⟩ : ∃ caps, caps = p.capacity.set i (p.capacity[i].set k x) := ⟨_, rfl⟩
  rw [← hcaps] at hv2
  simp only [← hcaps] at hfr
  have w5 := wrap_i64 (n := V - W) ⟨by omega, by omega⟩
  obtain ⟨o1, o2⟩ := hor
  have o2' : V ≤ more + W := by omega
  have o2'' : V - W ≤ more := by omega
  by_cases hlx : p.capacity[i][k] + more < 4096
  · rw [if_pos hlx] at hx
    subst hx
    simp [h22, z1, z1', z2', u1, u2, t1, t2, convD, w1, w2, a1, a2, applyEf, hil, hki, hil1, hki1, w3, w4, hlx, hchk, hfr, hv2, w5, o1, o2'']
  · rw [if_neg hlx] at hx
    subst hx
    simp [h22, z1, z1', z2', u1, u2, t1, t2, convD, w1, w2, a1, a2, applyEf, hil, hki, hil1, hki1, w3, w4, hlx, hchk, hfr, hv2, w5, o1, o2'']

theorem problemRoom : ∀ xs, TypedL E [0, 6, 12, 12, 13] xs → ∃ n, runP E (dC E n) 33 xs = some (.bool true) := by
  intro xs h
  match xs, h with
  | [x, y, z, w, u], ⟨h1, h2, h3, h4, h5, _⟩ =>
    obtain ⟨p, rfl, _⟩ := ty_prob h1
    obtain ⟨a, rfl, _⟩ := ty_nums h2 rfl
    obtain ⟨l, rfl, hl⟩ := ty_u64 h3 rfl
    obtain ⟨c, rfl, hc⟩ := ty_u64 h4 rfl
    obtain ⟨m, rfl, hm⟩ := ty_u8 h5 rfl
    exact runP_ex (law33 sane17' p a l c m hl hc hm)
  | [], h => exact h.elim
  | [_], h => exact h.2.elim
  | [_, _], h => exact h.2.2.elim
  | [_, _, _], h => exact h.2.2.2.elim
  | [_, _, _, _], h => exact h.2.2.2.2.elim
  | _ :: _ :: _ :: _ :: _ :: _ :: _, h => exact h.2.2.2.2.2.elim

end Dv
