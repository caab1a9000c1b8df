/- Texts that a proof of this claim uses, joined: Lw.W115, Lw.W116, Lw.W62, Lw.W63, Lw.S29, Lw.W67, Lw.W68, Lw.W117, Lw.W118, Lw.W119, Lw.W123, Lw.W124, Lw.W120, Lw.W121, Lw.W122, Lw.W108, Lw.W125, Lw.W126, Lw.W133, Lw.W134, Lw.S42, Lw.W135. -/
import Derived.Test.YtpekfakljjogjaaGreatGb
import Derived.Test.YtpekfakljjogjaaGreatTc
import Derived.Test.YtpekfakljjogjaaGreatGa
import Derived.Test.YtpekfakljjogjaaGreatDvb
import Derived.KernelRfl
set_option linter.all false
namespace Dv
attribute [local simp] wT_skip wK wT_ret wT_exit wR wRp wT_seq wC wT_block rTS_nil rTS_asg rTS_eff rTS_effk rTS_effg gdV_b binD_and binD_or binD_xor stepOp_call3 closed_bool closed_int closed_tup flatB_bool flatB_int frzX_tup frzX_exact frz1_exact frz1_none frz1_int ob_some obP_some iteD_b condP_b xv_v xv_c xv_ite xv_bin_tt xv_bin_tc xv_bin_ct xv_bin_cc xv_un_t xv_conv_t xv_load xv_len xv_faddr xv_field xv_iaddr_tt xv_iaddr_tc xv_index_tt xv_index_tc xv_lookup_tt xv_max_tt xv_max_tc xv_max_ct xv_min_tt xv_min_tc xv_min_ct xv_slice_lo_t xv_slice_lo_c xv_slice_hi_t xv_slice_all xv_call xv_bslice bsliceV xv_build buildV xv_mkfn zeroE fillE buildD fillD List.replicate xvs_nil xvs_cons callV_fn frz_bool frz_int frz_imm frz_agg frz_tup frz_fn frz_iptr frzL_nil frzL_one frzL_dI frzL_cell frzL_use frzL_ints frzL_choice frzL_var depth dCell dUse dInts dChoice dVar dProb tStart addO Ret flat_dI flat_rep chunk_dI
 binD_add binD_sub binD_mul binD_eql binD_neq binD_lss binD_leq binD_gtr binD_geq binD_quo binD_rem binD_beql binD_bneq binD_aeql binD_aneq unD_not unD_neg lenD_imm lenD_sl lenD_str readO_cells readO_frozen loadD_loc loadD_iptr iaddrD_imm iaddrD_sl iaddrD_loc faddrD_loc faddrD_iptr fieldD_agg indexD_agg indexD_str cellsL_bool stor_bool atom_bool cellsL_int stor_int atom_int cellsL_str stor_str atom_str cellsL_imm stor_imm atom_imm cellsL_sl stor_sl atom_sl cellsL_loc stor_loc atom_loc cellsL_iptr stor_iptr atom_iptr cellsL_map stor_map atom_map cellsL_fn stor_fn atom_fn cellsL_agg stor_agg cellsL_nilfn stor_nilfn atom_nilfn cellsL_nilp stor_nilp atom_nilp takeC_z takeC_s ofCells_ag ofCells_one ag_bool ag_int ag_str ag_slice ag_struct ag_arr ag_map ag_ptr ag_func gOf_t gOf_c gOf_f kv_cons putE_some putE_none oneRes_one oneRes_two oneRes_three getAll_nil getAll_v getAll_c maxiD_two miniD_two extV_tup xv_ext stepOp_box stepOp_alloc stepOp_store writeO_cells storeD_loc setCells_nil setCells_cons stepOp_mkmap stepOp_mapset stepOp_call1 stepOp_call2 stepOp_app2 stepOp_app1 stepOp_bslice stepOp_mkslice mapO_map lookupD_some lookupD_ok mapsetD_some keyOk_agg kindsL_nil kindsL_bool kindsL_int eqL_nil eqL_cons atomEq_bool atomEq_int frz_sl tokO_tok app0_step app0_exact app0_tok frz_loc oneRes_nil listOf_imm
  ty_0 ty_1 ty_2 ty_3 ty_4 ty_6 ty_7 ty_9 ty_10 ty_11 ty_14 ty_15 ty_16 ty_17 ty_18 ty_19 ty_20 ty_21 ty_22 ty_26 ty_28 ty_29 ty_31 ty_32 ty_33 ty_35 ty_36 ty_37 ty_38 ty_39 ty_40
attribute [local congr] wT_congr ob_congr obP_congr iteD_congr condP_congr gdV_congr


/-- a list grows by one -/
theorem pushG {t e sz : Nat} (ht : (E.ty t).k = .slice e) (hs : (E.ty e).size = sz) {hp : List Obj} {sp : Spare} {els : List D} {x : D} {B id : Nat} (hok : appOk E e els [x]) (hx : (x.storable && x.cellsL.length == sz) = true) (R : Room B hp sp els.length sz) (hid : id ≤ hp.length) :
    ∃ hp', app0 E hp id t t (.imm sp els) (.imm .exact [x]) = some (.imm (.tok id) (els ++ [x]), hp') ∧ At hp' id (.tok ((els.length + 1) * sz) sz) ∧ hp.length ≤ hp'.length ∧
      ∀ i o, At hp i o → (∀ k, sp = .tok k → i ≠ k) → i ≠ id → At hp' i o := by
  subst hs
  rcases R with rfl | ⟨k, rfl, _, g⟩
  · obtain ⟨a1, a2, a3⟩ := addO_at (o := .tok ((els.length + 1) * (E.ty e).size) (E.ty e).size) hid
    refine ⟨_, ?_, a1, a2, fun i o g _ hne => a3 i o g hne⟩
    rw [app0_exact, ht]
    simp only [listOf_imm, List.all_cons, List.all_nil, hx, Bool.and_true, if_true, ob_some, if_pos hok, List.length_cons, List.length_nil]
  · have hg := g.eq
    obtain ⟨a1, a2, a3⟩ := addO_at (hp := hp.set k .dead) (id := id) (o := .tok ((els.length + 1) * (E.ty e).size) (E.ty e).size) (by simpa using hid)
    refine ⟨_, ?_, a1, by simpa using a2, fun i o g hk hne => a3 i o (g.ne (Ne.symm (hk k rfl))) hne⟩
    rw [app0_tok, ht]
    simp only [listOf_imm, List.all_cons, List.all_nil, hx, Bool.and_true, if_true, ob_some, if_pos hok, List.length_cons, List.length_nil, hg, tokO_tok, and_self]
theorem appOk_share {l : List Share} {x : D} (h : l.length ≤ 100000) : appOk E 37 (l.map dShare) [x] := by
  refine ⟨?_, ?_, ?_, ?_⟩
  · simp [maxBytes, E, tyTab]; omega
  · simp [E, tyTab]
  · rfl
  · simp [fitsE, E, tyTab, D.storable, D.atom, D.cellsL]

theorem chg_step {cause : Int} : ∀ {k : Nat} {bef now : List Int} {i : Nat}, bef.length = now.length → (h : i < now.length) → (h' : i < bef.length) →
    chg cause k (bef.take (i + 1)) (now.take (i + 1)) = chg cause k (bef.take i) (now.take i) ++ (if now[i] ≠ bef[i] then [⟨cause, ((k + i : Nat) : Int), now[i] - bef[i]⟩] else [])
  | k, [], _, i, _, _, h' => by simp at h'
  | k, _ :: _, [], i, _, h, _ => by simp at h
  | k, b :: bef, n :: now, 0, _, _, _ => by simp [chg]
  | k, b :: bef, n :: now, i + 1, hl, h, h' => by
    have := chg_step (cause := cause) (k := k + 1) (bef := bef) (now := now) (i := i) (by simpa using hl) (by simpa using h) (by simpa using h')
    simp only [List.take_succ_cons, chg, this, List.getElem_cons_succ, List.append_assoc]
    rw [show k + 1 + i = k + (i + 1) from by omega]
theorem chg_len {cause : Int} : ∀ {k : Nat} {bef now : List Int}, (chg cause k bef now).length ≤ now.length
  | _, [], _ => by simp [chg]
  | _, _ :: _, [] => by simp [chg]
  | k, b :: bef, n :: now => by
    have := chg_len (cause := cause) (k := k + 1) (bef := bef) (now := now)
    simp only [chg, List.length_append, List.length_cons]
    split <;> simp <;> omega

set_option maxHeartbeats 16000000 in
theorem s191 {cause : Int} {now bef : List Int} {sh : List Share} {sp0 sp : Spare} {b l C : Nat} {hp : List Obj} (hl : bef.length = now.length) (hn : now.length ≤ 1000) (hsh : sh.length ≤ 50000)
    (hd : ∀ n, n ∈ now → 0 ≤ n ∧ n ≤ 1000000000) (hd' : ∀ n, n ∈ bef → 0 ≤ n ∧ n ≤ 1000000000)
    (gb : At hp b (.cells [.imm sp0 (bef.map dI)])) (gl : At hp l (.cells [.imm sp (sh.map dShare)])) (R : Room C hp sp sh.length 3) (hb : b < C) (hl' : l < C) (hbl : b ≠ l) (hC : C ≤ hp.length) :
    ∃ d hp', runS E (dL E) 191 [dI cause, dInts now, .loc b 0, .loc l 0] hp = some (d, hp') ∧ At hp' b (.cells [dInts now]) ∧
      (∃ sp', At hp' l (.cells [.imm sp' ((sh ++ chg cause 0 bef now).map dShare)]) ∧ Room C hp' sp' (sh ++ chg cause 0 bef now).length 3) ∧ hp.length ≤ hp'.length ∧ ∀ i o, i < C → i ≠ b → i ≠ l → At hp i o → At hp' i o := by
  refine runS_T c191 (args := [dI cause, dInts now, .loc b 0, .loc l 0]) (hp := hp) (R := fun _ hp' => At hp' b (.cells [dInts now]) ∧
      (∃ sp', At hp' l (.cells [.imm sp' ((sh ++ chg cause 0 bef now).map dShare)]) ∧ Room C hp' sp' (sh ++ chg cause 0 bef now).length 3) ∧ hp.length ≤ hp'.length ∧ ∀ i o, i < C → i ≠ b → i ≠ l → At hp i o → At hp' i o) (by simp) ?_
  obtain ⟨Z, hZ⟩ : ∃ Z : Nat → List Share, Z = fun i => sh ++ chg cause 0 (bef.take i) (now.take i) := ⟨_, rfl⟩
  have hZ0 : Z 0 = sh := by rw [hZ]; simp [chg]
  have hZn : sh ++ chg cause 0 bef now = Z now.length := by rw [hZ]; simp only []; rw [List.take_length, ← hl, List.take_length]
  have hZl : ∀ i, (Z i).length ≤ 60000 := fun i => by
    rw [hZ]
    have := chg_len (cause := cause) (k := 0) (bef := bef.take i) (now := now.take i)
    simp only [List.length_append]
    rw [List.length_take] at this
    omega
  have hZ1 : ∀ (i : Nat) (h : i < now.length) (h' : i < bef.length), Z (i + 1) = Z i ++ (if now[i] ≠ bef[i] then [⟨cause, (i : Int), now[i] - bef[i]⟩] else []) := fun i h h' => by
    rw [hZ]; simp only []; rw [chg_step hl h h', List.append_assoc]; simp
  rw [hZn]
  simp [t191, n191]
  refine wT_up now.length (fun i env hq => ∃ (x4 x5 x9 x10 x11 : D) (sp' : Spare), env = [dI cause, dInts now, .loc b 0, .loc l 0, x4, x5, dInts now, dI now.length, dI i, x9, x10, x11] ∧ At hq b (.cells [.imm sp0 (bef.map dI)]) ∧ At hq l (.cells [.imm sp' ((Z i).map dShare)]) ∧ Room C hq sp' (Z i).length 3 ∧ hp.length ≤ hq.length ∧ ∀ i o, i < C → i ≠ b → i ≠ l → At hp i o → At hq i o) 0 (by omega)
    ⟨_, _, _, _, _, sp, rfl, gb, by rw [hZ0]; exact gl, by rw [hZ0]; exact R, Nat.le_refl _, fun _ _ _ _ _ h => h⟩ ?_
  rintro i env hq hi ⟨x4, x5, x9, x10, x11, sp', rfl, qb, ql, R1, hle, keep⟩
  have lb := qb.lt
  have ll := ql.lt
  by_cases hlt : i < now.length
  · have hlb : i < bef.length := by omega
    have z1 := hZ1 i hlt hlb
    have d1 := hd _ (List.getElem_mem hlt)
    have d2 := hd' _ (List.getElem_mem hlb)
    have w := wrap_i64 (n := now[i] - bef[i]) ⟨by omega, by omega⟩
    by_cases hne : now[i] = bef[i]
    · rw [if_neg (by simpa using hne), List.append_nil] at z1
      simp [hlt, hlb, qb.eq, hne, wrap_up hlt (by omega)]
      rw [z1]
      exact ⟨qb, sp', ql, R1, hle, keep⟩
    · rw [if_pos hne] at z1
      have R3 : Room C (hq ++ [Obj.dead, Obj.dead, Obj.dead, Obj.dead, Obj.dead, Obj.dead, Obj.dead, Obj.dead, Obj.dead, Obj.dead, Obj.dead, Obj.dead, Obj.dead]) sp' ((Z i).map dShare).length 3 := by
        rw [List.length_map]
        rcases R1 with h | ⟨k', h1, h2, h3⟩
        · exact .inl h
        · exact .inr ⟨k', h1, h2, h3.app⟩
      obtain ⟨h', e1, e2, e3, e4⟩ := pushG (t := 36) (e := 37) (sz := 3) rfl rfl (x := dShare ⟨cause, (i : Int), now[i] - bef[i]⟩) (id := hq.length + 11) (appOk_share (by have := hZl i; omega)) (by simp [D.storable, D.atom, D.cellsL]) R3 (by simp)
      have eL : (Z i).map dShare ++ [dShare ⟨cause, (i : Int), now[i] - bef[i]⟩] = (Z (i + 1)).map dShare := by rw [z1, List.map_append]; rfl
      have eN : (Z (i + 1)).length = (Z i).length + 1 := by rw [z1]; simp
      rw [eL] at e1
      rw [List.length_map, ← eN] at e2
      have hk : ∀ n, n < C → ∀ k', sp' = .tok k' → n ≠ k' := fun n hn k' hk' => by
        rcases R1 with h | ⟨k2, h1, h2, _⟩
        · rw [h] at hk'; cases hk'
        · rw [h1] at hk'; cases hk'; omega
      have Qb := e4 b _ qb.app (hk b hb) (by omega)
      have Ql := e4 l _ ql.app (hk l hl') (by omega)
      simp only [dShare, dI] at e1
      simp only [List.length_append, List.length_cons, List.length_nil] at e3
      have lql := Ql.lt
      simp [hlt, hlb, qb.eq, ql.eq, ↓qb.appE, ↓ql.appE, hne, w, e1, Ql.eq, wrap_up hlt (by omega)]
      exact ⟨Qb.ne (Ne.symm hbl), _, At.self lql, .inr ⟨_, rfl, by omega, e2.ne (by omega)⟩, by omega, fun n o h1 h2 h3 g => (e4 n o (keep n o h1 h2 h3 g).app (hk n h1) (by omega)).ne (Ne.symm h3)⟩
  · have : i = now.length := by omega
    subst this
    simp [hlt, qb.eq]
    refine ⟨At.self lb, ⟨sp', ql.ne hbl, ?_⟩, hle, fun n o h1 h2 h3 g => (keep n o h1 h2 h3 g).ne (Ne.symm h2)⟩
    rcases R1 with h | ⟨k', h1, h2, h3⟩
    · exact .inl h
    · exact .inr ⟨k', h1, h2, h3.ne (by omega)⟩

theorem r192 (p : Prob) (c : List Cause) : runP E (dL E) 192 [dProb p, .imm .none (c.map dCause)] = some (.fn 198 [.iptr [.imm .none (c.map dCause)], .iptr (dProb p).cellsL]) := by
  refine runP_T c192 (by simp) ?_
  simp [t192, n192, frzL_cause]

set_option maxHeartbeats 4000000 in
theorem i198 (p : Prob) (c : List Cause) (S : Small p) (ok : OkP p) (C : OkC p c) (l : Nat) (J : Nat → List Obj → Prop) (Fin : List Obj → Prop)
    (hy : ∀ k hp, k ≤ c.length → J k hp → ∃ t hp', runY (dL E) l [dI ((k : Int) - 1), dProb (withP p c k)] hp = some (.bool t, hp') ∧ (t = true → J (k + 1) hp') ∧ (t = false → Fin hp')) {hp : List Obj}
    (h0 : J 0 hp) :
    ∃ d hp', runS E (dL E) 198 [.yld l, .iptr [.imm .none (c.map dCause)], .iptr (dProb p).cellsL] hp = some (d, hp') ∧ (J (c.length + 1) hp' ∨ Fin hp') := by
  refine runS_T c198 (R := fun _ hp' => J (c.length + 1) hp' ∨ Fin hp') (by simp) ?_
  have c1 := C.len
  have w := wrap_i64 (n := (c.length : Int) + 1) ⟨by omega, by omega⟩
  simp [t198, n198, w]
  refine wT_up (c.length + 1) (fun k env hp => ∃ (x3 x6 x7 x8 : D) , env = [.yld l, .iptr [.imm .none (c.map dCause)], .iptr (dProb p).cellsL, x3, dI ((c.length : Int) + 1), dI k, x6, x7, x8] ∧ J k hp) 0 (by omega) ⟨_, _, _, _, rfl, h0⟩ ?_
  rintro k env hp hk ⟨x3, x6, x7, x8, rfl, hJ⟩
  by_cases hlt : k < c.length + 1
  · have hlt' : (k : Int) < c.length + 1 := by omega
    have h195 := r195 p c k S ok C (by omega)
    have w1 := wrap_i64 (n := (k : Int) - 1) ⟨by omega, by omega⟩
    obtain ⟨t, hp2, y1, y2, y3⟩ := hy k hp (by omega) hJ
    obtain ⟨q, hq⟩ : ∃ q, q = withP p c k := ⟨_, rfl⟩
    rw [← hq] at h195 y1
    simp only [dProb, dInts, dCause] at h195 y1
    cases t with
    | true =>
      have hJ2 := y2 rfl
      simp [hlt, hlt', h195, w1, y1, frzL_cause, wrap_up hlt (by omega), hJ2]
    | false =>
      have hF := y3 rfl
      simp [hlt, hlt', h195, w1, y1, frzL_cause, hF]
  · have : k = c.length + 1 := by omega
    subst this
    simp [hJ]

theorem xv_mkslice {E : Env} {cP : Nat → List D → Option D} {env : List D} {hp : List Obj} {t a c : Nat} {ks : Xs} : xv E cP env hp (.n (.mkslice false t (.t a) (.t c)) ks) = ob (xvs E cP env hp ks) fun vs => mksliceV E t (kv a vs) (kv c vs) := by
  rw [xv_op]
  congr 1
  funext vs
  have e1 : gOf vs (.t a) = kv a vs := rfl
  have e2 : gOf vs (.t c) = kv c vs := rfl
  rw [← e1, ← e2]
  unfold opV mksliceV
  simp only [pureOp]
  generalize gOf vs (.t a) = x
  generalize gOf vs (.t c) = y
  cases (E.ty t).k <;> try rfl
  cases x <;> try rfl
  cases y <;> try rfl
  rename_i e k1 n1 k2 n2
  simp only []
  cases zeroE E e with
  | none => rfl
  | some z =>
    by_cases h : 0 ≤ n1 ∧ n1 = n2 ∧ n2 * (((E.ty e).bytes : Int) + 1) ≤ maxBytes
    · obtain ⟨h1, rfl, h3⟩ := h
      simp [h1, h3]
    · simp [h]

theorem shr_len {m : Nat} : ∀ {l : List (List Int)} {k : Nat} {b : List Int}, (∀ x, x ∈ l → x.length ≤ m) → (shr k b l).length ≤ l.length * m
  | [], _, _, _ => by simp [shr]
  | n :: l, k, b, h => by
    have h1 := chg_len (cause := (k : Int) - 1) (k := 0) (bef := b) (now := n)
    have h2 := shr_len (m := m) (l := l) (k := k + 1) (b := n) fun x hx => h x (by simp [hx])
    have h3 := h n (by simp)
    simp only [shr, List.length_append, List.length_cons, Nat.add_mul, Nat.one_mul]
    omega
theorem dlyL_bd {p : Prob} (ok : OkP p) : ∀ n, n ∈ dlyL p → 0 ≤ n ∧ n ≤ 1000000000 := by
  intro n hn
  obtain ⟨x, hx, rfl⟩ := List.mem_map.1 hn
  have hv := (ok.vars x.1 (List.of_mem_zip hx).1).choices
  rw [List.getD_eq_getElem?_getD]
  cases h : x.1.choices[x.2.toNat]? with
  | none => simp
  | some c =>
    have := (hv c (List.mem_of_getElem? h)).delay
    unfold wi at this
    simp only [Option.getD_some]
    omega

noncomputable def resSh (p : Prob) (c : List Cause) : D := if ckC p c = 0 then .tup [.imm .none ((sharesL p c).map dShare), dI 0] else .tup [.imm .none [], dI (ckC p c)]

set_option maxHeartbeats 16000000 in
theorem r180 (p : Prob) (c : List Cause) (S : Small p) (M : SmC c) : runP E (dL E) 180 [dProb p, .imm .none (c.map dCause)] = some (resSh p c) := by
  refine runP_T c180 (by simp) ?_
  have h181 := r181 p c S M
  have h192 := r192 p c
  have s3 := S.vars
  unfold resSh
  by_cases h0 : ckC p c = 0
  rotate_left
  · rw [if_neg h0]
    simp only [dProb, dInts, dCause] at h181
    simp [t180, n180, h181, h0, frzL_cause]
  obtain ⟨ok, C⟩ := ckC_ok h0
  rw [if_pos h0]
  rw [h0] at h181
  obtain ⟨Z, hZ⟩ : ∃ Z, Z = List.replicate p.vars.length (0 : Int) := ⟨_, rfl⟩
  have hZ2 : List.replicate p.vars.length (D.int .i64 0) = Z.map dI := by rw [hZ]; simp
  have hmk : mksliceV E 6 (dI p.vars.length) (dI p.vars.length) = some (.imm .exact (Z.map dI)) := by
    have hmb : (p.vars.length : Int) * 9 ≤ 17592186044416 := by omega
    rw [← hZ2]
    simp [mksliceV, maxBytes, hmb]
  simp only [dProb, dInts, dCause] at h181 h192
  simp [t180, n180, h181, h192, frzL_cause, xv_mkslice, hmk]
  obtain ⟨Bf, hBf⟩ : ∃ Bf : Nat → List Int, Bf = fun k => if k = 0 then Z else dlyL (withP p c (k - 1)) := ⟨_, rfl⟩
  have hB0 : Bf 0 = Z := by rw [hBf]; rfl
  have hB1 : ∀ k, Bf (k + 1) = dlyL (withP p c k) := fun k => by rw [hBf]; simp
  have hBl : ∀ k, (Bf k).length = p.vars.length := fun k => by
    cases k with
    | zero => rw [hB0, hZ]; simp
    | succ k => rw [hB1, dlyL_len (withP_small ok C S) (withP_ok ok C)]; rfl
  have hBd : ∀ k n, n ∈ Bf k → 0 ≤ n ∧ n ≤ 1000000000 := fun k n h => by
    cases k with
    | zero => rw [hB0, hZ] at h; have := List.eq_of_mem_replicate h; omega
    | succ k => rw [hB1] at h; exact dlyL_bd (withP_ok ok C) n h
  obtain ⟨Sh, hSh⟩ : ∃ Sh : Nat → List Share, Sh = fun k => shr 0 Z ((List.range k).map fun j => Bf (j + 1)) := ⟨_, rfl⟩
  have hS0 : Sh 0 = [] := by rw [hSh]; simp [shr]
  have hS1 : ∀ k, Sh (k + 1) = Sh k ++ chg ((k : Int) - 1) 0 (Bf k) (Bf (k + 1)) := fun k => by
    rw [hSh]
    simp only [List.range_succ, List.map_append, List.map_cons, List.map_nil]
    rw [shr_app]
    simp only [shr, List.append_nil, List.length_map, List.length_range, Nat.zero_add]
    congr 2
    cases k with
    | zero => simp [hB0]
    | succ k => simp [List.range_succ]
  have hSl : ∀ k, k ≤ 9 → (Sh k).length ≤ 50000 := fun k hk => by
    have := shr_len (m := p.vars.length) (l := (List.range k).map fun j => Bf (j + 1)) (k := 0) (b := Z) (fun x hx => by
      obtain ⟨j, _, rfl⟩ := List.mem_map.1 hx
      rw [hBl]; omega)
    rw [hSh]
    simp only [List.length_map, List.length_range] at this
    have h2 : k * p.vars.length ≤ 9 * 1000 := Nat.mul_le_mul hk (by omega)
    simp only []; omega
  have hSn : sharesL p c = Sh (c.length + 1) := by
    rw [hSh]
    unfold sharesL stages
    rw [← hZ]
    congr 1
    refine List.map_congr_left fun j _ => ?_
    rw [hB1]
  rw [hSn]
  have c8 := C.len
  refine ⟨198, _, rfl, ?_⟩
  intro L hL hcb
  obtain ⟨J, hJ⟩ : ∃ J : Nat → List Obj → Prop, J = fun k hq => ∃ sp0 sp, At hq 0 (.cells (dProb p).cellsL) ∧ At hq 1 (.cells [.imm sp ((Sh k).map dShare)]) ∧ At hq 2 (.cells [dI 0]) ∧ At hq 3 (.cells [.imm sp0 ((Bf k).map dI)]) ∧
    At hq 4 (.cells [.fn 191 [.loc 3 0, .loc 1 0]]) ∧ At hq 5 (L false none) ∧ Room 6 hq sp (Sh k).length 3 := ⟨_, rfl⟩
  have key := i198 p c S ok C 5 J (fun _ => False) (by
    intro k hq hk hj
    rw [hJ] at hj
    obtain ⟨sp0, sp, a0, a1, a2, a3, a4, a5, R⟩ := hj
    have l5 := a5.lt
    have h184 := r184 (withP p c k) (withP_small ok C S)
    have hck : ck (withP p c k) = 0 := by simp [ck, withP_ok ok C]
    unfold resDly at h184
    rw [if_pos hck, ← hB1] at h184
    obtain ⟨q, hqd⟩ : ∃ q, q = withP p c k := ⟨_, rfl⟩
    rw [← hqd] at h184 ⊢
    obtain ⟨t, hp2, e1, e2⟩ := hcb [dI ((k : Int) - 1), dProb q] hq (fun t hp' => t = true ∧ J (k + 1) hp') rfl a5 (by
      obtain ⟨X, hX⟩ : ∃ X, X = Obj.cells (dProb q).cellsL := ⟨_, rfl⟩
      obtain ⟨HQ, hHQ⟩ : ∃ HQ, HQ = (hq ++ [X]).set 5 (L true none) := ⟨_, rfl⟩
      have ln : (hq ++ [X]).length = hq.length + 1 := by simp
      have q0 := (a0.app (r := [X])).ne (j := 5) (x := L true none) (by omega)
      rw [← hHQ] at q0
      have q1 := (a1.app (r := [X])).ne (j := 5) (x := L true none) (by omega)
      rw [← hHQ] at q1
      have q2 := (a2.app (r := [X])).ne (j := 5) (x := L true none) (by omega)
      rw [← hHQ] at q2
      have q3 := (a3.app (r := [X])).ne (j := 5) (x := L true none) (by omega)
      rw [← hHQ] at q3
      have q4 := (a4.app (r := [X])).ne (j := 5) (x := L true none) (by omega)
      rw [← hHQ] at q4
      have q5 : At HQ 5 (L true none) := by rw [hHQ]; exact At.self (by omega)
      have qn : At HQ hq.length X := by rw [hHQ]; exact At.ne (by simp [At]) (by omega)
      have RQ : Room 6 HQ sp (Sh k).length 3 := by
        rcases R with h | ⟨k', h1, h2, h3⟩
        · exact .inl h
        · exact .inr ⟨k', h1, h2, by rw [hHQ]; exact h3.app.ne (by omega)⟩
      have lQ : 6 ≤ HQ.length := by rw [hHQ]; simp; omega
      obtain ⟨d1, hp2, f1, f2, ⟨sp', f3, f4⟩, f5, f6⟩ := s191 (cause := (k : Int) - 1) (now := Bf (k + 1)) (bef := Bf k) (sh := Sh k) (by rw [hBl, hBl]) (by rw [hBl]; omega) (hSl k (by omega)) (hBd (k + 1)) (hBd k) q3 q1 RQ (by omega) (by omega) (by omega) lQ
      rw [← hS1] at f3 f4
      have w0 := f6 0 _ (by omega) (by omega) (by omega) q0
      have w2 := f6 2 _ (by omega) (by omega) (by omega) q2
      have w4 := f6 4 _ (by omega) (by omega) (by omega) q4
      have w5 := f6 5 _ (by omega) (by omega) (by omega) q5
      have z5 := w5.lt
      have fin : J (k + 1) (hp2.set 5 (L false none)) := by
        rw [hJ]
        refine ⟨.none, sp', w0.ne (by omega), f3.ne (by omega), w2.ne (by omega), f2.ne (by omega), w4.ne (by omega), At.self z5, ?_⟩
        rcases f4 with h | ⟨k', h1, h2, h3⟩
        · exact .inl h
        · exact .inr ⟨k', h1, h2, h3.ne (by omega)⟩
      have g5 : (hq ++ [X])[5]? = some (L false none) := a5.app.eq
      simp only [dProb, dInts] at h184 f1
      rw [hX] at hHQ g5 qn
      have qn2 := qn.eq
      rw [hHQ] at f1 qn2
      have q4e := q4.eq
      rw [hHQ] at q4e
      simp only [dProb, cellsL_agg] at f1 qn2 g5 q4e
      simp [setAll, h184, ↓g5, ↓qn2, ↓q4e, f1, w5.eq, fin])
    obtain ⟨rfl, e3⟩ := e2
    exact ⟨true, hp2, e1, fun _ => e3, fun h => by cases h⟩) (hp := [.cells (dProb p).cellsL, .cells [.imm .exact []], .cells [dI 0], .cells [.imm .exact (Z.map dI)], .cells [.fn 191 [.loc 3 0, .loc 1 0]], L false none]) (by
      rw [hJ]
      exact ⟨.exact, .exact, by simp [At], by rw [hS0]; simp [At], by simp [At], by rw [hB0]; simp [At], by simp [At], by simp [At], .inl rfl⟩)
  obtain ⟨d, hp', h1, h2⟩ := key
  rcases h2 with h2 | h2
  rotate_left
  · exact h2.elim
  rw [hJ] at h2
  obtain ⟨sp0, sp, a0, a1, a2, a3, a4, a5, R⟩ := h2
  refine ⟨d, _, h1, .inl ⟨a5, ?_⟩⟩
  obtain ⟨H, hH⟩ : ∃ H, H = hp'.set 5 Obj.dead := ⟨_, rfl⟩
  have b1 := a1.ne (j := 5) (x := Obj.dead) (by omega)
  have b2 := a2.ne (j := 5) (x := Obj.dead) (by omega)
  rw [← hH] at b1 b2
  simp
  rw [← hH]
  have t2 : ∀ x, (H.set 1 x)[2]? = some (.cells [dI 0]) := fun x => (b2.ne (by omega)).eq
  have t3 : ∀ x y, ((H.set 1 x).set 2 y)[1]? = some x := fun x y => (At.ne (At.self b1.lt) (by omega)).eq
  have t4 : ∀ x y, ((H.set 1 x).set 2 y)[2]? = some y := fun x y => (At.self (by rw [List.length_set]; exact b2.lt)).eq
  simp [a1.eq, b1.eq, b2.eq, ↓t2, ↓t3, ↓t4, frzL_share]

set_option maxHeartbeats 4000000 in
theorem r187 (a b : List Share) (hl : a.length ≤ 1000000) : runP E (dL E) 187 [.imm .none (a.map dShare), .imm .none (b.map dShare)] = some (.bool (decide (a = b))) := by
  refine runP_T c187 (by simp) ?_
  generalize hB : decide (a = b) = B
  have hBf : a ≠ b → B = false := by intro h; rw [← hB]; simp [h]
  have hBt : a = b → B = true := by intro h; rw [← hB]; simp [h]
  simp [t187, n187]
  by_cases h : a.length = b.length
  rotate_left
  · have hi : ¬ (a.length : Int) = b.length := by omega
    simp [h, hi, hBf (fun e => h (by rw [e]))]
  have hi : (a.length : Int) = b.length := by omega
  simp [h]
  obtain ⟨P, hP⟩ : ∃ P : Nat → Prop, P = fun i => ∀ (h : i < a.length) (h' : i < b.length), a[i] = b[i] := ⟨_, rfl⟩
  refine wT_all a.length P
    (fun i env hp => ∃ (x4 x5 x6 : D), env = [.imm .none (a.map dShare), .imm .none (b.map dShare), .bool false, dI i, x4, x5, x6])
    ⟨_, _, _, rfl⟩ ?_ ?_
  · rintro i env hp hi ⟨x4, x5, x6, rfl⟩ hall
    have hi' : i < b.length := by omega
    have e3 : (a[i].cause = b[i].cause ∧ a[i].vr = b[i].vr ∧ a[i].minutes = b[i].minutes) ↔ a[i] = b[i] := by
      constructor
      · rintro ⟨h1, h2, h3⟩
        cases ha : a[i]; cases hb : b[i]
        rw [ha, hb] at h1 h2 h3
        simp only [Share.mk.injEq]; exact ⟨h1, h2, h3⟩
      · intro h; rw [h]; exact ⟨rfl, rfl, rfl⟩
    by_cases k1 : a[i] = b[i]
    · have hPi : P i := by rw [hP]; exact fun _ _ => k1
      simp [hi, hi', k1, wrap_up hi (by omega), hPi]
    · have hB' := hBf (fun e => k1 (by subst e; rfl))
      simp [hi, hi', k1, hB']
      exact fun h1 h2 h3 => absurd (e3.1 ⟨h1, h2, h3⟩) k1
  · rintro env hp ⟨x4, x5, x6, rfl⟩ hall
    rw [hP] at hall
    have hab : a = b := List.ext_getElem h fun i h1 h2 => hall i h1 h1 h2
    simp [hBt hab]

theorem shares_len {p : Prob} {c : List Cause} (ok : OkP p) (C : OkC p c) (S : Small p) : (sharesL p c).length ≤ 9000 := by
  have := shr_len (m := p.vars.length) (l := stages p c) (k := 0) (b := List.replicate p.vars.length 0) (fun x hx => by
    obtain ⟨j, _, rfl⟩ := List.mem_map.1 hx
    rw [dlyL_len (withP_small ok C S) (withP_ok ok C)]; exact Nat.le_refl _)
  have c8 := C.len
  have s3 := S.vars
  have hl : (stages p c).length = c.length + 1 := by simp [stages]
  rw [hl] at this
  have h2 : (c.length + 1) * p.vars.length ≤ 9 * 1000 := Nat.mul_le_mul (by omega) (by omega)
  unfold sharesL; omega

theorem ty_cause {x : D} (h : Typed E 39 x) : ∃ c, x = dCause c ∧ True := by
  obtain ⟨ds, rfl, h1⟩ := typed_agg h rfl
  obtain ⟨hl, hf⟩ := ty_struct h1 (fs := [(0, 2), (1, 9)]) rfl
  have hl2 : ds.length = 2 := hl
  match ds, hl2 with
  | [x, y], _ =>
    obtain ⟨n, h2, _⟩ := ty_int (hf 0 _ rfl) rfl
    obtain ⟨els, h3, _, h4⟩ := ty_slice (hf 1 _ rfl) (e := 6) rfl
    simp [E, tyTab] at h2 h3
    subst h2 h3
    obtain ⟨l, rfl, _⟩ := list_of (f := dInts) (R := fun _ => True) (els := els) fun x hx => by
      obtain ⟨l, h5, _⟩ := ty_ints (typed_one (h4 x hx) rfl) rfl
      simp at h5; exact ⟨l, h5, trivial⟩
    exact ⟨⟨n, l⟩, rfl, trivial⟩
theorem ty_causes {x : D} (h : Typed E 38 x) : ∃ c : List Cause, x = .imm .none (c.map dCause) ∧ c.length ≤ 9223372036854775807 := by
  obtain ⟨els, h3, hl, he⟩ := ty_slice (e := 39) (typed_one h rfl) rfl
  simp only [List.cons.injEq, and_true] at h3
  obtain ⟨c, h4, _⟩ := list_of (f := dCause) (R := fun _ => True) (els := els) fun y hy => ty_cause (he y hy)
  subst h4
  have : Go.maxLen ≤ 9223372036854775807 := by decide
  exact ⟨c, h3, by simp at hl; omega⟩

set_option maxHeartbeats 8000000 in
theorem q196 (v : Var) (h1 : v.leaves.length ≤ 1000) (h2 : v.choices.length ≤ 1000) (h3 : ∀ c, c ∈ v.choices → c.uses.length ≤ 1000) : runP E (dL E) 196 [dVar v, dVar v] = some (.bool true) := by
  refine runP_T c196 (by simp) ?_
  have h20 := r20 v.leaves v.leaves (by omega)
  simp only [dInts, decide_true] at h20
  simp [t196, n196, h20]
  refine wT_up v.choices.length (fun i env hp => ∃ (x6 x7 x8 x9 x10 x11 x12 x13 x14 x15 : D) , env = [dVar v, dVar v, .loc 0 0, .loc 1 0, .bool false, dI i, x6, x7, x8, x9, x10, x11, x12, x13, x14, x15] ∧ At hp 0 (.cells (dVar v).cellsL) ∧ At hp 1 (.cells (dVar v).cellsL)) 0 (by omega) ⟨_, _, _, _, _, _, _, _, _, _, rfl, by simp [At], by simp [At]⟩ ?_
  rintro i env hp hi ⟨x6, x7, x8, x9, x10, x11, x12, x13, x14, x15, rfl, g0, g1⟩
  by_cases hlt : i < v.choices.length
  · obtain ⟨c, hc⟩ : ∃ c, c = v.choices[i] := ⟨_, rfl⟩
    have hu := h3 c (by rw [hc]; exact List.getElem_mem hlt)
    simp [hlt, ← hc, g0.eq, g1.eq, ↓g0.appE, ↓g1.appE]
    obtain ⟨A, hA⟩ : ∃ A, A = hp.length := ⟨_, rfl⟩
    have l0 := g0.lt
    have l1 := g1.lt
    refine wT_up c.uses.length (fun k env hq => ∃ (x9 x10 x11 x12 x13 x14 x15 : D) (y6 y7 : D), env = [dVar v, dVar v, .loc 0 0, .loc 1 0, .bool false, dI i, y6, y7, dI k, x9, x10, x11, x12, x13, x14, x15] ∧ y6 = .loc A 0 ∧ y7 = .loc (A + 1) 0 ∧ At hq 0 (.cells (dVar v).cellsL) ∧ At hq 1 (.cells (dVar v).cellsL) ∧ At hq A (.cells (dChoice c).cellsL) ∧ At hq (A + 1) (.cells (dChoice c).cellsL)) 0 (by omega)
      ⟨_, _, _, _, _, _, _, _, _, rfl, by rw [hA], by rw [hA], g0.app, g1.app, by rw [hA]; simp [At], by rw [hA]; simp [At]⟩ ?_
    rintro k env hq hk ⟨x9, x10, x11, x12, x13, x14, x15, y6, y7, rfl, rfl, rfl, k0, k1, k2, k3⟩
    have lk := k3.lt
    by_cases hkl : k < c.uses.length
    · simp [hkl, k2.eq, k3.eq, ↓k0.appE, ↓k1.appE, ↓k2.appE, ↓k3.appE, wrap_up hkl (by omega)]
      repeat apply Exists.intro
      exact ⟨by and_intros <;> rfl, rfl, rfl, k0.app, k1.app, k2.app, k3.app⟩
    · have : k = c.uses.length := by omega
      subst this
      simp [hkl, k2.eq, wrap_up hlt (by omega)]
      exact ⟨k0, k1⟩
  · have : i = v.choices.length := by omega
    subst this
    simp [hlt, g0.eq, g1.eq]

set_option maxHeartbeats 8000000 in
theorem q188 (p : Prob) (S : Small p) : runP E (dL E) 188 [dProb p, dProb p] = some (.bool true) := by
  refine runP_T c188 (by simp) ?_
  have s1 := S.cells
  have s2 := S.cap
  have s3 := S.vars
  simp [t188, n188]
  refine wT_up p.cells.length (fun i env hp => ∃ (x6 x7 x8 x9 x10 x11 x12 x13 x14 : D) , env = [dProb p, dProb p, .loc 0 0, .loc 1 0, .bool false, dI i, x6, x7, x8, x9, x10, x11, x12, x13, x14] ∧ At hp 0 (.cells (dProb p).cellsL) ∧ At hp 1 (.cells (dProb p).cellsL)) 0 (by omega) ⟨_, _, _, _, _, _, _, _, _, rfl, by simp [At], by simp [At]⟩ ?_
  rintro i env hp hi ⟨x6, x7, x8, x9, x10, x11, x12, x13, x14, rfl, g0, g1⟩
  by_cases hlt : i < p.cells.length
  · simp [hlt, g0.eq, g1.eq, ↓g0.appE, ↓g1.appE, wrap_up hlt (by omega)]
    exact ⟨g0.app, g1.app⟩
  have : i = p.cells.length := by omega
  subst this
  simp [hlt, g0.eq, g1.eq]
  refine wT_up p.capacity.length (fun i env hp => ∃ (x5 x7 x8 x9 x10 x11 x12 x13 x14 : D) , env = [dProb p, dProb p, .loc 0 0, .loc 1 0, .bool false, x5, dI i, x7, x8, x9, x10, x11, x12, x13, x14] ∧ At hp 0 (.cells (dProb p).cellsL) ∧ At hp 1 (.cells (dProb p).cellsL)) 0 (by omega) ⟨_, _, _, _, _, _, _, _, _, rfl, g0, g1⟩ ?_
  clear g0 g1 hlt hp
  rintro i env hp hi ⟨x5, x7, x8, x9, x10, x11, x12, x13, x14, rfl, g0, g1⟩
  by_cases hlt : i < p.capacity.length
  · have h20 := r20 p.capacity[i] p.capacity[i] (by have := S.rows _ (List.getElem_mem hlt); omega)
    simp only [dInts, decide_true] at h20
    simp [hlt, g0.eq, g1.eq, ↓g0.appE, ↓g1.appE, h20, wrap_up hlt (by omega)]
    exact ⟨g0.app, g1.app⟩
  have : i = p.capacity.length := by omega
  subst this
  simp [hlt, g0.eq, g1.eq]
  refine wT_up p.vars.length (fun i env hp => ∃ (x5 x6 x8 x9 x10 x11 x12 x13 x14 : D) , env = [dProb p, dProb p, .loc 0 0, .loc 1 0, .bool false, x5, x6, dI i, x8, x9, x10, x11, x12, x13, x14] ∧ At hp 0 (.cells (dProb p).cellsL) ∧ At hp 1 (.cells (dProb p).cellsL)) 0 (by omega) ⟨_, _, _, _, _, _, _, _, _, rfl, g0, g1⟩ ?_
  clear g0 g1 hlt hp
  rintro i env hp hi ⟨x5, x6, x8, x9, x10, x11, x12, x13, x14, rfl, g0, g1⟩
  by_cases hlt : i < p.vars.length
  · have a1 := S.leaves _ (List.getElem_mem hlt)
    have a2 := S.choices _ (List.getElem_mem hlt)
    have h := q196 p.vars[i] (by omega) (by omega) (fun c hc => by have := S.uses _ (List.getElem_mem hlt) c hc; omega)
    simp only [dVar, dInts] at h
    simp [hlt, g0.eq, g1.eq, ↓g0.appE, ↓g1.appE, h, wrap_up hlt (by omega)]
    exact ⟨g0.app, g1.app⟩
  have : i = p.vars.length := by omega
  subst this
  simp [hlt, g0.eq, g1.eq]

theorem appOk_rowsG {l : List D} {x : D} (h : l.length ≤ 100000) (hl : ∀ d, d ∈ l → ∃ sp els, d = .imm sp els) : appOk E 6 l [x] := by
  refine ⟨?_, ?_, ?_, ?_⟩
  · simp [maxBytes, E, tyTab]; omega
  · simp [E, tyTab]
  · rfl
  · simp only [fitsE, List.all_eq_true]
    intro d hd
    obtain ⟨sp, els, rfl⟩ := hl d hd
    rfl

def sumL (l : List Int) : Int := l.foldl (· + ·) 0
theorem sumL_app {l : List Int} {x : Int} : sumL (l ++ [x]) = sumL l + x := by simp [sumL]
theorem sumL_acc : ∀ {l : List Int} {a : Int}, l.foldl (· + ·) a = a + sumL l
  | [], a => by simp [sumL]
  | x :: l, a => by
    have h1 := sumL_acc (l := l) (a := a + x)
    have h2 := sumL_acc (l := l) (a := 0 + x)
    simp only [sumL, List.foldl_cons] at h1 h2 ⊢
    rw [h1, h2]; omega
theorem sumL_cons {l : List Int} {x : Int} : sumL (x :: l) = x + sumL l := by
  have := sumL_acc (l := l) (a := 0 + x)
  simp only [sumL, List.foldl_cons] at this ⊢
  rw [this]; omega
theorem sumL_bd : ∀ {l : List Int}, (∀ x, x ∈ l → 0 ≤ x ∧ x ≤ 4096) → 0 ≤ sumL l ∧ sumL l ≤ 4096 * l.length
  | [], _ => by simp [sumL]
  | x :: l, h => by
    have h1 := sumL_bd (l := l) fun y hy => h y (by simp [hy])
    have h2 := h x (by simp)
    rw [sumL_cons, List.length_cons]
    omega

theorem foldR_min {k : Nat} : ∀ {l : List (List Int)} {row : List Int}, k < row.length → row.getD k 0 ≤ 4096 → (∀ y, y ∈ l → y.length = row.length ∧ 0 ≤ y.getD k 0) →
    (l.foldl addR row).getD k 0 = mn (row.getD k 0 + sumL (l.map fun y => y.getD k 0)) 4096
  | [], row, h, h1, _ => by
    simp only [List.foldl_nil, List.map_nil, sumL, mn]
    split <;> omega
  | y :: l, row, h, h1, h2 => by
    obtain ⟨e1, e2⟩ := h2 y (by simp)
    have hl : (addR row y).length = row.length := addR_len e1.symm
    have hg := addR_get (x := row) (y := y) (n := k) h (by omega)
    have ih := foldR_min (k := k) (l := l) (row := addR row y) (by omega) (by rw [hg]; unfold mn; split <;> omega) (fun z hz => by
      obtain ⟨f1, f2⟩ := h2 z (by simp [hz])
      exact ⟨by omega, f2⟩)
    have hs : 0 ≤ sumL (l.map fun y => y.getD k 0) := by
      have : ∀ (m : List (List Int)), (∀ z, z ∈ m → 0 ≤ z.getD k 0) → 0 ≤ sumL (m.map fun y => y.getD k 0) := by
        intro m
        induction m with
        | nil => intro _; simp [sumL]
        | cons z m ih =>
          intro h
          rw [List.map_cons, sumL_cons]
          have := h z (by simp)
          have := ih fun w hw => h w (by simp [hw])
          omega
      exact this l fun z hz => (h2 z (by simp [hz])).2
    rw [List.foldl_cons, ih, hg, List.map_cons, sumL_cons]
    simp only [mn]
    split <;> split <;> (try split) <;> omega

set_option maxHeartbeats 16000000 in
theorem r209 (p : Prob) (c : List Cause) (m : Int) (S : Small p) (M : SmC c) : runP E (dL E) 209 [dProb p, .imm .none (c.map dCause), dI m] = some (resWith p c m) := by
  refine runP_T c209 (by simp) ?_
  have h206 := r206 p c S M
  have m1 := M.len
  simp only [dProb, dInts] at h206
  unfold resWith
  by_cases h0 : ckC p c = 0
  rotate_left
  · rw [if_neg h0]
    simp [t209, n209, h206, h0, frzL_cause, prob0]
  obtain ⟨ok, C⟩ := ckC_ok h0
  rw [if_pos h0]
  rw [h0] at h206
  by_cases hm : 0 ≤ m ∧ m ≤ c.length
  rotate_left
  · have hb : (decide (0 ≤ m) && decide (m ≤ c.length)) = false := by
      simp only [Bool.and_eq_false_iff, decide_eq_false_iff_not]; omega
    rw [if_neg hm]
    simp [t209, n209, h206, frzL_cause, prob0, r210, hb]
  rw [if_pos hm]
  obtain ⟨n, rfl⟩ : ∃ n : Nat, m = n := ⟨m.toNat, by omega⟩
  have hn : n ≤ c.length := by omega
  rw [Int.toNat_natCast]
  have s1 := S.cells
  have s2 := S.cap
  have c1 := C.len
  obtain ⟨W, hW⟩ : ∃ W : Nat → List Int, W = fun i => capW (c.drop n) i (p.capacity.getD i []) := ⟨_, rfl⟩
  have hWW : withP p c n = { p with capacity := (List.range p.capacity.length).map W } := by rw [hW]; rfl
  have hWl : ∀ i, i < p.capacity.length → (W i).length = p.cells.length := fun i hi => by
    rw [hW]; exact (capW_ok ok (dropC C (k := n)) hi).1
  have hWg : ∀ i k, i < p.capacity.length → k < p.cells.length → (W i).getD k 0 = mn ((p.capacity.getD i []).getD k 0 + sumL ((c.drop n).map fun a => (a.less.getD i []).getD k 0)) 4096 := fun i k hi hk => by
    have hr := cap_ok ok C hi
    rw [hW]
    simp only [capW]
    rw [foldR_min (by rw [hr.1]; exact hk) (okR_get hr hk).2 (fun y hy => by
      have := rows_ok ok (dropC C (k := n)) hi y hy
      exact ⟨by rw [this.1, hr.1], (okR_get this hk).1⟩), List.map_map]
    rfl
  rw [hWW]
  obtain ⟨L, hL⟩ : ∃ L : Nat → List (List Int), L = fun i => (List.range i).map W := ⟨_, rfl⟩
  have hL0 : L 0 = [] := by rw [hL]; rfl
  have hL1 : ∀ i, L (i + 1) = L i ++ [W i] := fun i => by rw [hL]; simp [List.range_succ]
  have hLl : ∀ i, (L i).length = i := fun i => by rw [hL]; simp
  have hLn : (List.range p.capacity.length).map W = L p.capacity.length := by rw [hL]
  rw [hLn]
  have hn1 : (0 : Int) ≤ n := by omega
  have hn2 : (n : Int) ≤ c.length := by omega
  simp [t209, n209, h206, frzL_cause, prob0, r210, hn2]
  refine wT_up p.capacity.length (fun i env hp => ∃ (x5 x6 x9 x10 x11 x12 x13 x14 x15 x16 x17 x18 x19 x20 : D) (sp : Spare) (els : List D), env = [dProb p, .imm .none (c.map dCause), dI n, .loc 0 0, .loc 1 0, x5, x6, .loc 2 0, dI i, x9, x10, x11, x12, x13, x14, x15, x16, x17, x18, x19, x20] ∧
    At hp 0 (.cells (dProb p).cellsL) ∧ At hp 1 (.cells [.imm .exact [], .imm .exact [], .imm .exact []]) ∧ At hp 2 (.cells [.imm .none (p.cells.map dCell), .imm sp els, .imm .none (p.vars.map dVar)]) ∧ Room 3 hp sp i 1 ∧ els.length = i ∧ (∀ hp m, frzL (frz hp (m + 3)) els = some ((L i).map dInts)) ∧ ∀ d, d ∈ els → ∃ sp els, d = .imm sp els) 0 (by omega)
    ⟨_, _, _, _, _, _, _, _, _, _, _, _, _, _, .exact, [], rfl, by simp [At], by simp [At], by simp [At], .inl rfl, rfl, fun _ _ => by rw [hL0]; rfl, fun d hd => by cases hd⟩ ?_
  rintro i env hp hi ⟨x5, x6, x9, x10, x11, x12, x13, x14, x15, x16, x17, x18, x19, x20, sp, els, rfl, g0, g1, g2, R, el, ef, em⟩
  have l2 := g2.lt
  by_cases hlt : i < p.capacity.length
  · have hrl := (cap_ok ok C hlt).1
    have hrow : p.capacity.getD i [] = p.capacity[i] := by rw [List.getD_eq_getElem?_getD, List.getElem?_eq_getElem hlt, Option.getD_some]
    rw [hrow] at hrl
    have hWi := hWl i hlt
    have hWgi := fun k hk => hWg i k hlt hk
    obtain ⟨w, hw⟩ : ∃ w, w = W i := ⟨_, rfl⟩
    rw [← hw] at hWi
    simp only [← hw] at hWgi
    obtain ⟨V, hV⟩ : ∃ V : Nat → List D, V = fun k => (w.take k).map dI := ⟨_, rfl⟩
    have hV0 : V 0 = [] := by rw [hV]; rfl
    have hV1 : ∀ k (h : k < w.length), V k ++ [.int .i64 w[k]] = V (k + 1) := fun k h => by
      rw [hV]; simp only []; rw [List.take_succ_eq_append_getElem h, List.map_append]; rfl
    have hVl : ∀ k, k ≤ w.length → (V k).length = k := fun k h => by rw [hV]; simp; omega
    have hVn : V p.cells.length = w.map dI := by rw [hV]; simp only []; rw [List.take_of_length_le (by omega)]
    have hVok : ∀ k x, appOk E 2 (V k) [x] := fun k x => by rw [hV]; exact appOk_nums (by simp; omega)
    simp [hlt, g0.eq, ↓g0.appE]
    refine wT_up p.cells.length (fun k env hq => ∃ (x5 x6 x11 x12 x13 x14 x15 x16 x17 x18 x19 x20 : D) (s2 : Spare), env = [dProb p, .imm .none (c.map dCause), dI n, .loc 0 0, .loc 1 0, x5, x6, .loc 2 0, dI i, .imm s2 (V k), dI k, x11, x12, x13, x14, x15, x16, x17, x18, x19, x20] ∧
      Room hp.length hq s2 k 1 ∧ hp.length ≤ hq.length ∧ ∀ x o, x < hp.length → At hp x o → At hq x o) 0 (by omega) ⟨_, _, _, _, _, _, _, _, _, _, _, _, .exact, by rw [hV0]; rfl, .inl rfl, Nat.le_refl _, fun x o _ h => h⟩ ?_
    rintro k env hq hk ⟨x5, x6, x11, x12, x13, x14, x15, x16, x17, x18, x19, x20, s2, rfl, R2, hle, keep⟩
    have G0 := keep 0 _ g0.lt g0
    have G1 := keep 1 _ g1.lt g1
    have G2 := keep 2 _ g2.lt g2
    by_cases hkl : k < p.cells.length
    · have hkr : k < p.capacity[i].length := by omega
      obtain ⟨x, hx⟩ : ∃ x, x = p.capacity[i][k] := ⟨_, rfl⟩
      have hx4 : 0 ≤ x ∧ x ≤ 4096 := by
        have := okR_get (cap_ok ok C hlt) hkl
        rw [hrow, List.getD_eq_getElem?_getD, List.getElem?_eq_getElem hkr, Option.getD_some] at this
        rw [hx]; exact this
      obtain ⟨xs, hxs⟩ : ∃ xs, xs = (c.drop n).map fun a => (a.less.getD i []).getD k 0 := ⟨_, rfl⟩
      have hxl : xs.length = c.length - n := by rw [hxs]; simp
      have hxb : ∀ y, y ∈ xs → 0 ≤ y ∧ y ≤ 4096 := fun y hy => by
        rw [hxs] at hy
        obtain ⟨a, ha, rfl⟩ := List.mem_map.1 hy
        exact okR_get (rows_ok ok (dropC C (k := n)) hlt _ (List.mem_map.2 ⟨a, ha, rfl⟩)) hkl
      have hwk := hWgi k hkl
      rw [← hxs, hrow] at hwk
      rw [List.getD_eq_getElem?_getD (l := p.capacity[i]), List.getElem?_eq_getElem hkr, Option.getD_some, ← hx] at hwk
      obtain ⟨T, hT⟩ : ∃ T : Nat → Int, T = fun j => x + sumL (xs.take j) := ⟨_, rfl⟩
      have hT0 : T 0 = x := by rw [hT]; simp [sumL]
      have hT1 : ∀ j (h : j < xs.length), T (j + 1) = T j + xs[j] := fun j h => by
        rw [hT]; simp only []; rw [List.take_succ_eq_append_getElem h, sumL_app]; omega
      have hTn : T xs.length = x + sumL xs := by rw [hT]; simp only []; rw [List.take_length]
      have hTb : ∀ j, 0 ≤ T j ∧ T j ≤ 1000000 := fun j => by
        have h := sumL_bd (l := xs.take j) fun y hy => hxb y (List.mem_of_mem_take hy)
        have h2 : (xs.take j).length ≤ 8 := by simp only [List.length_take]; omega
        rw [hT]; simp only []; omega
      simp [hkl, hlt, hkr, G0.eq, ↓G0.appE, ← hx]
      rw [← hT0]
      refine wT_up (c.length - n) (fun j env hz => ∃ (x5 x6 x13 x14 x15 x16 x17 x18 x19 x20 : D) (A : Nat), env = [dProb p, .imm .none (c.map dCause), dI n, .loc 0 0, .loc 1 0, x5, x6, .loc 2 0, dI i, .imm s2 (V k), dI k, dI (T j), dI A, x13, x14, x15, x16, x17, x18, x19, x20] ∧ A = n + j ∧ hz = hq) 0 (by omega) ⟨_, _, _, _, _, _, _, _, _, _, n, rfl, rfl, rfl⟩ ?_
      rintro j env hz hj ⟨x5, x6, x13, x14, x15, x16, x17, x18, x19, x20, A, rfl, hA, rfl⟩
      by_cases hjl : j < c.length - n
      · have hAc : A < c.length := by omega
        have hjx : j < xs.length := by omega
        have hai := C.rows _ (List.getElem_mem hAc)
        have hil : i < c[A].less.length := by omega
        have hrk := (C.wid _ (List.getElem_mem hAc) _ (List.getElem_mem hil)).1
        have hkk : k < c[A].less[i].length := by omega
        have hxj : c[A].less[i][k] = xs[j] := by
          have h1 : (c.drop n)[j]? = some c[A] := by rw [List.getElem?_drop, ← hA, List.getElem?_eq_getElem hAc]
          have h2 : xs[j]? = some c[A].less[i][k] := by
            rw [hxs, List.getElem?_map, h1, Option.map_some, List.getD_eq_getElem?_getD, List.getD_eq_getElem?_getD, List.getElem?_eq_getElem hil, Option.getD_some, List.getElem?_eq_getElem hkk, Option.getD_some]
          rw [List.getElem?_eq_getElem hjx, Option.some.injEq] at h2
          exact h2.symm
        have wt := wrap_i64 (n := T j + xs[j]) ⟨by have := hTb j; have := hxb _ (List.getElem_mem hjx); omega, by have := hTb j; have := hxb _ (List.getElem_mem hjx); omega⟩
        rw [← hT1 j hjx] at wt
        simp [hAc, hil, hkk, hxj, wt, ← hT1 j hjx, wrap_up hAc (by omega)]
        omega
      · have hAc : A = c.length := by omega
        have hje : T j = x + sumL xs := by rw [show j = xs.length from by omega, hTn]
        have hvk : mn (x + sumL xs) 4096 = w[k] := by
          rw [← hwk, List.getD_eq_getElem?_getD, List.getElem?_eq_getElem (by omega), Option.getD_some]
        unfold mn at hvk
        obtain ⟨h', e1, e2, e3, e4⟩ := push6 (x := .int .i64 w[k]) (id := hz.length) (hVok k _) (by simp [D.storable, D.atom, D.cellsL]) (by rw [hVl k (by omega)]; exact R2) (Nat.le_refl _)
        rw [hV1 k (by omega)] at e1
        rw [hVl k (by omega)] at e2
        have hne : ∀ x, x < hp.length → ∀ k', s2 = .tok k' → x ≠ k' := fun x hx k' hk' => by
          rcases R2 with h | ⟨k2, h1, h2, _⟩
          · rw [h] at hk'; cases hk'
          · rw [h1] at hk'; cases hk'; omega
        simp [hAc, hje, hvk, e1, wrap_up hkl (by omega)]
        repeat apply Exists.intro
        exact ⟨by and_intros <;> rfl, .inr ⟨_, rfl, by omega, e2⟩, by omega, fun y o hy g => e4 y o (keep y o hy g) (hne y hy) (by omega)⟩
    · have : k = p.cells.length := by omega
      subst this
      obtain ⟨r, hr⟩ : ∃ r : D, r = .imm s2 (V p.cells.length) := ⟨_, rfl⟩
      have hrf : ∀ hp m, frz hp (m + 3) r = some (dInts (W i)) := fun hp m => by
        rw [hr, frz_imm, hVn, frzL_dI, hw]; rfl
      have R3 : Room 3 hq sp els.length 1 := by
        rw [el]
        rcases R with h | ⟨k', h1, h2, h3⟩
        · exact .inl h
        · exact .inr ⟨k', h1, h2, keep k' _ h3.lt h3⟩
      obtain ⟨h', e1, e2, e3, e4⟩ := push9 (x := r) (id := hq.length) (appOk_rowsG (l := els) (by omega) em) (by rw [hr]; rfl) R3 (Nat.le_refl _)
      rw [el] at e2
      have hne : ∀ x, x < 3 → ∀ k', sp = .tok k' → x ≠ k' := fun x hx k' hk' => by
        rcases R with h | ⟨k2, h1, h2, _⟩
        · rw [h] at hk'; cases hk'
        · rw [h1] at hk'; cases hk'; omega
      have lq := G2.lt
      have Q0 := e4 0 _ G0 (hne 0 (by omega)) (by omega)
      have Q1 := e4 1 _ G1 (hne 1 (by omega)) (by omega)
      have Q2 := e4 2 _ G2 (hne 2 (by omega)) (by omega)
      simp only [hr] at e1
      simp [hkl, G0.eq, ↓G0.appE, G2.eq, e1, Q2.eq, wrap_up hlt (by omega)]
      refine ⟨Q0.ne (by omega), Q1.ne (by omega), _, _, At.self Q2.lt, .inr ⟨_, rfl, by omega, e2.ne (by omega)⟩, by simp [el], fun hp m => ?_, fun d hd => ?_⟩
      · rw [frzL_app, ef, ob_some, frzL_one, ← hr, hrf, ob_some, frzL_nil, ob_some, ob_some, hL1, List.map_append]; rfl
      · rcases List.mem_append.1 hd with h | h
        · exact em d h
        · simp at h; exact ⟨_, _, h⟩
  · have : i = p.capacity.length := by omega
    subst this
    have q1 : (hp.set 1 (Obj.cells [D.imm Spare.none (List.map dCell p.cells), D.imm sp els, D.imm Spare.none (List.map dVar p.vars)]))[1]? = some (Obj.cells [D.imm Spare.none (List.map dCell p.cells), D.imm sp els, D.imm Spare.none (List.map dVar p.vars)]) := List.getElem?_set_self g1.lt
    have ef2 := fun hp => ef hp 6
    simp [hlt, g0.eq, g1.eq, g2.eq, ↓q1, ef2]

set_option maxHeartbeats 4000000 in
theorem r204 (p : Prob) (S : Small p) : runP E (dL E) 204 [dProb p] = some (resDly p) := by
  refine runP_T c204 (by simp) ?_
  have h132 := r132 p S
  unfold resSolve at h132
  unfold resDly
  by_cases h0 : ck p = 0
  rotate_left
  · rw [if_neg h0] at h132 ⊢
    simp only [dProb, dInts, dCert, cert0, List.map_nil] at h132
    simp [t204, n204, h132, h0]
  rw [if_pos h0] at h132 ⊢
  have ok := ck_ok h0
  obtain ⟨w, _, _⟩ := solve_best S ok
  obtain ⟨Bs, hBs⟩ : ∃ Bs, Bs = (solveS p).best := ⟨_, rfl⟩
  have hD : dlyL p = (p.vars.zip Bs).map fun x => (x.1.choices.getD x.2.toNat ⟨0, 0, 0, []⟩).delay := by rw [hBs]; rfl
  rw [← hBs] at w
  have hbl : Bs.length = p.vars.length := w.2.2
  have hDl := dlyL_len S ok
  have s3 := S.vars
  obtain ⟨Ct, hC⟩ : ∃ Ct, Ct = certS (solveS p) := ⟨_, rfl⟩
  have hCb : Ct.best = Bs := by rw [hC, hBs]; rfl
  rw [← hC] at h132
  obtain ⟨vv, hvv⟩ : ∃ vv : List D, vv = Ct.value.map dI := ⟨_, rfl⟩
  simp only [dProb, dInts, dCert, hCb] at h132
  obtain ⟨DL, hDL⟩ : ∃ DL, DL = dlyL p := ⟨_, rfl⟩
  rw [← hDL] at hD hDl ⊢
  obtain ⟨Z, hZ⟩ : ∃ Z : Nat → List D, Z = fun i => (DL.take i).map dI := ⟨_, rfl⟩
  have hZ0 : Z 0 = [] := by rw [hZ]; rfl
  have hZ1 : ∀ i (h : i < DL.length), Z i ++ [.int .i64 DL[i]] = Z (i + 1) := fun i h => by
    rw [hZ]; simp only []; rw [List.take_succ_eq_append_getElem h, List.map_append]; rfl
  have hZl : ∀ i, i ≤ DL.length → (Z i).length = i := fun i h => by rw [hZ]; simp; omega
  have hZn : Z Bs.length = DL.map dI := by rw [hZ]; simp only []; rw [List.take_of_length_le (by omega)]
  have hZok : ∀ i x, appOk E 2 (Z i) [x] := fun i x => by rw [hZ]; exact appOk_nums (by simp; omega)
  simp [t204, n204, h132]
  refine wT_up Bs.length (fun i env hp => ∃ (x2 x3 x5 x8 x9 x10 x11 : D) (sp : Spare), env = [dProb p, .loc 0 0, x2, x3, .loc 1 0, x5, .imm sp (Z i), dI i, x8, x9, x10, x11] ∧ At hp 0 (.cells (dProb p).cellsL) ∧ At hp 1 (.cells [dInts Bs, dInts Ct.value, .imm .none (Ct.leaves.map dLeaf)]) ∧ Room 2 hp sp i 1) 0 (by omega)
    ⟨_, _, _, _, _, _, _, .exact, by rw [hZ0]; rfl, by simp [At], by simp [At], .inl rfl⟩ ?_
  rintro i env hp hi ⟨x2, x3, x5, x8, x9, x10, x11, sp, rfl, g0, g1, R⟩
  by_cases hlt : i < Bs.length
  · have hv : i < p.vars.length := by omega
    have hw := w.2.1.each i hlt hv
    unfold wi at hw
    have hd : i < DL.length := by omega
    have hn : Bs[i].toNat < p.vars[i].choices.length := by omega
    have hDi : DL[i] = (p.vars[i].choices[Bs[i].toNat]).delay := by
      simp only [hD, List.getElem_map, List.getElem_zip]
      rw [List.getD_eq_getElem?_getD, List.getElem?_eq_getElem hn, Option.getD_some]
    obtain ⟨b, hb⟩ : ∃ b : Nat, Bs[i] = b := ⟨Bs[i].toNat, by omega⟩
    have hn' : b < p.vars[i].choices.length := by omega
    have hDi' : DL[i] = (p.vars[i].choices[b]).delay := by
      rw [hDi]
      congr 2
      simp [hb]
    obtain ⟨HP, hHP⟩ : ∃ HP, HP = hp ++ [Obj.dead, Obj.dead, Obj.dead, Obj.dead, Obj.dead, Obj.dead, Obj.dead, Obj.dead, Obj.dead, Obj.dead, Obj.dead, Obj.dead, Obj.dead, Obj.dead, Obj.dead, Obj.dead, Obj.dead, Obj.dead] := ⟨_, rfl⟩
    have k0 : At HP 0 (.cells (dProb p).cellsL) := by rw [hHP]; exact g0.app
    have k1 : At HP 1 (.cells [dInts Bs, dInts Ct.value, .imm .none (Ct.leaves.map dLeaf)]) := by rw [hHP]; exact g1.app
    have R3 : Room 2 HP sp (Z i).length 1 := by
      rw [hZl i (by omega)]
      rcases R with h | ⟨k', h1, h2, h3⟩
      · exact .inl h
      · exact .inr ⟨k', h1, h2, by rw [hHP]; exact h3.app⟩
    obtain ⟨h', e1, e2, e3, e4⟩ := push6 (x := .int .i64 DL[i]) (id := hp.length + 16) (hZok i _) (by simp [D.storable, D.atom, D.cellsL]) R3 (by rw [hHP]; simp)
    rw [hZ1 i hd] at e1
    rw [hZl i (by omega)] at e2
    have hne : ∀ x, x < 2 → ∀ k', sp = .tok k' → x ≠ k' := fun x hx k' hk' => by
      rcases R with h | ⟨k2, h1, h2, _⟩
      · rw [h] at hk'; cases hk'
      · rw [h1] at hk'; cases hk'; omega
    have l1 := g1.lt
    have Q0 := e4 0 _ k0 (hne 0 (by omega)) (by omega)
    have Q1 := e4 1 _ k1 (hne 1 (by omega)) (by omega)
    rw [hDi', hHP] at e1
    simp [hlt, hb, hv, hn', g0.eq, g1.eq, ↓g0.appE, ↓g1.appE, e1, wrap_up hlt (by omega)]
    repeat apply Exists.intro
    exact ⟨by and_intros <;> rfl, Q0, Q1, .inr ⟨_, rfl, by omega, e2⟩⟩
  · have : i = Bs.length := by omega
    subst this
    simp [hlt, hZn, g1.eq]

theorem r207 (p : Prob) (c : List Cause) (k : Nat) (S : Small p) (M : SmC c) (ok : OkP p) (C : OkC p c) (hk : k ≤ c.length) : runP E (dL E) 207 [dProb p, .imm .none (c.map dCause), dI k] = some (dInts (dlyL (withP p c k))) := by
  refine runP_T c207 (by simp) ?_
  have h0 : ckC p c = 0 := by simp [ckC, ok, C]
  have h209 := r209 p c k S M
  rw [resWith, if_pos h0, if_pos ⟨by omega, by omega⟩, Int.toNat_natCast] at h209
  have h204 := r204 _ (withP_small ok C S (k := k))
  unfold resDly at h204
  rw [if_pos (by simp [ck, withP_ok ok C])] at h204
  obtain ⟨X, hX⟩ : ∃ X, X = withP p c k := ⟨_, rfl⟩
  rw [← hX] at h209 h204 ⊢
  simp only [dProb, dInts] at h209 h204
  simp [t207, n207, h209, h204, frzL_cause]

set_option maxHeartbeats 16000000 in
theorem r205 (p : Prob) (c : List Cause) (S : Small p) (M : SmC c) : runP E (dL E) 205 [dProb p, .imm .none (c.map dCause)] = some (resSh p c) := by
  refine runP_T c205 (by simp) ?_
  have h206 := r206 p c S M
  have s3 := S.vars
  unfold resSh
  simp only [dProb, dInts, dCause] at h206
  by_cases h0 : ckC p c = 0
  rotate_left
  · rw [if_neg h0]
    simp [t205, n205, h206, h0, frzL_cause]
  obtain ⟨ok, C⟩ := ckC_ok h0
  rw [if_pos h0]
  rw [h0] at h206
  obtain ⟨Z, hZ⟩ : ∃ Z, Z = List.replicate p.vars.length (0 : Int) := ⟨_, rfl⟩
  have hZ2 : List.replicate p.vars.length (D.int .i64 0) = Z.map dI := by rw [hZ]; simp
  have hmk : mksliceV E 6 (dI p.vars.length) (dI p.vars.length) = some (.imm .exact (Z.map dI)) := by
    have hmb : (p.vars.length : Int) * 9 ≤ 17592186044416 := by omega
    rw [← hZ2]
    simp [mksliceV, maxBytes, hmb]
  obtain ⟨Bf, hBf⟩ : ∃ Bf : Nat → List Int, Bf = fun k => if k = 0 then Z else dlyL (withP p c (k - 1)) := ⟨_, rfl⟩
  have hB0 : Bf 0 = Z := by rw [hBf]; rfl
  have hB1 : ∀ k, Bf (k + 1) = dlyL (withP p c k) := fun k => by rw [hBf]; simp
  have hBl : ∀ k, (Bf k).length = p.vars.length := fun k => by
    cases k with
    | zero => rw [hB0, hZ]; simp
    | succ k => rw [hB1, dlyL_len (withP_small ok C S) (withP_ok ok C)]; rfl
  have hBd : ∀ k n, n ∈ Bf k → 0 ≤ n ∧ n ≤ 1000000000 := fun k n h => by
    cases k with
    | zero => rw [hB0, hZ] at h; have := List.eq_of_mem_replicate h; omega
    | succ k => rw [hB1] at h; exact dlyL_bd (withP_ok ok C) n h
  obtain ⟨Sh, hSh⟩ : ∃ Sh : Nat → List Share, Sh = fun k => shr 0 Z ((List.range k).map fun j => Bf (j + 1)) := ⟨_, rfl⟩
  have hS0 : Sh 0 = [] := by rw [hSh]; simp [shr]
  have hS1 : ∀ k, Sh (k + 1) = Sh k ++ chg ((k : Int) - 1) 0 (Bf k) (Bf (k + 1)) := fun k => by
    rw [hSh]
    simp only [List.range_succ, List.map_append, List.map_cons, List.map_nil]
    rw [shr_app]
    simp only [shr, List.append_nil, List.length_map, List.length_range, Nat.zero_add]
    congr 2
    cases k with
    | zero => simp [hB0]
    | succ k => simp [List.range_succ]
  have hSl : ∀ k, k ≤ 9 → (Sh k).length ≤ 50000 := fun k hk => by
    have := shr_len (m := p.vars.length) (l := (List.range k).map fun j => Bf (j + 1)) (k := 0) (b := Z) (fun x hx => by
      obtain ⟨j, _, rfl⟩ := List.mem_map.1 hx
      rw [hBl]; omega)
    rw [hSh]
    simp only [List.length_map, List.length_range] at this
    have h2 : k * p.vars.length ≤ 9 * 1000 := Nat.mul_le_mul hk (by omega)
    simp only []; omega
  have hSn : sharesL p c = Sh (c.length + 1) := by
    rw [hSh]
    unfold sharesL stages
    rw [← hZ]
    congr 1
    refine List.map_congr_left fun j _ => ?_
    rw [hB1]
  rw [hSn]
  have c8 := C.len
  simp [t205, n205, h206, frzL_cause, xv_mkslice, hmk]
  refine wT_up (c.length + 1) (fun k env hp => ∃ (x3 x4 x5 x9 x10 x11 x12 x13 x14 x15 x16 : D) (sp sb : Spare), env = [dProb p, .imm .none (c.map dCause), .loc 0 0, x3, x4, x5, .imm sp ((Sh k).map dShare), .imm sb ((Bf k).map dI), dI k, x9, x10, x11, x12, x13, x14, x15, x16] ∧
    At hp 0 (.cells (dProb p).cellsL) ∧ Room 1 hp sp (Sh k).length 3) 0 (by omega) ⟨_, _, _, _, _, _, _, _, _, _, _, .exact, .exact, by rw [hS0, hB0]; rfl, by simp [At], .inl rfl⟩ ?_
  rintro k env hp hk ⟨x3, x4, x5, x9, x10, x11, x12, x13, x14, x15, x16, sp, sb, rfl, g0, R⟩
  by_cases hlt : k ≤ c.length
  · have hlt' : (k : Int) ≤ c.length := by omega
    have h207 := r207 p c k S M ok C hlt
    rw [← hB1] at h207
    obtain ⟨now, hnow⟩ : ∃ now, now = Bf (k + 1) := ⟨_, rfl⟩
    obtain ⟨bef, hbef⟩ : ∃ bef, bef = Bf k := ⟨_, rfl⟩
    have hnl : now.length = p.vars.length := by rw [hnow, hBl]
    have hbl : bef.length = p.vars.length := by rw [hbef, hBl]
    have hnb : ∀ n, n ∈ now → 0 ≤ n ∧ n ≤ 1000000000 := by rw [hnow]; exact hBd _
    have hbb : ∀ n, n ∈ bef → 0 ≤ n ∧ n ≤ 1000000000 := by rw [hbef]; exact hBd _
    rw [← hnow] at h207
    obtain ⟨UL, hUL⟩ : ∃ UL : Nat → List Share, UL = fun i => Sh k ++ chg ((k : Int) - 1) 0 (bef.take i) (now.take i) := ⟨_, rfl⟩
    have hU0 : UL 0 = Sh k := by rw [hUL]; simp [chg]
    have hU1 : ∀ i (h : i < now.length) (h' : i < bef.length), UL (i + 1) = UL i ++ (if now[i] ≠ bef[i] then [⟨(k : Int) - 1, (i : Int), now[i] - bef[i]⟩] else []) := fun i h h' => by
      rw [hUL]; simp only []
      rw [chg_step (by omega) h h', Nat.zero_add, List.append_assoc]
    have hUn : UL now.length = Sh (k + 1) := by
      rw [hUL, hS1, hnow, hbef]; simp only []
      rw [List.take_length, List.take_of_length_le (by rw [hBl, hBl]; exact Nat.le_refl _)]
    have hUb : ∀ i, (UL i).length ≤ 60000 := fun i => by
      rw [hUL]; simp only [List.length_append]
      have h1 := hSl k (by omega)
      have h2 := chg_len (cause := (k : Int) - 1) (k := 0) (bef := bef.take i) (now := now.take i)
      have h3 : (now.take i).length ≤ 6 := by simp only [List.length_take]; omega
      omega
    have wk := wrap_i64 (n := (k : Int) - 1) ⟨by omega, by omega⟩
    have wk1 := wrap_i64 (n := (k : Int) + 1) ⟨by omega, by omega⟩
    simp only [dProb, dInts, dCause] at h207
    rw [← hbef, ← hU0]
    simp [hlt, hlt', g0.eq, h207, frzL_cause]
    refine wT_up now.length (fun i env hq => ∃ (x3 x4 x5 x11 x12 x13 x14 x15 x16 : D) (s2 : Spare), env = [dProb p, .imm .none (c.map dCause), .loc 0 0, x3, x4, x5, .imm s2 ((UL i).map dShare), .imm sb (bef.map dI), dI k, dInts now, dI i, x11, x12, x13, x14, x15, x16] ∧
      At hq 0 (.cells (dProb p).cellsL) ∧ Room 1 hq s2 (UL i).length 3) 0 (by omega) ⟨_, _, _, _, _, _, _, _, _, sp, rfl, g0, by rw [hU0]; exact R⟩ ?_
    rintro i env hq hi ⟨x3, x4, x5, x11, x12, x13, x14, x15, x16, s2, rfl, q0, R2⟩
    by_cases hil : i < now.length
    · have hib : i < bef.length := by omega
      have hu := hU1 i hil hib
      by_cases hne : now[i] = bef[i]
      · rw [if_neg (by simp [hne]), List.append_nil] at hu
        simp [hil, hib, hne, ↓q0.appE, wrap_up hil (by omega)]
        repeat apply Exists.intro
        refine ⟨by and_intros <;> first | rfl | rw [hu], q0.app, ?_⟩
        rw [hu]
        rcases R2 with h | ⟨k', h1, h2, h3⟩
        · exact .inl h
        · exact .inr ⟨k', h1, h2, h3.app⟩
      · rw [if_pos hne] at hu
        have wd := wrap_i64 (n := now[i] - bef[i]) ⟨by have := hnb _ (List.getElem_mem hil); have := hbb _ (List.getElem_mem hib); omega, by have := hnb _ (List.getElem_mem hil); have := hbb _ (List.getElem_mem hib); omega⟩
        obtain ⟨HP, hHP⟩ : ∃ HP, HP = hq ++ [Obj.dead, Obj.dead, Obj.dead, Obj.dead, Obj.dead, Obj.dead, Obj.dead, Obj.dead, Obj.dead, Obj.dead, Obj.dead, Obj.dead, Obj.dead, Obj.dead, Obj.dead, Obj.dead, Obj.dead, Obj.dead, Obj.dead, Obj.dead, Obj.dead, Obj.dead, Obj.dead, Obj.dead, Obj.dead, Obj.dead] := ⟨_, rfl⟩
        have k0 : At HP 0 (.cells (dProb p).cellsL) := by rw [hHP]; exact q0.app
        have R3 : Room 1 HP s2 ((UL i).map dShare).length 3 := by
          rw [List.length_map]
          rcases R2 with h | ⟨k', h1, h2, h3⟩
          · exact .inl h
          · exact .inr ⟨k', h1, h2, by rw [hHP]; exact h3.app⟩
        obtain ⟨h', e1, e2, e3, e4⟩ := pushG (t := 36) (e := 37) (sz := 3) rfl rfl (x := dShare ⟨(k : Int) - 1, (i : Int), now[i] - bef[i]⟩) (id := hq.length + 9 + 15) (appOk_share (by have := hUb i; omega)) (by simp [D.storable, D.atom, D.cellsL]) R3 (by rw [hHP]; simp)
        have eL : (UL i).map dShare ++ [dShare ⟨(k : Int) - 1, (i : Int), now[i] - bef[i]⟩] = (UL (i + 1)).map dShare := by rw [hu]; simp
        rw [eL, hHP] at e1
        rw [List.length_map] at e2
        simp only [dShare] at e1
        have hne2 : ∀ x, x < 1 → ∀ k', s2 = .tok k' → x ≠ k' := fun x hx k' hk' => by
          rcases R2 with h | ⟨k2, h1, h2, _⟩
          · rw [h] at hk'; cases hk'
          · rw [h1] at hk'; cases hk'; omega
        have lq := q0.lt
        have Q0 := e4 0 _ k0 (hne2 0 (by omega)) (by omega)
        have hul : (UL (i + 1)).length = (UL i).length + 1 := by rw [hu]; simp
        obtain ⟨LU, hLU⟩ : ∃ LU, LU = (UL i).map dShare := ⟨_, rfl⟩
        obtain ⟨LV, hLV⟩ : ∃ LV, LV = (UL (i + 1)).map dShare := ⟨_, rfl⟩
        rw [← hLU, ← hLV] at e1
        rw [← hLU, ← hLV]
        simp [hil, hib, hne, ↓q0.appE, wk, wd, e1, wrap_up hil (by omega)]
        repeat apply Exists.intro
        exact ⟨by and_intros <;> rfl, Q0, .inr ⟨_, rfl, by omega, by rw [hul]; exact e2⟩⟩
    · have : i = now.length := by omega
      subst this
      rw [hUn] at R2
      simp [wk1, hUn]
      refine ⟨by omega, ?_⟩
      repeat apply Exists.intro
      exact ⟨by and_intros <;> first | rfl | rw [hnow], q0, R2⟩
  · have : k = c.length + 1 := by omega
    subst this
    have hnn : ¬ (c.length : Int) + 1 ≤ c.length := by omega
    simp [hnn, frzL_share]

def useE (n : Int) : Use := ⟨⟨false, 0, n⟩, 1⟩
def varE : Var := ⟨0, 0, [0], [⟨0, 0, 0, [useE 5]⟩, ⟨10, 10, 0, [useE 6]⟩]⟩
def pE : Prob := ⟨[⟨false, 0, 5⟩, ⟨false, 0, 6⟩], [[1, 2]], [varE, varE]⟩
def cE : List Cause := [⟨7, [[1, 0]]⟩]
def xE : Prob := ⟨[⟨false, 0, 5⟩, ⟨false, 0, 6⟩], [[2, 2]], [varE, varE]⟩

theorem up {k : Nat} {a : List D} {r : D} {n : Nat} (h : runP E (dC E n) k a = some r) : runP E (dL E) k a = some r := runP_mono (fun _ _ _ h => dC_dL _ _ _ h) h

abbrev dCs (c : List Cause) : D := .imm .none (c.map dCause)
abbrev dShs (c : List Share) : D := .imm .none (c.map dShare)

theorem e190 : runP E (dL E) 190 [] = some (.tup [dProb pE, dCs cE]) := up (n := 100) (by kernel_rfl)
theorem e184a : runP E (dL E) 184 [dProb pE] = some (.tup [dInts [0, 10], dI 0]) := up (n := 200) (by kernel_rfl)
theorem e184b : runP E (dL E) 184 [dProb xE] = some (.tup [dInts [0, 0], dI 0]) := up (n := 200) (by kernel_rfl)
theorem e184c : runP E (dL E) 184 [dProb ⟨[], [[]], []⟩] = some (.tup [dInts [], dI 0]) := up (n := 200) (by kernel_rfl)
theorem e183a : runP E (dL E) 183 [dProb pE, dCs cE, dI 0] = some (.tup [dProb xE, dI 0]) := up (n := 100) (by kernel_rfl)
theorem e183b : runP E (dL E) 183 [dProb pE, dCs [], dI 0] = some (.tup [dProb pE, dI 0]) := up (n := 100) (by kernel_rfl)
theorem e183c : runP E (dL E) 183 [dProb pE, dCs cE, dI (-1)] = some (.tup [dProb ⟨[], [], []⟩, dI 1]) := up (n := 100) (by kernel_rfl)
theorem e180c : runP E (dL E) 180 [dProb ⟨[], [], []⟩, dCs []] = some (.tup [dShs [], dI 270]) := up (n := 100) (by kernel_rfl)
theorem e181a : runP E (dL E) 181 [dProb pE, dCs []] = some (dI 0) := up (n := 100) (by kernel_rfl)
theorem e181b : runP E (dL E) 181 [dProb pE, dCs [⟨0, [[1]]⟩]] = some (dI 420) := up (n := 100) (by kernel_rfl)
theorem e181c : runP E (dL E) 181 [dProb pE, dCs cE] = some (dI 0) := up (n := 100) (by kernel_rfl)
theorem smallE : Small pE := ⟨by decide, by decide, by decide, by decide, by decide, by decide, by decide⟩
theorem smCE : SmC cE := ⟨by decide, by decide, by decide⟩
theorem smC0 : SmC [] := ⟨by decide, by decide, by decide⟩
theorem withE : withP pE cE 0 = xE := rfl
theorem dI_inj {a b : Int} (h : some (dI a) = some (dI b)) : a = b := by injection h with h; injection h
theorem ints_inj {a b : List Int} {x y : D} (h : some (D.tup [dInts a, x]) = some (D.tup [dInts b, y])) : a = b := by
  injection h with h; injection h with h; injection h with h _; injection h with _ h
  exact List.map_inj_right (fun _ _ h => by injection h) |>.1 h
theorem dly_of {p : Prob} {l : List Int} (S : Small p) (h : runP E (dL E) 184 [dProb p] = some (.tup [dInts l, dI 0])) (h0 : OkP p) : dlyL p = l := by
  rw [r184 p S] at h
  unfold resDly at h
  rw [if_pos (by simp [ck, h0])] at h
  exact ints_inj h
theorem e180a : runP E (dL E) 180 [dProb pE, dCs cE] = some (.tup [dShs [⟨0, 1, 10⟩], dI 0]) := by
  have h0 : ckC pE cE = 0 := dI_inj ((r181 pE cE smallE smCE).symm.trans e181c)
  obtain ⟨ok, C⟩ := ckC_ok h0
  have d0 := dly_of (by rw [← withE]; exact withP_small ok C smallE) e184b (by rw [← withE]; exact withP_ok ok C)
  have d1 := dly_of smallE e184a ok
  have w1 : withP pE cE 1 = pE := withP_all (by decide)
  rw [r180 pE cE smallE smCE, resSh, if_pos h0]
  have : sharesL pE cE = [⟨0, 1, 10⟩] := by
    have hs : stages pE cE = [[0, 0], [0, 10]] := by
      unfold stages
      rw [show cE.length + 1 = 2 from rfl]
      simp only [List.range_succ, List.range_zero, List.nil_append, List.cons_append, List.map_cons, List.map_nil, withE, w1, d0, d1]
    unfold sharesL
    rw [hs]; rfl
  rw [this]
theorem e180b : runP E (dL E) 180 [dProb pE, dCs []] = some (.tup [dShs [⟨-1, 1, 10⟩], dI 0]) := by
  have h0 : ckC pE [] = 0 := dI_inj ((r181 pE [] smallE smC0).symm.trans e181a)
  obtain ⟨ok, C⟩ := ckC_ok h0
  have d1 := dly_of smallE e184a ok
  have w1 : withP pE [] 0 = pE := withP_all (by decide)
  rw [r180 pE [] smallE smC0, resSh, if_pos h0]
  have : sharesL pE [] = [⟨-1, 1, 10⟩] := by
    have hs : stages pE [] = [[0, 10]] := by
      unfold stages
      rw [show ([] : List Cause).length + 1 = 1 from rfl]
      simp only [List.range_succ, List.range_zero, List.nil_append, List.map_cons, List.map_nil, w1, d1]
    unfold sharesL
    rw [hs]; rfl
  rw [this]
theorem e20a : runP E (dL E) 20 [dInts [0, 10], dInts [0, 10]] = some (.bool true) := up (n := 100) (by kernel_rfl)
theorem e20b : runP E (dL E) 20 [dInts [0, 0], dInts [0, 0]] = some (.bool true) := up (n := 100) (by kernel_rfl)
theorem e187a : runP E (dL E) 187 [dShs [⟨0, 1, 10⟩], dShs [⟨0, 1, 10⟩]] = some (.bool true) := up (n := 100) (by kernel_rfl)
theorem e187b : runP E (dL E) 187 [dShs [⟨-1, 1, 10⟩], dShs [⟨-1, 1, 10⟩]] = some (.bool true) := up (n := 100) (by kernel_rfl)
theorem e188 : runP E (dL E) 188 [dProb pE, dProb pE] = some (.bool true) := q188 pE smallE

set_option maxHeartbeats 16000000 in
theorem sane178' : runP E (dL E) 178 [] = some (.bool true) := by
  refine runP_T c178 (by simp) ?_
  have h1 := e190
  have h2 := e184a
  have h3 := e184b
  have h4 := e184c
  have h5 := e183a
  have h6 := e183b
  have h7 := e183c
  have h8 := e180a
  have h9 := e180b
  have h10 := e180c
  have h11 := e181a
  have h12 := e181b
  have h13 := e20a
  have h14 := e20b
  have h15 := e187a
  have h16 := e187b
  have h17 := e188
  simp only [dProb, dInts, dCause, dShare, dCs, dShs, pE, xE, cE, varE, useE, dVar, dChoice, dUse, dCell, List.map_cons, List.map_nil] at h1 h2 h3 h4 h5 h6 h7 h8 h9 h10 h11 h12 h13 h14 h15 h16 h17
  simp [t178, n178, h1, h2, h3, h4, h5, h6, h7, h8, h9, h10, h11, h12, h13, h14, h15, h16, h17, frzL_one, frzL_nil]

theorem law203 (h1 : runP E (dL E) 178 [] = some (.bool true)) (p : Prob) (c : List Cause) (hc : c.length ≤ 9223372036854775807) :
    runP E (dL E) 203 [dProb p, .imm .none (c.map dCause)] = some (.bool true) := by
  refine runP_T c203 (by simp) ?_
  have h179 := r179 p c hc
  simp only [dProb, dInts, dCause] at h179
  cases hf : fewCB p c with
  | false => simp [t203, n203, h1, h179, hf, frzL_cause]
  | true =>
  obtain ⟨S, M, c4⟩ := fewC_sm hf
  have h184 := r184 p S
  have h204 := r204 p S
  have h180 := r180 p c S M
  have h205 := r205 p c S M
  obtain ⟨l, e, h2, h20⟩ : ∃ (l : List Int) (e : Int), resDly p = .tup [dInts l, dI e] ∧ runP E (dL E) 20 [dInts l, dInts l] = some (.bool true) := by
    unfold resDly
    by_cases h : ck p = 0
    · rw [if_pos h]
      refine ⟨_, _, rfl, ?_⟩
      have := r20 (dlyL p) (dlyL p) (by have := dlyL_len S (ck_ok h); have := S.vars; omega)
      rw [this]; simp
    · rw [if_neg h]
      refine ⟨[], _, rfl, ?_⟩
      have := r20 [] [] (by simp)
      rw [this]; simp
  obtain ⟨s, e', h3, h187⟩ : ∃ (s : List Share) (e : Int), resSh p c = .tup [.imm .none (s.map dShare), dI e] ∧ runP E (dL E) 187 [.imm .none (s.map dShare), .imm .none (s.map dShare)] = some (.bool true) := by
    unfold resSh
    by_cases h : ckC p c = 0
    · rw [if_pos h]
      refine ⟨_, _, rfl, ?_⟩
      obtain ⟨ok, C⟩ := ckC_ok h
      rw [r187 _ _ (by have := shares_len ok C S; omega)]; simp
    · rw [if_neg h]
      refine ⟨[], _, rfl, ?_⟩
      have := r187 [] [] (by simp)
      rw [this]; simp
  rw [h2] at h184 h204
  rw [h3] at h180 h205
  simp only [dProb, dInts, dCause] at h184 h204 h180 h205 h20
  simp [t203, n203, h1, h179, hf, frzL_cause, frzL_share, h184, h204, h180, h205, h20, h187]

theorem causesSharesSpec : ∀ xs, TypedL E [0, 38] xs → ∃ n, runP E (dC E n) 203 xs = some (.bool true) := by
  intro xs h
  match xs, h with
  | [x, y], ⟨t1, t2, _⟩ =>
    obtain ⟨p, rfl, _⟩ := ty_prob t1
    obtain ⟨c, rfl, hc⟩ := ty_causes t2
    exact runP_ex (law203 sane178' p c hc)
  | [], h => exact h.elim
  | [_], h => exact h.2.elim
  | _ :: _ :: _ :: _, h => exact h.2.2.elim

end Dv
