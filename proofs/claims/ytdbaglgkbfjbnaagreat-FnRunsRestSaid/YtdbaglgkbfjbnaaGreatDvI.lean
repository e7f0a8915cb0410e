/- Numbers with their sign. -/
import Derived.Test.YtdbaglgkbfjbnaaGreatDvP

set_option linter.unusedVariables false
set_option linter.unusedSimpArgs false
namespace Go.Dv

theorem bneq_tt {A B : Option PV} : bE (true == true) A B = A := rfl
theorem bneq_ff {A B : Option PV} : bE (false == false) A B = A := rfl
theorem bneq_tf {A B : Option PV} : bE (true == false) A B = B := rfl
theorem bneq_ft {A B : Option PV} : bE (false == true) A B = B := rfl
def numV (z : Int) : PV := .agg [.bool (decide (z < 0)), dl (canon z.natAbs)]
def sg (q : Bool) (n : Int) : Int := if q then -n else n
def Sm (z : Int) (k : Nat) : Prop := (canon z.natAbs).length ≤ k
theorem Sm.mono {z : Int} {k k' : Nat} (h : Sm z k) (hk : k ≤ k') : Sm z k' := Nat.le_trans h hk
theorem Sm.neg {z : Int} {k : Nat} (h : Sm z k) : Sm (-z) k := by unfold Sm; rw [Int.natAbs_neg]; exact h
theorem Sm.of {z : Int} {k : Nat} (h : z.natAbs < 10 ^ k) : Sm z k := (canon_len _ _).2 h
theorem Sm.lt {z : Int} {k : Nat} (h : Sm z k) : z.natAbs < 10 ^ k := (canon_len _ _).1 h
theorem Sm.add {x y : Int} {k : Nat} (h : Sm x k) (h' : Sm y k) : Sm (x + y) (k + 1) := by
  have := h.lt
  have := h'.lt
  refine Sm.of ?_
  rw [Nat.pow_succ]
  omega

theorem f107 {m : Nat} (hm : 101 ≤ m) (q : Bool) (l : List Int) (hl : l.length < 95) (hd : Dig l) : R m 107 (.agg [.agg [.bool q, dl l]]) = some (.agg [numV (sg q (nv l))]) := by
  obtain ⟨n, rfl⟩ : ∃ n, m = n + 1 := ⟨m - 1, by omega⟩
  have hv := nv_nonneg hd
  rw [R_succ n 107 _ rfl]
  simp (disch := omega) only [St107, dn_ret, dn_call, dn_loop, dn_cont0, ite_lss, ite_leq, ite_gtr, ite_geq, ite_eql, ite_neq, ite_not, ite_seql, ite_beql, ite_bneq, ite_fld, need_leq', need_lss', need_neq0, b_true, b_false, se_var, se_lit, se_o1, se_o2, se_o3, get0, getS, pc_agg, pi_int, pb_bool, ps_str, o_not, o_len, o_fld, o_slen, o_conv, o_add, o_sub, o_mul, o_quo, o_rem, o_lss, o_leq, o_gtr, o_geq, o_eql, o_neq, o_sadd, o_seql, o_bneq, o_beql, o_mx, o_mkS, o_idx, o_snoc, o_cat, o_subl, o_upd, o_ssub, o_sidx, w64, w8, List.nil_append, List.cons_append, dl_nil, f117 (m := n) (by omega) l hl, canon_trim hd]
  by_cases h : (nv l).toNat = 0
  · have e : nv l = 0 := by omega
    rw [h, canon_zero, eq_pos (by rfl), e]
    cases q <;> rfl
  · rw [eq_neg (by
      intro h'
      have : canon (nv l).toNat = [] := List.length_eq_zero_iff.1 (by omega)
      exact h (canon_nil.1 this))]
    have e1 : (sg q (nv l)).natAbs = (nv l).toNat := by cases q <;> simp [sg] <;> omega
    have e2 : decide (sg q (nv l) < 0) = q := by cases q <;> simp [sg] <;> omega
    rw [numV, e1, e2]

theorem f71 {m : Nat} (hm : 102 ≤ m) (z : Int) (hz : Sm z 90) : R m 71 (.agg [numV z]) = some (.agg [numV (-z)]) := by
  obtain ⟨n, rfl⟩ : ∃ n, m = n + 1 := ⟨m - 1, by omega⟩
  unfold Sm at hz
  have h := f107 (m := n) (by omega) (!decide (z < 0)) (canon z.natAbs) (by omega) (canon_dig _)
  have e : sg (!decide (z < 0)) (nv (canon z.natAbs)) = -z := by
    rw [canon_nv]
    by_cases hz : z < 0
    · simp [sg, hz]; omega
    · simp [sg, hz]; omega
  rw [e] at h
  rw [R_succ n 71 _ rfl]
  simp (disch := omega) only [St71, dn_ret, dn_call, dn_loop, dn_cont0, ite_lss, ite_leq, ite_gtr, ite_geq, ite_eql, ite_neq, ite_not, ite_seql, ite_beql, ite_bneq, ite_fld, need_leq', need_lss', need_neq0, b_true, b_false, se_var, se_lit, se_o1, se_o2, se_o3, get0, getS, pc_agg, pi_int, pb_bool, ps_str, o_not, o_len, o_fld, o_slen, o_conv, o_add, o_sub, o_mul, o_quo, o_rem, o_lss, o_leq, o_gtr, o_geq, o_eql, o_neq, o_sadd, o_seql, o_bneq, o_beql, o_mx, o_mkS, o_idx, o_snoc, o_cat, o_subl, o_upd, o_ssub, o_sidx, w64, w8, List.nil_append, List.cons_append, dl_nil, numV] at h ⊢
  rw [h]
  rfl

theorem f70 {m : Nat} (hm : 103 ≤ m) (x y : Int) (hx : Sm x 89) (hy : Sm y 89) : R m 70 (.agg [numV x, numV y]) = some (.agg [numV (x + y)]) := by
  obtain ⟨n, rfl⟩ : ∃ n, m = n + 1 := ⟨m - 1, by omega⟩
  unfold Sm at hx hy
  rw [R_succ n 70 _ rfl]
  simp (disch := omega) only [St70, dn_ret, dn_call, dn_loop, dn_cont0, ite_lss, ite_leq, ite_gtr, ite_geq, ite_eql, ite_neq, ite_not, ite_seql, ite_beql, ite_bneq, ite_fld, need_leq', need_lss', need_neq0, b_true, b_false, se_var, se_lit, se_o1, se_o2, se_o3, get0, getS, pc_agg, pi_int, pb_bool, ps_str, o_not, o_len, o_fld, o_slen, o_conv, o_add, o_sub, o_mul, o_quo, o_rem, o_lss, o_leq, o_gtr, o_geq, o_eql, o_neq, o_sadd, o_seql, o_bneq, o_beql, o_mx, o_mkS, o_idx, o_snoc, o_cat, o_subl, o_upd, o_ssub, o_sidx, w64, w8, List.nil_append, List.cons_append, dl_nil, numV]
  have same : ∀ q : Bool, decide (x < 0) = q → decide (y < 0) = q → R n 106 (.agg [dl (canon x.natAbs), dl (canon y.natAbs)]) = R n 106 (.agg [dl (canon x.natAbs), dl (canon y.natAbs)]) → ∃ l, R n 106 (.agg [dl (canon x.natAbs), dl (canon y.natAbs)]) = some (.agg [dl l]) ∧ R n 107 (.agg [.agg [.bool q, dl l]]) = some (.agg [numV (x + y)]) := by
    intro q hqx hqy _
    obtain ⟨l, q1, q2, q3, q4⟩ := f106 (m := n) (by omega) (canon x.natAbs) (canon y.natAbs) (canon_dig _) (canon_dig _) (by omega) (by omega)
    refine ⟨l, q4, ?_⟩
    rw [f107 (m := n) (by omega) q l (by omega) q1, q2, canon_nv, canon_nv]
    have : sg q ((x.natAbs : Int) + (y.natAbs : Int)) = x + y := by
      cases q
      · simp at hqx hqy; simp [sg]; omega
      · simp at hqx hqy; simp [sg]; omega
    rw [this]
  have cmp := f108_111 (m := n) (by omega) 108 (.inl rfl) x.natAbs y.natAbs (by omega) (by omega)
  have sub1 : y.natAbs ≤ x.natAbs → R n 109 (.agg [dl (canon x.natAbs), dl (canon y.natAbs)]) = some (.agg [dl (canon (x.natAbs - y.natAbs))]) := by
    intro h
    rw [f109 (m := n) (by omega) _ _ (canon_dig _) (canon_dig _) (by omega) (by rw [canon_nv, canon_nv]; omega), canon_nv, canon_nv]
    have : ((x.natAbs : Int) - (y.natAbs : Int)).toNat = x.natAbs - y.natAbs := by omega
    rw [this]
  have sub2 : x.natAbs ≤ y.natAbs → R n 109 (.agg [dl (canon y.natAbs), dl (canon x.natAbs)]) = some (.agg [dl (canon (y.natAbs - x.natAbs))]) := by
    intro h
    rw [f109 (m := n) (by omega) _ _ (canon_dig _) (canon_dig _) (by omega) (by rw [canon_nv, canon_nv]; omega), canon_nv, canon_nv]
    have : ((y.natAbs : Int) - (x.natAbs : Int)).toNat = y.natAbs - x.natAbs := by omega
    rw [this]
  have tidy : ∀ (q : Bool) (k : Nat), k ≤ x.natAbs ∨ k ≤ y.natAbs → sg q k = x + y → R n 107 (.agg [.agg [.bool q, dl (canon k)]]) = some (.agg [numV (x + y)]) := by
    intro q k hk h
    have : (canon k).length ≤ 90 := by
      rcases hk with hk | hk
      · have := canon_mono hk; omega
      · have := canon_mono hk; omega
    rw [f107 (m := n) (by omega) q (canon k) (by omega) (canon_dig _), canon_nv, h]
  have same := fun q h1 h2 => same q h1 h2 rfl
  have lt1 : x.natAbs < y.natAbs → cmpI (x.natAbs : Int) (y.natAbs : Int) = -1 := by
    intro h; unfold cmpI; rw [if_pos (by omega)]
  have lt2 : ¬ x.natAbs < y.natAbs → 0 ≤ cmpI (x.natAbs : Int) (y.natAbs : Int) := by
    intro h; unfold cmpI; rw [if_neg (by omega)]
    by_cases h2 : (x.natAbs : Int) = (y.natAbs : Int)
    · rw [if_pos h2]; omega
    · rw [if_neg h2]; omega
  have fin : ∀ r : PV, (some r = some (PV.agg [numV (x + y)])) → (match some r with | some r => some (PV.agg [PV.agg [(O1.fld 0).dn ((O1.fld 0).dn r), (O1.fld 1).dn ((O1.fld 0).dn r)]]) | none => none) = some (PV.agg [PV.agg [PV.bool (decide (x + y < 0)), dl (canon (x + y).natAbs)]]) := by
    intro r h
    cases h
    rfl
  by_cases hx0 : x < 0 <;> by_cases hy0 : y < 0
  · obtain ⟨l, e1, e2⟩ := same true (by simp [hx0]) (by simp [hy0])
    simp only [hx0, hy0, decide_true, decide_false, bneq_tt, e1, dn_ret, dn_call, dn_loop, dn_cont0, ite_lss, ite_leq, ite_gtr, ite_geq, ite_eql, ite_neq, ite_not, ite_seql, ite_beql, ite_bneq, ite_fld, need_leq', need_lss', need_neq0, b_true, b_false, se_var, se_lit, se_o1, se_o2, se_o3, get0, getS, pc_agg, pi_int, pb_bool, ps_str, o_not, o_len, o_fld, o_slen, o_conv, o_add, o_sub, o_mul, o_quo, o_rem, o_lss, o_leq, o_gtr, o_geq, o_eql, o_neq, o_sadd, o_seql, o_bneq, o_beql, o_mx, o_mkS, o_idx, o_snoc, o_cat, o_subl, o_upd, o_ssub, o_sidx, w64, w8, List.nil_append, List.cons_append, dl_nil, e2]
    exact fin _ rfl
  · simp only [hx0, hy0, decide_true, decide_false, bneq_tf, cmp, dn_ret, dn_call, dn_loop, dn_cont0, ite_lss, ite_leq, ite_gtr, ite_geq, ite_eql, ite_neq, ite_not, ite_seql, ite_beql, ite_bneq, ite_fld, need_leq', need_lss', need_neq0, b_true, b_false, se_var, se_lit, se_o1, se_o2, se_o3, get0, getS, pc_agg, pi_int, pb_bool, ps_str, o_not, o_len, o_fld, o_slen, o_conv, o_add, o_sub, o_mul, o_quo, o_rem, o_lss, o_leq, o_gtr, o_geq, o_eql, o_neq, o_sadd, o_seql, o_bneq, o_beql, o_mx, o_mkS, o_idx, o_snoc, o_cat, o_subl, o_upd, o_ssub, o_sidx, w64, w8, List.nil_append, List.cons_append, dl_nil]
    by_cases h : x.natAbs < y.natAbs
    · rw [lt1 h, le_neg (by omega), sub2 (by omega)]
      simp only [dn_ret, dn_call, dn_loop, dn_cont0, ite_lss, ite_leq, ite_gtr, ite_geq, ite_eql, ite_neq, ite_not, ite_seql, ite_beql, ite_bneq, ite_fld, need_leq', need_lss', need_neq0, b_true, b_false, se_var, se_lit, se_o1, se_o2, se_o3, get0, getS, pc_agg, pi_int, pb_bool, ps_str, o_not, o_len, o_fld, o_slen, o_conv, o_add, o_sub, o_mul, o_quo, o_rem, o_lss, o_leq, o_gtr, o_geq, o_eql, o_neq, o_sadd, o_seql, o_bneq, o_beql, o_mx, o_mkS, o_idx, o_snoc, o_cat, o_subl, o_upd, o_ssub, o_sidx, w64, w8, List.nil_append, List.cons_append, dl_nil]
      rw [tidy false _ (.inr (by omega)) (by simp [sg]; omega)]
      exact fin _ rfl
    · rw [le_pos (lt2 h), sub1 (by omega)]
      simp only [dn_ret, dn_call, dn_loop, dn_cont0, ite_lss, ite_leq, ite_gtr, ite_geq, ite_eql, ite_neq, ite_not, ite_seql, ite_beql, ite_bneq, ite_fld, need_leq', need_lss', need_neq0, b_true, b_false, se_var, se_lit, se_o1, se_o2, se_o3, get0, getS, pc_agg, pi_int, pb_bool, ps_str, o_not, o_len, o_fld, o_slen, o_conv, o_add, o_sub, o_mul, o_quo, o_rem, o_lss, o_leq, o_gtr, o_geq, o_eql, o_neq, o_sadd, o_seql, o_bneq, o_beql, o_mx, o_mkS, o_idx, o_snoc, o_cat, o_subl, o_upd, o_ssub, o_sidx, w64, w8, List.nil_append, List.cons_append, dl_nil]
      rw [tidy true _ (.inl (by omega)) (by simp [sg]; omega)]
      exact fin _ rfl
  · simp only [hx0, hy0, decide_true, decide_false, bneq_ft, cmp, dn_ret, dn_call, dn_loop, dn_cont0, ite_lss, ite_leq, ite_gtr, ite_geq, ite_eql, ite_neq, ite_not, ite_seql, ite_beql, ite_bneq, ite_fld, need_leq', need_lss', need_neq0, b_true, b_false, se_var, se_lit, se_o1, se_o2, se_o3, get0, getS, pc_agg, pi_int, pb_bool, ps_str, o_not, o_len, o_fld, o_slen, o_conv, o_add, o_sub, o_mul, o_quo, o_rem, o_lss, o_leq, o_gtr, o_geq, o_eql, o_neq, o_sadd, o_seql, o_bneq, o_beql, o_mx, o_mkS, o_idx, o_snoc, o_cat, o_subl, o_upd, o_ssub, o_sidx, w64, w8, List.nil_append, List.cons_append, dl_nil]
    by_cases h : x.natAbs < y.natAbs
    · rw [lt1 h, le_neg (by omega), sub2 (by omega)]
      simp only [dn_ret, dn_call, dn_loop, dn_cont0, ite_lss, ite_leq, ite_gtr, ite_geq, ite_eql, ite_neq, ite_not, ite_seql, ite_beql, ite_bneq, ite_fld, need_leq', need_lss', need_neq0, b_true, b_false, se_var, se_lit, se_o1, se_o2, se_o3, get0, getS, pc_agg, pi_int, pb_bool, ps_str, o_not, o_len, o_fld, o_slen, o_conv, o_add, o_sub, o_mul, o_quo, o_rem, o_lss, o_leq, o_gtr, o_geq, o_eql, o_neq, o_sadd, o_seql, o_bneq, o_beql, o_mx, o_mkS, o_idx, o_snoc, o_cat, o_subl, o_upd, o_ssub, o_sidx, w64, w8, List.nil_append, List.cons_append, dl_nil]
      rw [tidy true _ (.inr (by omega)) (by simp [sg]; omega)]
      exact fin _ rfl
    · rw [le_pos (lt2 h), sub1 (by omega)]
      simp only [dn_ret, dn_call, dn_loop, dn_cont0, ite_lss, ite_leq, ite_gtr, ite_geq, ite_eql, ite_neq, ite_not, ite_seql, ite_beql, ite_bneq, ite_fld, need_leq', need_lss', need_neq0, b_true, b_false, se_var, se_lit, se_o1, se_o2, se_o3, get0, getS, pc_agg, pi_int, pb_bool, ps_str, o_not, o_len, o_fld, o_slen, o_conv, o_add, o_sub, o_mul, o_quo, o_rem, o_lss, o_leq, o_gtr, o_geq, o_eql, o_neq, o_sadd, o_seql, o_bneq, o_beql, o_mx, o_mkS, o_idx, o_snoc, o_cat, o_subl, o_upd, o_ssub, o_sidx, w64, w8, List.nil_append, List.cons_append, dl_nil]
      rw [tidy false _ (.inl (by omega)) (by simp [sg]; omega)]
      exact fin _ rfl
  · obtain ⟨l, e1, e2⟩ := same false (by simp [hx0]) (by simp [hy0])
    simp only [hx0, hy0, decide_true, decide_false, bneq_ff, e1, dn_ret, dn_call, dn_loop, dn_cont0, ite_lss, ite_leq, ite_gtr, ite_geq, ite_eql, ite_neq, ite_not, ite_seql, ite_beql, ite_bneq, ite_fld, need_leq', need_lss', need_neq0, b_true, b_false, se_var, se_lit, se_o1, se_o2, se_o3, get0, getS, pc_agg, pi_int, pb_bool, ps_str, o_not, o_len, o_fld, o_slen, o_conv, o_add, o_sub, o_mul, o_quo, o_rem, o_lss, o_leq, o_gtr, o_geq, o_eql, o_neq, o_sadd, o_seql, o_bneq, o_beql, o_mx, o_mkS, o_idx, o_snoc, o_cat, o_subl, o_upd, o_ssub, o_sidx, w64, w8, List.nil_append, List.cons_append, dl_nil, e2]
    exact fin _ rfl

/-! An integer's text is worth a number. -/
theorem digL_dig {b : List UInt8} (h : b.all isD = true) : Dig (digL b) := by
  intro d hd
  obtain ⟨c, hc, rfl⟩ := List.mem_map.1 hd
  have := (isD_iff c).1 (List.all_eq_true.1 h c (List.mem_reverse.1 hc))
  omega
def Z (s : List UInt8) : Int := sg (negL s) (nv (digL (bodyL s)))
theorem isInt_parts {s : List UInt8} (h : isIntL s = true) : 1 ≤ (bodyL s).length ∧ (bodyL s).length ≤ 40 ∧ (bodyL s).all isD = true ∧ ((bodyL s).getD 0 0 = 48 → (bodyL s).length = 1 ∧ negL s = false) := by
  unfold isIntL at h
  simp only [Bool.and_eq_true, decide_eq_true_eq, Bool.not_eq_true', Bool.and_eq_false_iff, decide_eq_false_iff_not, Bool.or_eq_false_iff] at h
  obtain ⟨⟨⟨h1, h2⟩, h3⟩, h4⟩ := h
  refine ⟨h1, h2, h3, fun h5 => ?_⟩
  rcases h4 with h4 | ⟨h4, h6⟩
  · exact absurd h5 h4
  · exact ⟨by omega, h6⟩
theorem nv_lt_pow {l : List Int} (h : Dig l) : (canon (nv l).toNat).length ≤ l.length := by
  rw [← canon_trim h]; exact trim_len l
/-- The value is not nought unless the text is "0". -/
theorem body_pos {s : List UInt8} (h : isIntL s = true) (h0 : (bodyL s).getD 0 0 ≠ 48) : 0 < nv (digL (bodyL s)) := by
  obtain ⟨h1, h2, h3, h4⟩ := isInt_parts h
  cases e : bodyL s with
  | nil => rw [e] at h1; simp at h1
  | cons c b =>
    rw [e] at h0 h3
    have hd := digL_dig h3
    have : digL (c :: b) = digL b ++ [((c.toNat : Int) - 48)] := by simp [digL]
    rw [this] at hd ⊢
    have hc := (isD_iff c).1 (by simp at h3; exact h3.1)
    refine nv_pos hd ?_
    intro e
    exact h0 (UInt8.toNat_inj.1 (show c.toNat = 48 by omega))
theorem body_zero {s : List UInt8} (h : isIntL s = true) (h0 : (bodyL s).getD 0 0 = 48) : bodyL s = [48] ∧ negL s = false := by
  obtain ⟨h1, h2, h3, h4⟩ := isInt_parts h
  obtain ⟨h5, h6⟩ := h4 h0
  cases e : bodyL s with
  | nil => rw [e] at h1; simp at h1
  | cons c b =>
    rw [e] at h0 h5
    have : b = [] := List.length_eq_zero_iff.1 (by simpa using h5)
    subst this
    have : c = 48 := h0
    exact ⟨by rw [this], h6⟩
theorem Z_neg {s : List UInt8} (h : isIntL s = true) : decide (Z s < 0) = negL s := by
  unfold Z sg
  by_cases h0 : (bodyL s).getD 0 0 = 48
  · obtain ⟨e1, e2⟩ := body_zero h h0
    rw [e1, e2]; rfl
  · have := body_pos h h0
    cases negL s <;> simp <;> omega
theorem Z_abs {s : List UInt8} (h : isIntL s = true) : (Z s).natAbs = (nv (digL (bodyL s))).toNat := by
  have := nv_nonneg (digL_dig (isInt_parts h).2.2.1)
  unfold Z sg
  cases negL s <;> simp <;> omega
theorem Z_dig {s : List UInt8} (h : isIntL s = true) : trim (digL (bodyL s)) = canon (Z s).natAbs := by
  rw [canon_trim (digL_dig (isInt_parts h).2.2.1), Z_abs h]
theorem Z_Sm {s : List UInt8} (h : isIntL s = true) : Sm (Z s) 40 := by
  unfold Sm
  rw [Z_abs h]
  have := nv_lt_pow (digL_dig (isInt_parts h).2.2.1)
  rw [digL_len] at this
  have := (isInt_parts h).2.1
  omega
theorem numP_Z {s : List UInt8} (h : isIntL s = true) : numP (negL s) (trim (digL (bodyL s))) = .agg [numV (Z s), .bool true] := by
  rw [Z_dig h, ← Z_neg h]; rfl

theorem f69 {m : Nat} (hm : 103 ≤ m) (a b : List UInt8) (ha : isIntL a = true) (hb : isIntL b = true) : R m 69 (.agg [.str a, .str b]) = some (.agg [numV (Z a), numV (Z b), .bool true]) := by
  obtain ⟨n, rfl⟩ : ∃ n, m = n + 1 := ⟨m - 1, by omega⟩
  rw [R_succ n 69 _ rfl]
  simp only [St69, dn_ret, dn_call, dn_loop, dn_cont0, ite_lss, ite_leq, ite_gtr, ite_geq, ite_eql, ite_neq, ite_not, ite_seql, ite_beql, ite_bneq, ite_fld, need_leq', need_lss', need_neq0, b_true, b_false, se_var, se_lit, se_o1, se_o2, se_o3, get0, getS, pc_agg, pi_int, pb_bool, ps_str, o_not, o_len, o_fld, o_slen, o_conv, o_add, o_sub, o_mul, o_quo, o_rem, o_lss, o_leq, o_gtr, o_geq, o_eql, o_neq, o_sadd, o_seql, o_bneq, o_beql, o_mx, o_mkS, o_idx, o_snoc, o_cat, o_subl, o_upd, o_ssub, o_sidx, w64, w8, List.nil_append, List.cons_append, dl_nil, f77 (m := n) (by omega), if_pos ha, if_pos hb, numP_Z ha, numP_Z hb]
  rfl
theorem f69' {m : Nat} (hm : 103 ≤ m) (a b : List UInt8) (h : ¬ (isIntL a = true ∧ isIntL b = true)) : ∃ p q, R m 69 (.agg [.str a, .str b]) = some (.agg [p, q, .bool false]) := by
  obtain ⟨n, rfl⟩ : ∃ n, m = n + 1 := ⟨m - 1, by omega⟩
  rw [R_succ n 69 _ rfl]
  simp only [St69, dn_ret, dn_call, dn_loop, dn_cont0, ite_lss, ite_leq, ite_gtr, ite_geq, ite_eql, ite_neq, ite_not, ite_seql, ite_beql, ite_bneq, ite_fld, need_leq', need_lss', need_neq0, b_true, b_false, se_var, se_lit, se_o1, se_o2, se_o3, get0, getS, pc_agg, pi_int, pb_bool, ps_str, o_not, o_len, o_fld, o_slen, o_conv, o_add, o_sub, o_mul, o_quo, o_rem, o_lss, o_leq, o_gtr, o_geq, o_eql, o_neq, o_sadd, o_seql, o_bneq, o_beql, o_mx, o_mkS, o_idx, o_snoc, o_cat, o_subl, o_upd, o_ssub, o_sidx, w64, w8, List.nil_append, List.cons_append, dl_nil, f77 (m := n) (by omega)]
  cases ha : isIntL a with
  | false =>
    rw [if_neg (by simp)]
    refine ⟨PV.agg [(O1.fld 0).dn ((O1.fld 0).dn failP), (O1.fld 1).dn ((O1.fld 0).dn failP)], (fun t : PV => PV.agg [(O1.fld 0).dn ((O1.fld 0).dn t), (O1.fld 1).dn ((O1.fld 0).dn t)]) (if isIntL b = true then numP (negL b) (trim (digL (bodyL b))) else failP), ?_⟩
    rfl
  | true =>
    rw [if_pos rfl]
    cases hb : isIntL b with
    | true => exact absurd ⟨ha, hb⟩ h
    | false =>
      rw [if_neg (by simp)]
      refine ⟨PV.agg [(O1.fld 0).dn ((O1.fld 0).dn (numP (negL a) (trim (digL (bodyL a))))), (O1.fld 1).dn ((O1.fld 0).dn (numP (negL a) (trim (digL (bodyL a)))))], (fun t : PV => PV.agg [(O1.fld 0).dn ((O1.fld 0).dn t), (O1.fld 1).dn ((O1.fld 0).dn t)]) failP, ?_⟩
      rfl
end Go.Dv

/- A number's text. -/
set_option linter.unusedVariables false
set_option linter.unusedSimpArgs false
namespace Go.Dv

def bl (l : List UInt8) : PV := .list 1 false (l.map fun c => .int .u8 c.toNat)
theorem bl_nil : PV.list 1 false [] = bl [] := rfl
theorem ob_len (l : List UInt8) : O1.len.dn (bl l) = .int .i64 l.length := by simp [O1.dn, bl, PV.l]
theorem u8_of {x : Int} (h1 : 0 ≤ x) (h2 : x < 256) : ((UInt8.ofNat x.toNat).toNat : Int) = x := by
  rw [UInt8.toNat_ofNat', Nat.mod_eq_of_lt (by omega)]
  omega
theorem ob_snoc (l : List UInt8) (x : Int) (h1 : 0 ≤ x) (h2 : x < 256) : O2.snoc.dn (bl l) (.int .u8 x) = bl (l ++ [UInt8.ofNat x.toNat]) := by
  simp only [O2.dn, bl, List.map_append, List.map_cons, List.map_nil, u8_of h1 h2]
theorem ob_toS (l : List UInt8) : O1.toS.dn (bl l) = .str l := by
  simp only [O1.dn, bl, PV.l, bytesOfL, List.map_map]
  congr 1
  conv => rhs; rw [← List.map_id l]
  apply List.map_congr_left
  intro c _
  show UInt8.ofNat ((c.toNat : Int)).toNat = c
  rw [Int.toNat_natCast]
  exact UInt8.ofNat_toNat
theorem ob_okB {n : Nat} {G : FuncId → PV → Option PV} {L : List (PV → Option PV)} {env : List PV} {x : SE} {a : Tree} (l : List UInt8) (h : x.dn env = bl l) : (Tree.need (.o1 .okB x) a).dn n G L env = a.dn n G L env := by
  rw [dn_need (q := true)]
  · rfl
  · rw [se_o1, h]
    simp only [O1.dn, bl, PV.l]
    congr 1
    rw [List.all_eq_true]
    intro x hx
    obtain ⟨c, _, rfl⟩ := List.mem_map.1 hx
    have := u8_lt c
    show (decide (0 ≤ (c.toNat : Int)) && decide ((c.toNat : Int) < 256)) = true
    rw [decide_eq_true (by omega), decide_eq_true (by omega)]
    rfl
def chr (d : Int) : UInt8 := UInt8.ofNat (48 + d).toNat
def digT (n : Nat) : List UInt8 := if n = 0 then [48] else (canon n).reverse.map chr
def textZ (z : Int) : List UInt8 := (if z < 0 then [45] else []) ++ digT z.natAbs

theorem loop75 (B : Tree) (hB : B = St75b0 ∨ B = St75b1) (n : Nat) (G : FuncId → PV → Option PV) (q : PV) (l : List Int) (hl : l.length ≤ 40) (hd : Dig l) :
    ∀ (k j : Nat) (acc : List UInt8), j ≤ l.length → j < k → acc.length + j ≤ 41 → 0 < acc.length + j →
        rounds (fun self v => B.dn n G [self] [.agg [.agg [q, dl l]], v]) k (.agg [.int .i64 ((j : Int) - 1), bl acc]) = some (.agg [.str (acc ++ (l.take j).reverse.map chr), .bool true]) := by
  intro k
  induction k with
  | zero => intro j acc h1 h2; omega
  | succ k ih =>
    intro j acc h1 h2 h3 h4
    simp only [rounds_s]
    cases j with
    | zero =>
      generalize rounds _ k = self
      have h5 : (0 : Int) < acc.length := by omega
      rcases hB with rfl | rfl <;> (
        simp (disch := omega) only [St75b0, St75b1, dn_ret, dn_call, dn_loop, dn_cont0, ite_lss, ite_leq, ite_gtr, ite_geq, ite_eql, ite_neq, ite_not, ite_seql, ite_beql, ite_bneq, ite_fld, need_leq', need_lss', need_neq0, b_true, b_false, se_var, se_lit, se_o1, se_o2, se_o3, get0, getS, pc_agg, pi_int, pb_bool, ps_str, o_not, o_len, o_fld, o_slen, o_conv, o_add, o_sub, o_mul, o_quo, o_rem, o_lss, o_leq, o_gtr, o_geq, o_eql, o_neq, o_sadd, o_seql, o_bneq, o_beql, o_mx, o_mkS, o_idx, o_snoc, o_cat, o_subl, o_upd, o_ssub, o_sidx, w64, w8, List.nil_append, List.cons_append, bl_nil, ob_len, ob_toS]
        rw [le_neg (by omega), le_pos (by omega), lt_pos h5, ob_okB acc rfl]
        simp only [dn_ret, dn_call, dn_loop, dn_cont0, ite_lss, ite_leq, ite_gtr, ite_geq, ite_eql, ite_neq, ite_not, ite_seql, ite_beql, ite_bneq, ite_fld, need_leq', need_lss', need_neq0, b_true, b_false, se_var, se_lit, se_o1, se_o2, se_o3, get0, getS, pc_agg, pi_int, pb_bool, ps_str, o_not, o_len, o_fld, o_slen, o_conv, o_add, o_sub, o_mul, o_quo, o_rem, o_lss, o_leq, o_gtr, o_geq, o_eql, o_neq, o_sadd, o_seql, o_bneq, o_beql, o_mx, o_mkS, o_idx, o_snoc, o_cat, o_subl, o_upd, o_ssub, o_sidx, w64, w8, List.nil_append, List.cons_append, bl_nil, ob_toS]
        simp)
    | succ j =>
      have gd := hd.get (i := j)
      have ih2 := ih j (acc ++ [chr (l.getD j 0)]) (by omega) (by omega) (by simp; omega) (by simp; omega)
      clear ih
      have e1 : ((j + 1 : Nat) : Int) - 1 = j := by omega
      have e2 := takeI (l := l) (j := j) (by omega)
      have e3 : acc ++ (l.take (j + 1)).reverse.map chr = acc ++ [chr (l.getD j 0)] ++ (l.take j).reverse.map chr := by rw [e2]; simp
      rw [e1, e3]
      have hlen : (acc ++ [chr (l.getD j 0)]).length = acc.length + 1 := by simp
      have hch : UInt8.ofNat (48 + l.getD j 0).toNat = chr (l.getD j 0) := rfl
      generalize rounds _ k = self at ih2 ⊢
      rcases hB with rfl | rfl <;> (
        simp (disch := omega) only [St75b0, St75b1, dn_ret, dn_call, dn_loop, dn_cont0, ite_lss, ite_leq, ite_gtr, ite_geq, ite_eql, ite_neq, ite_not, ite_seql, ite_beql, ite_bneq, ite_fld, need_leq', need_lss', need_neq0, b_true, b_false, se_var, se_lit, se_o1, se_o2, se_o3, get0, getS, pc_agg, pi_int, pb_bool, ps_str, o_not, o_len, o_fld, o_slen, o_conv, o_add, o_sub, o_mul, o_quo, o_rem, o_lss, o_leq, o_gtr, o_geq, o_eql, o_neq, o_sadd, o_seql, o_bneq, o_beql, o_mx, o_mkS, o_idx, o_snoc, o_cat, o_subl, o_upd, o_ssub, o_sidx, w64, w8, List.nil_append, List.cons_append, bl_nil, ob_len, ob_toS, ob_snoc, Int.toNat_natCast, hch]
        rw [le_pos (by omega), le_pos (by omega), lt_pos (by omega), le_pos (by omega)]
        exact ih2)

theorem f75 {m : Nat} (hm : 100 ≤ m) (z : Int) (hz : Sm z 90) : R m 75 (.agg [numV z]) = some (if (canon z.natAbs).length ≤ 40 then .agg [.str (textZ z), .bool true] else .agg [.str [], .bool false]) := by
  obtain ⟨n, rfl⟩ : ∃ n, m = n + 1 := ⟨m - 1, by omega⟩
  unfold Sm at hz
  rw [R_succ n 75 _ rfl]
  by_cases h1 : (canon z.natAbs).length ≤ 40
  · rw [if_pos h1]
    have l0 := fun acc hl => loop75 St75b0 (.inl rfl) (n + 1) (R n) (.bool (decide (z < 0))) (canon z.natAbs) h1 (canon_dig _) (n + 1) (canon z.natAbs).length acc (Nat.le_refl _) (by omega) hl
    have l1 := fun acc hl => loop75 St75b1 (.inr rfl) (n + 1) (R n) (.bool (decide (z < 0))) (canon z.natAbs) h1 (canon_dig _) (n + 1) (canon z.natAbs).length acc (Nat.le_refl _) (by omega) hl
    simp (disch := omega) only [St75, dn_ret, dn_call, dn_loop, dn_cont0, ite_lss, ite_leq, ite_gtr, ite_geq, ite_eql, ite_neq, ite_not, ite_seql, ite_beql, ite_bneq, ite_fld, need_leq', need_lss', need_neq0, b_true, b_false, se_var, se_lit, se_o1, se_o2, se_o3, get0, getS, pc_agg, pi_int, pb_bool, ps_str, o_not, o_len, o_fld, o_slen, o_conv, o_add, o_sub, o_mul, o_quo, o_rem, o_lss, o_leq, o_gtr, o_geq, o_eql, o_neq, o_sadd, o_seql, o_bneq, o_beql, o_mx, o_mkS, o_idx, o_snoc, o_cat, o_subl, o_upd, o_ssub, o_sidx, w64, w8, List.nil_append, List.cons_append, bl_nil, numV]
    rw [lt_neg (by omega)]
    have e45 : O2.snoc.dn (bl []) (.int .u8 45) = bl [45] := rfl
    rw [e45]
    simp only [ob_len]
    by_cases h2 : z.natAbs = 0
    · rw [h2, canon_zero, eq_pos (by rfl)]
      have : z = 0 := by omega
      subst this
      rfl
    · rw [eq_neg (by
        intro h
        have : canon z.natAbs = [] := List.length_eq_zero_iff.1 (by omega)
        exact h2 (canon_nil.1 this))]
      have hp : 0 < (canon z.natAbs).length := by
        cases e : canon z.natAbs with
        | nil => exact absurd (canon_nil.1 e) h2
        | cons a l => simp
      have hT : textZ z = (if z < 0 then [45] else []) ++ (canon z.natAbs).reverse.map chr := by unfold textZ digT; rw [if_neg h2]
      rw [hT]
      by_cases h3 : z < 0
      · have e := l0 [45] (by rw [List.length_singleton]; omega) (by rw [List.length_singleton]; omega)
        rw [List.take_length] at e
        simp only [h3, decide_true, if_true] at e ⊢
        rw [le_pos (by simp [PV.i])]
        exact e
      · have e := l1 [] (by rw [List.length_nil]; omega) (by rw [List.length_nil]; omega)
        rw [List.take_length] at e
        simp only [h3, decide_false, if_false] at e ⊢
        exact e
  · rw [if_neg h1]
    simp (disch := omega) only [St75, dn_ret, dn_call, dn_loop, dn_cont0, ite_lss, ite_leq, ite_gtr, ite_geq, ite_eql, ite_neq, ite_not, ite_seql, ite_beql, ite_bneq, ite_fld, need_leq', need_lss', need_neq0, b_true, b_false, se_var, se_lit, se_o1, se_o2, se_o3, get0, getS, pc_agg, pi_int, pb_bool, ps_str, o_not, o_len, o_fld, o_slen, o_conv, o_add, o_sub, o_mul, o_quo, o_rem, o_lss, o_leq, o_gtr, o_geq, o_eql, o_neq, o_sadd, o_seql, o_bneq, o_beql, o_mx, o_mkS, o_idx, o_snoc, o_cat, o_subl, o_upd, o_ssub, o_sidx, w64, w8, List.nil_append, List.cons_append, bl_nil, numV]
    rw [lt_pos (by omega)]

/-! The reference's. -/
theorem le_len {l : List UInt8} (h : l.length ≤ 91) : (l.length : Int) ≤ 16777216 := by omega
theorem loop120 (n : Nat) (G : FuncId → PV → Option PV) (a : PV) (q : Bool) (l : List Int) (hl : l.length ≤ 90) (hd : Dig l) :
    ∀ (k j : Nat), j ≤ l.length → 91 ≤ k + j →
        rounds (fun self v => St120b0.dn n G [self] [.agg [a, .bool q], .agg [dl l], v]) k (.agg [.str ((l.take j).reverse.map chr), .int .i64 j]) = some (.agg [.str ((if q then [45] else []) ++ l.reverse.map chr)]) := by
  intro k
  induction k with
  | zero => intro j h1 h2; omega
  | succ k ih =>
    intro j h1 h2
    simp only [rounds_s]
    by_cases h : j < l.length
    · have gd := hd.get (i := j)
      have ih2 := ih (j + 1) (by omega) (by omega)
      clear ih
      have e2 := takeI (l := l) (j := j) (by omega)
      have e3 : (l.take (j + 1)).reverse.map chr = [chr (l.getD j 0)] ++ (l.take j).reverse.map chr := by rw [e2]; simp
      have hch : UInt8.ofNat (48 + l.getD j 0).toNat = chr (l.getD j 0) := rfl
      rw [List.singleton_append] at e3
      have hlen : (chr (l.getD j 0) :: (l.take j).reverse.map chr).length ≤ 91 := by
        rw [List.length_cons, List.length_map, List.length_reverse, List.length_take]; omega
      rw [e3, Int.natCast_add, Int.natCast_one] at ih2
      generalize rounds _ k = self at ih2 ⊢
      simp (disch := omega) only [St120b0, dn_ret, dn_call, dn_loop, dn_cont0, ite_lss, ite_leq, ite_gtr, ite_geq, ite_eql, ite_neq, ite_not, ite_seql, ite_beql, ite_bneq, ite_fld, need_leq', need_lss', need_neq0, b_true, b_false, se_var, se_lit, se_o1, se_o2, se_o3, get0, getS, pc_agg, pi_int, pb_bool, ps_str, o_not, o_len, o_fld, o_slen, o_conv, o_add, o_sub, o_mul, o_quo, o_rem, o_lss, o_leq, o_gtr, o_geq, o_eql, o_neq, o_sadd, o_seql, o_bneq, o_beql, o_mx, o_mkS, o_idx, o_snoc, o_cat, o_subl, o_upd, o_ssub, o_sidx, w64, w8, List.nil_append, List.cons_append, bl_nil, ob_len, ob_toS, ob_snoc, Int.toNat_natCast, hch]
      rw [lt_pos (by omega), le_pos (by omega), le_pos (le_len hlen)]
      exact ih2
    · clear ih
      have e : l.take j = l := List.take_of_length_le (by omega)
      rw [e]
      generalize rounds _ k = self
      simp (disch := omega) only [St120b0, dn_ret, dn_call, dn_loop, dn_cont0, ite_lss, ite_leq, ite_gtr, ite_geq, ite_eql, ite_neq, ite_not, ite_seql, ite_beql, ite_bneq, ite_fld, need_leq', need_lss', need_neq0, b_true, b_false, se_var, se_lit, se_o1, se_o2, se_o3, get0, getS, pc_agg, pi_int, pb_bool, ps_str, o_not, o_len, o_fld, o_slen, o_conv, o_add, o_sub, o_mul, o_quo, o_rem, o_lss, o_leq, o_gtr, o_geq, o_eql, o_neq, o_sadd, o_seql, o_bneq, o_beql, o_mx, o_mkS, o_idx, o_snoc, o_cat, o_subl, o_upd, o_ssub, o_sidx, w64, w8, List.nil_append, List.cons_append, bl_nil]
      rw [lt_neg (by omega)]
      cases q
      · rfl
      · simp only [b_true]
        have hlen : (45 :: l.reverse.map chr).length ≤ 91 := by
          rw [List.length_cons, List.length_map, List.length_reverse]; omega
        rw [le_pos (le_len hlen)]
        rfl

theorem f120 {m : Nat} (hm : 101 ≤ m) (x : Nat) (q : Bool) (hx : (canon x).length ≤ 90) : R m 120 (.agg [dl (canon x), .bool q]) = some (.agg [.str (if x = 0 then [48] else (if q then [45] else []) ++ digT x)]) := by
  obtain ⟨n, rfl⟩ : ∃ n, m = n + 1 := ⟨m - 1, by omega⟩
  rw [R_succ n 120 _ rfl]
  simp (disch := omega) only [St120, dn_ret, dn_call, dn_loop, dn_cont0, ite_lss, ite_leq, ite_gtr, ite_geq, ite_eql, ite_neq, ite_not, ite_seql, ite_beql, ite_bneq, ite_fld, need_leq', need_lss', need_neq0, b_true, b_false, se_var, se_lit, se_o1, se_o2, se_o3, get0, getS, pc_agg, pi_int, pb_bool, ps_str, o_not, o_len, o_fld, o_slen, o_conv, o_add, o_sub, o_mul, o_quo, o_rem, o_lss, o_leq, o_gtr, o_geq, o_eql, o_neq, o_sadd, o_seql, o_bneq, o_beql, o_mx, o_mkS, o_idx, o_snoc, o_cat, o_subl, o_upd, o_ssub, o_sidx, w64, w8, List.nil_append, List.cons_append, dl_nil, f155 (m := n) (by omega) (canon x) (by omega), trim_canon]
  by_cases h : x = 0
  · rw [if_pos h, h, canon_zero, eq_pos (by rfl)]
  · rw [if_neg h, eq_neg (by
      intro h'
      have : canon x = [] := List.length_eq_zero_iff.1 (by omega)
      exact h (canon_nil.1 this))]
    have e := loop120 (n + 1) (R n) (dl (canon x)) q (canon x) hx (canon_dig _) (n + 1) 0 (by omega) (by omega)
    rw [List.take_zero, List.reverse_nil, List.map_nil, Int.natCast_zero] at e
    unfold digT
    rw [if_neg h]
    exact e
theorem f114 {m : Nat} (hm : 102 ≤ m) (x : Nat) (q : Bool) (hx : (canon x).length ≤ 90) : R m 114 (.agg [dl (canon x), .bool q]) = some (if (canon x).length ≤ 40 then .agg [.str (if x = 0 then [48] else (if q then [45] else []) ++ digT x), .bool true] else .agg [.str [], .bool false]) := by
  obtain ⟨n, rfl⟩ : ∃ n, m = n + 1 := ⟨m - 1, by omega⟩
  rw [R_succ n 114 _ rfl]
  simp (disch := omega) only [St114, dn_ret, dn_call, dn_loop, dn_cont0, ite_lss, ite_leq, ite_gtr, ite_geq, ite_eql, ite_neq, ite_not, ite_seql, ite_beql, ite_bneq, ite_fld, need_leq', need_lss', need_neq0, b_true, b_false, se_var, se_lit, se_o1, se_o2, se_o3, get0, getS, pc_agg, pi_int, pb_bool, ps_str, o_not, o_len, o_fld, o_slen, o_conv, o_add, o_sub, o_mul, o_quo, o_rem, o_lss, o_leq, o_gtr, o_geq, o_eql, o_neq, o_sadd, o_seql, o_bneq, o_beql, o_mx, o_mkS, o_idx, o_snoc, o_cat, o_subl, o_upd, o_ssub, o_sidx, w64, w8, List.nil_append, List.cons_append, dl_nil, f155 (m := n) (by omega) (canon x) (by omega), trim_canon, f120 (m := n) (by omega) x q hx]
  by_cases h : (canon x).length ≤ 40
  · rw [lt_neg (by omega), if_pos h]
  · rw [lt_pos (by omega), if_neg h]
end Go.Dv

/- The reference's integers: digits of a text, sums, comparisons. -/
set_option linter.unusedVariables false
set_option linter.unusedSimpArgs false
namespace Go.Dv

def digV (z : Int) : PV := .agg [dl (canon z.natAbs), .bool (decide (z < 0))]

theorem loop110 (n : Nat) (hn : 100 ≤ n) (q : Bool) (s b : List UInt8) (hs : s = (if q then [45] else []) ++ b) (hb : b.length ≤ 90) (hd : b.all isD = true) (hb1 : 1 ≤ b.length) :
    ∀ (k j : Nat) (acc : List Int), j ≤ b.length → j < k → acc.length + j ≤ 90 → rounds (fun self v => St110b0.dn (n + 1) (R n) [self] [.agg [.str s], v]) k (.agg [.int .i64 ((j : Int) - 1 + (if q then 1 else 0)), dl acc]) =
      some (.agg [dl (trim (acc ++ digL (b.take j))), .bool q]) := by
  have h0 : decide (((s.getD 0 0).toNat : Int) = 45) = q := by
    cases q
    · have : s = b := by simpa using hs
      rw [this]
      cases b with
      | nil => simp at hb1
      | cons c b =>
        have := (isD_iff c).1 (by simp at hd; exact hd.1)
        simp
        omega
    · have : s = 45 :: b := by simpa using hs
      rw [this]
      rfl
  have hg : ∀ j : Nat, s.getD (j + (if q then 1 else 0)) 0 = b.getD j 0 := by
    intro j
    cases q
    · have : s = b := by simpa using hs
      rw [this]; rfl
    · have : s = 45 :: b := by simpa using hs
      rw [this]
      simp [List.getD_eq_getElem?_getD]
  have hsl : s.length = b.length + (if q then 1 else 0) := by
    rw [hs]; cases q <;> simp [Nat.add_comm]
  intro k
  induction k with
  | zero => intro j acc h1 h2; omega
  | succ k ih =>
    intro j acc h1 h2 h3
    simp only [rounds_s]
    have ht := f155 hn acc (by omega)
    cases j with
    | zero =>
      clear ih
      generalize rounds _ k = self
      cases q
      · simp (disch := omega) only [St110b0, dn_ret, dn_call, dn_loop, dn_cont0, ite_lss, ite_leq, ite_gtr, ite_geq, ite_eql, ite_neq, ite_not, ite_seql, ite_beql, ite_bneq, ite_fld, need_leq', need_lss', need_neq0, b_true, b_false, se_var, se_lit, se_o1, se_o2, se_o3, get0, getS, pc_agg, pi_int, pb_bool, ps_str, o_not, o_len, o_fld, o_slen, o_conv, o_add, o_sub, o_mul, o_quo, o_rem, o_lss, o_leq, o_gtr, o_geq, o_eql, o_neq, o_sadd, o_seql, o_bneq, o_beql, o_mx, o_mkS, o_idx, o_snoc, o_cat, o_subl, o_upd, o_ssub, o_sidx, w64, w8, List.nil_append, List.cons_append, dl_nil, ht, if_false, Int.add_zero, Int.toNat_zero, h0]
        rw [le_neg (by simp)]
        simp [digL, trim]
      · have hq := hg 0
        have : s = 45 :: b := by simpa using hs
        simp (disch := omega) only [St110b0, dn_ret, dn_call, dn_loop, dn_cont0, ite_lss, ite_leq, ite_gtr, ite_geq, ite_eql, ite_neq, ite_not, ite_seql, ite_beql, ite_bneq, ite_fld, need_leq', need_lss', need_neq0, b_true, b_false, se_var, se_lit, se_o1, se_o2, se_o3, get0, getS, pc_agg, pi_int, pb_bool, ps_str, o_not, o_len, o_fld, o_slen, o_conv, o_add, o_sub, o_mul, o_quo, o_rem, o_lss, o_leq, o_gtr, o_geq, o_eql, o_neq, o_sadd, o_seql, o_bneq, o_beql, o_mx, o_mkS, o_idx, o_snoc, o_cat, o_subl, o_upd, o_ssub, o_sidx, w64, w8, List.nil_append, List.cons_append, dl_nil, ht, if_true, Int.toNat_zero, h0]
        rw [le_pos (by simp), le_pos (by simp), lt_pos (by simp at hsl ⊢; omega), eq_pos (by rw [this]; rfl)]
        simp [digL, trim]
    | succ j =>
      have hj := hg j
      have hc : isD (b.getD j 0) = true := by
        rw [List.getD_eq_getElem?_getD, List.getElem?_eq_getElem (show j < b.length by omega)]
        exact List.all_eq_true.1 hd _ (List.getElem_mem _)
      have hcc := (isD_iff _).1 hc
      have ih2 := ih j (acc ++ [((b.getD j 0).toNat : Int) - 48]) (by omega) (by omega) (by simp; omega)
      clear ih
      rw [digL_take b j (by omega)]
      have e1 : acc ++ (((b.getD j 0).toNat : Int) - 48) :: digL (b.take j) = acc ++ [((b.getD j 0).toNat : Int) - 48] ++ digL (b.take j) := by simp
      rw [e1]
      obtain ⟨o, ho⟩ : ∃ o : Nat, o = if q then 1 else 0 := ⟨_, rfl⟩
      have ho' : (if q = true then 1 else 0 : Int) = o := by rw [ho]; cases q <;> rfl
      have e2 : ((j + 1 : Nat) : Int) - 1 + (if q then 1 else 0) = ((j + o : Nat) : Int) := by rw [ho']; omega
      have e3 : ((j + o : Nat) : Int) - 1 = (j : Int) - 1 + (if q then 1 else 0) := by rw [ho']; omega
      rw [e2]
      rw [← ho] at hj hsl
      rw [← e3] at ih2
      generalize rounds _ k = self at ih2 ⊢
      generalize b.getD j 0 = c at hj hcc ih2
      simp (disch := omega) only [St110b0, dn_ret, dn_call, dn_loop, dn_cont0, ite_lss, ite_leq, ite_gtr, ite_geq, ite_eql, ite_neq, ite_not, ite_seql, ite_beql, ite_bneq, ite_fld, need_leq', need_lss', need_neq0, b_true, b_false, se_var, se_lit, se_o1, se_o2, se_o3, get0, getS, pc_agg, pi_int, pb_bool, ps_str, o_not, o_len, o_fld, o_slen, o_conv, o_add, o_sub, o_mul, o_quo, o_rem, o_lss, o_leq, o_gtr, o_geq, o_eql, o_neq, o_sadd, o_seql, o_bneq, o_beql, o_mx, o_mkS, o_idx, o_snoc, o_cat, o_subl, o_upd, o_ssub, o_sidx, w64, w8, List.nil_append, List.cons_append, dl_nil, Int.toNat_natCast, hj, len_snoc]
      rw [le_pos (by omega), le_pos (by omega), lt_pos (by omega), eq_neg (by omega), le_pos (by omega)]
      exact ih2

theorem f110 {m : Nat} (hm : 101 ≤ m) (q : Bool) (s b : List UInt8) (hs : s = (if q then [45] else []) ++ b) (hb : b.length ≤ 90) (hd : b.all isD = true) (hb1 : 1 ≤ b.length) :
    R m 110 (.agg [.str s]) = some (.agg [dl (canon (nv (digL b)).toNat), .bool q]) := by
  obtain ⟨n, rfl⟩ : ∃ n, m = n + 1 := ⟨m - 1, by omega⟩
  have hsl : (s.length : Int) - 1 = (b.length : Int) - 1 + (if q then 1 else 0) := by
    rw [hs]; cases q <;> simp <;> omega
  have hs1 : s.length ≤ 91 ∧ 0 < s.length := by
    rw [hs]; cases q <;> simp <;> omega
  have e := loop110 n (by omega) q s b hs hb hd hb1 (n + 1) b.length [] (Nat.le_refl _) (by omega) (by simp; omega)
  rw [List.take_length, List.nil_append, canon_trim (digL_dig hd), ← hsl] at e
  rw [R_succ n 110 _ rfl]
  simp (disch := omega) only [St110, dn_ret, dn_call, dn_loop, dn_cont0, ite_lss, ite_leq, ite_gtr, ite_geq, ite_eql, ite_neq, ite_not, ite_seql, ite_beql, ite_bneq, ite_fld, need_leq', need_lss', need_neq0, b_true, b_false, se_var, se_lit, se_o1, se_o2, se_o3, get0, getS, pc_agg, pi_int, pb_bool, ps_str, o_not, o_len, o_fld, o_slen, o_conv, o_add, o_sub, o_mul, o_quo, o_rem, o_lss, o_leq, o_gtr, o_geq, o_eql, o_neq, o_sadd, o_seql, o_bneq, o_beql, o_mx, o_mkS, o_idx, o_snoc, o_cat, o_subl, o_upd, o_ssub, o_sidx, w64, w8, List.nil_append, List.cons_append, dl_nil]
  rw [lt_pos (by omega), lt_pos (by omega)]
  exact e

theorem body_eq (s : List UInt8) : s = (if negL s then [45] else []) ++ bodyL s := by
  unfold bodyL
  cases h : negL s with
  | false => simp
  | true =>
    unfold negL at h
    cases s with
    | nil => simp at h
    | cons c s =>
      simp at h
      simp [h]
theorem f110Z {m : Nat} (hm : 101 ≤ m) {s : List UInt8} (h : isIntL s = true) : R m 110 (.agg [.str s]) = some (digV (Z s)) := by
  obtain ⟨h1, h2, h3, h4⟩ := isInt_parts h
  rw [f110 hm (negL s) s (bodyL s) (body_eq s) (by omega) h3 h1, digV, Z_neg h, Z_abs h]
theorem chr_toNat {d : Int} (h1 : 0 ≤ d) (h2 : d ≤ 9) : ((chr d).toNat : Int) = 48 + d := u8_of (by omega) (by omega)
theorem digT_ok (x : Nat) : (digT x).all isD = true ∧ nv (digL (digT x)) = x ∧ 1 ≤ (digT x).length ∧ (digT x).length ≤ (canon x).length + 1 := by
  unfold digT
  by_cases h : x = 0
  · subst h; exact ⟨rfl, rfl, by simp, by simp⟩
  · rw [if_neg h]
    have hd := canon_dig x
    have hne : 0 < (canon x).length := by
      cases e : canon x with
      | nil => exact absurd (canon_nil.1 e) h
      | cons a l => simp
    refine ⟨?_, ?_, by simp; omega, by simp⟩
    · rw [List.all_eq_true]
      intro c hc
      obtain ⟨d, hd', rfl⟩ := List.mem_map.1 hc
      have := hd d (List.mem_reverse.1 hd')
      have := chr_toNat this.1 this.2
      rw [isD_iff]
      omega
    · have : digL ((canon x).reverse.map chr) = canon x := by
        unfold digL
        rw [← List.map_reverse, List.reverse_reverse, List.map_map]
        conv => rhs; rw [← List.map_id (canon x)]
        apply List.map_congr_left
        intro d hd'
        have := hd d hd'
        have := chr_toNat this.1 this.2
        show ((chr d).toNat : Int) - 48 = d
        omega
      rw [this, canon_nv]
theorem f110T {m : Nat} (hm : 101 ≤ m) (z : Int) (h : Sm z 80) : R m 110 (.agg [.str (textZ z)]) = some (digV z) := by
  unfold Sm at h
  obtain ⟨h1, h2, h3, h4⟩ := digT_ok z.natAbs
  rw [f110 hm (decide (z < 0)) (textZ z) (digT z.natAbs) (by unfold textZ; by_cases hz : z < 0 <;> simp [hz]) (by omega) h1 h3, h2]
  rfl

theorem textZ_sg (x : Nat) (q : Bool) : (if x = 0 then [48] else (if q then [45] else []) ++ digT x) = textZ (sg q x) := by
  unfold textZ
  by_cases h : x = 0
  · subst h
    cases q <;> rfl
  · rw [if_neg h]
    have e1 : (sg q x).natAbs = x := by cases q <;> simp [sg]
    rw [e1]
    cases q
    · have : ¬ sg false x < 0 := by simp [sg]
      simp [this]
    · have : sg true x < 0 := by simp [sg]; omega
      simp [this]
/-- fitting. -/
def fitV (z : Int) : PV := if (canon z.natAbs).length ≤ 40 then .agg [.str (textZ z), .bool true] else .agg [.str [], .bool false]
theorem f114' {m : Nat} (hm : 102 ≤ m) (x : Nat) (q : Bool) (hx : (canon x).length ≤ 90) : R m 114 (.agg [dl (canon x), .bool q]) = some (fitV (sg q x)) := by
  have e1 : (sg q x).natAbs = x := by cases q <;> simp [sg]
  rw [f114 hm x q hx, textZ_sg, fitV, e1]
theorem fitV_eta (z : Int) : PV.agg [(O1.fld 0).dn (fitV z), (O1.fld 1).dn (fitV z)] = fitV z := by
  unfold fitV
  by_cases h : (canon z.natAbs).length ≤ 40
  · rw [if_pos h]; rfl
  · rw [if_neg h]; rfl
theorem f75' {m : Nat} (hm : 100 ≤ m) (z : Int) (hz : Sm z 90) : R m 75 (.agg [numV z]) = some (fitV z) := f75 hm z hz
end Go.Dv

/- What an integer is, to the reference; comparing, sums and differences. -/
set_option linter.unusedVariables false
set_option linter.unusedSimpArgs false
namespace Go.Dv

def okTail (s b : List UInt8) : Bool := decide (1 ≤ (b.length : Int)) && decide ((b.length : Int) ≤ 40) && (if ((b.getD 0 0).toNat : Int) = 48 then decide (s = [48]) else true)
theorem loop72 (B : Tree) (n : Nat) (hn : 1 ≤ n) (s b : List UInt8) (hB : B = St72b0 ∧ b = (s.take s.length).drop 1 ∨ (B = St72b1 ∨ B = St72b2) ∧ b = s) :
    ∀ (k i : Nat), i ≤ b.length → b.length < k + i → b.length < 1000000 → rounds (fun self v => B.dn (n + 1) (R n) [self] [.agg [.str s], v]) k (.agg [.int .i64 i]) =
      some (.agg [.bool ((b.drop i).all isD && okTail s b)]) := by
  intro k
  induction k with
  | zero => intro i h1 h2; omega
  | succ k ih =>
    intro i h1 h2 h3
    simp only [rounds_s]
    by_cases hi : i < b.length
    · have ih2 := ih (i + 1) (by omega) (by omega) h3
      clear ih
      have e1 : b.drop i = b.getD i 0 :: b.drop (i + 1) := by
        rw [List.drop_eq_getElem_cons hi, List.getD_eq_getElem?_getD, List.getElem?_eq_getElem hi]
        rfl
      rw [e1, List.all_cons]
      rw [Int.natCast_add, Int.natCast_one] at ih2
      have hu := u8_lt (b.getD i 0)
      have hdd : isD (b.getD i 0) = (decide (48 ≤ (b.getD i 0).toNat) && decide ((b.getD i 0).toNat ≤ 57)) := rfl
      generalize rounds _ k = self at ih2 ⊢
      have h1' : Int.toNat 1 = 1 := rfl
      have body : ∀ r : Option PV, r = (ltE ((b.getD i 0).toNat : Int) 48 (some (.agg [.bool false])) (ltE 57 ((b.getD i 0).toNat : Int) (some (.agg [.bool false])) (self (.agg [.int .i64 ((i : Int) + 1)])))) → r = some (.agg [.bool (isD (b.getD i 0) && (b.drop (i + 1)).all isD && okTail s b)]) := by
        intro r hr
        rw [hr]
        by_cases c1 : (b.getD i 0).toNat < 48
        · rw [lt_pos (by omega), hdd]
          have : ¬ 48 ≤ (b.getD i 0).toNat := by omega
          rw [decide_eq_false this]; simp only [Bool.false_and, Bool.and_false]
        · rw [lt_neg (by omega)]
          by_cases c2 : 57 < (b.getD i 0).toNat
          · rw [lt_pos (by omega), hdd]
            have : ¬ (b.getD i 0).toNat ≤ 57 := by omega
            rw [decide_eq_false this]; simp only [Bool.false_and, Bool.and_false]
          · rw [lt_neg (by omega), ih2, hdd, decide_eq_true (by omega), decide_eq_true (by omega)]
            rfl
      refine body _ ?_
      rcases hB with ⟨rfl, hb⟩ | ⟨rfl | rfl, hb⟩
      · simp (disch := omega) only [St72b0, dn_ret, dn_call, dn_loop, dn_cont0, ite_lss, ite_leq, ite_gtr, ite_geq, ite_eql, ite_neq, ite_not, ite_seql, ite_beql, ite_bneq, ite_fld, need_leq', need_lss', need_neq0, b_true, b_false, se_var, se_lit, se_o1, se_o2, se_o3, get0, getS, pc_agg, pi_int, pb_bool, ps_str, o_not, o_len, o_fld, o_slen, o_conv, o_add, o_sub, o_mul, o_quo, o_rem, o_lss, o_leq, o_gtr, o_geq, o_eql, o_neq, o_sadd, o_seql, o_bneq, o_beql, o_mx, o_mkS, o_idx, o_snoc, o_cat, o_subl, o_upd, o_ssub, o_sidx, w64, w8, List.nil_append, List.cons_append, dl_nil, Int.toNat_natCast, h1', ← hb]
        rw [lt_pos (by omega), le_pos (by omega)]
      · subst hb
        simp (disch := omega) only [St72b1, dn_ret, dn_call, dn_loop, dn_cont0, ite_lss, ite_leq, ite_gtr, ite_geq, ite_eql, ite_neq, ite_not, ite_seql, ite_beql, ite_bneq, ite_fld, need_leq', need_lss', need_neq0, b_true, b_false, se_var, se_lit, se_o1, se_o2, se_o3, get0, getS, pc_agg, pi_int, pb_bool, ps_str, o_not, o_len, o_fld, o_slen, o_conv, o_add, o_sub, o_mul, o_quo, o_rem, o_lss, o_leq, o_gtr, o_geq, o_eql, o_neq, o_sadd, o_seql, o_bneq, o_beql, o_mx, o_mkS, o_idx, o_snoc, o_cat, o_subl, o_upd, o_ssub, o_sidx, w64, w8, List.nil_append, List.cons_append, dl_nil, Int.toNat_natCast]
        rw [lt_pos (by omega), le_pos (by omega)]
      · subst hb
        simp (disch := omega) only [St72b2, dn_ret, dn_call, dn_loop, dn_cont0, ite_lss, ite_leq, ite_gtr, ite_geq, ite_eql, ite_neq, ite_not, ite_seql, ite_beql, ite_bneq, ite_fld, need_leq', need_lss', need_neq0, b_true, b_false, se_var, se_lit, se_o1, se_o2, se_o3, get0, getS, pc_agg, pi_int, pb_bool, ps_str, o_not, o_len, o_fld, o_slen, o_conv, o_add, o_sub, o_mul, o_quo, o_rem, o_lss, o_leq, o_gtr, o_geq, o_eql, o_neq, o_sadd, o_seql, o_bneq, o_beql, o_mx, o_mkS, o_idx, o_snoc, o_cat, o_subl, o_upd, o_ssub, o_sidx, w64, w8, List.nil_append, List.cons_append, dl_nil, Int.toNat_natCast]
        rw [lt_pos (by omega), le_pos (by omega)]
    · clear ih
      have e1 : b.drop i = [] := List.drop_eq_nil_of_le (by omega)
      rw [e1, List.all_nil, Bool.true_and]
      generalize rounds _ k = self
      have h1' : Int.toNat 1 = 1 := rfl
      have e66 := f66 (m := n) hn (b.length : Int)
      have tail : ∀ r : Option PV, ((decide (1 ≤ (b.length : Int)) && decide ((b.length : Int) ≤ 40)) = false → r = some (.agg [.bool false])) →
          ((decide (1 ≤ (b.length : Int)) && decide ((b.length : Int) ≤ 40)) = true → r = eqE ((b.getD 0 0).toNat : Int) 48 (some (.agg [.bool (decide (s = [48]))])) (some (.agg [.bool true]))) → r = some (.agg [.bool (okTail s b)]) := by
        intro r h1 h2
        unfold okTail
        cases hq : decide (1 ≤ (b.length : Int)) && decide ((b.length : Int) ≤ 40) with
        | false => rw [h1 hq]; rfl
        | true =>
          rw [h2 hq, Bool.true_and]
          by_cases h : ((b.getD 0 0).toNat : Int) = 48
          · rw [eq_pos h, if_pos h]
          · rw [eq_neg h, if_neg h]
      refine tail _ ?_ ?_
      · intro hq
        rcases hB with ⟨rfl, hb⟩ | ⟨rfl | rfl, hb⟩
        · simp (disch := omega) only [St72b0, dn_ret, dn_call, dn_loop, dn_cont0, ite_lss, ite_leq, ite_gtr, ite_geq, ite_eql, ite_neq, ite_not, ite_seql, ite_beql, ite_bneq, ite_fld, need_leq', need_lss', need_neq0, b_true, b_false, se_var, se_lit, se_o1, se_o2, se_o3, get0, getS, pc_agg, pi_int, pb_bool, ps_str, o_not, o_len, o_fld, o_slen, o_conv, o_add, o_sub, o_mul, o_quo, o_rem, o_lss, o_leq, o_gtr, o_geq, o_eql, o_neq, o_sadd, o_seql, o_bneq, o_beql, o_mx, o_mkS, o_idx, o_snoc, o_cat, o_subl, o_upd, o_ssub, o_sidx, w64, w8, List.nil_append, List.cons_append, dl_nil, Int.toNat_natCast, h1', ← hb, e66]
          rw [lt_neg (by omega), hq]
        · subst hb
          simp (disch := omega) only [St72b1, dn_ret, dn_call, dn_loop, dn_cont0, ite_lss, ite_leq, ite_gtr, ite_geq, ite_eql, ite_neq, ite_not, ite_seql, ite_beql, ite_bneq, ite_fld, need_leq', need_lss', need_neq0, b_true, b_false, se_var, se_lit, se_o1, se_o2, se_o3, get0, getS, pc_agg, pi_int, pb_bool, ps_str, o_not, o_len, o_fld, o_slen, o_conv, o_add, o_sub, o_mul, o_quo, o_rem, o_lss, o_leq, o_gtr, o_geq, o_eql, o_neq, o_sadd, o_seql, o_bneq, o_beql, o_mx, o_mkS, o_idx, o_snoc, o_cat, o_subl, o_upd, o_ssub, o_sidx, w64, w8, List.nil_append, List.cons_append, dl_nil, Int.toNat_natCast, e66]
          rw [lt_neg (by omega), hq]
        · subst hb
          simp (disch := omega) only [St72b2, dn_ret, dn_call, dn_loop, dn_cont0, ite_lss, ite_leq, ite_gtr, ite_geq, ite_eql, ite_neq, ite_not, ite_seql, ite_beql, ite_bneq, ite_fld, need_leq', need_lss', need_neq0, b_true, b_false, se_var, se_lit, se_o1, se_o2, se_o3, get0, getS, pc_agg, pi_int, pb_bool, ps_str, o_not, o_len, o_fld, o_slen, o_conv, o_add, o_sub, o_mul, o_quo, o_rem, o_lss, o_leq, o_gtr, o_geq, o_eql, o_neq, o_sadd, o_seql, o_bneq, o_beql, o_mx, o_mkS, o_idx, o_snoc, o_cat, o_subl, o_upd, o_ssub, o_sidx, w64, w8, List.nil_append, List.cons_append, dl_nil, Int.toNat_natCast, e66]
          rw [lt_neg (by omega), hq]
      · intro hq
        have hl : 0 < b.length := by
          simp only [Bool.and_eq_true, decide_eq_true_eq] at hq
          omega
        rcases hB with ⟨rfl, hb⟩ | ⟨rfl | rfl, hb⟩
        · simp (disch := omega) only [St72b0, dn_ret, dn_call, dn_loop, dn_cont0, ite_lss, ite_leq, ite_gtr, ite_geq, ite_eql, ite_neq, ite_not, ite_seql, ite_beql, ite_bneq, ite_fld, need_leq', need_lss', need_neq0, b_true, b_false, se_var, se_lit, se_o1, se_o2, se_o3, get0, getS, pc_agg, pi_int, pb_bool, ps_str, o_not, o_len, o_fld, o_slen, o_conv, o_add, o_sub, o_mul, o_quo, o_rem, o_lss, o_leq, o_gtr, o_geq, o_eql, o_neq, o_sadd, o_seql, o_bneq, o_beql, o_mx, o_mkS, o_idx, o_snoc, o_cat, o_subl, o_upd, o_ssub, o_sidx, w64, w8, List.nil_append, List.cons_append, dl_nil, Int.toNat_natCast, h1', ← hb, e66, Int.toNat_zero]
          rw [lt_neg (by omega), hq]
          simp only []
          rw [lt_pos (by omega)]
        · subst hb
          simp (disch := omega) only [St72b1, dn_ret, dn_call, dn_loop, dn_cont0, ite_lss, ite_leq, ite_gtr, ite_geq, ite_eql, ite_neq, ite_not, ite_seql, ite_beql, ite_bneq, ite_fld, need_leq', need_lss', need_neq0, b_true, b_false, se_var, se_lit, se_o1, se_o2, se_o3, get0, getS, pc_agg, pi_int, pb_bool, ps_str, o_not, o_len, o_fld, o_slen, o_conv, o_add, o_sub, o_mul, o_quo, o_rem, o_lss, o_leq, o_gtr, o_geq, o_eql, o_neq, o_sadd, o_seql, o_bneq, o_beql, o_mx, o_mkS, o_idx, o_snoc, o_cat, o_subl, o_upd, o_ssub, o_sidx, w64, w8, List.nil_append, List.cons_append, dl_nil, Int.toNat_natCast, e66, Int.toNat_zero]
          rw [lt_neg (by omega), hq]
        · subst hb
          simp (disch := omega) only [St72b2, dn_ret, dn_call, dn_loop, dn_cont0, ite_lss, ite_leq, ite_gtr, ite_geq, ite_eql, ite_neq, ite_not, ite_seql, ite_beql, ite_bneq, ite_fld, need_leq', need_lss', need_neq0, b_true, b_false, se_var, se_lit, se_o1, se_o2, se_o3, get0, getS, pc_agg, pi_int, pb_bool, ps_str, o_not, o_len, o_fld, o_slen, o_conv, o_add, o_sub, o_mul, o_quo, o_rem, o_lss, o_leq, o_gtr, o_geq, o_eql, o_neq, o_sadd, o_seql, o_bneq, o_beql, o_mx, o_mkS, o_idx, o_snoc, o_cat, o_subl, o_upd, o_ssub, o_sidx, w64, w8, List.nil_append, List.cons_append, dl_nil, Int.toNat_natCast, e66, Int.toNat_zero]
          rw [lt_neg (by omega), hq]
          simp only []
          rw [lt_pos (by omega)]

theorem okTail_isInt (s : List UInt8) : ((bodyL s).all isD && okTail s (bodyL s)) = isIntL s := by
  unfold okTail isIntL
  have e1 : decide (1 ≤ ((bodyL s).length : Int)) = decide (1 ≤ (bodyL s).length) := by congr 1; apply propext; omega
  have e2 : decide (((bodyL s).length : Int) ≤ 40) = decide ((bodyL s).length ≤ 40) := by congr 1; apply propext; omega
  rw [e1, e2]
  have e3 : ((((bodyL s).getD 0 0).toNat : Int) = 48) ↔ (bodyL s).getD 0 0 = 48 := by
    constructor
    · intro h; exact UInt8.toNat_inj.1 (show _ = 48 by omega)
    · intro h; rw [h]; rfl
  have e4 : decide (1 ≤ (bodyL s).length) = true → (if (((bodyL s).getD 0 0).toNat : Int) = 48 then decide (s = [48]) else true) = !(decide ((bodyL s).getD 0 0 = 48) && (decide (1 < (bodyL s).length) || negL s)) := by
    intro hl
    have hl := of_decide_eq_true hl
    by_cases h : (bodyL s).getD 0 0 = 48
    · rw [if_pos (e3.2 h), decide_eq_true h, Bool.true_and]
      have hb := body_eq s
      cases hn : negL s with
      | true =>
        rw [hn] at hb
        rw [Bool.or_true]
        have : ¬ s = [48] := by
          intro h2
          rw [h2] at hn
          exact absurd hn (by decide)
        rw [decide_eq_false this]; rfl
      | false =>
        rw [hn] at hb
        have hb : s = bodyL s := by simpa using hb
        rw [← hb] at h hl ⊢
        rw [Bool.or_false]
        cases s with
        | nil => simp at hl
        | cons c s =>
          have : c = 48 := h
          subst this
          cases s with
          | nil => rfl
          | cons d s => simp
    · rw [if_neg (fun h' => h (e3.1 h')), decide_eq_false h]; rfl
  cases hl : decide (1 ≤ (bodyL s).length) with
  | false => simp
  | true =>
    rw [e4 hl]
    cases (bodyL s).all isD <;> simp

theorem f72 {m : Nat} (s : List UInt8) (hs : s.length + 4 ≤ m) (hs2 : s.length < 100000) : R m 72 (.agg [.str s]) = some (.agg [.bool (isIntL s)]) := by
  obtain ⟨n, rfl⟩ : ∃ n, m = n + 1 := ⟨m - 1, by omega⟩
  rw [R_succ n 72 _ rfl, ← okTail_isInt]
  have fin : ∀ (B : Tree) (b : List UInt8), b = bodyL s → (B = St72b0 ∧ b = (s.take s.length).drop 1 ∨ (B = St72b1 ∨ B = St72b2) ∧ b = s) → b.length ≤ s.length → rounds (fun self v => B.dn (n + 1) (R n) [self] [.agg [.str s], v]) (n + 1) (.agg [.int .i64 0]) = some (.agg [.bool ((bodyL s).all isD && okTail s (bodyL s))]) := by
    intro B b hb hB hl
    have := loop72 B n (by omega) s b hB (n + 1) 0 (by omega) (by omega) (by omega)
    rw [List.drop_zero, hb] at this
    exact this
  by_cases h1 : 0 < s.length
  · by_cases h2 : ((s.getD 0 0).toNat : Int) = 45
    · simp (disch := omega) only [St72, dn_ret, dn_call, dn_loop, dn_cont0, ite_lss, ite_leq, ite_gtr, ite_geq, ite_eql, ite_neq, ite_not, ite_seql, ite_beql, ite_bneq, ite_fld, need_leq', need_lss', need_neq0, b_true, b_false, se_var, se_lit, se_o1, se_o2, se_o3, get0, getS, pc_agg, pi_int, pb_bool, ps_str, o_not, o_len, o_fld, o_slen, o_conv, o_add, o_sub, o_mul, o_quo, o_rem, o_lss, o_leq, o_gtr, o_geq, o_eql, o_neq, o_sadd, o_seql, o_bneq, o_beql, o_mx, o_mkS, o_idx, o_snoc, o_cat, o_subl, o_upd, o_ssub, o_sidx, w64, w8, List.nil_append, List.cons_append, dl_nil, Int.toNat_zero]
      rw [lt_pos (by omega), lt_pos (by omega), eq_pos h2, le_pos (by omega), le_pos (by omega)]
      have hn : negL s = true := by
        cases s with
        | nil => simp at h1
        | cons c s =>
          have : c = 45 := UInt8.toNat_inj.1 (show c.toNat = 45 by simp at h2; omega)
          subst this
          rfl
      refine fin St72b0 ((s.take s.length).drop 1) (by rw [List.take_length]; unfold bodyL; rw [hn]; rfl) (.inl ⟨rfl, rfl⟩) (by simp)
    · simp (disch := omega) only [St72, dn_ret, dn_call, dn_loop, dn_cont0, ite_lss, ite_leq, ite_gtr, ite_geq, ite_eql, ite_neq, ite_not, ite_seql, ite_beql, ite_bneq, ite_fld, need_leq', need_lss', need_neq0, b_true, b_false, se_var, se_lit, se_o1, se_o2, se_o3, get0, getS, pc_agg, pi_int, pb_bool, ps_str, o_not, o_len, o_fld, o_slen, o_conv, o_add, o_sub, o_mul, o_quo, o_rem, o_lss, o_leq, o_gtr, o_geq, o_eql, o_neq, o_sadd, o_seql, o_bneq, o_beql, o_mx, o_mkS, o_idx, o_snoc, o_cat, o_subl, o_upd, o_ssub, o_sidx, w64, w8, List.nil_append, List.cons_append, dl_nil, Int.toNat_zero]
      rw [lt_pos (by omega), lt_pos (by omega), eq_neg h2]
      have hn : negL s = false := by
        cases s with
        | nil => simp at h1
        | cons c s =>
          unfold negL
          rw [decide_eq_false_iff_not]
          intro h
          have : c = 45 := by simpa using h
          subst this
          exact h2 rfl
      refine fin St72b1 s (by unfold bodyL; rw [hn]; rfl) (.inr ⟨.inl rfl, rfl⟩) (Nat.le_refl _)
  · simp (disch := omega) only [St72, dn_ret, dn_call, dn_loop, dn_cont0, ite_lss, ite_leq, ite_gtr, ite_geq, ite_eql, ite_neq, ite_not, ite_seql, ite_beql, ite_bneq, ite_fld, need_leq', need_lss', need_neq0, b_true, b_false, se_var, se_lit, se_o1, se_o2, se_o3, get0, getS, pc_agg, pi_int, pb_bool, ps_str, o_not, o_len, o_fld, o_slen, o_conv, o_add, o_sub, o_mul, o_quo, o_rem, o_lss, o_leq, o_gtr, o_geq, o_eql, o_neq, o_sadd, o_seql, o_bneq, o_beql, o_mx, o_mkS, o_idx, o_snoc, o_cat, o_subl, o_upd, o_ssub, o_sidx, w64, w8, List.nil_append, List.cons_append, dl_nil, Int.toNat_zero]
    rw [lt_neg (by omega)]
    have : s = [] := List.length_eq_zero_iff.1 (by omega)
    refine fin St72b2 s (by rw [this]; rfl) (.inr ⟨.inr rfl, rfl⟩) (Nat.le_refl _)

/-! The laws' functions. -/
theorem f39 {m : Nat} (hm : 105 ≤ m) (a b : List UInt8) : R m 39 (.agg [.str a, .str b]) = some (if isIntL a = true ∧ isIntL b = true then fitV (Z a - Z b) else .agg [.str [], .bool false]) := by
  obtain ⟨n, rfl⟩ : ∃ n, m = n + 1 := ⟨m - 1, by omega⟩
  rw [R_succ n 39 _ rfl]
  by_cases h : isIntL a = true ∧ isIntL b = true
  · rw [if_pos h]
    have h71 := f71 (m := n) (by omega) (Z b) ((Z_Sm h.2).mono (by omega))
    have h70 := f70 (m := n) (by omega) (Z a) (-(Z b)) ((Z_Sm h.1).mono (by omega)) ((Z_Sm h.2).neg.mono (by omega))
    have h75 := f75' (m := n) (by omega) (Z a + -Z b) ((Sm.add (Z_Sm h.1) (Z_Sm h.2).neg).mono (by omega))
    have eta : ∀ z, PV.agg [(O1.fld 0).dn (numV z), (O1.fld 1).dn (numV z)] = numV z := fun z => rfl
    simp (disch := omega) only [St39, dn_ret, dn_call, dn_loop, dn_cont0, ite_lss, ite_leq, ite_gtr, ite_geq, ite_eql, ite_neq, ite_not, ite_seql, ite_beql, ite_bneq, ite_fld, need_leq', need_lss', need_neq0, b_true, b_false, se_var, se_lit, se_o1, se_o2, se_o3, get0, getS, pc_agg, pi_int, pb_bool, ps_str, o_not, o_len, o_fld, o_slen, o_conv, o_add, o_sub, o_mul, o_quo, o_rem, o_lss, o_leq, o_gtr, o_geq, o_eql, o_neq, o_sadd, o_seql, o_bneq, o_beql, o_mx, o_mkS, o_idx, o_snoc, o_cat, o_subl, o_upd, o_ssub, o_sidx, w64, w8, List.nil_append, List.cons_append, dl_nil, f69 (m := n) (by omega) a b h.1 h.2, eta, h71, h70, h75, fitV_eta]
    rfl
  · rw [if_neg h]
    obtain ⟨p, q, e⟩ := f69' (m := n) (by omega) a b h
    simp only [St39, dn_ret, dn_call, dn_loop, dn_cont0, ite_lss, ite_leq, ite_gtr, ite_geq, ite_eql, ite_neq, ite_not, ite_seql, ite_beql, ite_bneq, ite_fld, need_leq', need_lss', need_neq0, b_true, b_false, se_var, se_lit, se_o1, se_o2, se_o3, get0, getS, pc_agg, pi_int, pb_bool, ps_str, o_not, o_len, o_fld, o_slen, o_conv, o_add, o_sub, o_mul, o_quo, o_rem, o_lss, o_leq, o_gtr, o_geq, o_eql, o_neq, o_sadd, o_seql, o_bneq, o_beql, o_mx, o_mkS, o_idx, o_snoc, o_cat, o_subl, o_upd, o_ssub, o_sidx, w64, w8, List.nil_append, List.cons_append, dl_nil, e]
end Go.Dv

/- The draws end. -/
set_option linter.unusedVariables false
set_option linter.unusedSimpArgs false
namespace Go.Dv

theorem xor_nn {a b : Int} (ha : 0 ≤ a) (ha' : a < 4611686018427387904) (hb : 0 ≤ b) (hb' : b < 4611686018427387904) : 0 ≤ bitsI .xor .i64 a b := by
  obtain ⟨m, rfl⟩ : ∃ m : Nat, a = m := ⟨a.toNat, by omega⟩
  obtain ⟨n, rfl⟩ : ∃ n : Nat, b = n := ⟨b.toNat, by omega⟩
  show 0 ≤ IntKind.i64.wrap ((((BitVec.ofInt 64 (m : Int)) ^^^ (BitVec.ofInt 64 (n : Int)) : BitVec 64).toNat : Nat) : Int)
  have e1 : (BitVec.ofInt 64 (m : Int)) = BitVec.ofNat 64 m := by
    apply BitVec.eq_of_toNat_eq
    simp
  have e2 : (BitVec.ofInt 64 (n : Int)) = BitVec.ofNat 64 n := by
    apply BitVec.eq_of_toNat_eq
    simp
  rw [e1, e2]
  have hx : (BitVec.ofNat 64 m ^^^ BitVec.ofNat 64 n).toNat = m ^^^ n := by
    rw [BitVec.toNat_xor, BitVec.toNat_ofNat, BitVec.toNat_ofNat, Nat.mod_eq_of_lt (by omega), Nat.mod_eq_of_lt (by omega)]
  have hlt : m ^^^ n < 2 ^ 62 := Nat.xor_lt_two_pow (by omega) (by omega)
  rw [hx, w64 (by omega) (by omega)]
  omega
theorem o_xor (k : IntKind) (a b : PV) : (O2.int .xor k).dn a b = .int k (bitsI .xor k a.i b.i) := (rfl)
theorem o_mn (k : IntKind) (a b : PV) : (O2.mn k).dn a b = .int k (if b.i < a.i then b.i else a.i) := (rfl)
theorem ob_idx (l : List UInt8) (p : PV) : (O2.idx.dn (bl l) p).i = ((l.getD p.i.toNat 0).toNat : Int) := by
  simp only [O2.dn, bl, PV.l, List.getD_eq_getElem?_getD, List.getElem?_map]
  cases l[p.i.toNat]? <;> rfl
theorem ob_sub (l : List UInt8) (a b : PV) : O3.sub.dn (bl l) a b = bl ((l.take b.i.toNat).drop a.i.toNat) := by simp [O3.dn, bl, List.map_drop, List.map_take]
def rndV (l : List UInt8) (i : Int) : PV := .agg [bl l, .int .i64 i]

theorem f62 {m : Nat} (hm : 1 ≤ m) (l : List UInt8) (i n : Int) (hl : l.length ≤ 4000) (i0 : 0 ≤ i) (i1 : i ≤ 1000000) (n1 : 1 ≤ n) (n2 : n ≤ 1000000) :
    ∃ x j, R m 62 (.agg [rndV l i, .int .i64 n]) = some (.agg [.int .i64 x, rndV l j]) ∧ 0 ≤ x ∧ x < n ∧ i ≤ j ∧ j ≤ i + 1 := by
  obtain ⟨k, rfl⟩ : ∃ k, m = k + 1 := ⟨m - 1, by omega⟩
  rw [R_succ k 62 _ rfl]
  by_cases h1 : n < 2
  · refine ⟨0, i, ?_, by omega, by omega, by omega, by omega⟩
    simp only [St62, dn_ret, dn_call, dn_loop, dn_cont0, ite_lss, ite_leq, ite_gtr, ite_geq, ite_eql, ite_neq, ite_not, ite_seql, ite_beql, ite_bneq, ite_fld, need_leq', need_lss', need_neq0, b_true, b_false, se_var, se_lit, se_o1, se_o2, se_o3, get0, getS, pc_agg, pi_int, pb_bool, ps_str, o_not, o_len, o_fld, o_slen, o_conv, o_add, o_sub, o_mul, o_quo, o_rem, o_lss, o_leq, o_gtr, o_geq, o_eql, o_neq, o_sadd, o_seql, o_bneq, o_beql, o_mx, o_mkS, o_idx, o_snoc, o_cat, o_subl, o_upd, o_ssub, o_sidx, w64, w8, List.nil_append, List.cons_append, bl_nil, rndV]
    rw [lt_pos (by omega)]
  · by_cases h2 : 0 < l.length
    · have ha := u8_lt (l.getD (i.tmod l.length).toNat 0)
      have hb := u8_lt (l.getD ((i * 7 + 3).tmod l.length).toNat 0)
      have a0 := Int.tmod_nonneg (l.length : Int) i0
      have a1 := Int.tmod_lt_of_pos i (show 0 < (l.length : Int) by omega)
      have b0 := Int.tmod_nonneg (l.length : Int) (show 0 ≤ i * 7 + 3 by omega)
      have b1 := Int.tmod_lt_of_pos (i * 7 + 3) (show 0 < (l.length : Int) by omega)
      have q0 := Int.tdiv_nonneg i0 (show 0 ≤ (l.length : Int) by omega)
      have q1 : i.tdiv l.length ≤ i := Int.tdiv_le_self _ i0
      have big : ∃ x j, (some (PV.agg [.int .i64 ((bitsI .xor .i64 (((l.getD (i.tmod l.length).toNat 0).toNat : Int) * 131 + ((l.getD ((i * 7 + 3).tmod l.length).toNat 0).toNat : Int) * 1117 + i * 29 + i.tdiv l.length * 53) ((((l.getD (i.tmod l.length).toNat 0).toNat : Int) * 131 + ((l.getD ((i * 7 + 3).tmod l.length).toNat 0).toNat : Int) * 1117 + i * 29 + i.tdiv l.length * 53) / 64)).tmod n), .agg [bl l, .int .i64 (i + 1)]])) = some (PV.agg [.int .i64 x, rndV l j]) ∧ 0 ≤ x ∧ x < n ∧ i ≤ j ∧ j ≤ i + 1 := by
        refine ⟨_, i + 1, rfl, Int.tmod_nonneg _ (xor_nn (by omega) (by omega) (by omega) (by omega)), Int.tmod_lt_of_pos _ (by omega), by omega, by omega⟩
      by_cases h3 : 256 < n
      · simp (disch := omega) only [St62, dn_ret, dn_call, dn_loop, dn_cont0, ite_lss, ite_leq, ite_gtr, ite_geq, ite_eql, ite_neq, ite_not, ite_seql, ite_beql, ite_bneq, ite_fld, need_leq', need_lss', need_neq0, b_true, b_false, se_var, se_lit, se_o1, se_o2, se_o3, get0, getS, pc_agg, pi_int, pb_bool, ps_str, o_not, o_len, o_fld, o_slen, o_conv, o_add, o_sub, o_mul, o_quo, o_rem, o_lss, o_leq, o_gtr, o_geq, o_eql, o_neq, o_sadd, o_seql, o_bneq, o_beql, o_mx, o_mkS, o_idx, o_snoc, o_cat, o_subl, o_upd, o_ssub, o_sidx, w64, w8, List.nil_append, List.cons_append, bl_nil, rndV, ob_len, ob_idx, o_xor, tdiv_nn (b := 64)]
        rw [lt_neg (by omega), lt_pos (by omega), eq_neg (by omega), le_pos (by omega), lt_pos (by omega), lt_pos (by omega), le_pos (by omega), lt_pos (by omega), eq_neg (by omega)]
        exact big
      · by_cases h4 : (l.length : Int) ≤ i
        · simp (disch := omega) only [St62, dn_ret, dn_call, dn_loop, dn_cont0, ite_lss, ite_leq, ite_gtr, ite_geq, ite_eql, ite_neq, ite_not, ite_seql, ite_beql, ite_bneq, ite_fld, need_leq', need_lss', need_neq0, b_true, b_false, se_var, se_lit, se_o1, se_o2, se_o3, get0, getS, pc_agg, pi_int, pb_bool, ps_str, o_not, o_len, o_fld, o_slen, o_conv, o_add, o_sub, o_mul, o_quo, o_rem, o_lss, o_leq, o_gtr, o_geq, o_eql, o_neq, o_sadd, o_seql, o_bneq, o_beql, o_mx, o_mkS, o_idx, o_snoc, o_cat, o_subl, o_upd, o_ssub, o_sidx, w64, w8, List.nil_append, List.cons_append, bl_nil, rndV, ob_len, ob_idx, o_xor, tdiv_nn (b := 64)]
          rw [lt_neg (by omega), lt_pos (by omega), eq_neg (by omega), le_pos (by omega), lt_pos (by omega), lt_neg (by omega), le_pos (by omega), le_pos (by omega), lt_pos (by omega), eq_neg (by omega)]
          exact big
        · refine ⟨((l.getD (i.tmod l.length).toNat 0).toNat : Int).tmod n, i + 1, ?_, Int.tmod_nonneg _ (by omega), Int.tmod_lt_of_pos _ (by omega), by omega, by omega⟩
          simp (disch := omega) only [St62, dn_ret, dn_call, dn_loop, dn_cont0, ite_lss, ite_leq, ite_gtr, ite_geq, ite_eql, ite_neq, ite_not, ite_seql, ite_beql, ite_bneq, ite_fld, need_leq', need_lss', need_neq0, b_true, b_false, se_var, se_lit, se_o1, se_o2, se_o3, get0, getS, pc_agg, pi_int, pb_bool, ps_str, o_not, o_len, o_fld, o_slen, o_conv, o_add, o_sub, o_mul, o_quo, o_rem, o_lss, o_leq, o_gtr, o_geq, o_eql, o_neq, o_sadd, o_seql, o_bneq, o_beql, o_mx, o_mkS, o_idx, o_snoc, o_cat, o_subl, o_upd, o_ssub, o_sidx, w64, w8, List.nil_append, List.cons_append, bl_nil, rndV, ob_len, ob_idx, o_xor, tdiv_nn (b := 64)]
          rw [lt_neg (by omega), lt_pos (by omega), eq_neg (by omega), le_pos (by omega), lt_pos (by omega), lt_neg (by omega), le_neg (by omega), eq_neg (by omega)]
    · refine ⟨(0 : Int).tmod n, i + 1, ?_, Int.tmod_nonneg _ (by omega), Int.tmod_lt_of_pos _ (by omega), by omega, by omega⟩
      simp (disch := omega) only [St62, dn_ret, dn_call, dn_loop, dn_cont0, ite_lss, ite_leq, ite_gtr, ite_geq, ite_eql, ite_neq, ite_not, ite_seql, ite_beql, ite_bneq, ite_fld, need_leq', need_lss', need_neq0, b_true, b_false, se_var, se_lit, se_o1, se_o2, se_o3, get0, getS, pc_agg, pi_int, pb_bool, ps_str, o_not, o_len, o_fld, o_slen, o_conv, o_add, o_sub, o_mul, o_quo, o_rem, o_lss, o_leq, o_gtr, o_geq, o_eql, o_neq, o_sadd, o_seql, o_bneq, o_beql, o_mx, o_mkS, o_idx, o_snoc, o_cat, o_subl, o_upd, o_ssub, o_sidx, w64, w8, List.nil_append, List.cons_append, bl_nil, rndV, ob_len, ob_idx, o_xor]
      rw [lt_neg (by omega), lt_neg (by omega), eq_neg (by omega)]

/-! Numbers' texts. -/
theorem tdiv10 (v : Int) : (v.tdiv 10).natAbs = v.natAbs / 10 := by rw [Int.natAbs_tdiv]; rfl
theorem tmod10 (v : Int) : (v.tmod 10).natAbs = v.natAbs % 10 := by rw [Int.natAbs_tmod]; rfl
theorem loop104 (n : Nat) (G : FuncId → PV → Option PV) (a : PV) :
    ∀ (d k : Nat) (v : Int) (acc : List UInt8), v.natAbs < 10 ^ d → d < 19 → d < k → acc.length + d ≤ 1000 → ∃ s : List UInt8, s.length ≤ acc.length + max d 1 ∧ rounds (fun self v => St104b0.dn n G [self] [a, v]) k (.agg [.int .i64 v, .str acc]) = some (.agg [.str s]) := by
  intro d
  induction d with
  | zero =>
    intro k v acc h1 h2 h3 h4
    obtain ⟨k, rfl⟩ : ∃ j, k = j + 1 := ⟨k - 1, by omega⟩
    have : v = 0 := by simp at h1; omega
    subst this
    refine ⟨[48] ++ acc, by simp, ?_⟩
    simp only [rounds_s]
    generalize rounds _ k = self
    have e1 : Int.tmod 0 10 = 0 := rfl
    have e2 : Int.tdiv 0 10 = 0 := rfl
    have hlen : (([48] : List UInt8) ++ acc).length ≤ 1001 := by simp; omega
    have e3 : UInt8.ofNat (48 + 0 : Int).toNat = 48 := rfl
    simp (disch := omega) only [St104b0, dn_ret, dn_call, dn_loop, dn_cont0, ite_lss, ite_leq, ite_gtr, ite_geq, ite_eql, ite_neq, ite_not, ite_seql, ite_beql, ite_bneq, ite_fld, need_leq', need_lss', need_neq0, b_true, b_false, se_var, se_lit, se_o1, se_o2, se_o3, get0, getS, pc_agg, pi_int, pb_bool, ps_str, o_not, o_len, o_fld, o_slen, o_conv, o_add, o_sub, o_mul, o_quo, o_rem, o_lss, o_leq, o_gtr, o_geq, o_eql, o_neq, o_sadd, o_seql, o_bneq, o_beql, o_mx, o_mkS, o_idx, o_snoc, o_cat, o_subl, o_upd, o_ssub, o_sidx, w64, w8, List.nil_append, List.cons_append, bl_nil, e1, e2, ob_snoc, ob_toS, e3]
    rw [lt_neg (by omega), le_pos (by simp at hlen ⊢; omega), eq_pos rfl]
  | succ d ih =>
    intro k v acc h1 h2 h3 h4
    obtain ⟨k, rfl⟩ : ∃ j, k = j + 1 := ⟨k - 1, by omega⟩
    have hd := tdiv10 v
    have hm := tmod10 v
    have hp : (10 : Nat) ^ (d + 1) = 10 ^ d * 10 := Nat.pow_succ 10 d
    have hq : (v.tdiv 10).natAbs < 10 ^ d := by omega
    have hbig : (10 : Nat) ^ (d + 1) ≤ 10 ^ 18 := Nat.pow_le_pow_right (by omega) (by omega)
    have key : ∀ c : UInt8, ∃ s : List UInt8, s.length ≤ acc.length + max (d + 1) 1 ∧ leE ((c :: acc).length : Int) 16777216 (eqE (v.tdiv 10) 0 (some (.agg [.str (c :: acc)])) (rounds (fun self v => St104b0.dn n G [self] [a, v]) k (.agg [.int .i64 (v.tdiv 10), .str (c :: acc)]))) none = some (.agg [.str s]) := by
      intro c
      have hlen : (c :: acc).length ≤ 1001 := by simp; omega
      rw [le_pos (by omega)]
      by_cases h0 : v.tdiv 10 = 0
      · exact ⟨c :: acc, by simp, by rw [eq_pos h0]⟩
      · cases d with
        | zero => exact absurd (show v.tdiv 10 = 0 by simp at hq; omega) h0
        | succ d =>
          obtain ⟨s, q1, q2⟩ := ih k (v.tdiv 10) (c :: acc) hq (by omega) (by omega) (by simp; omega)
          exact ⟨s, by rw [List.length_cons] at q1; omega, by rw [eq_neg h0]; exact q2⟩
    simp only [rounds_s]
    clear ih
    generalize rounds _ k = self at key ⊢
    by_cases hneg : v.tmod 10 < 0
    · obtain ⟨s, q1, q2⟩ := key (UInt8.ofNat (48 + -(v.tmod 10)).toNat)
      refine ⟨s, q1, ?_⟩
      simp (disch := omega) only [St104b0, dn_ret, dn_call, dn_loop, dn_cont0, ite_lss, ite_leq, ite_gtr, ite_geq, ite_eql, ite_neq, ite_not, ite_seql, ite_beql, ite_bneq, ite_fld, need_leq', need_lss', need_neq0, b_true, b_false, se_var, se_lit, se_o1, se_o2, se_o3, get0, getS, pc_agg, pi_int, pb_bool, ps_str, o_not, o_len, o_fld, o_slen, o_conv, o_add, o_sub, o_mul, o_quo, o_rem, o_lss, o_leq, o_gtr, o_geq, o_eql, o_neq, o_sadd, o_seql, o_bneq, o_beql, o_mx, o_mkS, o_idx, o_snoc, o_cat, o_subl, o_upd, o_ssub, o_sidx, w64, w8, List.nil_append, List.cons_append, bl_nil, o_neg, ob_snoc, ob_toS]
      rw [lt_pos hneg]
      exact q2
    · obtain ⟨s, q1, q2⟩ := key (UInt8.ofNat (48 + (v.tmod 10)).toNat)
      refine ⟨s, q1, ?_⟩
      simp (disch := omega) only [St104b0, dn_ret, dn_call, dn_loop, dn_cont0, ite_lss, ite_leq, ite_gtr, ite_geq, ite_eql, ite_neq, ite_not, ite_seql, ite_beql, ite_bneq, ite_fld, need_leq', need_lss', need_neq0, b_true, b_false, se_var, se_lit, se_o1, se_o2, se_o3, get0, getS, pc_agg, pi_int, pb_bool, ps_str, o_not, o_len, o_fld, o_slen, o_conv, o_add, o_sub, o_mul, o_quo, o_rem, o_lss, o_leq, o_gtr, o_geq, o_eql, o_neq, o_sadd, o_seql, o_bneq, o_beql, o_mx, o_mkS, o_idx, o_snoc, o_cat, o_subl, o_upd, o_ssub, o_sidx, w64, w8, List.nil_append, List.cons_append, bl_nil, o_neg, ob_snoc, ob_toS]
      rw [lt_neg hneg]
      exact q2

theorem f104 {m : Nat} (hm : 20 ≤ m) (v : Int) (hv : v.natAbs < 10 ^ 6) : ∃ s : List UInt8, s.length ≤ 6 ∧ R m 104 (.agg [.int .i64 v]) = some (.agg [.str s]) := by
  obtain ⟨n, rfl⟩ : ∃ n, m = n + 1 := ⟨m - 1, by omega⟩
  obtain ⟨s, h1, h2⟩ := loop104 (n + 1) (R n) (.agg [.int .i64 v]) 6 (n + 1) v [] hv (by omega) (by omega) (by simp)
  refine ⟨s, by simpa using h1, ?_⟩
  rw [R_succ n 104 _ rfl]
  simp only [St104, dn_ret, dn_call, dn_loop, dn_cont0, ite_lss, ite_leq, ite_gtr, ite_geq, ite_eql, ite_neq, ite_not, ite_seql, ite_beql, ite_bneq, ite_fld, need_leq', need_lss', need_neq0, b_true, b_false, se_var, se_lit, se_o1, se_o2, se_o3, get0, getS, pc_agg, pi_int, pb_bool, ps_str, o_not, o_len, o_fld, o_slen, o_conv, o_add, o_sub, o_mul, o_quo, o_rem, o_lss, o_leq, o_gtr, o_geq, o_eql, o_neq, o_sadd, o_seql, o_bneq, o_beql, o_mx, o_mkS, o_idx, o_snoc, o_cat, o_subl, o_upd, o_ssub, o_sidx, w64, w8, List.nil_append, List.cons_append, bl_nil]
  exact h2
theorem f65 {m : Nat} (hm : 21 ≤ m) (v : Int) (hv : v.natAbs < 10 ^ 6) : ∃ s : List UInt8, s.length ≤ 7 ∧ R m 65 (.agg [.int .i64 v]) = some (.agg [.str s]) := by
  obtain ⟨n, rfl⟩ : ∃ n, m = n + 1 := ⟨m - 1, by omega⟩
  obtain ⟨s, h1, h2⟩ := f104 (m := n) (by omega) v hv
  rw [R_succ n 65 _ rfl]
  by_cases h : v < 0
  · refine ⟨45 :: s, by simp; omega, ?_⟩
    have hlen : (45 :: s).length ≤ 91 := by simp; omega
    simp only [St65, dn_ret, dn_call, dn_loop, dn_cont0, ite_lss, ite_leq, ite_gtr, ite_geq, ite_eql, ite_neq, ite_not, ite_seql, ite_beql, ite_bneq, ite_fld, need_leq', need_lss', need_neq0, b_true, b_false, se_var, se_lit, se_o1, se_o2, se_o3, get0, getS, pc_agg, pi_int, pb_bool, ps_str, o_not, o_len, o_fld, o_slen, o_conv, o_add, o_sub, o_mul, o_quo, o_rem, o_lss, o_leq, o_gtr, o_geq, o_eql, o_neq, o_sadd, o_seql, o_bneq, o_beql, o_mx, o_mkS, o_idx, o_snoc, o_cat, o_subl, o_upd, o_ssub, o_sidx, w64, w8, List.nil_append, List.cons_append, bl_nil, h2]
    rw [lt_pos h, le_pos (le_len hlen)]
  · refine ⟨s, by omega, ?_⟩
    simp only [St65, dn_ret, dn_call, dn_loop, dn_cont0, ite_lss, ite_leq, ite_gtr, ite_geq, ite_eql, ite_neq, ite_not, ite_seql, ite_beql, ite_bneq, ite_fld, need_leq', need_lss', need_neq0, b_true, b_false, se_var, se_lit, se_o1, se_o2, se_o3, get0, getS, pc_agg, pi_int, pb_bool, ps_str, o_not, o_len, o_fld, o_slen, o_conv, o_add, o_sub, o_mul, o_quo, o_rem, o_lss, o_leq, o_gtr, o_geq, o_eql, o_neq, o_sadd, o_seql, o_bneq, o_beql, o_mx, o_mkS, o_idx, o_snoc, o_cat, o_subl, o_upd, o_ssub, o_sidx, w64, w8, List.nil_append, List.cons_append, bl_nil, h2]
    rw [lt_neg h]

theorem or_idx (n : Nat) (g : Bool) (l : List PV) (p : PV) : O2.idx.dn (.list n g l) p = l.getD p.i.toNat (.bool false) := (rfl)
theorem or_len (n : Nat) (g : Bool) (l : List PV) : O1.len.dn (.list n g l) = .int .i64 l.length := (rfl)
theorem or_snoc (n : Nat) (g : Bool) (l : List PV) (x : PV) : O2.snoc.dn (.list n g l) x = .list n g (l ++ [x]) := (rfl)
theorem f50 {m : Nat} (hm : 2 ≤ m) (f : Nat) (hf : f = 50 ∨ f = 105) (g : Bool) (l : List UInt8) (i : Int) (q : List PV) (hl : l.length ≤ 4000) (i0 : 0 ≤ i) (i1 : i ≤ 1000000) (q1 : 1 ≤ q.length) (q2 : q.length ≤ 1000000) :
    ∃ x j, R m f (.agg [rndV l i, .list 1 g q]) = some (.agg [x, rndV l j]) ∧ x ∈ q ∧ i ≤ j ∧ j ≤ i + 1 := by
  obtain ⟨n, rfl⟩ : ∃ n, m = n + 1 := ⟨m - 1, by omega⟩
  obtain ⟨x, j, e, x0, x1, j0, j1⟩ := f62 (m := n) (by omega) l i q.length hl i0 i1 (by omega) (by omega)
  have hx : q.getD x.toNat (.bool false) ∈ q := by
    rw [List.getD_eq_getElem?_getD, List.getElem?_eq_getElem (show x.toNat < q.length by omega)]
    exact List.getElem_mem _
  refine ⟨q.getD x.toNat (.bool false), j, ?_, hx, j0, j1⟩
  simp only [rndV] at e
  rcases hf with rfl | rfl
  · rw [R_succ n 50 _ rfl]
    simp only [St50, dn_ret, dn_call, dn_loop, dn_cont0, ite_lss, ite_leq, ite_gtr, ite_geq, ite_eql, ite_neq, ite_not, ite_seql, ite_beql, ite_bneq, ite_fld, need_leq', need_lss', need_neq0, b_true, b_false, se_var, se_lit, se_o1, se_o2, se_o3, get0, getS, pc_agg, pi_int, pb_bool, ps_str, o_not, o_len, o_fld, o_slen, o_conv, o_add, o_sub, o_mul, o_quo, o_rem, o_lss, o_leq, o_gtr, o_geq, o_eql, o_neq, o_sadd, o_seql, o_bneq, o_beql, o_mx, o_mkS, o_idx, o_snoc, o_cat, o_subl, o_upd, o_ssub, o_sidx, w64, w8, List.nil_append, List.cons_append, bl_nil, rndV, or_len, or_idx, e]
    rw [le_pos (by omega), lt_pos (by omega)]
  · rw [R_succ n 105 _ rfl]
    simp only [St105, dn_ret, dn_call, dn_loop, dn_cont0, ite_lss, ite_leq, ite_gtr, ite_geq, ite_eql, ite_neq, ite_not, ite_seql, ite_beql, ite_bneq, ite_fld, need_leq', need_lss', need_neq0, b_true, b_false, se_var, se_lit, se_o1, se_o2, se_o3, get0, getS, pc_agg, pi_int, pb_bool, ps_str, o_not, o_len, o_fld, o_slen, o_conv, o_add, o_sub, o_mul, o_quo, o_rem, o_lss, o_leq, o_gtr, o_geq, o_eql, o_neq, o_sadd, o_seql, o_bneq, o_beql, o_mx, o_mkS, o_idx, o_snoc, o_cat, o_subl, o_upd, o_ssub, o_sidx, w64, w8, List.nil_append, List.cons_append, bl_nil, rndV, or_len, or_idx, e]
    rw [le_pos (by omega), lt_pos (by omega)]

theorem loop68 (n : Nat) (hn : 30 ≤ n) (l : List UInt8) (hl : l.length ≤ 4000) (e0 e1 : PV) (cnt : Int) (c41 : cnt ≤ 41) (r2 : PV) :
    ∀ (k : Nat) (c i : Int) (acc : List UInt8), 0 ≤ c → cnt < c + k → 0 ≤ i → i + 4 * (41 - c) ≤ 500000 → (acc.length : Int) + 7 * (41 - c) ≤ 300 → c ≤ cnt →
      ∃ s j, rounds (fun self v => St68b0.dn (n + 1) (R n) [self] [e0, e1, .agg [.int .i64 cnt, r2], v]) k (.agg [.str acc, .int .i64 c, bl l, .int .i64 i]) = some (.agg [.str s, rndV l j]) ∧ s.length ≤ 301 ∧ i ≤ j ∧ j ≤ i + 4 * (41 - c) + 1 := by
  intro k
  induction k with
  | zero =>
    intro c i acc c0 ck i0 i1 ha c1
    omega
  | succ k ih =>
    intro c i acc c0 ck i0 i1 ha c1
    simp only [rounds_s]
    by_cases hc : c < cnt
    · obtain ⟨x, j, e, x0, x1, j0, j1⟩ := f62 (m := n) (by omega) l i 10 hl i0 (by omega) (by omega) (by omega)
      obtain ⟨x', j', e', x0', x1', j0', j1'⟩ := f62 (m := n) (by omega) l j 9 hl (by omega) (by omega) (by omega) (by omega)
      obtain ⟨y, j'', e'', y0, j0'', j1''⟩ := f50 (m := n) (by omega) 105 (.inr rfl) false l j' [.int .i64 9, .int .i64 9, .int .i64 1] hl (by omega) (by omega) (by simp) (by simp)
      have hy : y = .int .i64 9 ∨ y = .int .i64 1 := by simpa using y0
      obtain ⟨y, hy', hy9⟩ : ∃ v : Int, y = .int .i64 v ∧ v.natAbs < 10 ^ 6 := by
        rcases hy with rfl | rfl
        · exact ⟨9, rfl, by decide⟩
        · exact ⟨1, rfl, by decide⟩
      subst hy'
      obtain ⟨s1, l1, d1⟩ := f65 (m := n) (by omega) y hy9
      obtain ⟨s2, l2, d2⟩ := f65 (m := n) (by omega) x (by omega)
      obtain ⟨s3, l3, d3⟩ := f65 (m := n) (by omega) (if x > 1 then x else 1) (by split <;> omega)
      simp only [rndV] at e e' e''
      have ih1 := ih (c + 1) j'' (acc ++ s1) (by omega) (by omega) (by omega) (by omega) (by rw [List.length_append]; omega) (by omega)
      have ih2 := ih (c + 1) j' (acc ++ s2) (by omega) (by omega) (by omega) (by omega) (by rw [List.length_append]; omega) (by omega)
      have ih3 := ih (c + 1) j' (acc ++ s3) (by omega) (by omega) (by omega) (by omega) (by rw [List.length_append]; omega) (by omega)
      clear ih
      generalize rounds _ k = self at ih1 ih2 ih3 ⊢
      have h1 : ((acc ++ s1).length : Int) ≤ 16777216 := by rw [List.length_append]; omega
      have h2 : ((acc ++ s2).length : Int) ≤ 16777216 := by rw [List.length_append]; omega
      have h3 : ((acc ++ s3).length : Int) ≤ 16777216 := by rw [List.length_append]; omega
      have snoc3 : O2.snoc.dn (O2.snoc.dn (O2.snoc.dn (bl []) (.int .i64 9)) (.int .i64 9)) (.int .i64 1) = .list 1 false [.int .i64 9, .int .i64 9, .int .i64 1] := rfl
      simp (disch := omega) only [St68b0, dn_ret, dn_call, dn_loop, dn_cont0, ite_lss, ite_leq, ite_gtr, ite_geq, ite_eql, ite_neq, ite_not, ite_seql, ite_beql, ite_bneq, ite_fld, need_leq', need_lss', need_neq0, b_true, b_false, se_var, se_lit, se_o1, se_o2, se_o3, get0, getS, pc_agg, pi_int, pb_bool, ps_str, o_not, o_len, o_fld, o_slen, o_conv, o_add, o_sub, o_mul, o_quo, o_rem, o_lss, o_leq, o_gtr, o_geq, o_eql, o_neq, o_sadd, o_seql, o_bneq, o_beql, o_mx, o_mkS, o_idx, o_snoc, o_cat, o_subl, o_upd, o_ssub, o_sidx, w64, w8, List.nil_append, List.cons_append, bl_nil, e, e', e'', d1, d2, d3, snoc3]
      rw [lt_pos hc]
      have fin1 : ∀ j0 : Int, i ≤ j0 → j0 ≤ i + 3 → ∀ acc' : List UInt8, (∃ s j, self (.agg [.str acc', .int .i64 (c + 1), bl l, .int .i64 j0]) = some (.agg [.str s, rndV l j]) ∧ s.length ≤ 301 ∧ j0 ≤ j ∧ j ≤ j0 + 4 * (41 - (c + 1)) + 1) →
          ∃ s j, self (.agg [.str acc', .int .i64 (c + 1), bl l, .int .i64 j0]) = some (.agg [.str s, rndV l j]) ∧ s.length ≤ 301 ∧ i ≤ j ∧ j ≤ i + 4 * (41 - c) + 1 := by
        rintro j0 a1 a2 acc' ⟨s, j, b1, b2, b3, b4⟩
        exact ⟨s, j, b1, b2, by omega, by omega⟩
      by_cases hc0 : c = 0
      · rw [eq_pos hc0]
        by_cases hx : x' = 0
        · rw [eq_pos hx, le_pos h1]
          exact fin1 _ (by omega) (by omega) _ ih1
        · rw [eq_neg hx, le_pos h3]
          exact fin1 _ (by omega) (by omega) _ ih3
      · rw [eq_neg hc0]
        by_cases hx : x' = 0
        · rw [eq_pos hx, le_pos h1]
          exact fin1 _ (by omega) (by omega) _ ih1
        · rw [eq_neg hx, le_pos h2]
          exact fin1 _ (by omega) (by omega) _ ih2
    · obtain ⟨x, j, e, x0, x1, j0, j1⟩ := f62 (m := n) (by omega) l i 2 hl i0 (by omega) (by omega) (by omega)
      simp only [rndV] at e
      clear ih
      generalize rounds _ k = self
      have hlen : ((45 :: acc).length : Int) ≤ 16777216 := by simp; omega
      simp (disch := omega) only [St68b0, dn_ret, dn_call, dn_loop, dn_cont0, ite_lss, ite_leq, ite_gtr, ite_geq, ite_eql, ite_neq, ite_not, ite_seql, ite_beql, ite_bneq, ite_fld, need_leq', need_lss', need_neq0, b_true, b_false, se_var, se_lit, se_o1, se_o2, se_o3, get0, getS, pc_agg, pi_int, pb_bool, ps_str, o_not, o_len, o_fld, o_slen, o_conv, o_add, o_sub, o_mul, o_quo, o_rem, o_lss, o_leq, o_gtr, o_geq, o_eql, o_neq, o_sadd, o_seql, o_bneq, o_beql, o_mx, o_mkS, o_idx, o_snoc, o_cat, o_subl, o_upd, o_ssub, o_sidx, w64, w8, List.nil_append, List.cons_append, bl_nil, e]
      rw [lt_neg hc]
      by_cases hx : x = 0
      · exact ⟨45 :: acc, j, by rw [eq_pos hx, le_pos hlen]; rfl, by simp; omega, j0, by omega⟩
      · exact ⟨acc, j, by rw [eq_neg hx]; rfl, by omega, j0, by omega⟩

/-- rnd.integer. -/
theorem f68 {m : Nat} (hm : 150 ≤ m) (l : List UInt8) (i : Int) (hl : l.length ≤ 4000) (i0 : 0 ≤ i) (i1 : i ≤ 100000) :
    ∃ s j, R m 68 (.agg [rndV l i]) = some (.agg [.str s, rndV l j]) ∧ s.length ≤ 301 ∧ i ≤ j ∧ j ≤ i + 200 := by
  obtain ⟨n, rfl⟩ : ∃ n, m = n + 1 := ⟨m - 1, by omega⟩
  obtain ⟨n, rfl⟩ : ∃ p, n = p + 1 := ⟨n - 1, by omega⟩
  obtain ⟨x, j, e, x0, x1, j0, j1⟩ := f62 (m := n + 1) (by omega) l i 14 hl i0 (by omega) (by omega) (by omega)
  obtain ⟨x2, j2, e2, x20, x21, j20, j21⟩ := f62 (m := n + 1) (by omega) l j 2000 hl (by omega) (by omega) (by omega) (by omega)
  obtain ⟨s2, l2, d2⟩ := f65 (m := n + 1) (by omega) (x2 - 1000) (by omega)
  obtain ⟨y3, j3, e3, y3m, j30, j31⟩ := f50 (m := n + 1) (by omega) 50 (.inl rfl) false l j [.str [], .str [45], .str [45, 48], .str [48, 49], .str [49, 97], .str [32, 49], .str [43, 49], .str [48, 48]] hl (by omega) (by omega) (by simp) (by simp)
  obtain ⟨y4, j4, e4, y4m, j40, j41⟩ := f50 (m := n + 1) (by omega) 50 (.inl rfl) false l j [.str [48], .str [49], .str [45, 49], .str [57], .str [49, 48], .str [45, 49, 48], .str [57, 57], .str [49, 48, 48]] hl (by omega) (by omega) (by simp) (by simp)
  obtain ⟨y5, j5, e5, y5m, j50, j51⟩ := f50 (m := n + 1) (by omega) 105 (.inr rfl) false l j [.int .i64 2, .int .i64 5, .int .i64 12, .int .i64 19, .int .i64 20, .int .i64 38, .int .i64 39, .int .i64 40, .int .i64 40, .int .i64 41] hl (by omega) (by omega) (by simp) (by simp)
  obtain ⟨t3, ht3, lt3⟩ : ∃ t : List UInt8, y3 = .str t ∧ t.length ≤ 301 := by
    simp at y3m
    rcases y3m with h | h | h | h | h | h | h | h <;> exact ⟨_, h, by simp⟩
  obtain ⟨t4, ht4, lt4⟩ : ∃ t : List UInt8, y4 = .str t ∧ t.length ≤ 301 := by
    simp at y4m
    rcases y4m with h | h | h | h | h | h | h | h <;> exact ⟨_, h, by simp⟩
  obtain ⟨c5, hc5, c50, c51⟩ : ∃ c : Int, y5 = .int .i64 c ∧ 0 ≤ c ∧ c ≤ 41 := by
    simp at y5m
    rcases y5m with h | h | h | h | h | h | h | h | h <;> exact ⟨_, h, by omega, by omega⟩
  subst ht3 ht4 hc5
  obtain ⟨s6, j6, e6, l6, j60, j61⟩ := loop68 (n + 1) (by omega) l hl (.agg [rndV l i]) (.agg [.int .i64 x, rndV l j]) c5 c51 (rndV l j5) (n + 2) 0 j5 [] (by omega) (by omega) (by omega) (by omega) (by simp) c50
  have q3 : O2.snoc.dn (O2.snoc.dn (O2.snoc.dn (O2.snoc.dn (O2.snoc.dn (O2.snoc.dn (O2.snoc.dn (O2.snoc.dn (bl []) (.str [])) (.str [45])) (.str [45, 48])) (.str [48, 49])) (.str [49, 97])) (.str [32, 49])) (.str [43, 49])) (.str [48, 48]) = .list 1 false [.str [], .str [45], .str [45, 48], .str [48, 49], .str [49, 97], .str [32, 49], .str [43, 49], .str [48, 48]] := rfl
  have q4 : O2.snoc.dn (O2.snoc.dn (O2.snoc.dn (O2.snoc.dn (O2.snoc.dn (O2.snoc.dn (O2.snoc.dn (O2.snoc.dn (bl []) (.str [48])) (.str [49])) (.str [45, 49])) (.str [57])) (.str [49, 48])) (.str [45, 49, 48])) (.str [57, 57])) (.str [49, 48, 48]) = .list 1 false [.str [48], .str [49], .str [45, 49], .str [57], .str [49, 48], .str [45, 49, 48], .str [57, 57], .str [49, 48, 48]] := rfl
  have q5 : O2.snoc.dn (O2.snoc.dn (O2.snoc.dn (O2.snoc.dn (O2.snoc.dn (O2.snoc.dn (O2.snoc.dn (O2.snoc.dn (O2.snoc.dn (O2.snoc.dn (bl []) (.int .i64 2)) (.int .i64 5)) (.int .i64 12)) (.int .i64 19)) (.int .i64 20)) (.int .i64 38)) (.int .i64 39)) (.int .i64 40)) (.int .i64 40)) (.int .i64 41) = .list 1 false [.int .i64 2, .int .i64 5, .int .i64 12, .int .i64 19, .int .i64 20, .int .i64 38, .int .i64 39, .int .i64 40, .int .i64 40, .int .i64 41] := rfl
  rw [R_succ (n + 1) 68 _ rfl]
  simp only [rndV] at e e2 e3 e4 e5 e6
  simp (disch := omega) only [St68, dn_ret, dn_call, dn_loop, dn_cont0, ite_lss, ite_leq, ite_gtr, ite_geq, ite_eql, ite_neq, ite_not, ite_seql, ite_beql, ite_bneq, ite_fld, need_leq', need_lss', need_neq0, b_true, b_false, se_var, se_lit, se_o1, se_o2, se_o3, get0, getS, pc_agg, pi_int, pb_bool, ps_str, o_not, o_len, o_fld, o_slen, o_conv, o_add, o_sub, o_mul, o_quo, o_rem, o_lss, o_leq, o_gtr, o_geq, o_eql, o_neq, o_sadd, o_seql, o_bneq, o_beql, o_mx, o_mkS, o_idx, o_snoc, o_cat, o_subl, o_upd, o_ssub, o_sidx, w64, w8, List.nil_append, List.cons_append, bl_nil, rndV, e, e2, d2, q3, q4, q5, e3, e4, e5]
  by_cases h0 : x = 0
  · rw [eq_pos h0]; exact ⟨t3, j3, rfl, lt3, by omega, by omega⟩
  rw [eq_neg h0]
  by_cases h1 : x = 1
  · rw [eq_pos h1]; exact ⟨t4, j4, rfl, lt4, by omega, by omega⟩
  rw [eq_neg h1]
  by_cases h2 : x = 2
  · rw [eq_pos h2]; exact ⟨s2, j2, rfl, by omega, by omega, by omega⟩
  rw [eq_neg h2]
  by_cases h3 : x = 3
  · rw [eq_pos h3]; exact ⟨s2, j2, rfl, by omega, by omega, by omega⟩
  rw [eq_neg h3]
  by_cases h4 : x = 4
  · rw [eq_pos h4]; exact ⟨s2, j2, rfl, by omega, by omega, by omega⟩
  rw [eq_neg h4]
  exact ⟨s6, j6, e6, l6, by omega, by omega⟩

theorem f48 {m : Nat} (hm : 1 ≤ m) (l : List UInt8) (hl : l.length ≤ 100000000) : R m 48 (.agg [bl l]) = some (.agg [rndV (l.take 4000) 0]) := by
  obtain ⟨n, rfl⟩ : ∃ n, m = n + 1 := ⟨m - 1, by omega⟩
  rw [R_succ n 48 _ rfl]
  simp (disch := omega) only [St48, dn_ret, dn_call, dn_loop, dn_cont0, ite_lss, ite_leq, ite_gtr, ite_geq, ite_eql, ite_neq, ite_not, ite_seql, ite_beql, ite_bneq, ite_fld, need_leq', need_lss', need_neq0, b_true, b_false, se_var, se_lit, se_o1, se_o2, se_o3, get0, getS, pc_agg, pi_int, pb_bool, ps_str, o_not, o_len, o_fld, o_slen, o_conv, o_add, o_sub, o_mul, o_quo, o_rem, o_lss, o_leq, o_gtr, o_geq, o_eql, o_neq, o_sadd, o_seql, o_bneq, o_beql, o_mx, o_mkS, o_idx, o_snoc, o_cat, o_subl, o_upd, o_ssub, o_sidx, w64, w8, List.nil_append, List.cons_append, bl_nil, o_mn, ob_len, ob_sub, Int.toNat_zero, List.drop_zero]
  by_cases h : (4000 : Int) < l.length
  · rw [if_pos h, le_pos (by omega), le_pos (by omega)]
    rfl
  · rw [if_neg h, le_pos (by omega), le_pos (by omega), Int.toNat_natCast, List.take_length, List.take_of_length_le (by omega)]
    rfl
end Go.Dv

/- From trees to calls. -/
set_option linter.unusedVariables false
set_option linter.unusedSimpArgs false
namespace Go.Dv
open Go.Proofs Go.RowKit

theorem calls_of {f : FuncId} {sg : Sig} (hsg : Stab.sig f = some sg) (hptr : ptrPs sg.ps = []) {m : Nat} {xs rs : List PV} (h : R m f (.agg xs) = some (.agg rs)) {w : World} {p : Pins} (hp : PinsOk p w) {vs : Array Value} (hps : ParsV Tryz.prog p w sg.ps xs vs.toList []) :
    Calls Tryz.prog f vs w fun e w' => ∃ (rvs : List Value) (p' : Pins) (o : List Nat), e = .returned (oneV rvs) ∧ ParsV Tryz.prog p' w' sg.rs rs rvs o ∧ Below w.heap.size w w' := by
  refine (R_ok m f sg _ _ hsg h p w vs [] xs rfl hp hps List.nodup_nil).mono ?_
  rintro e w' ⟨rvs, p', o1, o2, rs', fs, rfl, hr, hs, -, -, h1, h2⟩
  rw [hptr] at h2
  simp only [ParsV] at h2
  obtain ⟨rfl, -, -⟩ := h2
  simp only [List.append_nil, PV.agg.injEq] at hr
  subst hr
  exact ⟨rvs, p', o1, rfl, h1, hs.os, hs.tape, hs.output, hs.size, fun b hb => hs.keep b hb (by simp)⟩

theorem pars1 {P : Program} {p : Pins} {w : World} {k : Kn} {x : PV} {rvs : List Value} {o : List Nat} (h : ParsV P p w [.one (.pv k)] [x] rvs o) : ∃ v, rvs = [v] ∧ RV p x v := by
  simp only [ParsV, ParV, ClV] at h
  obtain ⟨x', xs', v, vs', o1, o2, e1, e2, -, h1, h2, h3, -⟩ := h
  simp only [List.cons.injEq] at e1
  obtain ⟨rfl, -⟩ := e1
  exact ⟨v, by rw [e2, h3], h1.1⟩
theorem pars2 {P : Program} {p : Pins} {w : World} {k k' : Kn} {x y : PV} {rvs : List Value} {o : List Nat} (h : ParsV P p w [.one (.pv k), .one (.pv k')] [x, y] rvs o) : ∃ u v, rvs = [u, v] ∧ RV p x u ∧ RV p y v := by
  rw [ParsV] at h
  obtain ⟨x', xs', v, vs', o1, o2, e1, e2, -, h1, h2⟩ := h
  simp only [List.cons.injEq] at e1
  obtain ⟨rfl, rfl⟩ := e1
  simp only [ParV, ClV] at h1
  obtain ⟨v', e3, h3⟩ := pars1 h2
  exact ⟨v, v', by rw [e2, e3], h1.1, h3⟩
theorem mk1 {P : Program} {p : Pins} {w : World} {k : Kn} {x : PV} {v : Value} (h : RV p x v) (hw : wt P k x = true) : ParsV P p w [.one (.pv k)] [x] [v] [] := by
  simp only [ParsV, ParV, ClV]
  exact ⟨_, _, _, _, [], [], rfl, rfl, rfl, ⟨h, hw, rfl⟩, rfl, rfl, rfl⟩
theorem mk2 {P : Program} {p : Pins} {w : World} {k k' : Kn} {x y : PV} {u v : Value} (h : RV p x u) (hw : wt P k x = true) (h' : RV p y v) (hw' : wt P k' y = true) : ParsV P p w [.one (.pv k), .one (.pv k')] [x, y] [u, v] [] := by
  rw [ParsV]
  exact ⟨_, _, _, _, [], [], rfl, rfl, rfl, ⟨h, hw, rfl⟩, mk1 h' hw'⟩
def noPins : Pins := fun _ _ => none
theorem noPins_ok (w : World) : PinsOk noPins w := by intro b o v h; simp [noPins] at h
theorem rv_str {p : Pins} {l : List UInt8} {v : Value} (h : RV p (.str l) v) : v = .string ⟨l.toArray⟩ := by simpa only [RV] using h
theorem rv_bool {p : Pins} {b : Bool} {v : Value} (h : RV p (.bool b) v) : v = .bool b := by simpa only [RV] using h
theorem rv_int {p : Pins} {k : IntKind} {n : Int} {v : Value} (h : RV p (.int k n) v) : v = .int k n := by simpa only [RV] using h

theorem strBool {f : FuncId} (hsg : Stab.sig f = some ⟨[.one (.pv .str)], [.one (.pv .bool)]⟩) {m : Nat} {l : List UInt8} {b : Bool} (h : R m f (.agg [.str l]) = some (.agg [.bool b])) (w : World) :
    Calls Tryz.prog f #[.string ⟨l.toArray⟩] w fun e w' => e = .returned (.bool b) ∧ Below w.heap.size w w' := by
  refine (calls_of hsg rfl h (noPins_ok w) (vs := #[.string ⟨l.toArray⟩]) (mk1 (by simp only [RV]) rfl)).mono ?_
  rintro e w' ⟨rvs, p', o, rfl, h1, h2⟩
  obtain ⟨v, rfl, h3⟩ := pars1 h1
  rw [rv_bool h3]
  exact ⟨rfl, h2⟩
theorem strsInt {f : FuncId} (hsg : Stab.sig f = some ⟨[.one (.pv .str), .one (.pv .str)], [.one (.pv (.int .i64))]⟩) {m : Nat} {l l' : List UInt8} {n : Int} (h : R m f (.agg [.str l, .str l']) = some (.agg [.int .i64 n])) (w : World) :
    Calls Tryz.prog f #[.string ⟨l.toArray⟩, .string ⟨l'.toArray⟩] w fun e w' => e = .returned (.int .i64 n) ∧ Below w.heap.size w w' := by
  refine (calls_of hsg rfl h (noPins_ok w) (vs := #[.string ⟨l.toArray⟩, .string ⟨l'.toArray⟩]) (mk2 (by simp only [RV]) rfl (by simp only [RV]) rfl)).mono ?_
  rintro e w' ⟨rvs, p', o, rfl, h1, h2⟩
  obtain ⟨v, rfl, h3⟩ := pars1 h1
  rw [rv_int h3]
  exact ⟨rfl, h2⟩
theorem strsTwo {f : FuncId} (hsg : Stab.sig f = some ⟨[.one (.pv .str), .one (.pv .str)], [.one (.pv .str), .one (.pv .bool)]⟩) {m : Nat} {l l' r : List UInt8} {b : Bool} (h : R m f (.agg [.str l, .str l']) = some (.agg [.str r, .bool b])) (w : World) :
    Calls Tryz.prog f #[.string ⟨l.toArray⟩, .string ⟨l'.toArray⟩] w fun e w' => e = .returned (.tuple #[.string ⟨r.toArray⟩, .bool b]) ∧ Below w.heap.size w w' := by
  refine (calls_of hsg rfl h (noPins_ok w) (vs := #[.string ⟨l.toArray⟩, .string ⟨l'.toArray⟩]) (mk2 (by simp only [RV]) rfl (by simp only [RV]) rfl)).mono ?_
  rintro e w' ⟨rvs, p', o, rfl, h1, h2⟩
  obtain ⟨u, v, rfl, h3, h4⟩ := pars2 h1
  rw [rv_str h3, rv_bool h4]
  exact ⟨rfl, h2⟩

/-! The code slice. -/
theorem res_bl {p : Pins} {q : Nat → Option Value} : ∀ (l : List UInt8) (o : Nat), (∀ j, j < l.length → q (o + j) = some (.int .u8 (l.getD j 0).toNat)) → REs p q 1 false o (l.map fun c => .int .u8 c.toNat)
  | [], o, h => by simp [REs]
  | c :: l, o, h => by
    simp only [List.map_cons, REs, RE]
    refine ⟨⟨trivial, trivial, _, ?_, rfl⟩, res_bl l (o + 1) fun j hj => ?_⟩
    · have := h 0 (by simp)
      simpa using this
    · have := h (j + 1) (by simp; omega)
      rw [Nat.add_assoc, Nat.add_comm 1 j, this]
      simp
theorem wt_bl (l : List UInt8) : wt Tryz.prog (.list 5) (bl l) = true := by
  have e1 : sizeA Tryz.prog 5 = some 1 := by kernel_rfl
  have e2 : isAggA Tryz.prog 5 = some false := by kernel_rfl
  have e3 : cellK Tryz.prog 5 = some [.int .u8] := by kernel_rfl
  simp only [bl, wt, e1, e2, e3, beq_self_eq_true, Bool.true_and]
  induction l with
  | nil => rfl
  | cons c l ih => rw [List.map_cons, wtEs, ih]; simp [wtE]

theorem drawCalls {f : FuncId} (hsg : Stab.sig f = some ⟨[.one (.pv (.list 5))], [.one (.pv .str), .one (.pv .str)]⟩) {m : Nat} {l x y : List UInt8} (h : R m f (.agg [bl l]) = some (.agg [.str x, .str y])) (W w : World) (hW : ∀ (b : Nat) (o : Obj), W.heap[b]? = some o → w.heap[b]? = some o)
    (a : Option Addr) (c : Nat) (hc : l.length ≤ c) (ha : a = none → c = 0) (hcell : 0 < l.length → ∃ ad, a = some ad ∧ ∀ j, j < l.length → W.cell? (ad.add j) = some (.int .u8 (l.getD j 0).toNat)) :
    Calls Tryz.prog f #[.slice a l.length c] w fun e w' => e = .returned (.tuple #[.string ⟨x.toArray⟩, .string ⟨y.toArray⟩]) ∧ Below w.heap.size w w' := by
  let p : Pins := fun b o => W.cell? ⟨b, o, none⟩
  have hp : PinsOk p w := by
    intro b o v hv
    have hv : W.cell? ⟨b, o, none⟩ = some v := hv
    unfold World.cell? at hv ⊢
    cases hb : W.heap[b]? with
    | none => simp [hb] at hv
    | some ob => simp only [hb, hW b ob hb] at hv ⊢; exact hv
  have hrv : RV p (bl l) (.slice a l.length c) := by
    simp only [bl, RV, List.length_map]
    refine ⟨a, c, rfl, hc, by omega, ha, fun hl => ?_⟩
    obtain ⟨ad, rfl, hj⟩ := hcell hl
    have h0 := hj 0 hl
    have hsp : ad.spot = none := by
      simp only [Addr.add, if_true] at h0
      unfold World.cell? at h0
      split at h0
      · split at h0
        · simp at h0
        · rename_i hs; simpa using hs
      · simp at h0
    refine ⟨ad.block, ad.off, by cases ad; simp at hsp; subst hsp; rfl, res_bl l ad.off fun j hjl => ?_⟩
    have := hj j hjl
    show W.cell? ⟨ad.block, ad.off + j, none⟩ = _
    rw [← this]
    congr 1
    unfold Addr.add
    by_cases hj0 : j = 0
    · subst hj0; cases ad; simp at hsp; subst hsp; rfl
    · rw [if_neg hj0]
  refine (calls_of hsg rfl h hp (vs := #[.slice a l.length c]) (mk1 hrv (wt_bl l))).mono ?_
  rintro e w' ⟨rvs, p', o, rfl, h1, h2⟩
  obtain ⟨u, v, rfl, h3, h4⟩ := pars2 h1
  rw [rv_str h3, rv_str h4]
  exact ⟨rfl, h2⟩
end Go.Dv

/- An integer's text is its value's text; the magnitude of a negative one. -/
set_option linter.unusedVariables false
set_option linter.unusedSimpArgs false
namespace Go.Dv

theorem digT_body {s : List UInt8} (h : isIntL s = true) : digT (Z s).natAbs = bodyL s := by
  obtain ⟨h1, h2, h3, h4⟩ := isInt_parts h
  by_cases h0 : (bodyL s).getD 0 0 = 48
  · obtain ⟨e1, e2⟩ := body_zero h h0
    have : Z s = 0 := by unfold Z; rw [e1, e2]; rfl
    rw [this, e1]; rfl
  · have hp := body_pos h h0
    have hz : (Z s).natAbs ≠ 0 := by rw [Z_abs h]; omega
    unfold digT
    rw [if_neg hz, ← Z_dig h]
    cases e : bodyL s with
    | nil => rw [e] at h1; simp at h1
    | cons c b =>
      rw [e] at h0 h3
      have hc := (isD_iff c).1 (by simp at h3; exact h3.1)
      have e1 : digL (c :: b) = digL b ++ [((c.toNat : Int) - 48)] := by simp [digL]
      have e2 : trim (digL (c :: b)) = digL (c :: b) := by
        rw [e1, trim_snoc, if_neg]
        intro e
        exact h0 (UInt8.toNat_inj.1 (show c.toNat = 48 by omega))
      rw [e2]
      unfold digL
      rw [← List.map_reverse, List.reverse_reverse, List.map_map]
      conv => rhs; rw [← List.map_id (c :: b)]
      apply List.map_congr_left
      intro x hx
      have := (isD_iff x).1 (List.all_eq_true.1 h3 x hx)
      show UInt8.ofNat (48 + ((x.toNat : Int) - 48)).toNat = x
      have : (48 + ((x.toNat : Int) - 48)).toNat = x.toNat := by omega
      rw [this]
      exact UInt8.ofNat_toNat
theorem textZ_Z {s : List UInt8} (h : isIntL s = true) : textZ (Z s) = s := by
  unfold textZ
  rw [digT_body h]
  have := Z_neg h
  have hb := body_eq s
  by_cases hz : Z s < 0
  · rw [decide_eq_true hz] at this
    rw [if_pos hz]
    rw [← this] at hb
    exact hb.symm
  · rw [decide_eq_false hz] at this
    rw [if_neg hz]
    rw [← this] at hb
    exact hb.symm
/-- The magnitude of a negative integer is an integer. -/
theorem body_int {s : List UInt8} (h : isIntL s = true) (hn : negL s = true) : isIntL (bodyL s) = true ∧ negL (bodyL s) = false ∧ Z (bodyL s) = -(Z s) ∧ (bodyL s).getD 0 0 ≠ 48 := by
  obtain ⟨h1, h2, h3, h4⟩ := isInt_parts h
  have h0 : (bodyL s).getD 0 0 ≠ 48 := by
    intro e
    have := (h4 e).2
    rw [hn] at this
    simp at this
  have hnb : negL (bodyL s) = false := by
    cases e : bodyL s with
    | nil => rfl
    | cons c b =>
      rw [e] at h3
      have hc := (isD_iff c).1 (by simp at h3; exact h3.1)
      unfold negL
      rw [decide_eq_false_iff_not]
      intro h
      have : c = 45 := by simpa using h
      subst this
      have : (48 : Nat) ≤ 45 := hc.1
      omega
  have hbb : bodyL (bodyL s) = bodyL s := by
    have := body_eq (bodyL s)
    rw [hnb] at this
    exact this.symm
  refine ⟨?_, hnb, ?_, h0⟩
  · unfold isIntL
    rw [hbb, hnb, h3, decide_eq_true h1, decide_eq_true h2, decide_eq_false h0]
    rfl
  · unfold Z
    rw [hbb, hnb, hn]
    simp [sg]
theorem fit_Z {s : List UInt8} (h : isIntL s = true) : fitV (Z s) = .agg [.str s, .bool true] := by
  unfold fitV
  rw [if_pos (show (canon (Z s).natAbs).length ≤ 40 from Z_Sm h), textZ_Z h]
theorem sub0 {m : Nat} (hm : 105 ≤ m) {s : List UInt8} (h : isIntL s = true) (hn : negL s = true) : R m 39 (.agg [.str [48], .str (bodyL s)]) = some (.agg [.str s, .bool true]) := by
  obtain ⟨b1, b2, b3, b4⟩ := body_int h hn
  rw [f39 hm, if_pos ⟨rfl, b1⟩, b3]
  have : Z [48] - -(Z s) = Z s := by
    have : Z [48] = 0 := rfl
    omega
  rw [this, fit_Z h]
theorem fit_len {z : Int} (h : (canon z.natAbs).length ≤ 40) : (textZ z).length ≤ 42 := by
  have := (digT_ok z.natAbs).2.2.2
  unfold textZ
  rw [List.length_append]
  split <;> simp <;> omega

/-- What an operation answers. -/
def opOk (z : Option Int) : Bool := match z with | some z => decide ((canon z.natAbs).length ≤ 40) | none => false
def opOut (z : Option Int) : List UInt8 := match z with | some z => if (canon z.natAbs).length ≤ 40 then textZ z else [] | none => []
def opV (z : Option Int) : PV := .agg [.str (opOut z), .bool (opOk z)]
theorem fit_op (z : Int) : fitV z = opV (some z) := by
  unfold fitV opV opOut opOk
  by_cases h : (canon z.natAbs).length ≤ 40
  · simp [h]
  · simp [h]
theorem opOut_len (z : Option Int) : (opOut z).length ≤ 42 := by
  unfold opOut
  cases z with
  | none => simp
  | some z =>
    by_cases h : (canon z.natAbs).length ≤ 40
    · simp only [h, if_true]; exact fit_len h
    · simp [h]
theorem opOut_bad {z : Option Int} (h : opOk z = false) : opOut z = [] := by
  unfold opOut
  unfold opOk at h
  cases z with
  | none => rfl
  | some z =>
    simp only [decide_eq_false_iff_not] at h
    simp [h]
end Go.Dv
