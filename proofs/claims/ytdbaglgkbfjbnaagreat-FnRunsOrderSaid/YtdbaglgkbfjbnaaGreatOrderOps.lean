/- Comparing. -/
import Derived.Test.YtdbaglgkbfjbnaaGreatDvI

set_option linter.unusedVariables false
set_option linter.unusedSimpArgs false
namespace Go.Dv
/-- The draw. -/
theorem fDraw {m : Nat} (hm : 200 ≤ m) (l : List UInt8) (hl : l.length ≤ 100000000) :
    ∃ x y, R m 27 (.agg [bl l]) = some (.agg [.str x, .str y]) ∧ x.length ≤ 301 ∧ y.length ≤ 301 := by
  obtain ⟨n, rfl⟩ : ∃ n, m = n + 1 := ⟨m - 1, by omega⟩
  have hl' : (l.take 4000).length ≤ 4000 := by rw [List.length_take]; omega
  have e0 := f48 (m := n) (by omega) l hl
  obtain ⟨s1, j1, e1, l1, j10, j11⟩ := f68 (m := n) (by omega) (l.take 4000) 0 hl' (by omega) (by omega)
  obtain ⟨x2, j2, e2, x20, x21, j20, j21⟩ := f62 (m := n) (by omega) (l.take 4000) j1 6 hl' (by omega) (by omega) (by omega) (by omega)
  obtain ⟨s3, j3, e3, l3, j30, j31⟩ := f68 (m := n) (by omega) (l.take 4000) j2 hl' (by omega) (by omega)
  simp only [rndV] at e0 e1 e2 e3
  rw [R_succ n 27 _ rfl]
  simp (disch := omega) only [St27, dn_ret, dn_call, dn_loop, dn_cont0, ite_lss, ite_leq, ite_gtr, ite_geq, ite_eql, ite_neq, ite_not, ite_seql, ite_beql, ite_bneq, ite_fld, need_leq', need_lss', need_neq0, b_true, b_false, se_var, se_lit, se_o1, se_o2, se_o3, get0, getS, pc_agg, pi_int, pb_bool, ps_str, o_not, o_len, o_fld, o_slen, o_conv, o_add, o_sub, o_mul, o_quo, o_rem, o_lss, o_leq, o_gtr, o_geq, o_eql, o_neq, o_sadd, o_seql, o_bneq, o_beql, o_mx, o_mkS, o_idx, o_snoc, o_cat, o_subl, o_upd, o_ssub, o_sidx, w64, w8, List.nil_append, List.cons_append, bl_nil, e0, e1, e2, e3]
  by_cases h : x2 = 0
  · rw [eq_pos h]; exact ⟨s1, s1, rfl, l1, l1⟩
  · rw [eq_neg h]; exact ⟨s1, s3, rfl, l1, l3⟩
/-- cmpInts. -/
theorem f73 {m : Nat} (hm : 102 ≤ m) {s t : List UInt8} {x y : Int} (hs : ∀ n, 101 ≤ n → R n 110 (.agg [.str s]) = some (digV x)) (ht : ∀ n, 101 ≤ n → R n 110 (.agg [.str t]) = some (digV y)) (hx : Sm x 80) (hy : Sm y 80) :
    R m 73 (.agg [.str s, .str t]) = some (.agg [.int .i64 (cmpI x y)]) := by
  obtain ⟨n, rfl⟩ : ∃ n, m = n + 1 := ⟨m - 1, by omega⟩
  unfold Sm at hx hy
  have cmp := f108_111 (m := n) (by omega) 111 (.inr rfl) x.natAbs y.natAbs (by omega) (by omega)
  have cmp' := f108_111 (m := n) (by omega) 111 (.inr rfl) y.natAbs x.natAbs (by omega) (by omega)
  rw [R_succ n 73 _ rfl]
  simp (disch := omega) only [St73, dn_ret, dn_call, dn_loop, dn_cont0, ite_lss, ite_leq, ite_gtr, ite_geq, ite_eql, ite_neq, ite_not, ite_seql, ite_beql, ite_bneq, ite_fld, need_leq', need_lss', need_neq0, b_true, b_false, se_var, se_lit, se_o1, se_o2, se_o3, get0, getS, pc_agg, pi_int, pb_bool, ps_str, o_not, o_len, o_fld, o_slen, o_conv, o_add, o_sub, o_mul, o_quo, o_rem, o_lss, o_leq, o_gtr, o_geq, o_eql, o_neq, o_sadd, o_seql, o_bneq, o_beql, o_mx, o_mkS, o_idx, o_snoc, o_cat, o_subl, o_upd, o_ssub, o_sidx, w64, w8, List.nil_append, List.cons_append, dl_nil, hs n (by omega), ht n (by omega), digV]
  by_cases hx0 : x < 0 <;> by_cases hy0 : y < 0
  · simp only [hx0, hy0, decide_true, decide_false, bneq_tt, cmp', dn_ret, dn_call, dn_loop, dn_cont0, ite_lss, ite_leq, ite_gtr, ite_geq, ite_eql, ite_neq, ite_not, ite_seql, ite_beql, ite_bneq, ite_fld, need_leq', need_lss', need_neq0, b_true, b_false, se_var, se_lit, se_o1, se_o2, se_o3, get0, getS, pc_agg, pi_int, pb_bool, ps_str, o_not, o_len, o_fld, o_slen, o_conv, o_add, o_sub, o_mul, o_quo, o_rem, o_lss, o_leq, o_gtr, o_geq, o_eql, o_neq, o_sadd, o_seql, o_bneq, o_beql, o_mx, o_mkS, o_idx, o_snoc, o_cat, o_subl, o_upd, o_ssub, o_sidx, w64, w8, List.nil_append, List.cons_append, dl_nil]
    have : cmpI (y.natAbs : Int) (x.natAbs : Int) = cmpI x y := by unfold cmpI; simp only [show ((y.natAbs : Int) < x.natAbs) ↔ x < y by omega, show ((y.natAbs : Int) = x.natAbs) ↔ x = y by omega]
    rw [this]
  · simp only [hx0, hy0, decide_true, decide_false, bneq_tf, dn_ret, dn_call, dn_loop, dn_cont0, ite_lss, ite_leq, ite_gtr, ite_geq, ite_eql, ite_neq, ite_not, ite_seql, ite_beql, ite_bneq, ite_fld, need_leq', need_lss', need_neq0, b_true, b_false, se_var, se_lit, se_o1, se_o2, se_o3, get0, getS, pc_agg, pi_int, pb_bool, ps_str, o_not, o_len, o_fld, o_slen, o_conv, o_add, o_sub, o_mul, o_quo, o_rem, o_lss, o_leq, o_gtr, o_geq, o_eql, o_neq, o_sadd, o_seql, o_bneq, o_beql, o_mx, o_mkS, o_idx, o_snoc, o_cat, o_subl, o_upd, o_ssub, o_sidx, w64, w8, List.nil_append, List.cons_append, dl_nil]
    have : cmpI x y = -1 := by unfold cmpI; rw [if_pos (by omega)]
    rw [this]
  · simp only [hx0, hy0, decide_true, decide_false, bneq_ft, dn_ret, dn_call, dn_loop, dn_cont0, ite_lss, ite_leq, ite_gtr, ite_geq, ite_eql, ite_neq, ite_not, ite_seql, ite_beql, ite_bneq, ite_fld, need_leq', need_lss', need_neq0, b_true, b_false, se_var, se_lit, se_o1, se_o2, se_o3, get0, getS, pc_agg, pi_int, pb_bool, ps_str, o_not, o_len, o_fld, o_slen, o_conv, o_add, o_sub, o_mul, o_quo, o_rem, o_lss, o_leq, o_gtr, o_geq, o_eql, o_neq, o_sadd, o_seql, o_bneq, o_beql, o_mx, o_mkS, o_idx, o_snoc, o_cat, o_subl, o_upd, o_ssub, o_sidx, w64, w8, List.nil_append, List.cons_append, dl_nil]
    have : cmpI x y = 1 := by unfold cmpI; rw [if_neg (by omega), if_neg (by omega)]
    rw [this]
  · simp only [hx0, hy0, decide_true, decide_false, bneq_ff, cmp, dn_ret, dn_call, dn_loop, dn_cont0, ite_lss, ite_leq, ite_gtr, ite_geq, ite_eql, ite_neq, ite_not, ite_seql, ite_beql, ite_bneq, ite_fld, need_leq', need_lss', need_neq0, b_true, b_false, se_var, se_lit, se_o1, se_o2, se_o3, get0, getS, pc_agg, pi_int, pb_bool, ps_str, o_not, o_len, o_fld, o_slen, o_conv, o_add, o_sub, o_mul, o_quo, o_rem, o_lss, o_leq, o_gtr, o_geq, o_eql, o_neq, o_sadd, o_seql, o_bneq, o_beql, o_mx, o_mkS, o_idx, o_snoc, o_cat, o_subl, o_upd, o_ssub, o_sidx, w64, w8, List.nil_append, List.cons_append, dl_nil]
    have : cmpI (x.natAbs : Int) (y.natAbs : Int) = cmpI x y := by unfold cmpI; simp only [show ((x.natAbs : Int) < y.natAbs) ↔ x < y by omega, show ((x.natAbs : Int) = y.natAbs) ↔ x = y by omega]
    rw [this]
theorem f28 {m : Nat} (hm : 105 ≤ m) (a b : List UInt8) : R m 28 (.agg [.str a, .str b]) = some (.agg [.int .i64 (if isIntL a = true ∧ isIntL b = true then cmpI (Z a) (Z b) else -2)]) := by
  obtain ⟨n, rfl⟩ : ∃ n, m = n + 1 := ⟨m - 1, by omega⟩
  rw [R_succ n 28 _ rfl]
  by_cases h : isIntL a = true ∧ isIntL b = true
  · rw [if_pos h]
    have h71 := f71 (m := n) (by omega) (Z b) ((Z_Sm h.2).mono (by omega))
    have h70 := f70 (m := n) (by omega) (Z a) (-(Z b)) ((Z_Sm h.1).mono (by omega)) ((Z_Sm h.2).neg.mono (by omega))
    have eta : ∀ z, PV.agg [(O1.fld 0).dn (numV z), (O1.fld 1).dn (numV z)] = numV z := fun z => rfl
    simp (disch := omega) only [St28, dn_ret, dn_call, dn_loop, dn_cont0, ite_lss, ite_leq, ite_gtr, ite_geq, ite_eql, ite_neq, ite_not, ite_seql, ite_beql, ite_bneq, ite_fld, need_leq', need_lss', need_neq0, b_true, b_false, se_var, se_lit, se_o1, se_o2, se_o3, get0, getS, pc_agg, pi_int, pb_bool, ps_str, o_not, o_len, o_fld, o_slen, o_conv, o_add, o_sub, o_mul, o_quo, o_rem, o_lss, o_leq, o_gtr, o_geq, o_eql, o_neq, o_sadd, o_seql, o_bneq, o_beql, o_mx, o_mkS, o_idx, o_snoc, o_cat, o_subl, o_upd, o_ssub, o_sidx, w64, w8, List.nil_append, List.cons_append, dl_nil, f69 (m := n) (by omega) a b h.1 h.2, eta, h71, h70]
    have e1 : (O1.fld 1).dn (numV (Z a + -Z b)) = dl (canon (Z a + -Z b).natAbs) := rfl
    have e2 : (numV (Z a + -Z b)).cs.getD 0 (PV.bool false) = .bool (decide (Z a + -Z b < 0)) := rfl
    simp only [e1, e2, o_len, pi_int]
    unfold cmpI
    by_cases h0 : Z a = Z b
    · rw [h0, Int.add_right_neg, if_neg (by omega), if_pos rfl]
      rfl
    · have : 0 < (canon (Z a + -Z b).natAbs).length := by
        cases e : canon (Z a + -Z b).natAbs with
        | nil => have := canon_nil.1 e; omega
        | cons a l => simp
      rw [eq_neg (by omega)]
      by_cases h1 : Z a < Z b
      · rw [decide_eq_true (show Z a + -Z b < 0 by omega), if_pos h1]
      · rw [decide_eq_false (show ¬ Z a + -Z b < 0 by omega), if_neg h1, if_neg h0]
  · rw [if_neg h]
    obtain ⟨p, q, e⟩ := f69' (m := n) (by omega) a b h
    simp only [St28, dn_ret, dn_call, dn_loop, dn_cont0, ite_lss, ite_leq, ite_gtr, ite_geq, ite_eql, ite_neq, ite_not, ite_seql, ite_beql, ite_bneq, ite_fld, need_leq', need_lss', need_neq0, b_true, b_false, se_var, se_lit, se_o1, se_o2, se_o3, get0, getS, pc_agg, pi_int, pb_bool, ps_str, o_not, o_len, o_fld, o_slen, o_conv, o_add, o_sub, o_mul, o_quo, o_rem, o_lss, o_leq, o_gtr, o_geq, o_eql, o_neq, o_sadd, o_seql, o_bneq, o_beql, o_mx, o_mkS, o_idx, o_snoc, o_cat, o_subl, o_upd, o_ssub, o_sidx, w64, w8, List.nil_append, List.cons_append, dl_nil, e]
theorem f29 {m : Nat} (a b : List UInt8) (hm : 105 ≤ m) (ha : a.length + 5 ≤ m) (hb : b.length + 5 ≤ m) (ha2 : a.length < 100000) (hb2 : b.length < 100000) : R m 29 (.agg [.str a, .str b]) = some (.agg [.int .i64 (if isIntL a = true ∧ isIntL b = true then cmpI (Z a) (Z b) else -2)]) := by
  obtain ⟨n, rfl⟩ : ∃ n, m = n + 1 := ⟨m - 1, by omega⟩
  rw [R_succ n 29 _ rfl]
  simp (disch := omega) only [St29, dn_ret, dn_call, dn_loop, dn_cont0, ite_lss, ite_leq, ite_gtr, ite_geq, ite_eql, ite_neq, ite_not, ite_seql, ite_beql, ite_bneq, ite_fld, need_leq', need_lss', need_neq0, b_true, b_false, se_var, se_lit, se_o1, se_o2, se_o3, get0, getS, pc_agg, pi_int, pb_bool, ps_str, o_not, o_len, o_fld, o_slen, o_conv, o_add, o_sub, o_mul, o_quo, o_rem, o_lss, o_leq, o_gtr, o_geq, o_eql, o_neq, o_sadd, o_seql, o_bneq, o_beql, o_mx, o_mkS, o_idx, o_snoc, o_cat, o_subl, o_upd, o_ssub, o_sidx, w64, w8, List.nil_append, List.cons_append, dl_nil, f72 (m := n) a (by omega) ha2, f72 (m := n) b (by omega) hb2]
  by_cases h1 : isIntL a = true
  · rw [h1]
    by_cases h2 : isIntL b = true
    · rw [h2, f73 (m := n) (by omega) (fun n hn => f110Z hn h1) (fun n hn => f110Z hn h2) ((Z_Sm h1).mono (by omega)) ((Z_Sm h2).mono (by omega))]
      simp
      rfl
    · have h2 : isIntL b = false := by simpa using h2
      rw [h2]; simp; rfl
  · have h1 : isIntL a = false := by simpa using h1
    rw [h1]; simp; rfl
end Go.Dv
