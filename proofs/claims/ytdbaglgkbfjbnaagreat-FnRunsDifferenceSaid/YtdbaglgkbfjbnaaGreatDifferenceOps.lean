/- Differences. -/
import Derived.Test.YtdbaglgkbfjbnaaGreatDvI

set_option linter.unusedVariables false
set_option linter.unusedSimpArgs false
namespace Go.Dv
/-- The draw. -/
theorem fDraw {m : Nat} (hm : 200 ≤ m) (l : List UInt8) (hl : l.length ≤ 100000000) :
    ∃ x y, R m 38 (.agg [bl l]) = some (.agg [.str x, .str y]) ∧ x.length ≤ 301 ∧ y.length ≤ 301 := by
  obtain ⟨n, rfl⟩ : ∃ n, m = n + 1 := ⟨m - 1, by omega⟩
  have hl' : (l.take 4000).length ≤ 4000 := by rw [List.length_take]; omega
  have e0 := f48 (m := n) (by omega) l hl
  obtain ⟨s1, j1, e1, l1, j10, j11⟩ := f68 (m := n) (by omega) (l.take 4000) 0 hl' (by omega) (by omega)
  obtain ⟨x2, j2, e2, x20, x21, j20, j21⟩ := f62 (m := n) (by omega) (l.take 4000) j1 6 hl' (by omega) (by omega) (by omega) (by omega)
  obtain ⟨s3, j3, e3, l3, j30, j31⟩ := f68 (m := n) (by omega) (l.take 4000) j2 hl' (by omega) (by omega)
  simp only [rndV] at e0 e1 e2 e3
  rw [R_succ n 38 _ rfl]
  simp (disch := omega) only [St38, dn_ret, dn_call, dn_loop, dn_cont0, ite_lss, ite_leq, ite_gtr, ite_geq, ite_eql, ite_neq, ite_not, ite_seql, ite_beql, ite_bneq, ite_fld, need_leq', need_lss', need_neq0, b_true, b_false, se_var, se_lit, se_o1, se_o2, se_o3, get0, getS, pc_agg, pi_int, pb_bool, ps_str, o_not, o_len, o_fld, o_slen, o_conv, o_add, o_sub, o_mul, o_quo, o_rem, o_lss, o_leq, o_gtr, o_geq, o_eql, o_neq, o_sadd, o_seql, o_bneq, o_beql, o_mx, o_mkS, o_idx, o_snoc, o_cat, o_subl, o_upd, o_ssub, o_sidx, w64, w8, List.nil_append, List.cons_append, bl_nil, e0, e1, e2, e3]
  by_cases h : x2 = 0
  · rw [eq_pos h]; exact ⟨s1, s1, rfl, l1, l1⟩
  · rw [eq_neg h]; exact ⟨s1, s3, rfl, l1, l3⟩
/-- negInt. -/
theorem f79 {m : Nat} (hm : 102 ≤ m) {s : List UInt8} {z : Int} (h : ∀ n, 101 ≤ n → R n 110 (.agg [.str s]) = some (digV z)) (hz : Sm z 80) : R m 79 (.agg [.str s]) = some (.agg [.str (textZ (-z))]) := by
  obtain ⟨n, rfl⟩ : ∃ n, m = n + 1 := ⟨m - 1, by omega⟩
  unfold Sm at hz
  have e : sg (!decide (z < 0)) z.natAbs = -z := by
    by_cases hz : z < 0
    · simp [sg, hz]; omega
    · simp [sg, hz]; omega
  rw [R_succ n 79 _ rfl]
  simp only [St79, dn_ret, dn_call, dn_loop, dn_cont0, ite_lss, ite_leq, ite_gtr, ite_geq, ite_eql, ite_neq, ite_not, ite_seql, ite_beql, ite_bneq, ite_fld, need_leq', need_lss', need_neq0, b_true, b_false, se_var, se_lit, se_o1, se_o2, se_o3, get0, getS, pc_agg, pi_int, pb_bool, ps_str, o_not, o_len, o_fld, o_slen, o_conv, o_add, o_sub, o_mul, o_quo, o_rem, o_lss, o_leq, o_gtr, o_geq, o_eql, o_neq, o_sadd, o_seql, o_bneq, o_beql, o_mx, o_mkS, o_idx, o_snoc, o_cat, o_subl, o_upd, o_ssub, o_sidx, w64, w8, List.nil_append, List.cons_append, dl_nil, h n (by omega), digV, f120 (m := n) (by omega) z.natAbs (!decide (z < 0)) (by omega), textZ_sg, e]
theorem f40 {m : Nat} (a b : List UInt8) (hm : 105 ≤ m) (ha : a.length + 5 ≤ m) (hb : b.length + 5 ≤ m) (ha2 : a.length < 100000) (hb2 : b.length < 100000) : R m 40 (.agg [.str a, .str b]) = some (if isIntL a = true ∧ isIntL b = true then fitV (Z a - Z b) else .agg [.str [], .bool false]) := by
  obtain ⟨n, rfl⟩ : ∃ n, m = n + 1 := ⟨m - 1, by omega⟩
  rw [R_succ n 40 _ rfl]
  simp (disch := omega) only [St40, dn_ret, dn_call, dn_loop, dn_cont0, ite_lss, ite_leq, ite_gtr, ite_geq, ite_eql, ite_neq, ite_not, ite_seql, ite_beql, ite_bneq, ite_fld, need_leq', need_lss', need_neq0, b_true, b_false, se_var, se_lit, se_o1, se_o2, se_o3, get0, getS, pc_agg, pi_int, pb_bool, ps_str, o_not, o_len, o_fld, o_slen, o_conv, o_add, o_sub, o_mul, o_quo, o_rem, o_lss, o_leq, o_gtr, o_geq, o_eql, o_neq, o_sadd, o_seql, o_bneq, o_beql, o_mx, o_mkS, o_idx, o_snoc, o_cat, o_subl, o_upd, o_ssub, o_sidx, w64, w8, List.nil_append, List.cons_append, dl_nil, f72 (m := n) a (by omega) ha2, f72 (m := n) b (by omega) hb2]
  by_cases h1 : isIntL a = true
  · rw [h1]
    by_cases h2 : isIntL b = true
    · have h79 := f79 (m := n) (by omega) (fun n hn => f110Z hn h2) ((Z_Sm h2).mono (by omega))
      have h78 := f78 (m := n) (by omega) (fun n hn => f110Z hn h1) (fun n hn => f110T hn (-(Z b)) ((Z_Sm h2).neg.mono (by omega))) ((Z_Sm h1).mono (by omega)) ((Z_Sm h2).neg.mono (by omega))
      rw [h2]
      simp only [dn_ret, dn_call, dn_loop, dn_cont0, ite_lss, ite_leq, ite_gtr, ite_geq, ite_eql, ite_neq, ite_not, ite_seql, ite_beql, ite_bneq, ite_fld, need_leq', need_lss', need_neq0, b_true, b_false, se_var, se_lit, se_o1, se_o2, se_o3, get0, getS, pc_agg, pi_int, pb_bool, ps_str, o_not, o_len, o_fld, o_slen, o_conv, o_add, o_sub, o_mul, o_quo, o_rem, o_lss, o_leq, o_gtr, o_geq, o_eql, o_neq, o_sadd, o_seql, o_bneq, o_beql, o_mx, o_mkS, o_idx, o_snoc, o_cat, o_subl, o_upd, o_ssub, o_sidx, w64, w8, List.nil_append, List.cons_append, dl_nil, h79, h78, fitV_eta, and_self, if_true]
      rfl
    · have h2 : isIntL b = false := by simpa using h2
      rw [h2]; simp; rfl
  · have h1 : isIntL a = false := by simpa using h1
    rw [h1]; simp; rfl
end Go.Dv
