/- The draws: they end, with an expression of bounded depth. -/
import Derived.Test.YtbhkmhaapfbjhaaGreatFoldB

set_option linter.unusedVariables false
set_option linter.unusedSimpArgs false
namespace Go.Dv

/-- Texts. -/
def StrL (q : List PV) : Prop := ∀ x ∈ q, ∃ s, x = PV.str s ∧ s.length ≤ 20
theorem StrL.nil : StrL [] := fun x h => by cases h
theorem StrL.cons {s : List UInt8} {q : List PV} (h : s.length ≤ 20) (hq : StrL q) : StrL (.str s :: q) := by
  intro x hx
  rcases List.mem_cons.1 hx with rfl | hx
  · exact ⟨s, rfl, h⟩
  · exact hq x hx
theorem StrL.app {p q : List PV} (h : StrL p) (hq : StrL q) : StrL (p ++ q) := by
  intro x hx
  rcases List.mem_append.1 hx with hx | hx
  · exact h x hx
  · exact hq x hx
theorem dOf {m : Nat} (hm : 2 ≤ m) (l : List UInt8) (i : Int) (q : List PV) (hl : l.length ≤ 4000) (i0 : 0 ≤ i) (i1 : i ≤ 1000000) (q1 : 1 ≤ q.length) (q2 : q.length ≤ 1000) (hq : StrL q) :
    ∃ s j, R m 35 (.agg [.agg [bl l, .int .i64 i], .list 1 false q]) = some (.agg [.str s, .agg [bl l, .int .i64 j]]) ∧ s.length ≤ 20 ∧ i ≤ j ∧ j ≤ i + 1 := by
  obtain ⟨x, j, e, hx, j0, j1⟩ := f50 (m := m) hm 35 (.inl rfl) false l i q hl i0 i1 q1 (by omega)
  obtain ⟨s, rfl, hs⟩ := hq x hx
  exact ⟨s, j, e, hs, j0, j1⟩
theorem dPick {m : Nat} (hm : 1 ≤ m) (l : List UInt8) (i n : Int) (hl : l.length ≤ 4000) (i0 : 0 ≤ i) (i1 : i ≤ 1000000) (n1 : 1 ≤ n) (n2 : n ≤ 1000000) :
    ∃ x j, R m 17 (.agg [.agg [bl l, .int .i64 i], .int .i64 n]) = some (.agg [.int .i64 x, .agg [bl l, .int .i64 j]]) ∧ 0 ≤ x ∧ x < n ∧ i ≤ j ∧ j ≤ i + 1 := by
  obtain ⟨x, j, e, x0, x1, j0, j1⟩ := f62 hm l i n hl i0 i1 n1 n2
  exact ⟨x, j, e, x0, x1, j0, j1⟩
theorem d57 {m : Nat} (hm : 3 ≤ m) (l : List UInt8) (i : Int) (hl : l.length ≤ 4000) (i0 : 0 ≤ i) (i1 : i ≤ 1000000) :
    ∃ s j, R m 57 (.agg [.agg [bl l, .int .i64 i]]) = some (.agg [.str s, .agg [bl l, .int .i64 j]]) ∧ s.length ≤ 20 ∧ i ≤ j ∧ j ≤ i + 1 := by
  obtain ⟨n, rfl⟩ : ∃ n, m = n + 1 := ⟨m - 1, by omega⟩
  obtain ⟨s, j, e, h1, h2, h3⟩ := dOf (m := n) (by omega) l i [.str [97], .str [98], .str [99], .str [120], .str [120, 115], .str [102]] hl i0 i1 (by simp) (by simp)
    (.cons (by simp) (.cons (by simp) (.cons (by simp) (.cons (by simp) (.cons (by simp) (.cons (by simp) .nil))))))
  refine ⟨s, j, ?_, h1, h2, h3⟩
  rw [R_succ n 57 _ rfl]
  simp only [St57, dn_ret, dn_call, dn_loop, dn_cont0, ite_lss, ite_leq, ite_gtr, ite_geq, ite_eql, ite_neq, ite_not, ite_seql, ite_sneq, ite_slss, ite_sgtr, ite_beql, ite_bneq, ite_fldP, pbE_bool, need_leq', need_lss', need_neq0, b_true, b_false, se_var, se_lit, se_o1, se_o2, se_o3, get0, getS, pc_agg, pi_int, pb_bool, ps_str, pl_list, o_not, o_fld, o_slen, o_conv, o_add, o_sub, o_mul, o_quo, o_rem, o_lss, o_leq, o_gtr, o_geq, o_eql, o_neq, o_sadd, o_seql, o_sneq, o_bneq, o_beql, o_mx, o_mkS, o_setf, or_len, or_idx, or_snoc, or_cat, or_sub, o_ssub, o_sidx, List.nil_append, List.cons_append, e]
theorem d36 {m : Nat} (hm : 3 ≤ m) (l : List UInt8) (i : Int) (hl : l.length ≤ 4000) (i0 : 0 ≤ i) (i1 : i ≤ 1000000) :
    ∃ s j, R m 36 (.agg [.agg [bl l, .int .i64 i]]) = some (.agg [.str s, .agg [bl l, .int .i64 j]]) ∧ s.length ≤ 20 ∧ i ≤ j ∧ j ≤ i + 1 := by
  obtain ⟨n, rfl⟩ : ∃ n, m = n + 1 := ⟨m - 1, by omega⟩
  rw [R_succ n 36 _ rfl]
  simp only [St36, dn_ret, dn_call, dn_loop, dn_cont0, ite_lss, ite_leq, ite_gtr, ite_geq, ite_eql, ite_neq, ite_not, ite_seql, ite_sneq, ite_slss, ite_sgtr, ite_beql, ite_bneq, ite_fldP, pbE_bool, need_leq', need_lss', need_neq0, b_true, b_false, se_var, se_lit, se_o1, se_o2, se_o3, get0, getS, pc_agg, pi_int, pb_bool, ps_str, pl_list, o_not, o_fld, o_slen, o_conv, o_add, o_sub, o_mul, o_quo, o_rem, o_lss, o_leq, o_gtr, o_geq, o_eql, o_neq, o_sadd, o_seql, o_sneq, o_bneq, o_beql, o_mx, o_mkS, o_setf, or_len, or_idx, or_snoc, or_cat, or_sub, o_ssub, o_sidx, List.nil_append, List.cons_append]
  have go : ∀ q : List PV, 1 ≤ q.length → q.length ≤ 1000 → StrL q → ∃ s j, (match R n 35 (.agg [.agg [bl l, .int .i64 i], .list 1 false q]) with
      | some r => some (PV.agg [(O1.fld 0).dn r, .agg [(O1.fld 0).dn ((O1.fld 1).dn r), (O1.fld 1).dn ((O1.fld 1).dn r)]])
      | none => none) = some (.agg [.str s, .agg [bl l, .int .i64 j]]) ∧ s.length ≤ 20 ∧ i ≤ j ∧ j ≤ i + 1 := by
    intro q q1 q2 hq
    obtain ⟨s, j, e, h1, h2, h3⟩ := dOf (m := n) (by omega) l i q hl i0 i1 q1 q2 hq
    exact ⟨s, j, by rw [e]; rfl, h1, h2, h3⟩
  exact go _ (by simp) (by simp) (by repeat' (first | exact StrL.nil | refine StrL.cons (by simp) ?_))
theorem d38 {m : Nat} (hm : 30 ≤ m) (l : List UInt8) (i : Int) (hl : l.length ≤ 4000) (i0 : 0 ≤ i) (i1 : i ≤ 900000) :
    ∃ s j, R m 38 (.agg [.agg [bl l, .int .i64 i]]) = some (.agg [.str s, .agg [bl l, .int .i64 j]]) ∧ s.length ≤ 20 ∧ i ≤ j ∧ j ≤ i + 2 := by
  obtain ⟨n, rfl⟩ : ∃ n, m = n + 1 := ⟨m - 1, by omega⟩
  obtain ⟨x, j, e, x0, x1, j0, j1⟩ := dPick (m := n) (by omega) l i 100 hl i0 (by omega) (by omega) (by omega)
  obtain ⟨y, j', e', hy, j0', j1'⟩ := f50 (m := n) (by omega) 20 (.inr rfl) false l j [.int .i64 0, .int .i64 1, .int .i64 2, .int .i64 3, .int .i64 4, .int .i64 5, .int .i64 7, .int .i64 10, .int .i64 x] hl (by omega) (by omega) (by simp) (by simp)
  obtain ⟨z, rfl, hz⟩ : ∃ z : Int, y = .int .i64 z ∧ z.natAbs < 10 ^ 6 := by
    simp at hy
    rcases hy with h | h | h | h | h | h | h | h | h <;> exact ⟨_, h, by omega⟩
  obtain ⟨s, hs, e''⟩ := f65 (m := n) (by omega) z hz
  refine ⟨s, j', ?_, by omega, by omega, by omega⟩
  simp only [rndV] at e'
  rw [R_succ n 38 _ rfl]
  simp only [St38, dn_ret, dn_call, dn_loop, dn_cont0, ite_lss, ite_leq, ite_gtr, ite_geq, ite_eql, ite_neq, ite_not, ite_seql, ite_sneq, ite_slss, ite_sgtr, ite_beql, ite_bneq, ite_fldP, pbE_bool, need_leq', need_lss', need_neq0, b_true, b_false, se_var, se_lit, se_o1, se_o2, se_o3, get0, getS, pc_agg, pi_int, pb_bool, ps_str, pl_list, o_not, o_fld, o_slen, o_conv, o_add, o_sub, o_mul, o_quo, o_rem, o_lss, o_leq, o_gtr, o_geq, o_eql, o_neq, o_sadd, o_seql, o_sneq, o_bneq, o_beql, o_mx, o_mkS, o_setf, or_len, or_idx, or_snoc, or_cat, or_sub, o_ssub, o_sidx, List.nil_append, List.cons_append, e, e', e'']
theorem d63 {m : Nat} (hm : 3 ≤ m) (l : List UInt8) (i : Int) (hl : l.length ≤ 4000) (i0 : 0 ≤ i) (i1 : i ≤ 1000000) :
    ∃ z j, R m 63 (.agg [.agg [bl l, .int .i64 i]]) = some (.agg [.int .i64 z, .agg [bl l, .int .i64 j]]) ∧ i ≤ j ∧ j ≤ i + 1 := by
  obtain ⟨n, rfl⟩ : ∃ n, m = n + 1 := ⟨m - 1, by omega⟩
  obtain ⟨y, j', e', hy, j0', j1'⟩ := f50 (m := n) (by omega) 20 (.inr rfl) false l i [.int .i64 (-1), .int .i64 4611686018427387904, .int .i64 (-4611686018427387904), .int .i64 1001, .int .i64 7, .int .i64 1000001, .int .i64 (-9223372036854775808), .int .i64 9223372036854775807] hl (by omega) (by omega) (by simp) (by simp)
  obtain ⟨z, rfl⟩ : ∃ z : Int, y = .int .i64 z := by
    simp at hy
    rcases hy with h | h | h | h | h | h | h | h <;> exact ⟨_, h⟩
  refine ⟨z, j', ?_, by omega, by omega⟩
  simp only [rndV] at e'
  rw [R_succ n 63 _ rfl]
  simp only [St63, dn_ret, dn_call, dn_loop, dn_cont0, ite_lss, ite_leq, ite_gtr, ite_geq, ite_eql, ite_neq, ite_not, ite_seql, ite_sneq, ite_slss, ite_sgtr, ite_beql, ite_bneq, ite_fldP, pbE_bool, need_leq', need_lss', need_neq0, b_true, b_false, se_var, se_lit, se_o1, se_o2, se_o3, get0, getS, pc_agg, pi_int, pb_bool, ps_str, pl_list, o_not, o_fld, o_slen, o_conv, o_add, o_sub, o_mul, o_quo, o_rem, o_lss, o_leq, o_gtr, o_geq, o_eql, o_neq, o_sadd, o_seql, o_sneq, o_bneq, o_beql, o_mx, o_mkS, o_setf, or_len, or_idx, or_snoc, or_cat, or_sub, o_ssub, o_sidx, List.nil_append, List.cons_append, e']
theorem d34 {m : Nat} (hm : 5 ≤ m) (l : List UInt8) (i x : Int) (hl : l.length ≤ 4000) (i0 : 0 ≤ i) (i1 : i ≤ 900000) :
    ∃ z j, R m 34 (.agg [.agg [bl l, .int .i64 i], .int .i64 x]) = some (.agg [.int .i64 z, .agg [bl l, .int .i64 j]]) ∧ i ≤ j ∧ j ≤ i + 2 := by
  obtain ⟨n, rfl⟩ : ∃ n, m = n + 1 := ⟨m - 1, by omega⟩
  obtain ⟨y, j, e, x0, x1, j0, j1⟩ := dPick (m := n) (by omega) l i 16 hl i0 (by omega) (by omega) (by omega)
  obtain ⟨z, j', e', h1, h2⟩ := d63 (m := n) (by omega) l j hl (by omega) (by omega)
  rw [R_succ n 34 _ rfl]
  simp only [St34, dn_ret, dn_call, dn_loop, dn_cont0, ite_lss, ite_leq, ite_gtr, ite_geq, ite_eql, ite_neq, ite_not, ite_seql, ite_sneq, ite_slss, ite_sgtr, ite_beql, ite_bneq, ite_fldP, pbE_bool, need_leq', need_lss', need_neq0, b_true, b_false, se_var, se_lit, se_o1, se_o2, se_o3, get0, getS, pc_agg, pi_int, pb_bool, ps_str, pl_list, o_not, o_fld, o_slen, o_conv, o_add, o_sub, o_mul, o_quo, o_rem, o_lss, o_leq, o_gtr, o_geq, o_eql, o_neq, o_sadd, o_seql, o_sneq, o_bneq, o_beql, o_mx, o_mkS, o_setf, or_len, or_idx, or_snoc, or_cat, or_sub, o_ssub, o_sidx, List.nil_append, List.cons_append, e, e']
  by_cases h : y = 0
  · rw [eq_pos h]; exact ⟨z, j', rfl, by omega, by omega⟩
  · rw [eq_neg h]; exact ⟨x, j, rfl, by omega, by omega⟩
theorem d61 {m : Nat} (hm : 3 ≤ m) (l : List UInt8) (i : Int) (hl : l.length ≤ 4000) (i0 : 0 ≤ i) (i1 : i ≤ 900000) :
    ∃ ns j, R m 61 (.agg [.agg [bl l, .int .i64 i]]) = some (.agg [.list 1 false ns, .agg [bl l, .int .i64 j]]) ∧ ns.length ≤ 2 ∧ StrL ns ∧ i ≤ j ∧ j ≤ i + 1 := by
  obtain ⟨n, rfl⟩ : ∃ n, m = n + 1 := ⟨m - 1, by omega⟩
  obtain ⟨x, j, e, x0, x1, j0, j1⟩ := dPick (m := n) (by omega) l i 5 hl i0 (by omega) (by omega) (by omega)
  rw [R_succ n 61 _ rfl]
  simp only [St61, dn_ret, dn_call, dn_loop, dn_cont0, ite_lss, ite_leq, ite_gtr, ite_geq, ite_eql, ite_neq, ite_not, ite_seql, ite_sneq, ite_slss, ite_sgtr, ite_beql, ite_bneq, ite_fldP, pbE_bool, need_leq', need_lss', need_neq0, b_true, b_false, se_var, se_lit, se_o1, se_o2, se_o3, get0, getS, pc_agg, pi_int, pb_bool, ps_str, pl_list, o_not, o_fld, o_slen, o_conv, o_add, o_sub, o_mul, o_quo, o_rem, o_lss, o_leq, o_gtr, o_geq, o_eql, o_neq, o_sadd, o_seql, o_sneq, o_bneq, o_beql, o_mx, o_mkS, o_setf, or_len, or_idx, or_snoc, or_cat, or_sub, o_ssub, o_sidx, List.nil_append, List.cons_append, e]
  rw [le_pos x0, lt_pos x1]
  have hx : x = 0 ∨ x = 1 ∨ x = 2 ∨ x = 3 ∨ x = 4 := by omega
  rcases hx with rfl | rfl | rfl | rfl | rfl
  · exact ⟨[], j, rfl, by simp, .nil, j0, j1⟩
  · exact ⟨[.str [97]], j, rfl, by simp, .cons (by simp) .nil, j0, j1⟩
  · exact ⟨[.str [120]], j, rfl, by simp, .cons (by simp) .nil, j0, j1⟩
  · exact ⟨[.str [97], .str [98]], j, rfl, by simp, .cons (by simp) (.cons (by simp) .nil), j0, j1⟩
  · exact ⟨[.str [120], .str [99]], j, rfl, by simp, .cons (by simp) (.cons (by simp) .nil), j0, j1⟩

/-! Expressions. -/
def BB : Nat → Int
  | 0 => 0
  | d + 1 => 4 * BB d + 12
theorem BB_nn : ∀ d, 0 ≤ BB d
  | 0 => Int.le_refl _
  | d + 1 => by have := BB_nn d; rw [BB]; omega
def ExprAt (l : List UInt8) (d : Nat) : Prop := ∀ m, 40 + 4 * d ≤ m → ∀ i, 0 ≤ i → i + BB d ≤ 800000 → ∃ v j, R m 33 (.agg [.agg [bl l, .int .i64 i], .int .i64 d]) = some (.agg [v, .agg [bl l, .int .i64 j]]) ∧ WFN 5 d v ∧ i ≤ j ∧ j ≤ i + BB d
theorem wf_mk {d : Nat} {k : Int} {t : List UInt8} {ns ks : List PV} (ht : t.length ≤ 20) (hn : ns.length ≤ 5) (hs : StrL ns) (hk : ks.length ≤ 8) (h : ∀ x ∈ ks, WFN 5 d x) : WFN 5 (d + 1) (exV k t ns ks) :=
  ⟨k, t, ns, ks, rfl, by omega, by omega, fun x hx => by obtain ⟨s, e, hs⟩ := hs x hx; exact ⟨s, e, by omega⟩, by omega, h⟩
theorem wf_leaf {d : Nat} {k : Int} {t : List UInt8} (ht : t.length ≤ 20) : WFN 5 (d + 1) (exV k t [] []) := wf_mk ht (by simp) .nil (by simp) (fun x h => by cases h)
theorem wf1 {d : Nat} {x : PV} (h : WFN 5 d x) : ∀ y ∈ [x], WFN 5 d y := by intro y hy; rw [List.mem_singleton] at hy; exact hy ▸ h
theorem wf2 {d : Nat} {x y : PV} (h : WFN 5 d x) (h' : WFN 5 d y) : ∀ z ∈ [x, y], WFN 5 d z := by
  intro z hz
  rcases List.mem_cons.1 hz with rfl | hz
  · exact h
  · exact wf1 h' z hz
theorem wf3 {d : Nat} {x y z : PV} (h : WFN 5 d x) (h' : WFN 5 d y) (h'' : WFN 5 d z) : ∀ w ∈ [x, y, z], WFN 5 d w := by
  intro w hw
  rcases List.mem_cons.1 hw with rfl | hw
  · exact h
  · exact wf2 h' h'' w hw
theorem wfApp {d : Nat} {p q : List PV} (h : ∀ y ∈ p, WFN 5 d y) (h' : ∀ y ∈ q, WFN 5 d y) : ∀ y ∈ p ++ q, WFN 5 d y := by
  intro y hy
  rcases List.mem_append.1 hy with hy | hy
  · exact h y hy
  · exact h' y hy

theorem d58 {l : List UInt8} (hl : l.length ≤ 4000) {d : Nat} (hd : 1 ≤ d) (hd2 : d ≤ 100) (E : ExprAt l d) (m : Nat) (hm : 42 + 4 * d ≤ m) (i : Int) (i0 : 0 ≤ i) (most : Nat) (h3 : most ≤ 3) (i1 : i + 1 + 3 * BB d ≤ 800000) :
    ∃ ks j, R m 58 (.agg [.agg [bl l, .int .i64 i], .int .i64 (d + 1 : Nat), .int .i64 most]) = some (.agg [.list 4 true ks, .agg [bl l, .int .i64 j]]) ∧ ks.length ≤ most ∧ (∀ x ∈ ks, WFN 5 d x) ∧ i ≤ j ∧ j ≤ i + 1 + most * BB d := by
  obtain ⟨n, rfl⟩ : ∃ n, m = n + 1 := ⟨m - 1, by omega⟩
  have hb := BB_nn d
  obtain ⟨x, j, e, x0, x1, j0, j1⟩ := dPick (m := n) (by omega) l i (most + 1) hl i0 (by omega) (by omega) (by omega)
  have hw : IntKind.i64.wrap ((most : Int) + 1) = (most : Int) + 1 := w64 (by omega) (by omega)
  have hw2 : IntKind.i64.wrap (((d + 1 : Nat) : Int) - 1) = (d : Int) := by rw [w64 (by omega) (by omega)]; omega
  have hmul : ∀ r : Nat, ((r + 1 : Nat) : Int) * BB d = (r : Int) * BB d + BB d := fun r => by rw [Int.natCast_add, Int.add_mul]; simp
  have hle : ∀ r : Nat, r ≤ 3 → (r : Int) * BB d ≤ 3 * BB d := fun r hr => Int.mul_le_mul_of_nonneg_right (by omega) hb
  have key : ∀ (r : Nat) (c : Int) (acc : List PV), r ≤ 3 → 0 ≤ c → c + (r : Int) * BB d ≤ 800000 → acc.length + r ≤ 10 → ∀ k, r < k →
      ∃ ks j', rounds (fun self v => St58b0.dn (n + 1) (R n) [self] [.agg [.agg [bl l, .int .i64 i], .int .i64 (d + 1 : Nat), .int .i64 most], .agg [.int .i64 x, .agg [bl l, .int .i64 j]], v]) k (.agg [.int .i64 r, bl l, .int .i64 c, .list 4 true acc]) = some (.agg [.list 4 true (acc ++ ks), .agg [bl l, .int .i64 j']]) ∧ ks.length = r ∧ (∀ x ∈ ks, WFN 5 d x) ∧ c ≤ j' ∧ j' ≤ c + (r : Int) * BB d := by
    intro r
    induction r with
    | zero =>
      intro c acc _ c0 c1 ha k hk
      obtain ⟨k, rfl⟩ : ∃ n, k = n + 1 := ⟨k - 1, by omega⟩
      refine ⟨[], c, ?_, rfl, (fun x h => by cases h), by omega, by omega⟩
      rw [rounds_s]
      generalize rounds _ k = self
      simp only [St58b0, dn_ret, dn_call, dn_loop, dn_cont0, ite_lss, ite_leq, ite_gtr, ite_geq, ite_eql, ite_neq, ite_not, ite_seql, ite_sneq, ite_slss, ite_sgtr, ite_beql, ite_bneq, ite_fldP, pbE_bool, need_leq', need_lss', need_neq0, b_true, b_false, se_var, se_lit, se_o1, se_o2, se_o3, get0, getS, pc_agg, pi_int, pb_bool, ps_str, pl_list, o_not, o_fld, o_slen, o_conv, o_add, o_sub, o_mul, o_quo, o_rem, o_lss, o_leq, o_gtr, o_geq, o_eql, o_neq, o_sadd, o_seql, o_sneq, o_bneq, o_beql, o_mx, o_mkS, o_setf, or_len, or_idx, or_snoc, or_cat, or_sub, o_ssub, o_sidx, List.nil_append, List.cons_append]
      rw [lt_neg (by omega), List.append_nil]
    | succ r ih =>
      intro c acc hr c0 c1 ha k hk
      obtain ⟨k, rfl⟩ : ∃ n, k = n + 1 := ⟨k - 1, by omega⟩
      rw [hmul] at c1 ⊢
      have hrb : 0 ≤ (r : Int) * BB d := Int.mul_nonneg (by omega) hb
      obtain ⟨v, j1, e1, w1, p1, p2⟩ := E n (by omega) c c0 (by omega)
      obtain ⟨ks, j2, e2, l2, w2, p3, p4⟩ := ih j1 (acc ++ [v]) (by omega) (by omega) (by omega) (by simp; omega) k (by omega)
      have hv := w1.eta
      have hwr : IntKind.i64.wrap (((r + 1 : Nat) : Int) - 1) = (r : Int) := by rw [w64 (by omega) (by omega)]; omega
      have hlen : ((acc ++ [v]).length : Int) ≤ 16777216 := by simp; omega
      refine ⟨v :: ks, j2, ?_, by simp [l2], ?_, by omega, by omega⟩
      · rw [rounds_s]
        generalize rounds _ k = self at e2 ⊢
        simp only [St58b0, dn_ret, dn_call, dn_loop, dn_cont0, ite_lss, ite_leq, ite_gtr, ite_geq, ite_eql, ite_neq, ite_not, ite_seql, ite_sneq, ite_slss, ite_sgtr, ite_beql, ite_bneq, ite_fldP, pbE_bool, need_leq', need_lss', need_neq0, b_true, b_false, se_var, se_lit, se_o1, se_o2, se_o3, get0, getS, pc_agg, pi_int, pb_bool, ps_str, pl_list, o_not, o_fld, o_slen, o_conv, o_add, o_sub, o_mul, o_quo, o_rem, o_lss, o_leq, o_gtr, o_geq, o_eql, o_neq, o_sadd, o_seql, o_sneq, o_bneq, o_beql, o_mx, o_mkS, o_setf, or_len, or_idx, or_snoc, or_cat, or_sub, o_ssub, o_sidx, List.nil_append, List.cons_append, hw2, e1, hv, hwr]
        rw [lt_pos (by omega), le_pos hlen, e2]
        simp
      · intro y hy
        rcases List.mem_cons.1 hy with rfl | hy
        · exact w1
        · exact w2 y hy
  have hx : ((x.toNat : Nat) : Int) = x := by omega
  have hxm : (x.toNat : Int) * BB d ≤ (most : Int) * BB d := Int.mul_le_mul_of_nonneg_right (by omega) hb
  have hm3 := hle x.toNat (by omega)
  obtain ⟨ks, j', e2, l2, w2, p3, p4⟩ := key x.toNat j [] (by omega) (by omega) (by omega) (by simp; omega) (n + 1) (by omega)
  rw [hx] at e2
  refine ⟨ks, j', ?_, by omega, w2, by omega, by omega⟩
  rw [R_succ n 58 _ rfl]
  simp only [St58, dn_ret, dn_call, dn_loop, dn_cont0, ite_lss, ite_leq, ite_gtr, ite_geq, ite_eql, ite_neq, ite_not, ite_seql, ite_sneq, ite_slss, ite_sgtr, ite_beql, ite_bneq, ite_fldP, pbE_bool, need_leq', need_lss', need_neq0, b_true, b_false, se_var, se_lit, se_o1, se_o2, se_o3, get0, getS, pc_agg, pi_int, pb_bool, ps_str, pl_list, o_not, o_fld, o_slen, o_conv, o_add, o_sub, o_mul, o_quo, o_rem, o_lss, o_leq, o_gtr, o_geq, o_eql, o_neq, o_sadd, o_seql, o_sneq, o_bneq, o_beql, o_mx, o_mkS, o_setf, or_len, or_idx, or_snoc, or_cat, or_sub, o_ssub, o_sidx, List.nil_append, List.cons_append, hw, e]
  exact e2
theorem d59 {l : List UInt8} (hl : l.length ≤ 4000) {d : Nat} (hd : 1 ≤ d) (hd2 : d ≤ 100) (E : ExprAt l d) (m : Nat) (hm : 42 + 4 * d ≤ m) (i : Int) (i0 : 0 ≤ i) (i1 : i + 2 + BB d ≤ 800000) :
    ∃ ks j, R m 59 (.agg [.agg [bl l, .int .i64 i], .int .i64 (d + 1 : Nat)]) = some (.agg [.list 4 true ks, .agg [bl l, .int .i64 j]]) ∧ ks.length ≤ 2 ∧ (∀ x ∈ ks, WFN 5 d x) ∧ i ≤ j ∧ j ≤ i + 2 + BB d := by
  obtain ⟨n, rfl⟩ : ∃ n, m = n + 1 := ⟨m - 1, by omega⟩
  have hb := BB_nn d
  have hw2 : IntKind.i64.wrap (((d + 1 : Nat) : Int) - 1) = (d : Int) := by rw [w64 (by omega) (by omega)]; omega
  obtain ⟨x, j, e, x0, x1, j0, j1⟩ := dPick (m := n) (by omega) l i 2 hl i0 (by omega) (by omega) (by omega)
  obtain ⟨s, j2, e2, hs, j20, j21⟩ := dOf (m := n) (by omega) l j [.str [97], .str [98]] hl (by omega) (by omega) (by simp) (by simp) (.cons (by simp) (.cons (by simp) .nil))
  obtain ⟨v, j3, e3, w3, p1, p2⟩ := E n (by omega) j2 (by omega) (by omega)
  have hv := w3.eta
  rw [R_succ n 59 _ rfl]
  simp only [St59, dn_ret, dn_call, dn_loop, dn_cont0, ite_lss, ite_leq, ite_gtr, ite_geq, ite_eql, ite_neq, ite_not, ite_seql, ite_sneq, ite_slss, ite_sgtr, ite_beql, ite_bneq, ite_fldP, pbE_bool, need_leq', need_lss', need_neq0, b_true, b_false, se_var, se_lit, se_o1, se_o2, se_o3, get0, getS, pc_agg, pi_int, pb_bool, ps_str, pl_list, o_not, o_fld, o_slen, o_conv, o_add, o_sub, o_mul, o_quo, o_rem, o_lss, o_leq, o_gtr, o_geq, o_eql, o_neq, o_sadd, o_seql, o_sneq, o_bneq, o_beql, o_mx, o_mkS, o_setf, or_len, or_idx, or_snoc, or_cat, or_sub, o_ssub, o_sidx, List.nil_append, List.cons_append, e, e2, e3, hw2, hv]
  by_cases h : x = 0
  · rw [eq_pos h]
    exact ⟨[], j, rfl, by simp, (fun x h => by cases h), by omega, by omega⟩
  · rw [eq_neg h]
    obtain ⟨d, rfl⟩ : ∃ k, d = k + 1 := ⟨d - 1, by omega⟩
    exact ⟨[exV 5 s [] [], v], j3, rfl, by simp, wf2 (wf_leaf hs) w3, by omega, by omega⟩
end Go.Dv

/- The draws of expressions end. -/
set_option linter.unusedVariables false
set_option linter.unusedSimpArgs false
namespace Go.Dv

theorem d62 {l : List UInt8} (hl : l.length ≤ 4000) {d : Nat} (hd : 1 ≤ d) (hd2 : d ≤ 100) (E : ExprAt l d) (m : Nat) (hm : 43 + 4 * d ≤ m) (i : Int) (i0 : 0 ≤ i) (i1 : i + 4 * BB d + 10 ≤ 800000) :
    ∃ v j, R m 62 (.agg [.agg [bl l, .int .i64 i], .int .i64 (d + 1 : Nat)]) = some (.agg [v, .agg [bl l, .int .i64 j]]) ∧ WFN 5 (d + 1) v ∧ i ≤ j ∧ j ≤ i + 4 * BB d + 5 := by
  obtain ⟨n, rfl⟩ : ∃ n, m = n + 1 := ⟨m - 1, by omega⟩
  have hb := BB_nn d
  have hw2 : IntKind.i64.wrap (((d + 1 : Nat) : Int) - 1) = (d : Int) := by rw [w64 (by omega) (by omega)]; omega
  obtain ⟨s1, j1, e1, l1, p1, q1⟩ := dOf (m := n) (by omega) l i [.str [108, 101, 110], .str [114, 97, 110, 103, 101], .str [115, 116, 114], .str [112, 114, 105, 110, 116], .str [105, 115, 97], .str [110, 101, 120, 116], .str [102], .str [86, 97, 108, 117, 101, 69, 114, 114, 111, 114]] hl i0 (by omega) (by simp) (by simp)
    (by repeat' (first | exact StrL.nil | refine StrL.cons (by simp) ?_))
  obtain ⟨x2, j2, e2, x20, x21, p2, q2⟩ := dPick (m := n) (by omega) l j1 5 hl (by omega) (by omega) (by omega) (by omega)
  have rest : ∀ (f : PV) (j3 : Int), WFN 5 d f → j2 ≤ j3 → j3 ≤ j2 + BB d → ∃ ks j4, R n 58 (.agg [.agg [bl l, .int .i64 j3], .int .i64 (d + 1 : Nat), .int .i64 2]) = some (.agg [.list 4 true ks, .agg [bl l, .int .i64 j4]]) ∧ ks.length ≤ 2 ∧ (∀ x ∈ ks, WFN 5 d x) ∧ j3 ≤ j4 ∧ j4 ≤ j3 + 1 + 2 * BB d ∧
      ∃ x5 j5, R n 17 (.agg [.agg [bl l, .int .i64 j4], .int .i64 6]) = some (.agg [.int .i64 x5, .agg [bl l, .int .i64 j5]]) ∧ j4 ≤ j5 ∧ j5 ≤ j4 + 1 ∧
      ∃ v j6, R n 33 (.agg [.agg [bl l, .int .i64 j5], .int .i64 d]) = some (.agg [v, .agg [bl l, .int .i64 j6]]) ∧ WFN 5 d v ∧ j5 ≤ j6 ∧ j6 ≤ j5 + BB d ∧
      ∃ s j7, R n 57 (.agg [.agg [bl l, .int .i64 j6]]) = some (.agg [.str s, .agg [bl l, .int .i64 j7]]) ∧ s.length ≤ 20 ∧ j6 ≤ j7 ∧ j7 ≤ j6 + 1 := by
    intro f j3 hf h1 h2
    obtain ⟨ks, j4, e4, l4, w4, p4, q4⟩ := d58 hl hd hd2 E n (by omega) j3 (by omega) 2 (by omega) (by omega)
    have h2 : ((2 : Nat) : Int) = 2 := rfl
    rw [h2] at e4 q4
    obtain ⟨x5, j5, e5, -, -, p5, q5⟩ := dPick (m := n) (by omega) l j4 6 hl (by omega) (by omega) (by omega) (by omega)
    obtain ⟨v, j6, e6, w6, p6, q6⟩ := E n (by omega) j5 (by omega) (by omega)
    obtain ⟨s, j7, e7, l7, p7, q7⟩ := d57 (m := n) (by omega) l j6 hl (by omega) (by omega)
    exact ⟨ks, j4, e4, l4, w4, p4, q4, x5, j5, e5, p5, q5, v, j6, e6, w6, p6, q6, s, j7, e7, l7, p7, q7⟩
  rw [R_succ n 62 _ rfl]
  by_cases h2 : x2 = 0
  · obtain ⟨f, j3, e3, w3, p3, q3⟩ := E n (by omega) j2 (by omega) (by omega)
    obtain ⟨ks, j4, e4, l4, w4, p4, q4, x5, j5, e5, p5, q5, v, j6, e6, w6, p6, q6, s, j7, e7, l7, p7, q7⟩ := rest f j3 w3 p3 q3
    have hf := w3.eta
    have hv := w6.eta
    have h1 : (((f :: ks : List PV)).length : Int) ≤ 16777216 := by rw [List.length_cons]; omega
    have h3 : ((((f :: ks) ++ [v] : List PV)).length : Int) ≤ 16777216 := by simp; omega
    simp only [St62, dn_ret, dn_call, dn_loop, dn_cont0, ite_lss, ite_leq, ite_gtr, ite_geq, ite_eql, ite_neq, ite_not, ite_seql, ite_sneq, ite_slss, ite_sgtr, ite_beql, ite_bneq, ite_fldP, pbE_bool, need_leq', need_lss', need_neq0, b_true, b_false, se_var, se_lit, se_o1, se_o2, se_o3, get0, getS, pc_agg, pi_int, pb_bool, ps_str, pl_list, o_not, o_fld, o_slen, o_conv, o_add, o_sub, o_mul, o_quo, o_rem, o_lss, o_leq, o_gtr, o_geq, o_eql, o_neq, o_sadd, o_seql, o_sneq, o_bneq, o_beql, o_mx, o_mkS, o_setf, or_len, or_idx, or_snoc, or_cat, or_sub, o_ssub, o_sidx, List.nil_append, List.cons_append, e1, e2, e3, hw2, e4, e5, e6, e7, hf, hv]
    simp only [List.cons_append] at h3
    rw [eq_pos h2, le_pos h1]
    by_cases h5 : x5 = 0
    · rw [eq_pos h5, le_pos h3]
      exact ⟨exV 13 [] [.str s] (f :: ks ++ [v]), j7, rfl, wf_mk (by simp) (by simp) (.cons l7 .nil) (by simp; omega) (wfApp (wfApp (p := [f]) (wf1 w3) w4) (wf1 w6)), by omega, by omega⟩
    · rw [eq_neg h5]
      exact ⟨exV 13 [] [] (f :: ks), j5, rfl, wf_mk (by simp) (by simp) .nil (by simp; omega) (wfApp (p := [f]) (wf1 w3) w4), by omega, by omega⟩
  · obtain ⟨d', rfl⟩ : ∃ k, d = k + 1 := ⟨d - 1, by omega⟩
    have w3 : WFN 5 (d' + 1) (exV 6 s1 [] []) := wf_leaf l1
    obtain ⟨ks, j4, e4, l4, w4, p4, q4, x5, j5, e5, p5, q5, v, j6, e6, w6, p6, q6, s, j7, e7, l7, p7, q7⟩ := rest _ j2 w3 (by omega) (by omega)
    have hv := w6.eta
    have h1 : ∀ f : PV, (((f :: ks : List PV)).length : Int) ≤ 16777216 := fun f => by rw [List.length_cons]; omega
    have h3 : ∀ f : PV, (((f :: (ks ++ [v]) : List PV)).length : Int) ≤ 16777216 := fun f => by simp; omega
    simp only [St62, dn_ret, dn_call, dn_loop, dn_cont0, ite_lss, ite_leq, ite_gtr, ite_geq, ite_eql, ite_neq, ite_not, ite_seql, ite_sneq, ite_slss, ite_sgtr, ite_beql, ite_bneq, ite_fldP, pbE_bool, need_leq', need_lss', need_neq0, b_true, b_false, se_var, se_lit, se_o1, se_o2, se_o3, get0, getS, pc_agg, pi_int, pb_bool, ps_str, pl_list, o_not, o_fld, o_slen, o_conv, o_add, o_sub, o_mul, o_quo, o_rem, o_lss, o_leq, o_gtr, o_geq, o_eql, o_neq, o_sadd, o_seql, o_sneq, o_bneq, o_beql, o_mx, o_mkS, o_setf, or_len, or_idx, or_snoc, or_cat, or_sub, o_ssub, o_sidx, List.nil_append, List.cons_append, e1, e2, hw2, e4, e5, e6, e7, hv]
    rw [eq_neg h2, le_pos (h1 _)]
    by_cases h5 : x5 = 0
    · rw [eq_pos h5, le_pos (h3 _)]
      exact ⟨exV 13 [] [.str s] (exV 6 s1 [] [] :: ks ++ [v]), j7, rfl, wf_mk (by simp) (by simp) (.cons l7 .nil) (by simp; omega) (wfApp (wfApp (p := [exV 6 s1 [] []]) (wf1 w3) w4) (wf1 w6)), by omega, by omega⟩
    · rw [eq_neg h5]
      exact ⟨exV 13 [] [] (exV 6 s1 [] [] :: ks), j5, rfl, wf_mk (by simp) (by simp) .nil (by simp; omega) (wfApp (p := [exV 6 s1 [] []]) (wf1 w3) w4), by omega, by omega⟩
theorem d60 {m : Nat} (hm : 1 ≤ m) : ∃ q, R m 60 (.agg []) = some (.agg [.list 1 false q]) ∧ StrL q ∧ q.length = 14 := by
  obtain ⟨n, rfl⟩ : ∃ n, m = n + 1 := ⟨m - 1, by omega⟩
  rw [R_succ n 60 _ rfl]
  refine ⟨_, rfl, ?_, rfl⟩
  repeat' (first | exact StrL.nil | refine StrL.cons (by simp) ?_)

/-- The leaves of an expression. -/
theorem dLeaf {l : List UInt8} (hl : l.length ≤ 4000) (n : Nat) (hn : 30 ≤ n) (i : Int) (i0 : 0 ≤ i) (i1 : i ≤ 800000) (D : Int) :
    ∃ x1 j1, R n 17 (.agg [.agg [bl l, .int .i64 i], .int .i64 9]) = some (.agg [.int .i64 x1, .agg [bl l, .int .i64 j1]]) ∧ i ≤ j1 ∧ j1 ≤ i + 1 ∧
    ∃ x2 j2, R n 17 (.agg [.agg [bl l, .int .i64 j1], .int .i64 3]) = some (.agg [.int .i64 x2, .agg [bl l, .int .i64 j2]]) ∧ 0 ≤ x2 ∧ x2 < 3 ∧ j1 ≤ j2 ∧ j2 ≤ j1 + 1 ∧
    ∃ s3 j3, R n 35 (.agg [.agg [bl l, .int .i64 j1], .list 1 false [.str [], .str [97], .str [97, 98], .str [98, 39], .str [120, 32, 121]]]) = some (.agg [.str s3, .agg [bl l, .int .i64 j3]]) ∧ s3.length ≤ 20 ∧ j1 ≤ j3 ∧ j3 ≤ j1 + 1 ∧
    ∃ s4 j4, R n 38 (.agg [.agg [bl l, .int .i64 j1]]) = some (.agg [.str s4, .agg [bl l, .int .i64 j4]]) ∧ s4.length ≤ 20 ∧ j1 ≤ j4 ∧ j4 ≤ j1 + 2 ∧
    ∃ s5 j5, R n 57 (.agg [.agg [bl l, .int .i64 j1]]) = some (.agg [.str s5, .agg [bl l, .int .i64 j5]]) ∧ s5.length ≤ 20 ∧ j1 ≤ j5 ∧ j5 ≤ j1 + 1 := by
  obtain ⟨x1, j1, e1, -, -, p1, q1⟩ := dPick (m := n) (by omega) l i 9 hl i0 (by omega) (by omega) (by omega)
  obtain ⟨x2, j2, e2, x20, x21, p2, q2⟩ := dPick (m := n) (by omega) l j1 3 hl (by omega) (by omega) (by omega) (by omega)
  obtain ⟨s3, j3, e3, l3, p3, q3⟩ := dOf (m := n) (by omega) l j1 [.str [], .str [97], .str [97, 98], .str [98, 39], .str [120, 32, 121]] hl (by omega) (by omega) (by simp) (by simp) (by repeat' (first | exact StrL.nil | refine StrL.cons (by simp) ?_))
  obtain ⟨s4, j4, e4, l4, p4, q4⟩ := d38 (m := n) (by omega) l j1 hl (by omega) (by omega)
  obtain ⟨s5, j5, e5, l5, p5, q5⟩ := d57 (m := n) (by omega) l j1 hl (by omega) (by omega)
  exact ⟨x1, j1, e1, p1, q1, x2, j2, e2, x20, x21, p2, q2, s3, j3, e3, l3, p3, q3, s4, j4, e4, l4, p4, q4, s5, j5, e5, l5, p5, q5⟩
def Got (l : List UInt8) (d : Nat) (i : Int) (o : Option PV) : Prop := ∃ v j, o = some (.agg [v, .agg [bl l, .int .i64 j]]) ∧ WFN 5 d v ∧ i ≤ j ∧ j ≤ i + BB d
theorem d33 {l : List UInt8} (hl : l.length ≤ 4000) : ∀ d : Nat, 1 ≤ d → d ≤ 8 → ExprAt l d := by
  intro d
  induction d with
  | zero => intro h; omega
  | succ d ih =>
    intro _ h8 m hm i i0 i1
    obtain ⟨n, rfl⟩ : ∃ n, m = n + 1 := ⟨m - 1, by omega⟩
    have hB : BB (d + 1) = 4 * BB d + 12 := rfl
    have hb := BB_nn d
    show Got l (d + 1) i _
    rw [R_succ n 33 _ rfl]
    by_cases h1 : d = 0
    · subst h1
      have hB0 : BB 0 = 0 := rfl
      obtain ⟨x1, j1, e1, p1, q1, x2, j2, e2, x20, x21, p2, q2, s3, j3, e3, l3, p3, q3, s4, j4, e4, l4, p4, q4, s5, j5, e5, l5, p5, q5⟩ := dLeaf hl n (by omega) i i0 (by omega) 0
      have hw : IntKind.i64.wrap (1 + x2) = 1 + x2 := w64 (by omega) (by omega)
      simp only [St33, dn_ret, dn_call, dn_loop, dn_cont0, ite_lss, ite_leq, ite_gtr, ite_geq, ite_eql, ite_neq, ite_not, ite_seql, ite_sneq, ite_slss, ite_sgtr, ite_beql, ite_bneq, ite_fldP, pbE_bool, need_leq', need_lss', need_neq0, b_true, b_false, se_var, se_lit, se_o1, se_o2, se_o3, get0, getS, pc_agg, pi_int, pb_bool, ps_str, pl_list, o_not, o_fld, o_slen, o_conv, o_add, o_sub, o_mul, o_quo, o_rem, o_lss, o_leq, o_gtr, o_geq, o_eql, o_neq, o_sadd, o_seql, o_sneq, o_bneq, o_beql, o_mx, o_mkS, o_setf, or_len, or_idx, or_snoc, or_cat, or_sub, o_ssub, o_sidx, List.nil_append, List.cons_append, e1, e2, e3, e4, e5, hw]
      rw [le_pos (by omega)]
      unfold Got
      by_cases c0 : x1 = 0
      · rw [eq_pos c0]; exact ⟨exV (1 + x2) [] [] [], j2, rfl, wf_leaf (by simp), by omega, by omega⟩
      rw [eq_neg c0]
      by_cases c1 : x1 = 1
      · rw [eq_pos c1]; exact ⟨exV 5 s3 [] [], j3, rfl, wf_leaf l3, by omega, by omega⟩
      rw [eq_neg c1]
      by_cases c2 : x1 = 2
      · rw [eq_pos c2]; exact ⟨exV 4 s4 [] [], j4, rfl, wf_leaf l4, by omega, by omega⟩
      rw [eq_neg c2]
      by_cases c3 : x1 = 3
      · rw [eq_pos c3]; exact ⟨exV 4 s4 [] [], j4, rfl, wf_leaf l4, by omega, by omega⟩
      rw [eq_neg c3]
      by_cases c4 : x1 = 4
      · rw [eq_pos c4]; exact ⟨exV 4 s4 [] [], j4, rfl, wf_leaf l4, by omega, by omega⟩
      rw [eq_neg c4]; exact ⟨exV 6 s5 [] [], j5, rfl, wf_leaf l5, by omega, by omega⟩
    · have E := ih (by omega) (by omega)
      have hw2 : IntKind.i64.wrap (((d + 1 : Nat) : Int) - 1) = (d : Int) := by rw [w64 (by omega) (by omega)]; omega
      obtain ⟨x0, j0, e0, -, -, p0, q0⟩ := dPick (m := n) (by omega) l i 4 hl i0 (by omega) (by omega) (by omega)
      by_cases h4 : x0 = 0
      · obtain ⟨x1, j1, e1, p1, q1, x2, j2, e2, x20, x21, p2, q2, s3, j3, e3, l3, p3, q3, s4, j4, e4, l4, p4, q4, s5, j5, e5, l5, p5, q5⟩ := dLeaf hl n (by omega) j0 (by omega) (by omega) 0
        have hw : IntKind.i64.wrap (1 + x2) = 1 + x2 := w64 (by omega) (by omega)
        simp only [St33, dn_ret, dn_call, ite_leq, ite_eql, se_var, se_lit, se_o1, se_o2, get0, getS, pc_agg, pi_int, o_fld, o_add, o_mkS, or_snoc, List.nil_append, List.cons_append, e0, e1, e2, e3, e4, e5, hw]
        rw [le_neg (by omega), eq_pos h4]
        unfold Got
        by_cases c0 : x1 = 0
        · rw [eq_pos c0]; exact ⟨exV (1 + x2) [] [] [], j2, rfl, wf_leaf (by simp), by omega, by omega⟩
        rw [eq_neg c0]
        by_cases c1 : x1 = 1
        · rw [eq_pos c1]; exact ⟨exV 5 s3 [] [], j3, rfl, wf_leaf l3, by omega, by omega⟩
        rw [eq_neg c1]
        by_cases c2 : x1 = 2
        · rw [eq_pos c2]; exact ⟨exV 4 s4 [] [], j4, rfl, wf_leaf l4, by omega, by omega⟩
        rw [eq_neg c2]
        by_cases c3 : x1 = 3
        · rw [eq_pos c3]; exact ⟨exV 4 s4 [] [], j4, rfl, wf_leaf l4, by omega, by omega⟩
        rw [eq_neg c3]
        by_cases c4 : x1 = 4
        · rw [eq_pos c4]; exact ⟨exV 4 s4 [] [], j4, rfl, wf_leaf l4, by omega, by omega⟩
        rw [eq_neg c4]; exact ⟨exV 6 s5 [] [], j5, rfl, wf_leaf l5, by omega, by omega⟩
      · obtain ⟨x1, j1, e1, -, -, p1, q1⟩ := dPick (m := n) (by omega) l j0 13 hl (by omega) (by omega) (by omega) (by omega)
        -- all that may follow
        obtain ⟨ks2, j2, e2, l2, w2, p2, q2⟩ := d58 hl (by omega) (by omega) E n (by omega) j1 (by omega) 3 (by omega) (by omega)
        have h3 : ((3 : Nat) : Int) = 3 := rfl
        rw [h3] at e2 q2
        obtain ⟨ks3, j3, e3, l3, w3, p3, q3⟩ := d59 hl (by omega) (by omega) E n (by omega) j1 (by omega) (by omega)
        obtain ⟨ks4, j4, e4, l4, w4, p4, q4⟩ := d59 hl (by omega) (by omega) E n (by omega) j3 (by omega) (by omega)
        -- three expressions one after the other
        have three : ∀ a : Int, j1 ≤ a → a ≤ j1 + 1 → ∃ v1 a1, R n 33 (.agg [.agg [bl l, .int .i64 a], .int .i64 d]) = some (.agg [v1, .agg [bl l, .int .i64 a1]]) ∧ WFN 5 d v1 ∧ a ≤ a1 ∧ a1 ≤ a + BB d ∧
            ∃ v2 a2, R n 33 (.agg [.agg [bl l, .int .i64 a1], .int .i64 d]) = some (.agg [v2, .agg [bl l, .int .i64 a2]]) ∧ WFN 5 d v2 ∧ a1 ≤ a2 ∧ a2 ≤ a1 + BB d ∧
            ∃ v3 a3, R n 33 (.agg [.agg [bl l, .int .i64 a2], .int .i64 d]) = some (.agg [v3, .agg [bl l, .int .i64 a3]]) ∧ WFN 5 d v3 ∧ a2 ≤ a3 ∧ a3 ≤ a2 + BB d := by
          intro a h1 h2
          obtain ⟨v1, a1, f1, g1, r1, s1⟩ := E n (by omega) a (by omega) (by omega)
          obtain ⟨v2, a2, f2, g2, r2, s2⟩ := E n (by omega) a1 (by omega) (by omega)
          obtain ⟨v3, a3, f3, g3, r3, s3⟩ := E n (by omega) a2 (by omega) (by omega)
          exact ⟨v1, a1, f1, g1, r1, s1, v2, a2, f2, g2, r2, s2, v3, a3, f3, g3, r3, s3⟩
        obtain ⟨vc, jc, ec, wc, pc, qc⟩ := d62 hl (by omega) (by omega) E n (by omega) j1 (by omega) (by omega)
        obtain ⟨qo, eo, so, lo⟩ := d60 (m := n) (by omega)
        obtain ⟨ns, jn, en, ln, sn, pn, qn⟩ := d61 (m := n) (by omega) l j1 hl (by omega) (by omega)
        have strs : ∀ q : List PV, 1 ≤ q.length → q.length ≤ 1000 → StrL q → ∃ s a, R n 35 (.agg [.agg [bl l, .int .i64 j1], .list 1 false q]) = some (.agg [.str s, .agg [bl l, .int .i64 a]]) ∧ s.length ≤ 20 ∧ j1 ≤ a ∧ a ≤ j1 + 1 := fun q h1 h2 h3 => dOf (m := n) (by omega) l j1 q hl (by omega) (by omega) h1 h2 h3
        unfold Got
        by_cases c0 : x1 = 0
        · simp only [St33, dn_ret, dn_call, dn_loop, dn_cont0, ite_lss, ite_leq, ite_gtr, ite_geq, ite_eql, ite_neq, ite_not, ite_seql, ite_sneq, ite_slss, ite_sgtr, ite_beql, ite_bneq, ite_fldP, pbE_bool, need_leq', need_lss', need_neq0, b_true, b_false, se_var, se_lit, se_o1, se_o2, se_o3, get0, getS, pc_agg, pi_int, pb_bool, ps_str, pl_list, o_not, o_fld, o_slen, o_conv, o_add, o_sub, o_mul, o_quo, o_rem, o_lss, o_leq, o_gtr, o_geq, o_eql, o_neq, o_sadd, o_seql, o_sneq, o_bneq, o_beql, o_mx, o_mkS, o_setf, or_len, or_idx, or_snoc, or_cat, or_sub, o_ssub, o_sidx, List.nil_append, List.cons_append, e0, e1, e2]
          rw [le_neg (by omega), eq_neg h4, eq_pos c0]
          exact ⟨exV 7 [] [] ks2, j2, rfl, wf_mk (by simp) (by simp) .nil (by omega) w2, by omega, by omega⟩
        by_cases c1 : x1 = 1
        · have h1 : ((ks3 ++ ks4).length : Int) ≤ 16777216 := by rw [List.length_append]; omega
          simp only [St33, dn_ret, dn_call, dn_loop, dn_cont0, ite_lss, ite_leq, ite_gtr, ite_geq, ite_eql, ite_neq, ite_not, ite_seql, ite_sneq, ite_slss, ite_sgtr, ite_beql, ite_bneq, ite_fldP, pbE_bool, need_leq', need_lss', need_neq0, b_true, b_false, se_var, se_lit, se_o1, se_o2, se_o3, get0, getS, pc_agg, pi_int, pb_bool, ps_str, pl_list, o_not, o_fld, o_slen, o_conv, o_add, o_sub, o_mul, o_quo, o_rem, o_lss, o_leq, o_gtr, o_geq, o_eql, o_neq, o_sadd, o_seql, o_sneq, o_bneq, o_beql, o_mx, o_mkS, o_setf, or_len, or_idx, or_snoc, or_cat, or_sub, o_ssub, o_sidx, List.nil_append, List.cons_append, e0, e1, e3, e4]
          rw [le_neg (by omega), eq_neg h4, eq_neg c0, eq_pos c1, le_pos h1]
          exact ⟨exV 8 [] [] (ks3 ++ ks4), j4, rfl, wf_mk (by simp) (by simp) .nil (by rw [List.length_append]; omega) (wfApp w3 w4), by omega, by omega⟩
        by_cases c2 : x1 = 2
        · obtain ⟨s, a, f0, l0, r0, t0⟩ := strs [.str [45], .str [110, 111, 116]] (by simp) (by simp) (by repeat' (first | exact StrL.nil | refine StrL.cons (by simp) ?_))
          obtain ⟨v1, a1, f1, g1, r1, t1, -⟩ := three a (by omega) (by omega)
          have hv := g1.eta
          simp only [St33, dn_ret, dn_call, dn_loop, dn_cont0, ite_lss, ite_leq, ite_gtr, ite_geq, ite_eql, ite_neq, ite_not, ite_seql, ite_sneq, ite_slss, ite_sgtr, ite_beql, ite_bneq, ite_fldP, pbE_bool, need_leq', need_lss', need_neq0, b_true, b_false, se_var, se_lit, se_o1, se_o2, se_o3, get0, getS, pc_agg, pi_int, pb_bool, ps_str, pl_list, o_not, o_fld, o_slen, o_conv, o_add, o_sub, o_mul, o_quo, o_rem, o_lss, o_leq, o_gtr, o_geq, o_eql, o_neq, o_sadd, o_seql, o_sneq, o_bneq, o_beql, o_mx, o_mkS, o_setf, or_len, or_idx, or_snoc, or_cat, or_sub, o_ssub, o_sidx, List.nil_append, List.cons_append, e0, e1, f0, f1, hw2, hv]
          rw [le_neg (by omega), eq_neg h4, eq_neg c0, eq_neg c1, eq_pos c2]
          exact ⟨exV 9 s [] [v1], a1, rfl, wf_mk l0 (by simp) .nil (by simp) (wf1 g1), by omega, by omega⟩
        have bin : ∀ A : Option PV, A = (match R n 35 (.agg [.agg [bl l, .int .i64 j1], .list 1 false (qo ++ [.str [43], .str [45], .str [42], .str [60], .str [61, 61]])]) with
            | some r => match R n 33 (.agg [.agg [(O1.fld 0).dn ((O1.fld 1).dn r), (O1.fld 1).dn ((O1.fld 1).dn r)], .int .i64 d]) with
              | some r_1 => match R n 33 (.agg [.agg [(O1.fld 0).dn ((O1.fld 1).dn r_1), (O1.fld 1).dn ((O1.fld 1).dn r_1)], .int .i64 d]) with
                | some r_2 => some (.agg [.agg [.int .i64 10, (O1.fld 0).dn r, .list 1 false [], .list 4 true [.agg [(O1.fld 0).dn ((O1.fld 0).dn r_1), (O1.fld 1).dn ((O1.fld 0).dn r_1), (O1.fld 2).dn ((O1.fld 0).dn r_1), (O1.fld 3).dn ((O1.fld 0).dn r_1)], .agg [(O1.fld 0).dn ((O1.fld 0).dn r_2), (O1.fld 1).dn ((O1.fld 0).dn r_2), (O1.fld 2).dn ((O1.fld 0).dn r_2), (O1.fld 3).dn ((O1.fld 0).dn r_2)]]], .agg [(O1.fld 0).dn ((O1.fld 1).dn r_2), (O1.fld 1).dn ((O1.fld 1).dn r_2)]])
                | none => none
              | none => none
            | none => none) → Got l (d + 1) i A := by
          rintro A rfl
          obtain ⟨s, a, f0, l0, r0, t0⟩ := strs (qo ++ [.str [43], .str [45], .str [42], .str [60], .str [61, 61]]) (by simp) (by simp [lo]) (so.app (by repeat' (first | exact StrL.nil | refine StrL.cons (by simp) ?_)))
          obtain ⟨v1, a1, f1, g1, r1, t1, v2, a2, f2, g2, r2, t2, -⟩ := three a (by omega) (by omega)
          have hv1 := g1.eta
          have hv2 := g2.eta
          simp only [dn_ret, dn_call, dn_loop, dn_cont0, ite_lss, ite_leq, ite_gtr, ite_geq, ite_eql, ite_neq, ite_not, ite_seql, ite_sneq, ite_slss, ite_sgtr, ite_beql, ite_bneq, ite_fldP, pbE_bool, need_leq', need_lss', need_neq0, b_true, b_false, se_var, se_lit, se_o1, se_o2, se_o3, get0, getS, pc_agg, pi_int, pb_bool, ps_str, pl_list, o_not, o_fld, o_slen, o_conv, o_add, o_sub, o_mul, o_quo, o_rem, o_lss, o_leq, o_gtr, o_geq, o_eql, o_neq, o_sadd, o_seql, o_sneq, o_bneq, o_beql, o_mx, o_mkS, o_setf, or_len, or_idx, or_snoc, or_cat, or_sub, o_ssub, o_sidx, List.nil_append, List.cons_append, f0, f1, f2, hv1, hv2]
          exact ⟨exV 10 s [] [v1, v2], a2, rfl, wf_mk l0 (by simp) .nil (by simp) (wf2 g1 g2), by omega, by omega⟩
        have hq : ((qo ++ [PV.str [43], .str [45], .str [42], .str [60], .str [61, 61]]).length : Int) ≤ 16777216 := by simp [lo]
        by_cases c3 : x1 = 3
        · simp only [St33, dn_ret, dn_call, dn_loop, dn_cont0, ite_lss, ite_leq, ite_gtr, ite_geq, ite_eql, ite_neq, ite_not, ite_seql, ite_sneq, ite_slss, ite_sgtr, ite_beql, ite_bneq, ite_fldP, pbE_bool, need_leq', need_lss', need_neq0, b_true, b_false, se_var, se_lit, se_o1, se_o2, se_o3, get0, getS, pc_agg, pi_int, pb_bool, ps_str, pl_list, o_not, o_fld, o_slen, o_conv, o_add, o_sub, o_mul, o_quo, o_rem, o_lss, o_leq, o_gtr, o_geq, o_eql, o_neq, o_sadd, o_seql, o_sneq, o_bneq, o_beql, o_mx, o_mkS, o_setf, or_len, or_idx, or_snoc, or_cat, or_sub, o_ssub, o_sidx, List.nil_append, List.cons_append, e0, e1, eo, hw2]
          rw [le_neg (by omega), eq_neg h4, eq_neg c0, eq_neg c1, eq_neg c2, eq_pos c3, le_pos hq]
          exact bin _ rfl
        by_cases c4 : x1 = 4
        · simp only [St33, dn_ret, dn_call, dn_loop, dn_cont0, ite_lss, ite_leq, ite_gtr, ite_geq, ite_eql, ite_neq, ite_not, ite_seql, ite_sneq, ite_slss, ite_sgtr, ite_beql, ite_bneq, ite_fldP, pbE_bool, need_leq', need_lss', need_neq0, b_true, b_false, se_var, se_lit, se_o1, se_o2, se_o3, get0, getS, pc_agg, pi_int, pb_bool, ps_str, pl_list, o_not, o_fld, o_slen, o_conv, o_add, o_sub, o_mul, o_quo, o_rem, o_lss, o_leq, o_gtr, o_geq, o_eql, o_neq, o_sadd, o_seql, o_sneq, o_bneq, o_beql, o_mx, o_mkS, o_setf, or_len, or_idx, or_snoc, or_cat, or_sub, o_ssub, o_sidx, List.nil_append, List.cons_append, e0, e1, eo, hw2]
          rw [le_neg (by omega), eq_neg h4, eq_neg c0, eq_neg c1, eq_neg c2, eq_neg c3, eq_pos c4, le_pos hq]
          exact bin _ rfl
        by_cases c5 : x1 = 5
        · simp only [St33, dn_ret, dn_call, dn_loop, dn_cont0, ite_lss, ite_leq, ite_gtr, ite_geq, ite_eql, ite_neq, ite_not, ite_seql, ite_sneq, ite_slss, ite_sgtr, ite_beql, ite_bneq, ite_fldP, pbE_bool, need_leq', need_lss', need_neq0, b_true, b_false, se_var, se_lit, se_o1, se_o2, se_o3, get0, getS, pc_agg, pi_int, pb_bool, ps_str, pl_list, o_not, o_fld, o_slen, o_conv, o_add, o_sub, o_mul, o_quo, o_rem, o_lss, o_leq, o_gtr, o_geq, o_eql, o_neq, o_sadd, o_seql, o_sneq, o_bneq, o_beql, o_mx, o_mkS, o_setf, or_len, or_idx, or_snoc, or_cat, or_sub, o_ssub, o_sidx, List.nil_append, List.cons_append, e0, e1, eo, hw2]
          rw [le_neg (by omega), eq_neg h4, eq_neg c0, eq_neg c1, eq_neg c2, eq_neg c3, eq_neg c4, eq_pos c5, le_pos hq]
          exact bin _ rfl
        by_cases c6 : x1 = 6
        · simp only [St33, dn_ret, dn_call, dn_loop, dn_cont0, ite_lss, ite_leq, ite_gtr, ite_geq, ite_eql, ite_neq, ite_not, ite_seql, ite_sneq, ite_slss, ite_sgtr, ite_beql, ite_bneq, ite_fldP, pbE_bool, need_leq', need_lss', need_neq0, b_true, b_false, se_var, se_lit, se_o1, se_o2, se_o3, get0, getS, pc_agg, pi_int, pb_bool, ps_str, pl_list, o_not, o_fld, o_slen, o_conv, o_add, o_sub, o_mul, o_quo, o_rem, o_lss, o_leq, o_gtr, o_geq, o_eql, o_neq, o_sadd, o_seql, o_sneq, o_bneq, o_beql, o_mx, o_mkS, o_setf, or_len, or_idx, or_snoc, or_cat, or_sub, o_ssub, o_sidx, List.nil_append, List.cons_append, e0, e1, eo, hw2]
          rw [le_neg (by omega), eq_neg h4, eq_neg c0, eq_neg c1, eq_neg c2, eq_neg c3, eq_neg c4, eq_neg c5, eq_pos c6, le_pos hq]
          exact bin _ rfl
        by_cases c7 : x1 = 7
        · obtain ⟨s, a, f0, l0, r0, t0⟩ := strs [.str [97, 110, 100], .str [111, 114]] (by simp) (by simp) (by repeat' (first | exact StrL.nil | refine StrL.cons (by simp) ?_))
          obtain ⟨v1, a1, f1, g1, r1, t1, v2, a2, f2, g2, r2, t2, -⟩ := three a (by omega) (by omega)
          have hv1 := g1.eta
          have hv2 := g2.eta
          simp only [St33, dn_ret, dn_call, dn_loop, dn_cont0, ite_lss, ite_leq, ite_gtr, ite_geq, ite_eql, ite_neq, ite_not, ite_seql, ite_sneq, ite_slss, ite_sgtr, ite_beql, ite_bneq, ite_fldP, pbE_bool, need_leq', need_lss', need_neq0, b_true, b_false, se_var, se_lit, se_o1, se_o2, se_o3, get0, getS, pc_agg, pi_int, pb_bool, ps_str, pl_list, o_not, o_fld, o_slen, o_conv, o_add, o_sub, o_mul, o_quo, o_rem, o_lss, o_leq, o_gtr, o_geq, o_eql, o_neq, o_sadd, o_seql, o_sneq, o_bneq, o_beql, o_mx, o_mkS, o_setf, or_len, or_idx, or_snoc, or_cat, or_sub, o_ssub, o_sidx, List.nil_append, List.cons_append, e0, e1, f0, f1, f2, hw2, hv1, hv2]
          rw [le_neg (by omega), eq_neg h4, eq_neg c0, eq_neg c1, eq_neg c2, eq_neg c3, eq_neg c4, eq_neg c5, eq_neg c6, eq_pos c7]
          exact ⟨exV 11 s [] [v1, v2], a2, rfl, wf_mk l0 (by simp) .nil (by simp) (wf2 g1 g2), by omega, by omega⟩
        obtain ⟨v1, a1, f1, g1, r1, t1, v2, a2, f2, g2, r2, t2, v3, a3, f3, g3, r3, t3⟩ := three j1 (by omega) (by omega)
        have hv1 := g1.eta
        have hv2 := g2.eta
        have hv3 := g3.eta
        by_cases c8 : x1 = 8
        · simp only [St33, dn_ret, dn_call, dn_loop, dn_cont0, ite_lss, ite_leq, ite_gtr, ite_geq, ite_eql, ite_neq, ite_not, ite_seql, ite_sneq, ite_slss, ite_sgtr, ite_beql, ite_bneq, ite_fldP, pbE_bool, need_leq', need_lss', need_neq0, b_true, b_false, se_var, se_lit, se_o1, se_o2, se_o3, get0, getS, pc_agg, pi_int, pb_bool, ps_str, pl_list, o_not, o_fld, o_slen, o_conv, o_add, o_sub, o_mul, o_quo, o_rem, o_lss, o_leq, o_gtr, o_geq, o_eql, o_neq, o_sadd, o_seql, o_sneq, o_bneq, o_beql, o_mx, o_mkS, o_setf, or_len, or_idx, or_snoc, or_cat, or_sub, o_ssub, o_sidx, List.nil_append, List.cons_append, e0, e1, f1, f2, f3, hw2, hv1, hv2, hv3]
          rw [le_neg (by omega), eq_neg h4, eq_neg c0, eq_neg c1, eq_neg c2, eq_neg c3, eq_neg c4, eq_neg c5, eq_neg c6, eq_neg c7, eq_pos c8]
          exact ⟨exV 12 [] [] [v1, v2, v3], a3, rfl, wf_mk (by simp) (by simp) .nil (by simp) (wf3 g1 g2 g3), by omega, by omega⟩
        by_cases c9 : x1 = 9
        · simp only [St33, dn_ret, dn_call, dn_loop, dn_cont0, ite_lss, ite_leq, ite_gtr, ite_geq, ite_eql, ite_neq, ite_not, ite_seql, ite_sneq, ite_slss, ite_sgtr, ite_beql, ite_bneq, ite_fldP, pbE_bool, need_leq', need_lss', need_neq0, b_true, b_false, se_var, se_lit, se_o1, se_o2, se_o3, get0, getS, pc_agg, pi_int, pb_bool, ps_str, pl_list, o_not, o_fld, o_slen, o_conv, o_add, o_sub, o_mul, o_quo, o_rem, o_lss, o_leq, o_gtr, o_geq, o_eql, o_neq, o_sadd, o_seql, o_sneq, o_bneq, o_beql, o_mx, o_mkS, o_setf, or_len, or_idx, or_snoc, or_cat, or_sub, o_ssub, o_sidx, List.nil_append, List.cons_append, e0, e1, f1, f2, f3, hw2, hv1, hv2, hv3]
          rw [le_neg (by omega), eq_neg h4, eq_neg c0, eq_neg c1, eq_neg c2, eq_neg c3, eq_neg c4, eq_neg c5, eq_neg c6, eq_neg c7, eq_neg c8, eq_pos c9]
          exact ⟨exV 14 [] [] [v1, v2], a2, rfl, wf_mk (by simp) (by simp) .nil (by simp) (wf2 g1 g2), by omega, by omega⟩
        by_cases c10 : x1 = 10
        · obtain ⟨s, a, f0, l0, r0, t0⟩ := strs [.str [97, 112, 112, 101, 110, 100], .str [112, 111, 112], .str [107, 101, 121, 115], .str [116, 101, 120, 116], .str [118]] (by simp) (by simp) (by repeat' (first | exact StrL.nil | refine StrL.cons (by simp) ?_))
          obtain ⟨u1, b1, f1', g1', r1', t1', -⟩ := three a (by omega) (by omega)
          have hu := g1'.eta
          simp only [St33, dn_ret, dn_call, dn_loop, dn_cont0, ite_lss, ite_leq, ite_gtr, ite_geq, ite_eql, ite_neq, ite_not, ite_seql, ite_sneq, ite_slss, ite_sgtr, ite_beql, ite_bneq, ite_fldP, pbE_bool, need_leq', need_lss', need_neq0, b_true, b_false, se_var, se_lit, se_o1, se_o2, se_o3, get0, getS, pc_agg, pi_int, pb_bool, ps_str, pl_list, o_not, o_fld, o_slen, o_conv, o_add, o_sub, o_mul, o_quo, o_rem, o_lss, o_leq, o_gtr, o_geq, o_eql, o_neq, o_sadd, o_seql, o_sneq, o_bneq, o_beql, o_mx, o_mkS, o_setf, or_len, or_idx, or_snoc, or_cat, or_sub, o_ssub, o_sidx, List.nil_append, List.cons_append, e0, e1, f0, f1', hw2, hu]
          rw [le_neg (by omega), eq_neg h4, eq_neg c0, eq_neg c1, eq_neg c2, eq_neg c3, eq_neg c4, eq_neg c5, eq_neg c6, eq_neg c7, eq_neg c8, eq_neg c9, eq_pos c10]
          exact ⟨exV 15 s [] [u1], b1, rfl, wf_mk l0 (by simp) .nil (by simp) (wf1 g1'), by omega, by omega⟩
        by_cases c11 : x1 = 11
        · obtain ⟨u1, b1, f1', g1', r1', t1', -⟩ := three jn (by omega) (by omega)
          have hu := g1'.eta
          simp only [St33, dn_ret, dn_call, dn_loop, dn_cont0, ite_lss, ite_leq, ite_gtr, ite_geq, ite_eql, ite_neq, ite_not, ite_seql, ite_sneq, ite_slss, ite_sgtr, ite_beql, ite_bneq, ite_fldP, pbE_bool, need_leq', need_lss', need_neq0, b_true, b_false, se_var, se_lit, se_o1, se_o2, se_o3, get0, getS, pc_agg, pi_int, pb_bool, ps_str, pl_list, o_not, o_fld, o_slen, o_conv, o_add, o_sub, o_mul, o_quo, o_rem, o_lss, o_leq, o_gtr, o_geq, o_eql, o_neq, o_sadd, o_seql, o_sneq, o_bneq, o_beql, o_mx, o_mkS, o_setf, or_len, or_idx, or_snoc, or_cat, or_sub, o_ssub, o_sidx, List.nil_append, List.cons_append, e0, e1, en, f1', hw2, hu]
          rw [le_neg (by omega), eq_neg h4, eq_neg c0, eq_neg c1, eq_neg c2, eq_neg c3, eq_neg c4, eq_neg c5, eq_neg c6, eq_neg c7, eq_neg c8, eq_neg c9, eq_neg c10, eq_pos c11]
          exact ⟨exV 16 [] ns [u1], b1, rfl, wf_mk (by simp) (by omega) sn (by simp) (wf1 g1'), by omega, by omega⟩
        · have hvc := wc.eta
          simp only [St33, dn_ret, dn_call, dn_loop, dn_cont0, ite_lss, ite_leq, ite_gtr, ite_geq, ite_eql, ite_neq, ite_not, ite_seql, ite_sneq, ite_slss, ite_sgtr, ite_beql, ite_bneq, ite_fldP, pbE_bool, need_leq', need_lss', need_neq0, b_true, b_false, se_var, se_lit, se_o1, se_o2, se_o3, get0, getS, pc_agg, pi_int, pb_bool, ps_str, pl_list, o_not, o_fld, o_slen, o_conv, o_add, o_sub, o_mul, o_quo, o_rem, o_lss, o_leq, o_gtr, o_geq, o_eql, o_neq, o_sadd, o_seql, o_sneq, o_bneq, o_beql, o_mx, o_mkS, o_setf, or_len, or_idx, or_snoc, or_cat, or_sub, o_ssub, o_sidx, List.nil_append, List.cons_append, e0, e1, ec, hvc]
          rw [le_neg (by omega), eq_neg h4, eq_neg c0, eq_neg c1, eq_neg c2, eq_neg c3, eq_neg c4, eq_neg c5, eq_neg c6, eq_neg c7, eq_neg c8, eq_neg c9, eq_neg c10, eq_neg c11]
          exact ⟨vc, jc, rfl, wc, by omega, by omega⟩
end Go.Dv

/- The law on what folding saves returns true. -/
set_option linter.unusedVariables false
set_option linter.unusedSimpArgs false
namespace Go.Dv

theorem d37 : ∀ (d : Nat) (v : PV) (s : List UInt8) (m : Nat), s.length ≤ 20 → WFN 5 d v → 30 + d ≤ m → ∃ u, R m 37 (.agg [v, .str s]) = some (.agg [u]) ∧ WFN 5 d u := by
  intro d
  induction d with
  | zero => intro v s m _ h _; exact h.elim
  | succ d ih =>
    intro v s m hs h hm
    obtain ⟨n, rfl⟩ : ∃ n, m = n + 1 := ⟨m - 1, by omega⟩
    obtain ⟨k, t, ns, ks, rfl, h1, h2, h3, h4, h5⟩ := h
    rw [R_succ n 37 _ rfl]
    simp only [St37, exV, dn_ret, dn_call, dn_loop, dn_cont0, ite_lss, ite_leq, ite_gtr, ite_geq, ite_eql, ite_neq, ite_not, ite_seql, ite_sneq, ite_slss, ite_sgtr, ite_beql, ite_bneq, ite_fldP, pbE_bool, need_leq', need_lss', need_neq0, b_true, b_false, se_var, se_lit, se_o1, se_o2, se_o3, get0, getS, pc_agg, pi_int, pb_bool, ps_str, pl_list, o_not, o_fld, o_slen, o_conv, o_add, o_sub, o_mul, o_quo, o_rem, o_lss, o_leq, o_gtr, o_geq, o_eql, o_neq, o_sadd, o_seql, o_sneq, o_bneq, o_beql, o_mx, o_mkS, o_setf, or_len, or_idx, or_snoc, or_cat, or_sub, o_ssub, o_sidx, List.nil_append, List.cons_append]
    by_cases h6 : k = 6
    · rw [eq_pos h6]
      exact ⟨exV 4 s [] [], rfl, wf_leaf hs⟩
    rw [eq_neg h6]
    have : ∀ (e j : Nat) (acc : List PV), j + e = ks.length → acc.length = j → (∀ x ∈ acc, WFN 5 d x) → ∀ q, e < q → ∃ us, rounds (fun self v => St37b0.dn (n + 1) (R n) [self] [.agg [.agg [.int .i64 k, .str t, .list 1 false ns, .list 4 true ks], .str s], v]) q (.agg [.int .i64 j, .list 4 true acc]) = some (.agg [exV k t ns us]) ∧ us.length = ks.length ∧ ∀ x ∈ us, WFN 5 d x := by
      intro e
      induction e with
      | zero =>
        intro j acc hj hl ha q hq
        obtain ⟨q, rfl⟩ : ∃ n, q = n + 1 := ⟨q - 1, by omega⟩
        refine ⟨acc, ?_, by omega, ha⟩
        rw [rounds_s]
        generalize rounds _ q = self
        simp only [St37b0, dn_ret, dn_call, dn_loop, dn_cont0, ite_lss, ite_leq, ite_gtr, ite_geq, ite_eql, ite_neq, ite_not, ite_seql, ite_sneq, ite_slss, ite_sgtr, ite_beql, ite_bneq, ite_fldP, pbE_bool, need_leq', need_lss', need_neq0, b_true, b_false, se_var, se_lit, se_o1, se_o2, se_o3, get0, getS, pc_agg, pi_int, pb_bool, ps_str, pl_list, o_not, o_fld, o_slen, o_conv, o_add, o_sub, o_mul, o_quo, o_rem, o_lss, o_leq, o_gtr, o_geq, o_eql, o_neq, o_sadd, o_seql, o_sneq, o_bneq, o_beql, o_mx, o_mkS, o_setf, or_len, or_idx, or_snoc, or_cat, or_sub, o_ssub, o_sidx, List.nil_append, List.cons_append]
        rw [lt_neg (by omega)]
        rfl
      | succ e ihe =>
        intro j acc hj hl ha q hq
        obtain ⟨q, rfl⟩ : ∃ n, q = n + 1 := ⟨q - 1, by omega⟩
        have hj' : j < ks.length := by omega
        have hx := h5 _ (getD_mem (.bool false) hj')
        obtain ⟨u, e1, w1⟩ := ih _ s n hs hx (by omega)
        obtain ⟨us, e2, l2, w2⟩ := ihe (j + 1) (acc ++ [u]) (by omega) (by simp; omega) (wfApp ha (wf1 w1)) q (by omega)
        refine ⟨us, ?_, l2, w2⟩
        have hxe := hx.eta
        have hue := w1.eta
        have hlen : ((acc ++ [u]).length : Int) ≤ 16777216 := by simp; omega
        rw [rounds_s]
        generalize rounds _ q = self at e2 ⊢
        simp (disch := omega) only [St37b0, dn_ret, dn_call, dn_loop, dn_cont0, ite_lss, ite_leq, ite_gtr, ite_geq, ite_eql, ite_neq, ite_not, ite_seql, ite_sneq, ite_slss, ite_sgtr, ite_beql, ite_bneq, ite_fldP, pbE_bool, need_leq', need_lss', need_neq0, b_true, b_false, se_var, se_lit, se_o1, se_o2, se_o3, get0, getS, pc_agg, pi_int, pb_bool, ps_str, pl_list, o_not, o_fld, o_slen, o_conv, o_add, o_sub, o_mul, o_quo, o_rem, o_lss, o_leq, o_gtr, o_geq, o_eql, o_neq, o_sadd, o_seql, o_sneq, o_bneq, o_beql, o_mx, o_mkS, o_setf, or_len, or_idx, or_snoc, or_cat, or_sub, o_ssub, o_sidx, List.nil_append, List.cons_append, Int.toNat_natCast, wS, hxe, e1, hue]
        rw [lt_pos (by omega), le_pos (by omega), le_pos hlen]
        exact e2
    obtain ⟨us, e, l, w⟩ := this ks.length 0 [] (by omega) rfl (fun x h => by cases h) (n + 1) (by omega)
    exact ⟨exV k t ns us, e, k, t, ns, us, rfl, h1, h2, h3, by omega, w⟩

theorem BB8 : BB 8 = 262140 := rfl
theorem BBle {d : Nat} (h : d ≤ 8) : BB d ≤ 262140 := by
  match d, h with
  | 0, _ => decide
  | 1, _ => decide
  | 2, _ => decide
  | 3, _ => decide
  | 4, _ => decide
  | 5, _ => decide
  | 6, _ => decide
  | 7, _ => decide
  | 8, _ => decide
theorem d18 {l : List UInt8} (hl : l.length ≤ 4000) (m : Nat) (hm : 90 ≤ m) (i : Int) (i0 : 0 ≤ i) (i1 : i ≤ 100) : ∃ v j, R m 18 (.agg [.agg [bl l, .int .i64 i]]) = some (.agg [v, .agg [bl l, .int .i64 j]]) ∧ WF 8 v := by
  obtain ⟨n, rfl⟩ : ∃ n, m = n + 1 := ⟨m - 1, by omega⟩
  obtain ⟨y, j1, e1, hy, p1, q1⟩ := f50 (m := n) (by omega) 20 (.inr rfl) false l i [.int .i64 1, .int .i64 2, .int .i64 3, .int .i64 4, .int .i64 5, .int .i64 8] hl i0 (by omega) (by simp) (by simp)
  obtain ⟨d, rfl, hd1, hd8⟩ : ∃ d : Nat, y = .int .i64 d ∧ 1 ≤ d ∧ d ≤ 8 := by
    simp at hy
    rcases hy with h | h | h | h | h | h
    · exact ⟨1, h, by omega, by omega⟩
    · exact ⟨2, h, by omega, by omega⟩
    · exact ⟨3, h, by omega, by omega⟩
    · exact ⟨4, h, by omega, by omega⟩
    · exact ⟨5, h, by omega, by omega⟩
    · exact ⟨8, h, by omega, by omega⟩
  have hb := BBle hd8
  simp only [rndV] at e1
  obtain ⟨v, j2, e2, w2, p2, q2⟩ := d33 hl d hd1 hd8 n (by omega) j1 (by omega) (by omega)
  obtain ⟨x3, j3, e3, -, -, p3, q3⟩ := dPick (m := n) (by omega) l j2 14 hl (by omega) (by omega) (by omega) (by omega)
  obtain ⟨x4, j4, e4, -, -, p4, q4⟩ := dPick (m := n) (by omega) l j3 19 hl (by omega) (by omega) (by omega) (by omega)
  obtain ⟨z5, j5, e5, p5, q5⟩ := d34 (m := n) (by omega) l j4 x4 hl (by omega) (by omega)
  obtain ⟨s6, j6, e6, l6, p6, q6⟩ := dOf (m := n) (by omega) l j3 [.str [], .str [97], .str [45, 49], .str [43], .str [105, 102], .str [48, 49]] hl (by omega) (by omega) (by simp) (by simp) (by repeat' (first | exact StrL.nil | refine StrL.cons (by simp) ?_))
  obtain ⟨s7, j7, e7, l7, p7, q7⟩ := d36 (m := n) (by omega) l j3 hl (by omega) (by omega)
  have w8 : WF 8 v := WFN.le (w2.mono (by omega)) hd8
  obtain ⟨d, rfl⟩ : ∃ k, d = k + 1 := ⟨d - 1, by omega⟩
  have hen : v.en.length ≤ 5 := by
    obtain ⟨k, t, ns, ks, rfl, h1, h2, -⟩ := w2
    exact h2
  obtain ⟨k, t, ns, ks, rfl, h1, h2, h3, h4, h5⟩ := w8
  have hen : ns.length ≤ 5 := hen
  have hl0 : (ns.length : Int) ≤ 16777216 := by omega
  have hl1 : ((ns ++ [PV.str s7]).length : Int) ≤ 16777216 := by simp; omega
  rw [R_succ n 18 _ rfl]
  simp only [exV] at e2
  simp only [St18, dn_ret, dn_call, dn_loop, dn_cont0, ite_lss, ite_leq, ite_gtr, ite_geq, ite_eql, ite_neq, ite_not, ite_seql, ite_sneq, ite_slss, ite_sgtr, ite_beql, ite_bneq, ite_fldP, pbE_bool, need_leq', need_lss', need_neq0, b_true, b_false, se_var, se_lit, se_o1, se_o2, se_o3, get0, getS, pc_agg, pi_int, pb_bool, ps_str, pl_list, o_not, o_fld, o_slen, o_conv, o_add, o_sub, o_mul, o_quo, o_rem, o_lss, o_leq, o_gtr, o_geq, o_eql, o_neq, o_sadd, o_seql, o_sneq, o_bneq, o_beql, o_mx, o_mkS, o_setf, or_len, or_idx, or_snoc, or_cat, or_sub, o_ssub, o_sidx, List.nil_append, List.cons_append, e1, e2, e3, e4, e5, e6, e7]
  by_cases c0 : x3 = 0
  · rw [eq_pos c0]
    exact ⟨exV z5 t ns ks, j5, rfl, z5, t, ns, ks, rfl, h1, h2, h3, h4, h5⟩
  rw [eq_neg c0]
  by_cases c1 : x3 = 1
  · rw [eq_pos c1]
    exact ⟨exV k s6 ns ks, j6, rfl, k, s6, ns, ks, rfl, by omega, h2, h3, h4, h5⟩
  rw [eq_neg c1]
  by_cases c2 : x3 = 2
  · rw [eq_pos c2, le_pos hl0, le_pos hl1]
    refine ⟨exV k t (ns ++ [.str s7]) ks, j7, rfl, k, t, ns ++ [.str s7], ks, rfl, h1, by simp; omega, ?_, h4, h5⟩
    intro x hx
    rcases List.mem_append.1 hx with hx | hx
    · exact h3 x hx
    · rw [List.mem_singleton] at hx
      exact ⟨s7, hx, by omega⟩
  rw [eq_neg c2]
  exact ⟨exV k t ns ks, j3, rfl, k, t, ns, ks, rfl, h1, h2, h3, h4, h5⟩
end Go.Dv

/- The law on what folding saves: its tree returns true. -/
set_option linter.unusedVariables false
set_option linter.unusedSimpArgs false
namespace Go.Dv

theorem d19 {l : List UInt8} (hl : l.length ≤ 4000) (m : Nat) (hm : 90 ≤ m) (i : Int) (i0 : 0 ≤ i) (i1 : i ≤ 100) (d : Nat) (hd1 : 1 ≤ d) (hd8 : d ≤ 8) : ∃ v j, R m 19 (.agg [.agg [bl l, .int .i64 i], .int .i64 d]) = some (.agg [v, .agg [bl l, .int .i64 j]]) ∧ WF 8 v := by
  obtain ⟨n, rfl⟩ : ∃ n, m = n + 1 := ⟨m - 1, by omega⟩
  have hb := BBle hd8
  obtain ⟨v, j2, e2, w2, p2, q2⟩ := d33 hl d hd1 hd8 n (by omega) i i0 (by omega)
  obtain ⟨s, j3, e3, l3, p3, q3⟩ := d38 (m := n) (by omega) l j2 hl (by omega) (by omega)
  obtain ⟨u, e4, w4⟩ := d37 d v s n l3 w2 (by omega)
  have hv := w2.eta
  have hu := w4.eta
  rw [R_succ n 19 _ rfl]
  simp only [St19, dn_ret, dn_call, dn_loop, dn_cont0, ite_lss, ite_leq, ite_gtr, ite_geq, ite_eql, ite_neq, ite_not, ite_seql, ite_sneq, ite_slss, ite_sgtr, ite_beql, ite_bneq, ite_fldP, pbE_bool, need_leq', need_lss', need_neq0, b_true, b_false, se_var, se_lit, se_o1, se_o2, se_o3, get0, getS, pc_agg, pi_int, pb_bool, ps_str, pl_list, o_not, o_fld, o_slen, o_conv, o_add, o_sub, o_mul, o_quo, o_rem, o_lss, o_leq, o_gtr, o_geq, o_eql, o_neq, o_sadd, o_seql, o_sneq, o_bneq, o_beql, o_mx, o_mkS, o_setf, or_len, or_idx, or_snoc, or_cat, or_sub, o_ssub, o_sidx, List.nil_append, List.cons_append, e2, e3, hv, e4, hu]
  exact ⟨u, j3, rfl, WFN.le (w4.mono (by omega)) hd8⟩
theorem d5 (m : Nat) (hm : 100 ≤ m) (l : List UInt8) (hl : l.length ≤ 100000000) : ∃ v, R m 5 (.agg [bl l]) = some (.agg [v]) ∧ WF 8 v := by
  obtain ⟨n, rfl⟩ : ∃ n, m = n + 1 := ⟨m - 1, by omega⟩
  have e0 := f48 (m := n) (by omega) l hl
  have hl' : (l.take 4000).length ≤ 4000 := by rw [List.length_take]; omega
  simp only [rndV] at e0
  generalize l.take 4000 = c at e0 hl'
  obtain ⟨x1, j1, e1, -, -, p1, q1⟩ := dPick (m := n) (by omega) c 0 3 hl' (by omega) (by omega) (by omega) (by omega)
  rw [R_succ n 5 _ rfl]
  by_cases h : x1 = 0
  · obtain ⟨v, j2, e2, w2⟩ := d18 hl' n (by omega) j1 (by omega) (by omega)
    have hv := w2.eta
    simp only [St5, dn_ret, dn_call, dn_loop, dn_cont0, ite_lss, ite_leq, ite_gtr, ite_geq, ite_eql, ite_neq, ite_not, ite_seql, ite_sneq, ite_slss, ite_sgtr, ite_beql, ite_bneq, ite_fldP, pbE_bool, need_leq', need_lss', need_neq0, b_true, b_false, se_var, se_lit, se_o1, se_o2, se_o3, get0, getS, pc_agg, pi_int, pb_bool, ps_str, pl_list, o_not, o_fld, o_slen, o_conv, o_add, o_sub, o_mul, o_quo, o_rem, o_lss, o_leq, o_gtr, o_geq, o_eql, o_neq, o_sadd, o_seql, o_sneq, o_bneq, o_beql, o_mx, o_mkS, o_setf, or_len, or_idx, or_snoc, or_cat, or_sub, o_ssub, o_sidx, List.nil_append, List.cons_append, e0, e1, e2, hv]
    rw [eq_pos h]
    exact ⟨v, rfl, w2⟩
  · obtain ⟨y, j2, e2, hy, p2, q2⟩ := f50 (m := n) (by omega) 20 (.inr rfl) false c j1 [.int .i64 2, .int .i64 3, .int .i64 4, .int .i64 5] hl' (by omega) (by omega) (by simp) (by simp)
    obtain ⟨d, rfl, hd1, hd8⟩ : ∃ d : Nat, y = .int .i64 d ∧ 1 ≤ d ∧ d ≤ 8 := by
      simp at hy
      rcases hy with h | h | h | h
      · exact ⟨2, h, by omega, by omega⟩
      · exact ⟨3, h, by omega, by omega⟩
      · exact ⟨4, h, by omega, by omega⟩
      · exact ⟨5, h, by omega, by omega⟩
    obtain ⟨v, j3, e3, w3⟩ := d19 hl' n (by omega) j2 (by omega) (by omega) d hd1 hd8
    have hv := w3.eta
    simp only [rndV] at e2
    simp only [St5, dn_ret, dn_call, dn_loop, dn_cont0, ite_lss, ite_leq, ite_gtr, ite_geq, ite_eql, ite_neq, ite_not, ite_seql, ite_sneq, ite_slss, ite_sgtr, ite_beql, ite_bneq, ite_fldP, pbE_bool, need_leq', need_lss', need_neq0, b_true, b_false, se_var, se_lit, se_o1, se_o2, se_o3, get0, getS, pc_agg, pi_int, pb_bool, ps_str, pl_list, o_not, o_fld, o_slen, o_conv, o_add, o_sub, o_mul, o_quo, o_rem, o_lss, o_leq, o_gtr, o_geq, o_eql, o_neq, o_sadd, o_seql, o_sneq, o_bneq, o_beql, o_mx, o_mkS, o_setf, or_len, or_idx, or_snoc, or_cat, or_sub, o_ssub, o_sidx, List.nil_append, List.cons_append, e0, e1, e2, e3, hv]
    rw [eq_neg h]
    exact ⟨v, rfl, w3⟩

theorem wf_of_valid : ∀ {d D : Nat} {v : PV}, WF D v → valid d v = true → WF d v
  | 0, _, _, _, h => by simp [valid] at h
  | d + 1, 0, _, h, _ => h.elim
  | d + 1, D + 1, v, h, hv => by
    obtain ⟨k, t, ns, ks, rfl, h1, h2, h3, h4, h5⟩ := h
    exact ⟨k, t, ns, ks, rfl, h1, h2, h3, h4, fun x hx => wf_of_valid (h5 x hx) ((valid_parts hv).2 x hx)⟩
/-- What folding saves. -/
def saves (v : PV) : Int := if valid 7 v = true then IntKind.i64.wrap (sizeE 7 v - sizeE 7 (fold 7 v)) else -1
theorem w6 {m : Nat} (hm : 900 ≤ m) {v : PV} (h : WF 8 v) : R m 6 (.agg [v]) = some (.agg [.int .i64 (saves v)]) := by
  obtain ⟨n, rfl⟩ : ∃ n, m = n + 1 := ⟨m - 1, by omega⟩
  have e1 := w15 (m := n) (d := 8) (by omega) h (by omega)
  have hv := h.eta
  rw [R_succ n 6 _ rfl]
  unfold saves
  cases hval : valid 7 v with
  | false =>
    rw [hval] at e1
    simp only [bb] at e1
    simp only [St6, dn_ret, dn_call, dn_loop, dn_cont0, ite_lss, ite_leq, ite_gtr, ite_geq, ite_eql, ite_neq, ite_not, ite_seql, ite_sneq, ite_slss, ite_sgtr, ite_beql, ite_bneq, ite_fldP, pbE_bool, need_leq', need_lss', need_neq0, b_true, b_false, se_var, se_lit, se_o1, se_o2, se_o3, get0, getS, pc_agg, pi_int, pb_bool, ps_str, pl_list, o_not, o_fld, o_slen, o_conv, o_add, o_sub, o_mul, o_quo, o_rem, o_lss, o_leq, o_gtr, o_geq, o_eql, o_neq, o_sadd, o_seql, o_sneq, o_bneq, o_beql, o_mx, o_mkS, o_setf, or_len, or_idx, or_snoc, or_cat, or_sub, o_ssub, o_sidx, List.nil_append, List.cons_append, hv, e1, Bool.not_false]
    rfl
  | true =>
    rw [hval] at e1
    simp only [bb] at e1
    have h7 := wf_of_valid h hval
    obtain ⟨f1, f2, -⟩ := fold_ok h7 hval
    have e2 := w21_25 21 (.inl rfl) 7 v n h7 (by omega)
    have e3 := w22 7 v n (by omega) h7 hval (by omega)
    have e4 := w21_25 21 (.inl rfl) 7 _ n f1 (by omega)
    have hf := f1.eta
    simp only [St6, dn_ret, dn_call, dn_loop, dn_cont0, ite_lss, ite_leq, ite_gtr, ite_geq, ite_eql, ite_neq, ite_not, ite_seql, ite_sneq, ite_slss, ite_sgtr, ite_beql, ite_bneq, ite_fldP, pbE_bool, need_leq', need_lss', need_neq0, b_true, b_false, se_var, se_lit, se_o1, se_o2, se_o3, get0, getS, pc_agg, pi_int, pb_bool, ps_str, pl_list, o_not, o_fld, o_slen, o_conv, o_add, o_sub, o_mul, o_quo, o_rem, o_lss, o_leq, o_gtr, o_geq, o_eql, o_neq, o_sadd, o_seql, o_sneq, o_bneq, o_beql, o_mx, o_mkS, o_setf, or_len, or_idx, or_snoc, or_cat, or_sub, o_ssub, o_sidx, List.nil_append, List.cons_append, hv, e1, e2, e3, hf, e4, Bool.not_true]
    rfl
theorem w24 {m : Nat} (hm : 60 ≤ m) {v : PV} (h : WF 7 v) : R m 24 (.agg [.list 4 true [v]]) = some (.agg [.int .i64 (sizeE 7 v)]) := by
  obtain ⟨n, rfl⟩ : ∃ n, m = n + 1 := ⟨m - 1, by omega⟩
  have e := w21_25 25 (.inr rfl) 7 v n h (by omega)
  have hv := h.eta
  have hw : IntKind.i64.wrap (0 + sizeE 7 v) = sizeE 7 v := by
    have := size_range 7 v
    rw [w64 (by omega) (by omega)]
    omega
  rw [R_succ n 24 _ rfl]
  simp only [St24, dn_ret, dn_call, dn_loop, dn_cont0, ite_lss, ite_leq, ite_gtr, ite_geq, ite_eql, ite_neq, ite_not, ite_seql, ite_sneq, ite_slss, ite_sgtr, ite_beql, ite_bneq, ite_fldP, pbE_bool, need_leq', need_lss', need_neq0, b_true, b_false, se_var, se_lit, se_o1, se_o2, se_o3, get0, getS, pc_agg, pi_int, pb_bool, ps_str, pl_list, o_not, o_fld, o_slen, o_conv, o_add, o_sub, o_mul, o_quo, o_rem, o_lss, o_leq, o_gtr, o_geq, o_eql, o_neq, o_sadd, o_seql, o_sneq, o_bneq, o_beql, o_mx, o_mkS, o_setf, or_len, or_idx, or_snoc, or_cat, or_sub, o_ssub, o_sidx, List.nil_append, List.cons_append]
  refine iter_loop (F := fun self v_1 => St24b0.dn (n + 1) (R n) [self] [.agg [.list 4 true [v]], v_1]) (N := 1) (fun j => .agg [.int .i64 (if j = 0 then 0 else sizeE 7 v), .int .i64 j]) (by omega) (fun self => ?_) (fun self j hj => ?_)
  · simp only [St24b0, dn_ret, dn_call, dn_loop, dn_cont0, ite_lss, ite_leq, ite_gtr, ite_geq, ite_eql, ite_neq, ite_not, ite_seql, ite_sneq, ite_slss, ite_sgtr, ite_beql, ite_bneq, ite_fldP, pbE_bool, need_leq', need_lss', need_neq0, b_true, b_false, se_var, se_lit, se_o1, se_o2, se_o3, get0, getS, pc_agg, pi_int, pb_bool, ps_str, pl_list, o_not, o_fld, o_slen, o_conv, o_add, o_sub, o_mul, o_quo, o_rem, o_lss, o_leq, o_gtr, o_geq, o_eql, o_neq, o_sadd, o_seql, o_sneq, o_bneq, o_beql, o_mx, o_mkS, o_setf, or_len, or_idx, or_snoc, or_cat, or_sub, o_ssub, o_sidx, List.nil_append, List.cons_append]
    rw [lt_neg (by simp)]
    rfl
  · obtain rfl : j = 0 := by omega
    have z0 : (((0 : Nat) : Int)).toNat = 0 := rfl
    have w1 : IntKind.i64.wrap (((0 : Nat) : Int) + 1) = ((0 + 1 : Nat) : Int) := rfl
    simp only [St24b0, dn_ret, dn_call, dn_loop, dn_cont0, ite_lss, ite_leq, ite_gtr, ite_geq, ite_eql, ite_neq, ite_not, ite_seql, ite_sneq, ite_slss, ite_sgtr, ite_beql, ite_bneq, ite_fldP, pbE_bool, need_leq', need_lss', need_neq0, b_true, b_false, se_var, se_lit, se_o1, se_o2, se_o3, get0, getS, pc_agg, pi_int, pb_bool, ps_str, pl_list, o_not, o_fld, o_slen, o_conv, o_add, o_sub, o_mul, o_quo, o_rem, o_lss, o_leq, o_gtr, o_geq, o_eql, o_neq, o_sadd, o_seql, o_sneq, o_bneq, o_beql, o_mx, o_mkS, o_setf, or_len, or_idx, or_snoc, or_cat, or_sub, o_ssub, o_sidx, List.nil_append, List.cons_append, z0, hv, e, if_true, hw, w1]
    rw [lt_pos (by simp), le_pos (by omega)]
    rfl
theorem w7 {m : Nat} (hm : 900 ≤ m) {v : PV} (h : WF 8 v) : R m 7 (.agg [v]) = some (.agg [.int .i64 (saves v)]) := by
  obtain ⟨n, rfl⟩ : ∃ n, m = n + 1 := ⟨m - 1, by omega⟩
  have e1 := w23 7 8 v n (by omega) (by omega) h (by omega)
  have e7 : ((7 : Nat) : Int) = 7 := rfl
  rw [e7] at e1
  have hv := h.eta
  rw [R_succ n 7 _ rfl]
  unfold saves
  cases hval : valid 7 v with
  | false =>
    rw [hval] at e1
    simp only [bb] at e1
    simp only [St7, dn_ret, dn_call, dn_loop, dn_cont0, ite_lss, ite_leq, ite_gtr, ite_geq, ite_eql, ite_neq, ite_not, ite_seql, ite_sneq, ite_slss, ite_sgtr, ite_beql, ite_bneq, ite_fldP, pbE_bool, need_leq', need_lss', need_neq0, b_true, b_false, se_var, se_lit, se_o1, se_o2, se_o3, get0, getS, pc_agg, pi_int, pb_bool, ps_str, pl_list, o_not, o_fld, o_slen, o_conv, o_add, o_sub, o_mul, o_quo, o_rem, o_lss, o_leq, o_gtr, o_geq, o_eql, o_neq, o_sadd, o_seql, o_sneq, o_bneq, o_beql, o_mx, o_mkS, o_setf, or_len, or_idx, or_snoc, or_cat, or_sub, o_ssub, o_sidx, List.nil_append, List.cons_append, hv, e1, Bool.not_false]
    rfl
  | true =>
    rw [hval] at e1
    simp only [bb] at e1
    have h7 := wf_of_valid h hval
    obtain ⟨f1, f2, -⟩ := fold_ok h7 hval
    have e2 := w24 (m := n) (by omega) h7
    have e3 := w26 7 v n (by omega) h7 hval (by omega)
    have e4 := w21_25 25 (.inr rfl) 7 _ n f1 (by omega)
    have hf := f1.eta
    simp only [St7, dn_ret, dn_call, dn_loop, dn_cont0, ite_lss, ite_leq, ite_gtr, ite_geq, ite_eql, ite_neq, ite_not, ite_seql, ite_sneq, ite_slss, ite_sgtr, ite_beql, ite_bneq, ite_fldP, pbE_bool, need_leq', need_lss', need_neq0, b_true, b_false, se_var, se_lit, se_o1, se_o2, se_o3, get0, getS, pc_agg, pi_int, pb_bool, ps_str, pl_list, o_not, o_fld, o_slen, o_conv, o_add, o_sub, o_mul, o_quo, o_rem, o_lss, o_leq, o_gtr, o_geq, o_eql, o_neq, o_sadd, o_seql, o_sneq, o_bneq, o_beql, o_mx, o_mkS, o_setf, or_len, or_idx, or_snoc, or_cat, or_sub, o_ssub, o_sidx, List.nil_append, List.cons_append, hv, e1, e2, e3, hf, e4, Bool.not_true]
    rfl
theorem w8' {m : Nat} (hm : 900 ≤ m) {v : PV} (h : WF 8 v) (hval : valid 7 v = true) : R m 8 (.agg [v]) = some (.agg [fold 7 v]) := by
  obtain ⟨n, rfl⟩ : ∃ n, m = n + 1 := ⟨m - 1, by omega⟩
  have e1 := w15 (m := n) (d := 8) (by omega) h (by omega)
  have hv := h.eta
  rw [R_succ n 8 _ rfl]
  rw [hval] at e1
  simp only [bb] at e1
  have h7 := wf_of_valid h hval
  obtain ⟨f1, f2, -⟩ := fold_ok h7 hval
  have e3 := w22 7 v n (by omega) h7 hval (by omega)
  have hf := f1.eta
  simp only [St8, dn_ret, dn_call, dn_loop, dn_cont0, ite_lss, ite_leq, ite_gtr, ite_geq, ite_eql, ite_neq, ite_not, ite_seql, ite_sneq, ite_slss, ite_sgtr, ite_beql, ite_bneq, ite_fldP, pbE_bool, need_leq', need_lss', need_neq0, b_true, b_false, se_var, se_lit, se_o1, se_o2, se_o3, get0, getS, pc_agg, pi_int, pb_bool, ps_str, pl_list, o_not, o_fld, o_slen, o_conv, o_add, o_sub, o_mul, o_quo, o_rem, o_lss, o_leq, o_gtr, o_geq, o_eql, o_neq, o_sadd, o_seql, o_sneq, o_bneq, o_beql, o_mx, o_mkS, o_setf, or_len, or_idx, or_snoc, or_cat, or_sub, o_ssub, o_sidx, List.nil_append, List.cons_append, hv, e1, e3, hf, Bool.not_true]
theorem w9 {m : Nat} (hm : 900 ≤ m) {v : PV} (h : WF 7 v) (hval : valid 7 v = true) : R m 9 (.agg [v]) = some (.agg [.int .i64 (sizeE 7 v)]) := by
  obtain ⟨n, rfl⟩ : ∃ n, m = n + 1 := ⟨m - 1, by omega⟩
  have e1 := w15 (m := n) (d := 7) (by omega) h (by omega)
  have hv := h.eta
  rw [R_succ n 9 _ rfl]
  rw [hval] at e1
  simp only [bb] at e1
  have e2 := w21_25 21 (.inl rfl) 7 v n h (by omega)
  simp only [St9, dn_ret, dn_call, dn_loop, dn_cont0, ite_lss, ite_leq, ite_gtr, ite_geq, ite_eql, ite_neq, ite_not, ite_seql, ite_sneq, ite_slss, ite_sgtr, ite_beql, ite_bneq, ite_fldP, pbE_bool, need_leq', need_lss', need_neq0, b_true, b_false, se_var, se_lit, se_o1, se_o2, se_o3, get0, getS, pc_agg, pi_int, pb_bool, ps_str, pl_list, o_not, o_fld, o_slen, o_conv, o_add, o_sub, o_mul, o_quo, o_rem, o_lss, o_leq, o_gtr, o_geq, o_eql, o_neq, o_sadd, o_seql, o_sneq, o_bneq, o_beql, o_mx, o_mkS, o_setf, or_len, or_idx, or_snoc, or_cat, or_sub, o_ssub, o_sidx, List.nil_append, List.cons_append, hv, e1, e2, Bool.not_true]
theorem law_true (l : List UInt8) : R 1000 3 (.agg [bl l]) = some (.agg [.bool true]) := by
  rw [R_succ 999 3 _ rfl]
  by_cases hbig : (1048576 : Int) < l.length
  · simp only [St3, dn_ret, dn_call, dn_loop, dn_cont0, ite_lss, ite_leq, ite_gtr, ite_geq, ite_eql, ite_neq, ite_not, ite_seql, ite_sneq, ite_slss, ite_sgtr, ite_beql, ite_bneq, ite_fldP, pbE_bool, need_leq', need_lss', need_neq0, b_true, b_false, se_var, se_lit, se_o1, se_o2, se_o3, get0, getS, pc_agg, pi_int, pb_bool, ps_str, pl_list, o_not, o_fld, o_slen, o_conv, o_add, o_sub, o_mul, o_quo, o_rem, o_lss, o_leq, o_gtr, o_geq, o_eql, o_neq, o_sadd, o_seql, o_sneq, o_bneq, o_beql, o_mx, o_mkS, o_setf, or_len, or_idx, or_snoc, or_cat, or_sub, o_ssub, o_sidx, List.nil_append, List.cons_append, ob_len]
    rw [lt_pos hbig]
  · obtain ⟨v, e0, h⟩ := d5 999 (by omega) l (by omega)
    have hv := h.eta
    have e1 := w6 (m := 999) (by omega) h
    have e2 := w7 (m := 999) (by omega) h
    by_cases hval : valid 7 v = true
    · have h7 := wf_of_valid h hval
      obtain ⟨f1, f2, f3⟩ := fold_ok h7 hval
      have e3 := w8' (m := 999) (by omega) h hval
      have e4 := w9 (m := 999) (by omega) h7 hval
      have e5 := w9 (m := 999) (by omega) f1 f2
      have e6 := w6 (m := 999) (by omega) f1.up
      have hf := f1.eta
      have s1 : saves v = IntKind.i64.wrap (sizeE 7 v - sizeE 7 (fold 7 v)) := if_pos hval
      have s2 : saves (fold 7 v) = 0 := by
        unfold saves
        rw [if_pos f2, f3, Int.sub_self]
        rfl
      simp only [St3, dn_ret, dn_call, dn_loop, dn_cont0, ite_lss, ite_leq, ite_gtr, ite_geq, ite_eql, ite_neq, ite_not, ite_seql, ite_sneq, ite_slss, ite_sgtr, ite_beql, ite_bneq, ite_fldP, pbE_bool, need_leq', need_lss', need_neq0, b_true, b_false, se_var, se_lit, se_o1, se_o2, se_o3, get0, getS, pc_agg, pi_int, pb_bool, ps_str, pl_list, o_not, o_fld, o_slen, o_conv, o_add, o_sub, o_mul, o_quo, o_rem, o_lss, o_leq, o_gtr, o_geq, o_eql, o_neq, o_sadd, o_seql, o_sneq, o_bneq, o_beql, o_mx, o_mkS, o_setf, or_len, or_idx, or_snoc, or_cat, or_sub, o_ssub, o_sidx, List.nil_append, List.cons_append, ob_len, e0, hv, e1, e2, e3, e4, e5, e6, hf, s2, ← s1]
      rw [lt_neg hbig]
      simp [bE, ltE, eqE]
    · have s1 : saves v = -1 := if_neg hval
      rw [s1] at e1 e2
      simp only [St3, dn_ret, dn_call, dn_loop, dn_cont0, ite_lss, ite_leq, ite_gtr, ite_geq, ite_eql, ite_neq, ite_not, ite_seql, ite_sneq, ite_slss, ite_sgtr, ite_beql, ite_bneq, ite_fldP, pbE_bool, need_leq', need_lss', need_neq0, b_true, b_false, se_var, se_lit, se_o1, se_o2, se_o3, get0, getS, pc_agg, pi_int, pb_bool, ps_str, pl_list, o_not, o_fld, o_slen, o_conv, o_add, o_sub, o_mul, o_quo, o_rem, o_lss, o_leq, o_gtr, o_geq, o_eql, o_neq, o_sadd, o_seql, o_sneq, o_bneq, o_beql, o_mx, o_mkS, o_setf, or_len, or_idx, or_snoc, or_cat, or_sub, o_ssub, o_sidx, List.nil_append, List.cons_append, ob_len, e0, hv, e1, e2]
      rw [lt_neg hbig]
      cases R 999 8 (.agg [v]) <;> simp [bE, ltE, eqE]
end Go.Dv
