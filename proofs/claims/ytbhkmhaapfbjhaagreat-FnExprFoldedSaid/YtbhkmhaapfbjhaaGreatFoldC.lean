/- The draws: they end, with an expression of bounded depth. -/
import Derived.Test.YtbhkmhaapfbjhaaGreatFoldB

set_option linter.unusedVariables false
set_option linter.unusedSimpArgs false
namespace Go.Dv

/-- Texts. -/
def StrL (q : List PV) : Prop := ∀ x ∈ q, ∃ s, x = PV.str s ∧ s.length ≤ 20
theorem StrL.nil : StrL [] := fun x h => by cases h
theorem StrL.cons {s : List UInt8} {q : List PV} (h : s.length ≤ 20) (hq : StrL q) : StrL (.str s :: q) := by
  intro x hx
  rcases List.mem_cons.1 hx with rfl | hx
  · exact ⟨s, rfl, h⟩
  · exact hq x hx
theorem StrL.app {p q : List PV} (h : StrL p) (hq : StrL q) : StrL (p ++ q) := by
  intro x hx
  rcases List.mem_append.1 hx with hx | hx
  · exact h x hx
  · exact hq x hx
theorem dOf {m : Nat} (hm : 2 ≤ m) (l : List UInt8) (i : Int) (q : List PV) (hl : l.length ≤ 4000) (i0 : 0 ≤ i) (i1 : i ≤ 1000000) (q1 : 1 ≤ q.length) (q2 : q.length ≤ 1000) (hq : StrL q) :
    ∃ s j, R m 35 (.agg [.agg [bl l, .int .i64 i], .list 1 false q]) = some (.agg [.str s, .agg [bl l, .int .i64 j]]) ∧ s.length ≤ 20 ∧ i ≤ j ∧ j ≤ i + 1 := by
  obtain ⟨x, j, e, hx, j0, j1⟩ := f50 (m := m) hm 35 (.inl rfl) false l i q hl i0 i1 q1 (by omega)
  obtain ⟨s, rfl, hs⟩ := hq x hx
  exact ⟨s, j, e, hs, j0, j1⟩
theorem dPick {m : Nat} (hm : 1 ≤ m) (l : List UInt8) (i n : Int) (hl : l.length ≤ 4000) (i0 : 0 ≤ i) (i1 : i ≤ 1000000) (n1 : 1 ≤ n) (n2 : n ≤ 1000000) :
    ∃ x j, R m 17 (.agg [.agg [bl l, .int .i64 i], .int .i64 n]) = some (.agg [.int .i64 x, .agg [bl l, .int .i64 j]]) ∧ 0 ≤ x ∧ x < n ∧ i ≤ j ∧ j ≤ i + 1 := by
  obtain ⟨x, j, e, x0, x1, j0, j1⟩ := f62 hm l i n hl i0 i1 n1 n2
  exact ⟨x, j, e, x0, x1, j0, j1⟩
theorem d57 {m : Nat} (hm : 3 ≤ m) (l : List UInt8) (i : Int) (hl : l.length ≤ 4000) (i0 : 0 ≤ i) (i1 : i ≤ 1000000) :
    ∃ s j, R m 57 (.agg [.agg [bl l, .int .i64 i]]) = some (.agg [.str s, .agg [bl l, .int .i64 j]]) ∧ s.length ≤ 20 ∧ i ≤ j ∧ j ≤ i + 1 := by
  obtain ⟨n, rfl⟩ : ∃ n, m = n + 1 := ⟨m - 1, by omega⟩
  obtain ⟨s, j, e, h1, h2, h3⟩ := dOf (m := n) (by omega) l i [.str [97], .str [98], .str [99], .str [120], .str [120, 115], .str [102]] hl i0 i1 (by simp) (by simp)
    (.cons (by simp) (.cons (by simp) (.cons (by simp) (.cons (by simp) (.cons (by simp) (.cons (by simp) .nil))))))
  refine ⟨s, j, ?_, h1, h2, h3⟩
  rw [R_succ n 57 _ rfl]
  simp only [St57, ya, yb, yc, yd, ye, yf, yg, yh, yi, yj, yk, yl, ym, yn, yo, yp, yq, yr, yt, yu, yv, yw, yx, yy, yz, za, zb, zc, zd, get0, getS, ze, zf, zg, zh, zi, zj, zk, zl, zm, zn, zo, zp, zq, zr, zs, zt, zu, zv, zw, zx, zy, zz, ua, ub, uc, ud, ue, uf, ug, uh, ui, uj, uk, ul, um, List.nil_append, List.cons_append, e]
theorem d36 {m : Nat} (hm : 3 ≤ m) (l : List UInt8) (i : Int) (hl : l.length ≤ 4000) (i0 : 0 ≤ i) (i1 : i ≤ 1000000) :
    ∃ s j, R m 36 (.agg [.agg [bl l, .int .i64 i]]) = some (.agg [.str s, .agg [bl l, .int .i64 j]]) ∧ s.length ≤ 20 ∧ i ≤ j ∧ j ≤ i + 1 := by
  obtain ⟨n, rfl⟩ : ∃ n, m = n + 1 := ⟨m - 1, by omega⟩
  rw [R_succ n 36 _ rfl]
  simp only [St36, ya, yb, yc, yd, ye, yf, yg, yh, yi, yj, yk, yl, ym, yn, yo, yp, yq, yr, yt, yu, yv, yw, yx, yy, yz, za, zb, zc, zd, get0, getS, ze, zf, zg, zh, zi, zj, zk, zl, zm, zn, zo, zp, zq, zr, zs, zt, zu, zv, zw, zx, zy, zz, ua, ub, uc, ud, ue, uf, ug, uh, ui, uj, uk, ul, um, List.nil_append, List.cons_append]
  have go : ∀ q : List PV, 1 ≤ q.length → q.length ≤ 1000 → StrL q → ∃ s j, (match R n 35 (.agg [.agg [bl l, .int .i64 i], .list 1 false q]) with
      | some r => some (PV.agg [(O1.fld 0).dn r, .agg [(O1.fld 0).dn ((O1.fld 1).dn r), (O1.fld 1).dn ((O1.fld 1).dn r)]])
      | none => none) = some (.agg [.str s, .agg [bl l, .int .i64 j]]) ∧ s.length ≤ 20 ∧ i ≤ j ∧ j ≤ i + 1 := by
    intro q q1 q2 hq
    obtain ⟨s, j, e, h1, h2, h3⟩ := dOf (m := n) (by omega) l i q hl i0 i1 q1 q2 hq
    exact ⟨s, j, by rw [e]; rfl, h1, h2, h3⟩
  exact go _ (by simp) (by simp) (by repeat' (first | exact StrL.nil | refine StrL.cons (by simp) ?_))
theorem d38 {m : Nat} (hm : 30 ≤ m) (l : List UInt8) (i : Int) (hl : l.length ≤ 4000) (i0 : 0 ≤ i) (i1 : i ≤ 900000) :
    ∃ s j, R m 38 (.agg [.agg [bl l, .int .i64 i]]) = some (.agg [.str s, .agg [bl l, .int .i64 j]]) ∧ s.length ≤ 20 ∧ i ≤ j ∧ j ≤ i + 2 := by
  obtain ⟨n, rfl⟩ : ∃ n, m = n + 1 := ⟨m - 1, by omega⟩
  obtain ⟨x, j, e, x0, x1, j0, j1⟩ := dPick (m := n) (by omega) l i 100 hl i0 (by omega) (by omega) (by omega)
  obtain ⟨y, j', e', hy, j0', j1'⟩ := f50 (m := n) (by omega) 20 (.inr rfl) false l j [.int .i64 0, .int .i64 1, .int .i64 2, .int .i64 3, .int .i64 4, .int .i64 5, .int .i64 7, .int .i64 10, .int .i64 x] hl (by omega) (by omega) (by simp) (by simp)
  obtain ⟨z, rfl, hz⟩ : ∃ z : Int, y = .int .i64 z ∧ z.natAbs < 10 ^ 6 := by
    simp at hy
    rcases hy with h | h | h | h | h | h | h | h | h <;> exact ⟨_, h, by omega⟩
  obtain ⟨s, hs, e''⟩ := f65 (m := n) (by omega) z hz
  refine ⟨s, j', ?_, by omega, by omega, by omega⟩
  simp only [rndV] at e'
  rw [R_succ n 38 _ rfl]
  simp only [St38, ya, yb, yc, yd, ye, yf, yg, yh, yi, yj, yk, yl, ym, yn, yo, yp, yq, yr, yt, yu, yv, yw, yx, yy, yz, za, zb, zc, zd, get0, getS, ze, zf, zg, zh, zi, zj, zk, zl, zm, zn, zo, zp, zq, zr, zs, zt, zu, zv, zw, zx, zy, zz, ua, ub, uc, ud, ue, uf, ug, uh, ui, uj, uk, ul, um, List.nil_append, List.cons_append, e, e', e'']
theorem d63 {m : Nat} (hm : 3 ≤ m) (l : List UInt8) (i : Int) (hl : l.length ≤ 4000) (i0 : 0 ≤ i) (i1 : i ≤ 1000000) :
    ∃ z j, R m 63 (.agg [.agg [bl l, .int .i64 i]]) = some (.agg [.int .i64 z, .agg [bl l, .int .i64 j]]) ∧ i ≤ j ∧ j ≤ i + 1 := by
  obtain ⟨n, rfl⟩ : ∃ n, m = n + 1 := ⟨m - 1, by omega⟩
  obtain ⟨y, j', e', hy, j0', j1'⟩ := f50 (m := n) (by omega) 20 (.inr rfl) false l i [.int .i64 (-1), .int .i64 4611686018427387904, .int .i64 (-4611686018427387904), .int .i64 1001, .int .i64 7, .int .i64 1000001, .int .i64 (-9223372036854775808), .int .i64 9223372036854775807] hl (by omega) (by omega) (by simp) (by simp)
  obtain ⟨z, rfl⟩ : ∃ z : Int, y = .int .i64 z := by
    simp at hy
    rcases hy with h | h | h | h | h | h | h | h <;> exact ⟨_, h⟩
  refine ⟨z, j', ?_, by omega, by omega⟩
  simp only [rndV] at e'
  rw [R_succ n 63 _ rfl]
  simp only [St63, ya, yb, yc, yd, ye, yf, yg, yh, yi, yj, yk, yl, ym, yn, yo, yp, yq, yr, yt, yu, yv, yw, yx, yy, yz, za, zb, zc, zd, get0, getS, ze, zf, zg, zh, zi, zj, zk, zl, zm, zn, zo, zp, zq, zr, zs, zt, zu, zv, zw, zx, zy, zz, ua, ub, uc, ud, ue, uf, ug, uh, ui, uj, uk, ul, um, List.nil_append, List.cons_append, e']
theorem d34 {m : Nat} (hm : 5 ≤ m) (l : List UInt8) (i x : Int) (hl : l.length ≤ 4000) (i0 : 0 ≤ i) (i1 : i ≤ 900000) :
    ∃ z j, R m 34 (.agg [.agg [bl l, .int .i64 i], .int .i64 x]) = some (.agg [.int .i64 z, .agg [bl l, .int .i64 j]]) ∧ i ≤ j ∧ j ≤ i + 2 := by
  obtain ⟨n, rfl⟩ : ∃ n, m = n + 1 := ⟨m - 1, by omega⟩
  obtain ⟨y, j, e, x0, x1, j0, j1⟩ := dPick (m := n) (by omega) l i 16 hl i0 (by omega) (by omega) (by omega)
  obtain ⟨z, j', e', h1, h2⟩ := d63 (m := n) (by omega) l j hl (by omega) (by omega)
  rw [R_succ n 34 _ rfl]
  simp only [St34, ya, yb, yc, yd, ye, yf, yg, yh, yi, yj, yk, yl, ym, yn, yo, yp, yq, yr, yt, yu, yv, yw, yx, yy, yz, za, zb, zc, zd, get0, getS, ze, zf, zg, zh, zi, zj, zk, zl, zm, zn, zo, zp, zq, zr, zs, zt, zu, zv, zw, zx, zy, zz, ua, ub, uc, ud, ue, uf, ug, uh, ui, uj, uk, ul, um, List.nil_append, List.cons_append, e, e']
  by_cases h : y = 0
  · rw [eq_pos h]; exact ⟨z, j', rfl, by omega, by omega⟩
  · rw [eq_neg h]; exact ⟨x, j, rfl, by omega, by omega⟩
theorem d61 {m : Nat} (hm : 3 ≤ m) (l : List UInt8) (i : Int) (hl : l.length ≤ 4000) (i0 : 0 ≤ i) (i1 : i ≤ 900000) :
    ∃ ns j, R m 61 (.agg [.agg [bl l, .int .i64 i]]) = some (.agg [.list 1 false ns, .agg [bl l, .int .i64 j]]) ∧ ns.length ≤ 2 ∧ StrL ns ∧ i ≤ j ∧ j ≤ i + 1 := by
  obtain ⟨n, rfl⟩ : ∃ n, m = n + 1 := ⟨m - 1, by omega⟩
  obtain ⟨x, j, e, x0, x1, j0, j1⟩ := dPick (m := n) (by omega) l i 5 hl i0 (by omega) (by omega) (by omega)
  rw [R_succ n 61 _ rfl]
  simp only [St61, ya, yb, yc, yd, ye, yf, yg, yh, yi, yj, yk, yl, ym, yn, yo, yp, yq, yr, yt, yu, yv, yw, yx, yy, yz, za, zb, zc, zd, get0, getS, ze, zf, zg, zh, zi, zj, zk, zl, zm, zn, zo, zp, zq, zr, zs, zt, zu, zv, zw, zx, zy, zz, ua, ub, uc, ud, ue, uf, ug, uh, ui, uj, uk, ul, um, List.nil_append, List.cons_append, e]
  rw [le_pos x0, lt_pos x1]
  have hx : x = 0 ∨ x = 1 ∨ x = 2 ∨ x = 3 ∨ x = 4 := by omega
  rcases hx with rfl | rfl | rfl | rfl | rfl
  · exact ⟨[], j, rfl, by simp, .nil, j0, j1⟩
  · exact ⟨[.str [97]], j, rfl, by simp, .cons (by simp) .nil, j0, j1⟩
  · exact ⟨[.str [120]], j, rfl, by simp, .cons (by simp) .nil, j0, j1⟩
  · exact ⟨[.str [97], .str [98]], j, rfl, by simp, .cons (by simp) (.cons (by simp) .nil), j0, j1⟩
  · exact ⟨[.str [120], .str [99]], j, rfl, by simp, .cons (by simp) (.cons (by simp) .nil), j0, j1⟩

/-! Expressions. -/
def BB : Nat → Int
  | 0 => 0
  | d + 1 => 4 * BB d + 12
theorem BB_nn : ∀ d, 0 ≤ BB d
  | 0 => Int.le_refl _
  | d + 1 => by have := BB_nn d; rw [BB]; omega
def ExprAt (l : List UInt8) (d : Nat) : Prop := ∀ m, 40 + 4 * d ≤ m → ∀ i, 0 ≤ i → i + BB d ≤ 800000 → ∃ v j, R m 33 (.agg [.agg [bl l, .int .i64 i], .int .i64 d]) = some (.agg [v, .agg [bl l, .int .i64 j]]) ∧ WFN 5 d v ∧ i ≤ j ∧ j ≤ i + BB d
theorem wf_mk {d : Nat} {k : Int} {t : List UInt8} {ns ks : List PV} (ht : t.length ≤ 20) (hn : ns.length ≤ 5) (hs : StrL ns) (hk : ks.length ≤ 8) (h : ∀ x ∈ ks, WFN 5 d x) : WFN 5 (d + 1) (exV k t ns ks) :=
  ⟨k, t, ns, ks, rfl, by omega, by omega, fun x hx => by obtain ⟨s, e, hs⟩ := hs x hx; exact ⟨s, e, by omega⟩, by omega, h⟩
theorem wf_leaf {d : Nat} {k : Int} {t : List UInt8} (ht : t.length ≤ 20) : WFN 5 (d + 1) (exV k t [] []) := wf_mk ht (by simp) .nil (by simp) (fun x h => by cases h)
theorem wf1 {d : Nat} {x : PV} (h : WFN 5 d x) : ∀ y ∈ [x], WFN 5 d y := by intro y hy; rw [List.mem_singleton] at hy; exact hy ▸ h
theorem wf2 {d : Nat} {x y : PV} (h : WFN 5 d x) (h' : WFN 5 d y) : ∀ z ∈ [x, y], WFN 5 d z := by
  intro z hz
  rcases List.mem_cons.1 hz with rfl | hz
  · exact h
  · exact wf1 h' z hz
theorem wf3 {d : Nat} {x y z : PV} (h : WFN 5 d x) (h' : WFN 5 d y) (h'' : WFN 5 d z) : ∀ w ∈ [x, y, z], WFN 5 d w := by
  intro w hw
  rcases List.mem_cons.1 hw with rfl | hw
  · exact h
  · exact wf2 h' h'' w hw
theorem wfApp {d : Nat} {p q : List PV} (h : ∀ y ∈ p, WFN 5 d y) (h' : ∀ y ∈ q, WFN 5 d y) : ∀ y ∈ p ++ q, WFN 5 d y := by
  intro y hy
  rcases List.mem_append.1 hy with hy | hy
  · exact h y hy
  · exact h' y hy

theorem d58 {l : List UInt8} (hl : l.length ≤ 4000) {d : Nat} (hd : 1 ≤ d) (hd2 : d ≤ 100) (E : ExprAt l d) (m : Nat) (hm : 42 + 4 * d ≤ m) (i : Int) (i0 : 0 ≤ i) (most : Nat) (h3 : most ≤ 3) (i1 : i + 1 + 3 * BB d ≤ 800000) :
    ∃ ks j, R m 58 (.agg [.agg [bl l, .int .i64 i], .int .i64 (d + 1 : Nat), .int .i64 most]) = some (.agg [.list 4 true ks, .agg [bl l, .int .i64 j]]) ∧ ks.length ≤ most ∧ (∀ x ∈ ks, WFN 5 d x) ∧ i ≤ j ∧ j ≤ i + 1 + most * BB d := by
  obtain ⟨n, rfl⟩ : ∃ n, m = n + 1 := ⟨m - 1, by omega⟩
  have hb := BB_nn d
  obtain ⟨x, j, e, x0, x1, j0, j1⟩ := dPick (m := n) (by omega) l i (most + 1) hl i0 (by omega) (by omega) (by omega)
  have hw : IntKind.i64.wrap ((most : Int) + 1) = (most : Int) + 1 := w64 (by omega) (by omega)
  have hw2 : IntKind.i64.wrap (((d + 1 : Nat) : Int) - 1) = (d : Int) := by rw [w64 (by omega) (by omega)]; omega
  have hmul : ∀ r : Nat, ((r + 1 : Nat) : Int) * BB d = (r : Int) * BB d + BB d := fun r => by rw [Int.natCast_add, Int.add_mul]; simp
  have hle : ∀ r : Nat, r ≤ 3 → (r : Int) * BB d ≤ 3 * BB d := fun r hr => Int.mul_le_mul_of_nonneg_right (by omega) hb
  have key : ∀ (r : Nat) (c : Int) (acc : List PV), r ≤ 3 → 0 ≤ c → c + (r : Int) * BB d ≤ 800000 → acc.length + r ≤ 10 → ∀ k, r < k →
      ∃ ks j', rounds (fun self v => St58b0.dn (n + 1) (R n) [self] [.agg [.agg [bl l, .int .i64 i], .int .i64 (d + 1 : Nat), .int .i64 most], .agg [.int .i64 x, .agg [bl l, .int .i64 j]], v]) k (.agg [.int .i64 r, bl l, .int .i64 c, .list 4 true acc]) = some (.agg [.list 4 true (acc ++ ks), .agg [bl l, .int .i64 j']]) ∧ ks.length = r ∧ (∀ x ∈ ks, WFN 5 d x) ∧ c ≤ j' ∧ j' ≤ c + (r : Int) * BB d := by
    intro r
    induction r with
    | zero =>
      intro c acc _ c0 c1 ha k hk
      obtain ⟨k, rfl⟩ : ∃ n, k = n + 1 := ⟨k - 1, by omega⟩
      refine ⟨[], c, ?_, rfl, (fun x h => by cases h), by omega, by omega⟩
      rw [rounds_s]
      generalize rounds _ k = self
      simp only [St58b0, ya, yb, yc, yd, ye, yf, yg, yh, yi, yj, yk, yl, ym, yn, yo, yp, yq, yr, yt, yu, yv, yw, yx, yy, yz, za, zb, zc, zd, get0, getS, ze, zf, zg, zh, zi, zj, zk, zl, zm, zn, zo, zp, zq, zr, zs, zt, zu, zv, zw, zx, zy, zz, ua, ub, uc, ud, ue, uf, ug, uh, ui, uj, uk, ul, um, List.nil_append, List.cons_append]
      rw [lt_neg (by omega), List.append_nil]
    | succ r ih =>
      intro c acc hr c0 c1 ha k hk
      obtain ⟨k, rfl⟩ : ∃ n, k = n + 1 := ⟨k - 1, by omega⟩
      rw [hmul] at c1 ⊢
      have hrb : 0 ≤ (r : Int) * BB d := Int.mul_nonneg (by omega) hb
      obtain ⟨v, j1, e1, w1, p1, p2⟩ := E n (by omega) c c0 (by omega)
      obtain ⟨ks, j2, e2, l2, w2, p3, p4⟩ := ih j1 (acc ++ [v]) (by omega) (by omega) (by omega) (by simp; omega) k (by omega)
      have hv := w1.eta
      have hwr : IntKind.i64.wrap (((r + 1 : Nat) : Int) - 1) = (r : Int) := by rw [w64 (by omega) (by omega)]; omega
      have hlen : ((acc ++ [v]).length : Int) ≤ 16777216 := by simp; omega
      refine ⟨v :: ks, j2, ?_, by simp [l2], ?_, by omega, by omega⟩
      · rw [rounds_s]
        generalize rounds _ k = self at e2 ⊢
        simp only [St58b0, ya, yb, yc, yd, ye, yf, yg, yh, yi, yj, yk, yl, ym, yn, yo, yp, yq, yr, yt, yu, yv, yw, yx, yy, yz, za, zb, zc, zd, get0, getS, ze, zf, zg, zh, zi, zj, zk, zl, zm, zn, zo, zp, zq, zr, zs, zt, zu, zv, zw, zx, zy, zz, ua, ub, uc, ud, ue, uf, ug, uh, ui, uj, uk, ul, um, List.nil_append, List.cons_append, hw2, e1, hv, hwr]
        rw [lt_pos (by omega), le_pos hlen, e2]
        simp
      · intro y hy
        rcases List.mem_cons.1 hy with rfl | hy
        · exact w1
        · exact w2 y hy
  have hx : ((x.toNat : Nat) : Int) = x := by omega
  have hxm : (x.toNat : Int) * BB d ≤ (most : Int) * BB d := Int.mul_le_mul_of_nonneg_right (by omega) hb
  have hm3 := hle x.toNat (by omega)
  obtain ⟨ks, j', e2, l2, w2, p3, p4⟩ := key x.toNat j [] (by omega) (by omega) (by omega) (by simp; omega) (n + 1) (by omega)
  rw [hx] at e2
  refine ⟨ks, j', ?_, by omega, w2, by omega, by omega⟩
  rw [R_succ n 58 _ rfl]
  simp only [St58, ya, yb, yc, yd, ye, yf, yg, yh, yi, yj, yk, yl, ym, yn, yo, yp, yq, yr, yt, yu, yv, yw, yx, yy, yz, za, zb, zc, zd, get0, getS, ze, zf, zg, zh, zi, zj, zk, zl, zm, zn, zo, zp, zq, zr, zs, zt, zu, zv, zw, zx, zy, zz, ua, ub, uc, ud, ue, uf, ug, uh, ui, uj, uk, ul, um, List.nil_append, List.cons_append, hw, e]
  exact e2
theorem d59 {l : List UInt8} (hl : l.length ≤ 4000) {d : Nat} (hd : 1 ≤ d) (hd2 : d ≤ 100) (E : ExprAt l d) (m : Nat) (hm : 42 + 4 * d ≤ m) (i : Int) (i0 : 0 ≤ i) (i1 : i + 2 + BB d ≤ 800000) :
    ∃ ks j, R m 59 (.agg [.agg [bl l, .int .i64 i], .int .i64 (d + 1 : Nat)]) = some (.agg [.list 4 true ks, .agg [bl l, .int .i64 j]]) ∧ ks.length ≤ 2 ∧ (∀ x ∈ ks, WFN 5 d x) ∧ i ≤ j ∧ j ≤ i + 2 + BB d := by
  obtain ⟨n, rfl⟩ : ∃ n, m = n + 1 := ⟨m - 1, by omega⟩
  have hb := BB_nn d
  have hw2 : IntKind.i64.wrap (((d + 1 : Nat) : Int) - 1) = (d : Int) := by rw [w64 (by omega) (by omega)]; omega
  obtain ⟨x, j, e, x0, x1, j0, j1⟩ := dPick (m := n) (by omega) l i 2 hl i0 (by omega) (by omega) (by omega)
  obtain ⟨s, j2, e2, hs, j20, j21⟩ := dOf (m := n) (by omega) l j [.str [97], .str [98]] hl (by omega) (by omega) (by simp) (by simp) (.cons (by simp) (.cons (by simp) .nil))
  obtain ⟨v, j3, e3, w3, p1, p2⟩ := E n (by omega) j2 (by omega) (by omega)
  have hv := w3.eta
  rw [R_succ n 59 _ rfl]
  simp only [St59, ya, yb, yc, yd, ye, yf, yg, yh, yi, yj, yk, yl, ym, yn, yo, yp, yq, yr, yt, yu, yv, yw, yx, yy, yz, za, zb, zc, zd, get0, getS, ze, zf, zg, zh, zi, zj, zk, zl, zm, zn, zo, zp, zq, zr, zs, zt, zu, zv, zw, zx, zy, zz, ua, ub, uc, ud, ue, uf, ug, uh, ui, uj, uk, ul, um, List.nil_append, List.cons_append, e, e2, e3, hw2, hv]
  by_cases h : x = 0
  · rw [eq_pos h]
    exact ⟨[], j, rfl, by simp, (fun x h => by cases h), by omega, by omega⟩
  · rw [eq_neg h]
    obtain ⟨d, rfl⟩ : ∃ k, d = k + 1 := ⟨d - 1, by omega⟩
    exact ⟨[exV 5 s [] [], v], j3, rfl, by simp, wf2 (wf_leaf hs) w3, by omega, by omega⟩
end Go.Dv

/- The draws of expressions end. -/
set_option linter.unusedVariables false
set_option linter.unusedSimpArgs false
namespace Go.Dv

theorem d62 {l : List UInt8} (hl : l.length ≤ 4000) {d : Nat} (hd : 1 ≤ d) (hd2 : d ≤ 100) (E : ExprAt l d) (m : Nat) (hm : 43 + 4 * d ≤ m) (i : Int) (i0 : 0 ≤ i) (i1 : i + 4 * BB d + 10 ≤ 800000) :
    ∃ v j, R m 62 (.agg [.agg [bl l, .int .i64 i], .int .i64 (d + 1 : Nat)]) = some (.agg [v, .agg [bl l, .int .i64 j]]) ∧ WFN 5 (d + 1) v ∧ i ≤ j ∧ j ≤ i + 4 * BB d + 5 := by
  obtain ⟨n, rfl⟩ : ∃ n, m = n + 1 := ⟨m - 1, by omega⟩
  have hb := BB_nn d
  have hw2 : IntKind.i64.wrap (((d + 1 : Nat) : Int) - 1) = (d : Int) := by rw [w64 (by omega) (by omega)]; omega
  obtain ⟨s1, j1, e1, l1, p1, q1⟩ := dOf (m := n) (by omega) l i [.str [108, 101, 110], .str [114, 97, 110, 103, 101], .str [115, 116, 114], .str [112, 114, 105, 110, 116], .str [105, 115, 97], .str [110, 101, 120, 116], .str [102], .str [86, 97, 108, 117, 101, 69, 114, 114, 111, 114]] hl i0 (by omega) (by simp) (by simp)
    (by repeat' (first | exact StrL.nil | refine StrL.cons (by simp) ?_))
  obtain ⟨x2, j2, e2, x20, x21, p2, q2⟩ := dPick (m := n) (by omega) l j1 5 hl (by omega) (by omega) (by omega) (by omega)
  have rest : ∀ (f : PV) (j3 : Int), WFN 5 d f → j2 ≤ j3 → j3 ≤ j2 + BB d → ∃ ks j4, R n 58 (.agg [.agg [bl l, .int .i64 j3], .int .i64 (d + 1 : Nat), .int .i64 2]) = some (.agg [.list 4 true ks, .agg [bl l, .int .i64 j4]]) ∧ ks.length ≤ 2 ∧ (∀ x ∈ ks, WFN 5 d x) ∧ j3 ≤ j4 ∧ j4 ≤ j3 + 1 + 2 * BB d ∧
      ∃ x5 j5, R n 17 (.agg [.agg [bl l, .int .i64 j4], .int .i64 6]) = some (.agg [.int .i64 x5, .agg [bl l, .int .i64 j5]]) ∧ j4 ≤ j5 ∧ j5 ≤ j4 + 1 ∧
      ∃ v j6, R n 33 (.agg [.agg [bl l, .int .i64 j5], .int .i64 d]) = some (.agg [v, .agg [bl l, .int .i64 j6]]) ∧ WFN 5 d v ∧ j5 ≤ j6 ∧ j6 ≤ j5 + BB d ∧
      ∃ s j7, R n 57 (.agg [.agg [bl l, .int .i64 j6]]) = some (.agg [.str s, .agg [bl l, .int .i64 j7]]) ∧ s.length ≤ 20 ∧ j6 ≤ j7 ∧ j7 ≤ j6 + 1 := by
    intro f j3 hf h1 h2
    obtain ⟨ks, j4, e4, l4, w4, p4, q4⟩ := d58 hl hd hd2 E n (by omega) j3 (by omega) 2 (by omega) (by omega)
    have h2 : ((2 : Nat) : Int) = 2 := rfl
    rw [h2] at e4 q4
    obtain ⟨x5, j5, e5, -, -, p5, q5⟩ := dPick (m := n) (by omega) l j4 6 hl (by omega) (by omega) (by omega) (by omega)
    obtain ⟨v, j6, e6, w6, p6, q6⟩ := E n (by omega) j5 (by omega) (by omega)
    obtain ⟨s, j7, e7, l7, p7, q7⟩ := d57 (m := n) (by omega) l j6 hl (by omega) (by omega)
    exact ⟨ks, j4, e4, l4, w4, p4, q4, x5, j5, e5, p5, q5, v, j6, e6, w6, p6, q6, s, j7, e7, l7, p7, q7⟩
  rw [R_succ n 62 _ rfl]
  by_cases h2 : x2 = 0
  · obtain ⟨f, j3, e3, w3, p3, q3⟩ := E n (by omega) j2 (by omega) (by omega)
    obtain ⟨ks, j4, e4, l4, w4, p4, q4, x5, j5, e5, p5, q5, v, j6, e6, w6, p6, q6, s, j7, e7, l7, p7, q7⟩ := rest f j3 w3 p3 q3
    have hf := w3.eta
    have hv := w6.eta
    have h1 : (((f :: ks : List PV)).length : Int) ≤ 16777216 := by rw [List.length_cons]; omega
    have h3 : ((((f :: ks) ++ [v] : List PV)).length : Int) ≤ 16777216 := by simp; omega
    simp only [St62, ya, yb, yc, yd, ye, yf, yg, yh, yi, yj, yk, yl, ym, yn, yo, yp, yq, yr, yt, yu, yv, yw, yx, yy, yz, za, zb, zc, zd, get0, getS, ze, zf, zg, zh, zi, zj, zk, zl, zm, zn, zo, zp, zq, zr, zs, zt, zu, zv, zw, zx, zy, zz, ua, ub, uc, ud, ue, uf, ug, uh, ui, uj, uk, ul, um, List.nil_append, List.cons_append, e1, e2, e3, hw2, e4, e5, e6, e7, hf, hv]
    simp only [List.cons_append] at h3
    rw [eq_pos h2, le_pos h1]
    by_cases h5 : x5 = 0
    · rw [eq_pos h5, le_pos h3]
      exact ⟨exV 13 [] [.str s] (f :: ks ++ [v]), j7, rfl, wf_mk (by simp) (by simp) (.cons l7 .nil) (by simp; omega) (wfApp (wfApp (p := [f]) (wf1 w3) w4) (wf1 w6)), by omega, by omega⟩
    · rw [eq_neg h5]
      exact ⟨exV 13 [] [] (f :: ks), j5, rfl, wf_mk (by simp) (by simp) .nil (by simp; omega) (wfApp (p := [f]) (wf1 w3) w4), by omega, by omega⟩
  · obtain ⟨d', rfl⟩ : ∃ k, d = k + 1 := ⟨d - 1, by omega⟩
    have w3 : WFN 5 (d' + 1) (exV 6 s1 [] []) := wf_leaf l1
    obtain ⟨ks, j4, e4, l4, w4, p4, q4, x5, j5, e5, p5, q5, v, j6, e6, w6, p6, q6, s, j7, e7, l7, p7, q7⟩ := rest _ j2 w3 (by omega) (by omega)
    have hv := w6.eta
    have h1 : ∀ f : PV, (((f :: ks : List PV)).length : Int) ≤ 16777216 := fun f => by rw [List.length_cons]; omega
    have h3 : ∀ f : PV, (((f :: (ks ++ [v]) : List PV)).length : Int) ≤ 16777216 := fun f => by simp; omega
    simp only [St62, ya, yb, yc, yd, ye, yf, yg, yh, yi, yj, yk, yl, ym, yn, yo, yp, yq, yr, yt, yu, yv, yw, yx, yy, yz, za, zb, zc, zd, get0, getS, ze, zf, zg, zh, zi, zj, zk, zl, zm, zn, zo, zp, zq, zr, zs, zt, zu, zv, zw, zx, zy, zz, ua, ub, uc, ud, ue, uf, ug, uh, ui, uj, uk, ul, um, List.nil_append, List.cons_append, e1, e2, hw2, e4, e5, e6, e7, hv]
    rw [eq_neg h2, le_pos (h1 _)]
    by_cases h5 : x5 = 0
    · rw [eq_pos h5, le_pos (h3 _)]
      exact ⟨exV 13 [] [.str s] (exV 6 s1 [] [] :: ks ++ [v]), j7, rfl, wf_mk (by simp) (by simp) (.cons l7 .nil) (by simp; omega) (wfApp (wfApp (p := [exV 6 s1 [] []]) (wf1 w3) w4) (wf1 w6)), by omega, by omega⟩
    · rw [eq_neg h5]
      exact ⟨exV 13 [] [] (exV 6 s1 [] [] :: ks), j5, rfl, wf_mk (by simp) (by simp) .nil (by simp; omega) (wfApp (p := [exV 6 s1 [] []]) (wf1 w3) w4), by omega, by omega⟩
theorem d60 {m : Nat} (hm : 1 ≤ m) : ∃ q, R m 60 (.agg []) = some (.agg [.list 1 false q]) ∧ StrL q ∧ q.length = 14 := by
  obtain ⟨n, rfl⟩ : ∃ n, m = n + 1 := ⟨m - 1, by omega⟩
  rw [R_succ n 60 _ rfl]
  refine ⟨_, rfl, ?_, rfl⟩
  repeat' (first | exact StrL.nil | refine StrL.cons (by simp) ?_)

/-- The leaves of an expression. -/
theorem dLeaf {l : List UInt8} (hl : l.length ≤ 4000) (n : Nat) (hn : 30 ≤ n) (i : Int) (i0 : 0 ≤ i) (i1 : i ≤ 800000) (D : Int) :
    ∃ x1 j1, R n 17 (.agg [.agg [bl l, .int .i64 i], .int .i64 9]) = some (.agg [.int .i64 x1, .agg [bl l, .int .i64 j1]]) ∧ i ≤ j1 ∧ j1 ≤ i + 1 ∧
    ∃ x2 j2, R n 17 (.agg [.agg [bl l, .int .i64 j1], .int .i64 3]) = some (.agg [.int .i64 x2, .agg [bl l, .int .i64 j2]]) ∧ 0 ≤ x2 ∧ x2 < 3 ∧ j1 ≤ j2 ∧ j2 ≤ j1 + 1 ∧
    ∃ s3 j3, R n 35 (.agg [.agg [bl l, .int .i64 j1], .list 1 false [.str [], .str [97], .str [97, 98], .str [98, 39], .str [120, 32, 121]]]) = some (.agg [.str s3, .agg [bl l, .int .i64 j3]]) ∧ s3.length ≤ 20 ∧ j1 ≤ j3 ∧ j3 ≤ j1 + 1 ∧
    ∃ s4 j4, R n 38 (.agg [.agg [bl l, .int .i64 j1]]) = some (.agg [.str s4, .agg [bl l, .int .i64 j4]]) ∧ s4.length ≤ 20 ∧ j1 ≤ j4 ∧ j4 ≤ j1 + 2 ∧
    ∃ s5 j5, R n 57 (.agg [.agg [bl l, .int .i64 j1]]) = some (.agg [.str s5, .agg [bl l, .int .i64 j5]]) ∧ s5.length ≤ 20 ∧ j1 ≤ j5 ∧ j5 ≤ j1 + 1 := by
  obtain ⟨x1, j1, e1, -, -, p1, q1⟩ := dPick (m := n) (by omega) l i 9 hl i0 (by omega) (by omega) (by omega)
  obtain ⟨x2, j2, e2, x20, x21, p2, q2⟩ := dPick (m := n) (by omega) l j1 3 hl (by omega) (by omega) (by omega) (by omega)
  obtain ⟨s3, j3, e3, l3, p3, q3⟩ := dOf (m := n) (by omega) l j1 [.str [], .str [97], .str [97, 98], .str [98, 39], .str [120, 32, 121]] hl (by omega) (by omega) (by simp) (by simp) (by repeat' (first | exact StrL.nil | refine StrL.cons (by simp) ?_))
  obtain ⟨s4, j4, e4, l4, p4, q4⟩ := d38 (m := n) (by omega) l j1 hl (by omega) (by omega)
  obtain ⟨s5, j5, e5, l5, p5, q5⟩ := d57 (m := n) (by omega) l j1 hl (by omega) (by omega)
  exact ⟨x1, j1, e1, p1, q1, x2, j2, e2, x20, x21, p2, q2, s3, j3, e3, l3, p3, q3, s4, j4, e4, l4, p4, q4, s5, j5, e5, l5, p5, q5⟩
def Got (l : List UInt8) (d : Nat) (i : Int) (o : Option PV) : Prop := ∃ v j, o = some (.agg [v, .agg [bl l, .int .i64 j]]) ∧ WFN 5 d v ∧ i ≤ j ∧ j ≤ i + BB d
theorem d33 {l : List UInt8} (hl : l.length ≤ 4000) : ∀ d : Nat, 1 ≤ d → d ≤ 8 → ExprAt l d := by
  intro d
  induction d with
  | zero => intro h; omega
  | succ d ih =>
    intro _ h8 m hm i i0 i1
    obtain ⟨n, rfl⟩ : ∃ n, m = n + 1 := ⟨m - 1, by omega⟩
    have hB : BB (d + 1) = 4 * BB d + 12 := rfl
    have hb := BB_nn d
    show Got l (d + 1) i _
    rw [R_succ n 33 _ rfl]
    by_cases h1 : d = 0
    · subst h1
      have hB0 : BB 0 = 0 := rfl
      obtain ⟨x1, j1, e1, p1, q1, x2, j2, e2, x20, x21, p2, q2, s3, j3, e3, l3, p3, q3, s4, j4, e4, l4, p4, q4, s5, j5, e5, l5, p5, q5⟩ := dLeaf hl n (by omega) i i0 (by omega) 0
      have hw : IntKind.i64.wrap (1 + x2) = 1 + x2 := w64 (by omega) (by omega)
      simp only [St33, ya, yb, yc, yd, ye, yf, yg, yh, yi, yj, yk, yl, ym, yn, yo, yp, yq, yr, yt, yu, yv, yw, yx, yy, yz, za, zb, zc, zd, get0, getS, ze, zf, zg, zh, zi, zj, zk, zl, zm, zn, zo, zp, zq, zr, zs, zt, zu, zv, zw, zx, zy, zz, ua, ub, uc, ud, ue, uf, ug, uh, ui, uj, uk, ul, um, List.nil_append, List.cons_append, e1, e2, e3, e4, e5, hw]
      rw [le_pos (by omega)]
      unfold Got
      by_cases c0 : x1 = 0
      · rw [eq_pos c0]; exact ⟨exV (1 + x2) [] [] [], j2, rfl, wf_leaf (by simp), by omega, by omega⟩
      rw [eq_neg c0]
      by_cases c1 : x1 = 1
      · rw [eq_pos c1]; exact ⟨exV 5 s3 [] [], j3, rfl, wf_leaf l3, by omega, by omega⟩
      rw [eq_neg c1]
      by_cases c2 : x1 = 2
      · rw [eq_pos c2]; exact ⟨exV 4 s4 [] [], j4, rfl, wf_leaf l4, by omega, by omega⟩
      rw [eq_neg c2]
      by_cases c3 : x1 = 3
      · rw [eq_pos c3]; exact ⟨exV 4 s4 [] [], j4, rfl, wf_leaf l4, by omega, by omega⟩
      rw [eq_neg c3]
      by_cases c4 : x1 = 4
      · rw [eq_pos c4]; exact ⟨exV 4 s4 [] [], j4, rfl, wf_leaf l4, by omega, by omega⟩
      rw [eq_neg c4]; exact ⟨exV 6 s5 [] [], j5, rfl, wf_leaf l5, by omega, by omega⟩
    · have E := ih (by omega) (by omega)
      have hw2 : IntKind.i64.wrap (((d + 1 : Nat) : Int) - 1) = (d : Int) := by rw [w64 (by omega) (by omega)]; omega
      obtain ⟨x0, j0, e0, -, -, p0, q0⟩ := dPick (m := n) (by omega) l i 4 hl i0 (by omega) (by omega) (by omega)
      by_cases h4 : x0 = 0
      · obtain ⟨x1, j1, e1, p1, q1, x2, j2, e2, x20, x21, p2, q2, s3, j3, e3, l3, p3, q3, s4, j4, e4, l4, p4, q4, s5, j5, e5, l5, p5, q5⟩ := dLeaf hl n (by omega) j0 (by omega) (by omega) 0
        have hw : IntKind.i64.wrap (1 + x2) = 1 + x2 := w64 (by omega) (by omega)
        simp only [St33, ya, yb, yf, yi, yz, za, zb, zc, get0, getS, ze, zf, zk, zn, ue, ui, List.nil_append, List.cons_append, e0, e1, e2, e3, e4, e5, hw]
        rw [le_neg (by omega), eq_pos h4]
        unfold Got
        by_cases c0 : x1 = 0
        · rw [eq_pos c0]; exact ⟨exV (1 + x2) [] [] [], j2, rfl, wf_leaf (by simp), by omega, by omega⟩
        rw [eq_neg c0]
        by_cases c1 : x1 = 1
        · rw [eq_pos c1]; exact ⟨exV 5 s3 [] [], j3, rfl, wf_leaf l3, by omega, by omega⟩
        rw [eq_neg c1]
        by_cases c2 : x1 = 2
        · rw [eq_pos c2]; exact ⟨exV 4 s4 [] [], j4, rfl, wf_leaf l4, by omega, by omega⟩
        rw [eq_neg c2]
        by_cases c3 : x1 = 3
        · rw [eq_pos c3]; exact ⟨exV 4 s4 [] [], j4, rfl, wf_leaf l4, by omega, by omega⟩
        rw [eq_neg c3]
        by_cases c4 : x1 = 4
        · rw [eq_pos c4]; exact ⟨exV 4 s4 [] [], j4, rfl, wf_leaf l4, by omega, by omega⟩
        rw [eq_neg c4]; exact ⟨exV 6 s5 [] [], j5, rfl, wf_leaf l5, by omega, by omega⟩
      · obtain ⟨x1, j1, e1, -, -, p1, q1⟩ := dPick (m := n) (by omega) l j0 13 hl (by omega) (by omega) (by omega) (by omega)
        -- all that may follow
        obtain ⟨ks2, j2, e2, l2, w2, p2, q2⟩ := d58 hl (by omega) (by omega) E n (by omega) j1 (by omega) 3 (by omega) (by omega)
        have h3 : ((3 : Nat) : Int) = 3 := rfl
        rw [h3] at e2 q2
        obtain ⟨ks3, j3, e3, l3, w3, p3, q3⟩ := d59 hl (by omega) (by omega) E n (by omega) j1 (by omega) (by omega)
        obtain ⟨ks4, j4, e4, l4, w4, p4, q4⟩ := d59 hl (by omega) (by omega) E n (by omega) j3 (by omega) (by omega)
        -- three expressions one after the other
        have three : ∀ a : Int, j1 ≤ a → a ≤ j1 + 1 → ∃ v1 a1, R n 33 (.agg [.agg [bl l, .int .i64 a], .int .i64 d]) = some (.agg [v1, .agg [bl l, .int .i64 a1]]) ∧ WFN 5 d v1 ∧ a ≤ a1 ∧ a1 ≤ a + BB d ∧
            ∃ v2 a2, R n 33 (.agg [.agg [bl l, .int .i64 a1], .int .i64 d]) = some (.agg [v2, .agg [bl l, .int .i64 a2]]) ∧ WFN 5 d v2 ∧ a1 ≤ a2 ∧ a2 ≤ a1 + BB d ∧
            ∃ v3 a3, R n 33 (.agg [.agg [bl l, .int .i64 a2], .int .i64 d]) = some (.agg [v3, .agg [bl l, .int .i64 a3]]) ∧ WFN 5 d v3 ∧ a2 ≤ a3 ∧ a3 ≤ a2 + BB d := by
          intro a h1 h2
          obtain ⟨v1, a1, f1, g1, r1, s1⟩ := E n (by omega) a (by omega) (by omega)
          obtain ⟨v2, a2, f2, g2, r2, s2⟩ := E n (by omega) a1 (by omega) (by omega)
          obtain ⟨v3, a3, f3, g3, r3, s3⟩ := E n (by omega) a2 (by omega) (by omega)
          exact ⟨v1, a1, f1, g1, r1, s1, v2, a2, f2, g2, r2, s2, v3, a3, f3, g3, r3, s3⟩
        obtain ⟨vc, jc, ec, wc, pc, qc⟩ := d62 hl (by omega) (by omega) E n (by omega) j1 (by omega) (by omega)
        obtain ⟨qo, eo, so, lo⟩ := d60 (m := n) (by omega)
        obtain ⟨ns, jn, en, ln, sn, pn, qn⟩ := d61 (m := n) (by omega) l j1 hl (by omega) (by omega)
        have strs : ∀ q : List PV, 1 ≤ q.length → q.length ≤ 1000 → StrL q → ∃ s a, R n 35 (.agg [.agg [bl l, .int .i64 j1], .list 1 false q]) = some (.agg [.str s, .agg [bl l, .int .i64 a]]) ∧ s.length ≤ 20 ∧ j1 ≤ a ∧ a ≤ j1 + 1 := fun q h1 h2 h3 => dOf (m := n) (by omega) l j1 q hl (by omega) (by omega) h1 h2 h3
        unfold Got
        by_cases c0 : x1 = 0
        · simp only [St33, ya, yb, yc, yd, ye, yf, yg, yh, yi, yj, yk, yl, ym, yn, yo, yp, yq, yr, yt, yu, yv, yw, yx, yy, yz, za, zb, zc, zd, get0, getS, ze, zf, zg, zh, zi, zj, zk, zl, zm, zn, zo, zp, zq, zr, zs, zt, zu, zv, zw, zx, zy, zz, ua, ub, uc, ud, ue, uf, ug, uh, ui, uj, uk, ul, um, List.nil_append, List.cons_append, e0, e1, e2]
          rw [le_neg (by omega), eq_neg h4, eq_pos c0]
          exact ⟨exV 7 [] [] ks2, j2, rfl, wf_mk (by simp) (by simp) .nil (by omega) w2, by omega, by omega⟩
        by_cases c1 : x1 = 1
        · have h1 : ((ks3 ++ ks4).length : Int) ≤ 16777216 := by rw [List.length_append]; omega
          simp only [St33, ya, yb, yc, yd, ye, yf, yg, yh, yi, yj, yk, yl, ym, yn, yo, yp, yq, yr, yt, yu, yv, yw, yx, yy, yz, za, zb, zc, zd, get0, getS, ze, zf, zg, zh, zi, zj, zk, zl, zm, zn, zo, zp, zq, zr, zs, zt, zu, zv, zw, zx, zy, zz, ua, ub, uc, ud, ue, uf, ug, uh, ui, uj, uk, ul, um, List.nil_append, List.cons_append, e0, e1, e3, e4]
          rw [le_neg (by omega), eq_neg h4, eq_neg c0, eq_pos c1, le_pos h1]
          exact ⟨exV 8 [] [] (ks3 ++ ks4), j4, rfl, wf_mk (by simp) (by simp) .nil (by rw [List.length_append]; omega) (wfApp w3 w4), by omega, by omega⟩
        by_cases c2 : x1 = 2
        · obtain ⟨s, a, f0, l0, r0, t0⟩ := strs [.str [45], .str [110, 111, 116]] (by simp) (by simp) (by repeat' (first | exact StrL.nil | refine StrL.cons (by simp) ?_))
          obtain ⟨v1, a1, f1, g1, r1, t1, -⟩ := three a (by omega) (by omega)
          have hv := g1.eta
          simp only [St33, ya, yb, yc, yd, ye, yf, yg, yh, yi, yj, yk, yl, ym, yn, yo, yp, yq, yr, yt, yu, yv, yw, yx, yy, yz, za, zb, zc, zd, get0, getS, ze, zf, zg, zh, zi, zj, zk, zl, zm, zn, zo, zp, zq, zr, zs, zt, zu, zv, zw, zx, zy, zz, ua, ub, uc, ud, ue, uf, ug, uh, ui, uj, uk, ul, um, List.nil_append, List.cons_append, e0, e1, f0, f1, hw2, hv]
          rw [le_neg (by omega), eq_neg h4, eq_neg c0, eq_neg c1, eq_pos c2]
          exact ⟨exV 9 s [] [v1], a1, rfl, wf_mk l0 (by simp) .nil (by simp) (wf1 g1), by omega, by omega⟩
        have bin : ∀ A : Option PV, A = (match R n 35 (.agg [.agg [bl l, .int .i64 j1], .list 1 false (qo ++ [.str [43], .str [45], .str [42], .str [60], .str [61, 61]])]) with
            | some r => match R n 33 (.agg [.agg [(O1.fld 0).dn ((O1.fld 1).dn r), (O1.fld 1).dn ((O1.fld 1).dn r)], .int .i64 d]) with
              | some r_1 => match R n 33 (.agg [.agg [(O1.fld 0).dn ((O1.fld 1).dn r_1), (O1.fld 1).dn ((O1.fld 1).dn r_1)], .int .i64 d]) with
                | some r_2 => some (.agg [.agg [.int .i64 10, (O1.fld 0).dn r, .list 1 false [], .list 4 true [.agg [(O1.fld 0).dn ((O1.fld 0).dn r_1), (O1.fld 1).dn ((O1.fld 0).dn r_1), (O1.fld 2).dn ((O1.fld 0).dn r_1), (O1.fld 3).dn ((O1.fld 0).dn r_1)], .agg [(O1.fld 0).dn ((O1.fld 0).dn r_2), (O1.fld 1).dn ((O1.fld 0).dn r_2), (O1.fld 2).dn ((O1.fld 0).dn r_2), (O1.fld 3).dn ((O1.fld 0).dn r_2)]]], .agg [(O1.fld 0).dn ((O1.fld 1).dn r_2), (O1.fld 1).dn ((O1.fld 1).dn r_2)]])
                | none => none
              | none => none
            | none => none) → Got l (d + 1) i A := by
          rintro A rfl
          obtain ⟨s, a, f0, l0, r0, t0⟩ := strs (qo ++ [.str [43], .str [45], .str [42], .str [60], .str [61, 61]]) (by simp) (by simp [lo]) (so.app (by repeat' (first | exact StrL.nil | refine StrL.cons (by simp) ?_)))
          obtain ⟨v1, a1, f1, g1, r1, t1, v2, a2, f2, g2, r2, t2, -⟩ := three a (by omega) (by omega)
          have hv1 := g1.eta
          have hv2 := g2.eta
          simp only [ya, yb, yc, yd, ye, yf, yg, yh, yi, yj, yk, yl, ym, yn, yo, yp, yq, yr, yt, yu, yv, yw, yx, yy, yz, za, zb, zc, zd, get0, getS, ze, zf, zg, zh, zi, zj, zk, zl, zm, zn, zo, zp, zq, zr, zs, zt, zu, zv, zw, zx, zy, zz, ua, ub, uc, ud, ue, uf, ug, uh, ui, uj, uk, ul, um, List.nil_append, List.cons_append, f0, f1, f2, hv1, hv2]
          exact ⟨exV 10 s [] [v1, v2], a2, rfl, wf_mk l0 (by simp) .nil (by simp) (wf2 g1 g2), by omega, by omega⟩
        have hq : ((qo ++ [PV.str [43], .str [45], .str [42], .str [60], .str [61, 61]]).length : Int) ≤ 16777216 := by simp [lo]
        by_cases c3 : x1 = 3
        · simp only [St33, ya, yb, yc, yd, ye, yf, yg, yh, yi, yj, yk, yl, ym, yn, yo, yp, yq, yr, yt, yu, yv, yw, yx, yy, yz, za, zb, zc, zd, get0, getS, ze, zf, zg, zh, zi, zj, zk, zl, zm, zn, zo, zp, zq, zr, zs, zt, zu, zv, zw, zx, zy, zz, ua, ub, uc, ud, ue, uf, ug, uh, ui, uj, uk, ul, um, List.nil_append, List.cons_append, e0, e1, eo, hw2]
          rw [le_neg (by omega), eq_neg h4, eq_neg c0, eq_neg c1, eq_neg c2, eq_pos c3, le_pos hq]
          exact bin _ rfl
        by_cases c4 : x1 = 4
        · simp only [St33, ya, yb, yc, yd, ye, yf, yg, yh, yi, yj, yk, yl, ym, yn, yo, yp, yq, yr, yt, yu, yv, yw, yx, yy, yz, za, zb, zc, zd, get0, getS, ze, zf, zg, zh, zi, zj, zk, zl, zm, zn, zo, zp, zq, zr, zs, zt, zu, zv, zw, zx, zy, zz, ua, ub, uc, ud, ue, uf, ug, uh, ui, uj, uk, ul, um, List.nil_append, List.cons_append, e0, e1, eo, hw2]
          rw [le_neg (by omega), eq_neg h4, eq_neg c0, eq_neg c1, eq_neg c2, eq_neg c3, eq_pos c4, le_pos hq]
          exact bin _ rfl
        by_cases c5 : x1 = 5
        · simp only [St33, ya, yb, yc, yd, ye, yf, yg, yh, yi, yj, yk, yl, ym, yn, yo, yp, yq, yr, yt, yu, yv, yw, yx, yy, yz, za, zb, zc, zd, get0, getS, ze, zf, zg, zh, zi, zj, zk, zl, zm, zn, zo, zp, zq, zr, zs, zt, zu, zv, zw, zx, zy, zz, ua, ub, uc, ud, ue, uf, ug, uh, ui, uj, uk, ul, um, List.nil_append, List.cons_append, e0, e1, eo, hw2]
          rw [le_neg (by omega), eq_neg h4, eq_neg c0, eq_neg c1, eq_neg c2, eq_neg c3, eq_neg c4, eq_pos c5, le_pos hq]
          exact bin _ rfl
        by_cases c6 : x1 = 6
        · simp only [St33, ya, yb, yc, yd, ye, yf, yg, yh, yi, yj, yk, yl, ym, yn, yo, yp, yq, yr, yt, yu, yv, yw, yx, yy, yz, za, zb, zc, zd, get0, getS, ze, zf, zg, zh, zi, zj, zk, zl, zm, zn, zo, zp, zq, zr, zs, zt, zu, zv, zw, zx, zy, zz, ua, ub, uc, ud, ue, uf, ug, uh, ui, uj, uk, ul, um, List.nil_append, List.cons_append, e0, e1, eo, hw2]
          rw [le_neg (by omega), eq_neg h4, eq_neg c0, eq_neg c1, eq_neg c2, eq_neg c3, eq_neg c4, eq_neg c5, eq_pos c6, le_pos hq]
          exact bin _ rfl
        by_cases c7 : x1 = 7
        · obtain ⟨s, a, f0, l0, r0, t0⟩ := strs [.str [97, 110, 100], .str [111, 114]] (by simp) (by simp) (by repeat' (first | exact StrL.nil | refine StrL.cons (by simp) ?_))
          obtain ⟨v1, a1, f1, g1, r1, t1, v2, a2, f2, g2, r2, t2, -⟩ := three a (by omega) (by omega)
          have hv1 := g1.eta
          have hv2 := g2.eta
          simp only [St33, ya, yb, yc, yd, ye, yf, yg, yh, yi, yj, yk, yl, ym, yn, yo, yp, yq, yr, yt, yu, yv, yw, yx, yy, yz, za, zb, zc, zd, get0, getS, ze, zf, zg, zh, zi, zj, zk, zl, zm, zn, zo, zp, zq, zr, zs, zt, zu, zv, zw, zx, zy, zz, ua, ub, uc, ud, ue, uf, ug, uh, ui, uj, uk, ul, um, List.nil_append, List.cons_append, e0, e1, f0, f1, f2, hw2, hv1, hv2]
          rw [le_neg (by omega), eq_neg h4, eq_neg c0, eq_neg c1, eq_neg c2, eq_neg c3, eq_neg c4, eq_neg c5, eq_neg c6, eq_pos c7]
          exact ⟨exV 11 s [] [v1, v2], a2, rfl, wf_mk l0 (by simp) .nil (by simp) (wf2 g1 g2), by omega, by omega⟩
        obtain ⟨v1, a1, f1, g1, r1, t1, v2, a2, f2, g2, r2, t2, v3, a3, f3, g3, r3, t3⟩ := three j1 (by omega) (by omega)
        have hv1 := g1.eta
        have hv2 := g2.eta
        have hv3 := g3.eta
        by_cases c8 : x1 = 8
        · simp only [St33, ya, yb, yc, yd, ye, yf, yg, yh, yi, yj, yk, yl, ym, yn, yo, yp, yq, yr, yt, yu, yv, yw, yx, yy, yz, za, zb, zc, zd, get0, getS, ze, zf, zg, zh, zi, zj, zk, zl, zm, zn, zo, zp, zq, zr, zs, zt, zu, zv, zw, zx, zy, zz, ua, ub, uc, ud, ue, uf, ug, uh, ui, uj, uk, ul, um, List.nil_append, List.cons_append, e0, e1, f1, f2, f3, hw2, hv1, hv2, hv3]
          rw [le_neg (by omega), eq_neg h4, eq_neg c0, eq_neg c1, eq_neg c2, eq_neg c3, eq_neg c4, eq_neg c5, eq_neg c6, eq_neg c7, eq_pos c8]
          exact ⟨exV 12 [] [] [v1, v2, v3], a3, rfl, wf_mk (by simp) (by simp) .nil (by simp) (wf3 g1 g2 g3), by omega, by omega⟩
        by_cases c9 : x1 = 9
        · simp only [St33, ya, yb, yc, yd, ye, yf, yg, yh, yi, yj, yk, yl, ym, yn, yo, yp, yq, yr, yt, yu, yv, yw, yx, yy, yz, za, zb, zc, zd, get0, getS, ze, zf, zg, zh, zi, zj, zk, zl, zm, zn, zo, zp, zq, zr, zs, zt, zu, zv, zw, zx, zy, zz, ua, ub, uc, ud, ue, uf, ug, uh, ui, uj, uk, ul, um, List.nil_append, List.cons_append, e0, e1, f1, f2, f3, hw2, hv1, hv2, hv3]
          rw [le_neg (by omega), eq_neg h4, eq_neg c0, eq_neg c1, eq_neg c2, eq_neg c3, eq_neg c4, eq_neg c5, eq_neg c6, eq_neg c7, eq_neg c8, eq_pos c9]
          exact ⟨exV 14 [] [] [v1, v2], a2, rfl, wf_mk (by simp) (by simp) .nil (by simp) (wf2 g1 g2), by omega, by omega⟩
        by_cases c10 : x1 = 10
        · obtain ⟨s, a, f0, l0, r0, t0⟩ := strs [.str [97, 112, 112, 101, 110, 100], .str [112, 111, 112], .str [107, 101, 121, 115], .str [116, 101, 120, 116], .str [118]] (by simp) (by simp) (by repeat' (first | exact StrL.nil | refine StrL.cons (by simp) ?_))
          obtain ⟨u1, b1, f1', g1', r1', t1', -⟩ := three a (by omega) (by omega)
          have hu := g1'.eta
          simp only [St33, ya, yb, yc, yd, ye, yf, yg, yh, yi, yj, yk, yl, ym, yn, yo, yp, yq, yr, yt, yu, yv, yw, yx, yy, yz, za, zb, zc, zd, get0, getS, ze, zf, zg, zh, zi, zj, zk, zl, zm, zn, zo, zp, zq, zr, zs, zt, zu, zv, zw, zx, zy, zz, ua, ub, uc, ud, ue, uf, ug, uh, ui, uj, uk, ul, um, List.nil_append, List.cons_append, e0, e1, f0, f1', hw2, hu]
          rw [le_neg (by omega), eq_neg h4, eq_neg c0, eq_neg c1, eq_neg c2, eq_neg c3, eq_neg c4, eq_neg c5, eq_neg c6, eq_neg c7, eq_neg c8, eq_neg c9, eq_pos c10]
          exact ⟨exV 15 s [] [u1], b1, rfl, wf_mk l0 (by simp) .nil (by simp) (wf1 g1'), by omega, by omega⟩
        by_cases c11 : x1 = 11
        · obtain ⟨u1, b1, f1', g1', r1', t1', -⟩ := three jn (by omega) (by omega)
          have hu := g1'.eta
          simp only [St33, ya, yb, yc, yd, ye, yf, yg, yh, yi, yj, yk, yl, ym, yn, yo, yp, yq, yr, yt, yu, yv, yw, yx, yy, yz, za, zb, zc, zd, get0, getS, ze, zf, zg, zh, zi, zj, zk, zl, zm, zn, zo, zp, zq, zr, zs, zt, zu, zv, zw, zx, zy, zz, ua, ub, uc, ud, ue, uf, ug, uh, ui, uj, uk, ul, um, List.nil_append, List.cons_append, e0, e1, en, f1', hw2, hu]
          rw [le_neg (by omega), eq_neg h4, eq_neg c0, eq_neg c1, eq_neg c2, eq_neg c3, eq_neg c4, eq_neg c5, eq_neg c6, eq_neg c7, eq_neg c8, eq_neg c9, eq_neg c10, eq_pos c11]
          exact ⟨exV 16 [] ns [u1], b1, rfl, wf_mk (by simp) (by omega) sn (by simp) (wf1 g1'), by omega, by omega⟩
        · have hvc := wc.eta
          simp only [St33, ya, yb, yc, yd, ye, yf, yg, yh, yi, yj, yk, yl, ym, yn, yo, yp, yq, yr, yt, yu, yv, yw, yx, yy, yz, za, zb, zc, zd, get0, getS, ze, zf, zg, zh, zi, zj, zk, zl, zm, zn, zo, zp, zq, zr, zs, zt, zu, zv, zw, zx, zy, zz, ua, ub, uc, ud, ue, uf, ug, uh, ui, uj, uk, ul, um, List.nil_append, List.cons_append, e0, e1, ec, hvc]
          rw [le_neg (by omega), eq_neg h4, eq_neg c0, eq_neg c1, eq_neg c2, eq_neg c3, eq_neg c4, eq_neg c5, eq_neg c6, eq_neg c7, eq_neg c8, eq_neg c9, eq_neg c10, eq_neg c11]
          exact ⟨vc, jc, rfl, wc, by omega, by omega⟩
end Go.Dv

/- The law on what folding saves returns true. -/
set_option linter.unusedVariables false
set_option linter.unusedSimpArgs false
namespace Go.Dv

theorem d37 : ∀ (d : Nat) (v : PV) (s : List UInt8) (m : Nat), s.length ≤ 20 → WFN 5 d v → 30 + d ≤ m → ∃ u, R m 37 (.agg [v, .str s]) = some (.agg [u]) ∧ WFN 5 d u := by
  intro d
  induction d with
  | zero => intro v s m _ h _; exact h.elim
  | succ d ih =>
    intro v s m hs h hm
    obtain ⟨n, rfl⟩ : ∃ n, m = n + 1 := ⟨m - 1, by omega⟩
    obtain ⟨k, t, ns, ks, rfl, h1, h2, h3, h4, h5⟩ := h
    rw [R_succ n 37 _ rfl]
    simp only [St37, exV, ya, yb, yc, yd, ye, yf, yg, yh, yi, yj, yk, yl, ym, yn, yo, yp, yq, yr, yt, yu, yv, yw, yx, yy, yz, za, zb, zc, zd, get0, getS, ze, zf, zg, zh, zi, zj, zk, zl, zm, zn, zo, zp, zq, zr, zs, zt, zu, zv, zw, zx, zy, zz, ua, ub, uc, ud, ue, uf, ug, uh, ui, uj, uk, ul, um, List.nil_append, List.cons_append]
    by_cases h6 : k = 6
    · rw [eq_pos h6]
      exact ⟨exV 4 s [] [], rfl, wf_leaf hs⟩
    rw [eq_neg h6]
    have : ∀ (e j : Nat) (acc : List PV), j + e = ks.length → acc.length = j → (∀ x ∈ acc, WFN 5 d x) → ∀ q, e < q → ∃ us, rounds (fun self v => St37b0.dn (n + 1) (R n) [self] [.agg [.agg [.int .i64 k, .str t, .list 1 false ns, .list 4 true ks], .str s], v]) q (.agg [.int .i64 j, .list 4 true acc]) = some (.agg [exV k t ns us]) ∧ us.length = ks.length ∧ ∀ x ∈ us, WFN 5 d x := by
      intro e
      induction e with
      | zero =>
        intro j acc hj hl ha q hq
        obtain ⟨q, rfl⟩ : ∃ n, q = n + 1 := ⟨q - 1, by omega⟩
        refine ⟨acc, ?_, by omega, ha⟩
        rw [rounds_s]
        generalize rounds _ q = self
        simp only [St37b0, ya, yb, yc, yd, ye, yf, yg, yh, yi, yj, yk, yl, ym, yn, yo, yp, yq, yr, yt, yu, yv, yw, yx, yy, yz, za, zb, zc, zd, get0, getS, ze, zf, zg, zh, zi, zj, zk, zl, zm, zn, zo, zp, zq, zr, zs, zt, zu, zv, zw, zx, zy, zz, ua, ub, uc, ud, ue, uf, ug, uh, ui, uj, uk, ul, um, List.nil_append, List.cons_append]
        rw [lt_neg (by omega)]
        rfl
      | succ e ihe =>
        intro j acc hj hl ha q hq
        obtain ⟨q, rfl⟩ : ∃ n, q = n + 1 := ⟨q - 1, by omega⟩
        have hj' : j < ks.length := by omega
        have hx := h5 _ (getD_mem (.bool false) hj')
        obtain ⟨u, e1, w1⟩ := ih _ s n hs hx (by omega)
        obtain ⟨us, e2, l2, w2⟩ := ihe (j + 1) (acc ++ [u]) (by omega) (by simp; omega) (wfApp ha (wf1 w1)) q (by omega)
        refine ⟨us, ?_, l2, w2⟩
        have hxe := hx.eta
        have hue := w1.eta
        have hlen : ((acc ++ [u]).length : Int) ≤ 16777216 := by simp; omega
        rw [rounds_s]
        generalize rounds _ q = self at e2 ⊢
        simp (disch := omega) only [St37b0, ya, yb, yc, yd, ye, yf, yg, yh, yi, yj, yk, yl, ym, yn, yo, yp, yq, yr, yt, yu, yv, yw, yx, yy, yz, za, zb, zc, zd, get0, getS, ze, zf, zg, zh, zi, zj, zk, zl, zm, zn, zo, zp, zq, zr, zs, zt, zu, zv, zw, zx, zy, zz, ua, ub, uc, ud, ue, uf, ug, uh, ui, uj, uk, ul, um, List.nil_append, List.cons_append, Int.toNat_natCast, wS, hxe, e1, hue]
        rw [lt_pos (by omega), le_pos (by omega), le_pos hlen]
        exact e2
    obtain ⟨us, e, l, w⟩ := this ks.length 0 [] (by omega) rfl (fun x h => by cases h) (n + 1) (by omega)
    exact ⟨exV k t ns us, e, k, t, ns, us, rfl, h1, h2, h3, by omega, w⟩

theorem BB8 : BB 8 = 262140 := rfl
theorem BBle {d : Nat} (h : d ≤ 8) : BB d ≤ 262140 := by
  match d, h with
  | 0, _ => decide
  | 1, _ => decide
  | 2, _ => decide
  | 3, _ => decide
  | 4, _ => decide
  | 5, _ => decide
  | 6, _ => decide
  | 7, _ => decide
  | 8, _ => decide
theorem d18 {l : List UInt8} (hl : l.length ≤ 4000) (m : Nat) (hm : 90 ≤ m) (i : Int) (i0 : 0 ≤ i) (i1 : i ≤ 100) : ∃ v j, R m 18 (.agg [.agg [bl l, .int .i64 i]]) = some (.agg [v, .agg [bl l, .int .i64 j]]) ∧ WF 8 v := by
  obtain ⟨n, rfl⟩ : ∃ n, m = n + 1 := ⟨m - 1, by omega⟩
  obtain ⟨y, j1, e1, hy, p1, q1⟩ := f50 (m := n) (by omega) 20 (.inr rfl) false l i [.int .i64 1, .int .i64 2, .int .i64 3, .int .i64 4, .int .i64 5, .int .i64 8] hl i0 (by omega) (by simp) (by simp)
  obtain ⟨d, rfl, hd1, hd8⟩ : ∃ d : Nat, y = .int .i64 d ∧ 1 ≤ d ∧ d ≤ 8 := by
    simp at hy
    rcases hy with h | h | h | h | h | h
    · exact ⟨1, h, by omega, by omega⟩
    · exact ⟨2, h, by omega, by omega⟩
    · exact ⟨3, h, by omega, by omega⟩
    · exact ⟨4, h, by omega, by omega⟩
    · exact ⟨5, h, by omega, by omega⟩
    · exact ⟨8, h, by omega, by omega⟩
  have hb := BBle hd8
  simp only [rndV] at e1
  obtain ⟨v, j2, e2, w2, p2, q2⟩ := d33 hl d hd1 hd8 n (by omega) j1 (by omega) (by omega)
  obtain ⟨x3, j3, e3, -, -, p3, q3⟩ := dPick (m := n) (by omega) l j2 14 hl (by omega) (by omega) (by omega) (by omega)
  obtain ⟨x4, j4, e4, -, -, p4, q4⟩ := dPick (m := n) (by omega) l j3 19 hl (by omega) (by omega) (by omega) (by omega)
  obtain ⟨z5, j5, e5, p5, q5⟩ := d34 (m := n) (by omega) l j4 x4 hl (by omega) (by omega)
  obtain ⟨s6, j6, e6, l6, p6, q6⟩ := dOf (m := n) (by omega) l j3 [.str [], .str [97], .str [45, 49], .str [43], .str [105, 102], .str [48, 49]] hl (by omega) (by omega) (by simp) (by simp) (by repeat' (first | exact StrL.nil | refine StrL.cons (by simp) ?_))
  obtain ⟨s7, j7, e7, l7, p7, q7⟩ := d36 (m := n) (by omega) l j3 hl (by omega) (by omega)
  have w8 : WF 8 v := WFN.le (w2.mono (by omega)) hd8
  obtain ⟨d, rfl⟩ : ∃ k, d = k + 1 := ⟨d - 1, by omega⟩
  have hen : v.en.length ≤ 5 := by
    obtain ⟨k, t, ns, ks, rfl, h1, h2, -⟩ := w2
    exact h2
  obtain ⟨k, t, ns, ks, rfl, h1, h2, h3, h4, h5⟩ := w8
  have hen : ns.length ≤ 5 := hen
  have hl0 : (ns.length : Int) ≤ 16777216 := by omega
  have hl1 : ((ns ++ [PV.str s7]).length : Int) ≤ 16777216 := by simp; omega
  rw [R_succ n 18 _ rfl]
  simp only [exV] at e2
  simp only [St18, ya, yb, yc, yd, ye, yf, yg, yh, yi, yj, yk, yl, ym, yn, yo, yp, yq, yr, yt, yu, yv, yw, yx, yy, yz, za, zb, zc, zd, get0, getS, ze, zf, zg, zh, zi, zj, zk, zl, zm, zn, zo, zp, zq, zr, zs, zt, zu, zv, zw, zx, zy, zz, ua, ub, uc, ud, ue, uf, ug, uh, ui, uj, uk, ul, um, List.nil_append, List.cons_append, e1, e2, e3, e4, e5, e6, e7]
  by_cases c0 : x3 = 0
  · rw [eq_pos c0]
    exact ⟨exV z5 t ns ks, j5, rfl, z5, t, ns, ks, rfl, h1, h2, h3, h4, h5⟩
  rw [eq_neg c0]
  by_cases c1 : x3 = 1
  · rw [eq_pos c1]
    exact ⟨exV k s6 ns ks, j6, rfl, k, s6, ns, ks, rfl, by omega, h2, h3, h4, h5⟩
  rw [eq_neg c1]
  by_cases c2 : x3 = 2
  · rw [eq_pos c2, le_pos hl0, le_pos hl1]
    refine ⟨exV k t (ns ++ [.str s7]) ks, j7, rfl, k, t, ns ++ [.str s7], ks, rfl, h1, by simp; omega, ?_, h4, h5⟩
    intro x hx
    rcases List.mem_append.1 hx with hx | hx
    · exact h3 x hx
    · rw [List.mem_singleton] at hx
      exact ⟨s7, hx, by omega⟩
  rw [eq_neg c2]
  exact ⟨exV k t ns ks, j3, rfl, k, t, ns, ks, rfl, h1, h2, h3, h4, h5⟩
end Go.Dv

/- The names that an expression reads; folding reads no others. -/
set_option linter.unusedVariables false
set_option linter.unusedSimpArgs false
namespace Go.Dv

/-! Equal expressions. -/
theorem w53 {m : Nat} (ns : List PV) (hl : ns.length ≤ 100) (hm : 110 ≤ m) : R m 53 (.agg [.list 1 false ns, .list 1 false ns]) = some (.agg [.bool true]) := by
  obtain ⟨n, rfl⟩ : ∃ n, m = n + 1 := ⟨m - 1, by omega⟩
  rw [R_succ n 53 _ rfl]
  simp only [St53, ya, yb, yc, yd, ye, yf, yg, yh, yi, yj, yk, yl, ym, yn, yo, yp, yq, yr, yt, yu, yv, yw, yx, yy, yz, za, zb, zc, zd, get0, getS, ze, zf, zg, zh, zi, zj, zk, zl, zm, zn, zo, zp, zq, zr, zs, zt, zu, zv, zw, zx, zy, zz, ua, ub, uc, ud, ue, uf, ug, uh, ui, uj, uk, ul, um, List.nil_append, List.cons_append]
  rw [eq_pos rfl]
  refine iter_loop (F := fun self v => St53b0.dn (n + 1) (R n) [self] [.agg [.list 1 false ns, .list 1 false ns], v]) (N := ns.length) (fun j => .agg [.int .i64 j]) (by omega) (fun self => ?_) (fun self j hj => ?_)
  · simp only [St53b0, ya, yb, yc, yd, ye, yf, yg, yh, yi, yj, yk, yl, ym, yn, yo, yp, yq, yr, yt, yu, yv, yw, yx, yy, yz, za, zb, zc, zd, get0, getS, ze, zf, zg, zh, zi, zj, zk, zl, zm, zn, zo, zp, zq, zr, zs, zt, zu, zv, zw, zx, zy, zz, ua, ub, uc, ud, ue, uf, ug, uh, ui, uj, uk, ul, um, List.nil_append, List.cons_append]
    rw [lt_neg (by omega)]
  · simp (disch := omega) only [St53b0, ya, yb, yc, yd, ye, yf, yg, yh, yi, yj, yk, yl, ym, yn, yo, yp, yq, yr, yt, yu, yv, yw, yx, yy, yz, za, zb, zc, zd, get0, getS, ze, zf, zg, zh, zi, zj, zk, zl, zm, zn, zo, zp, zq, zr, zs, zt, zu, zv, zw, zx, zy, zz, ua, ub, uc, ud, ue, uf, ug, uh, ui, uj, uk, ul, um, List.nil_append, List.cons_append, Int.toNat_natCast, wS]
    rw [lt_pos (by omega), le_pos (by omega), lt_pos (by omega), seq_pos rfl]
theorem w27 : ∀ (d : Nat) (v : PV) (m : Nat), WF d v → 150 + d ≤ m → R m 27 (.agg [v, v]) = some (.agg [.bool true]) := by
  intro d
  induction d with
  | zero => intro v m h _; exact h.elim
  | succ d ih =>
    intro v m h hm
    obtain ⟨n, rfl⟩ : ∃ n, m = n + 1 := ⟨m - 1, by omega⟩
    obtain ⟨k, t, ns, ks, rfl, h1, h2, h3, h4, h5⟩ := h
    have e53 := w53 (m := n) ns (by omega) (by omega)
    rw [R_succ n 27 _ rfl]
    simp only [St27, exV, ya, yb, yc, yd, ye, yf, yg, yh, yi, yj, yk, yl, ym, yn, yo, yp, yq, yr, yt, yu, yv, yw, yx, yy, yz, za, zb, zc, zd, get0, getS, ze, zf, zg, zh, zi, zj, zk, zl, zm, zn, zo, zp, zq, zr, zs, zt, zu, zv, zw, zx, zy, zz, ua, ub, uc, ud, ue, uf, ug, uh, ui, uj, uk, ul, um, List.nil_append, List.cons_append, e53, Bool.not_true]
    rw [eq_pos rfl, seq_pos rfl, eq_pos rfl]
    refine iter_loop (F := fun self v => St27b0.dn (n + 1) (R n) [self] [.agg [.agg [.int .i64 k, .str t, .list 1 false ns, .list 4 true ks], .agg [.int .i64 k, .str t, .list 1 false ns, .list 4 true ks]], .agg [.bool true], v]) (N := ks.length) (fun j => .agg [.int .i64 j]) (by omega) (fun self => ?_) (fun self j hj => ?_)
    · simp only [St27b0, ya, yb, yc, yd, ye, yf, yg, yh, yi, yj, yk, yl, ym, yn, yo, yp, yq, yr, yt, yu, yv, yw, yx, yy, yz, za, zb, zc, zd, get0, getS, ze, zf, zg, zh, zi, zj, zk, zl, zm, zn, zo, zp, zq, zr, zs, zt, zu, zv, zw, zx, zy, zz, ua, ub, uc, ud, ue, uf, ug, uh, ui, uj, uk, ul, um, List.nil_append, List.cons_append]
      rw [lt_neg (by omega)]
    · have hx := h5 _ (getD_mem (.bool false) hj)
      have e := ih _ n hx (by omega)
      simp (disch := omega) only [St27b0, ya, yb, yc, yd, ye, yf, yg, yh, yi, yj, yk, yl, ym, yn, yo, yp, yq, yr, yt, yu, yv, yw, yx, yy, yz, za, zb, zc, zd, get0, getS, ze, zf, zg, zh, zi, zj, zk, zl, zm, zn, zo, zp, zq, zr, zs, zt, zu, zv, zw, zx, zy, zz, ua, ub, uc, ud, ue, uf, ug, uh, ui, uj, uk, ul, um, List.nil_append, List.cons_append, Int.toNat_natCast, wS, hx.eta, e, Bool.not_true]
      rw [lt_pos (by omega), le_pos (by omega), lt_pos (by omega)]
theorem w11 {d m : Nat} {v : PV} (hd : d ≤ 20) (h : WF d v) (hm : 200 ≤ m) : R m 11 (.agg [v, v]) = some (.agg [.bool true]) := by
  obtain ⟨n, rfl⟩ : ∃ n, m = n + 1 := ⟨m - 1, by omega⟩
  have e := w27 d v n h (by omega)
  have hv := h.eta
  rw [R_succ n 11 _ rfl]
  simp only [St11, ya, yb, yc, yd, ye, yf, yg, yh, yi, yj, yk, yl, ym, yn, yo, yp, yq, yr, yt, yu, yv, yw, yx, yy, yz, za, zb, zc, zd, get0, getS, ze, zf, zg, zh, zi, zj, zk, zl, zm, zn, zo, zp, zq, zr, zs, zt, zu, zv, zw, zx, zy, zz, ua, ub, uc, ud, ue, uf, ug, uh, ui, uj, uk, ul, um, List.nil_append, List.cons_append, hv, e]
theorem w14 {m : Nat} (l : List PV) (s : List UInt8) (hm : l.length + 3 ≤ m) (hl : l.length < 100000000) : R m 14 (.agg [.list 1 false l, .str s]) = some (.agg [.bool (anyS l s)]) := by
  obtain ⟨n, rfl⟩ : ∃ n, m = n + 1 := ⟨m - 1, by omega⟩
  have e := w31 (m := n) l s (by omega) hl
  rw [R_succ n 14 _ rfl]
  simp only [St14, ya, yb, yc, yd, ye, yf, yg, yh, yi, yj, yk, yl, ym, yn, yo, yp, yq, yr, yt, yu, yv, yw, yx, yy, yz, za, zb, zc, zd, get0, getS, ze, zf, zg, zh, zi, zj, zk, zl, zm, zn, zo, zp, zq, zr, zs, zt, zu, zv, zw, zx, zy, zz, ua, ub, uc, ud, ue, uf, ug, uh, ui, uj, uk, ul, um, List.nil_append, List.cons_append, e]

/-! Two lists one behind the other. -/
def sz3 (x y : Int) : Nat → Int
  | 0 => 0
  | 1 => x
  | _ => x + y
def ls3 (a b : List PV) : Nat → List PV
  | 0 => []
  | 1 => a
  | _ => a ++ b
theorem w54 {m : Nat} (hm : 10 ≤ m) (a b : List PV) (la : a.length ≤ 1000) (lb : b.length ≤ 1000) : R m 54 (.agg [.list 1 false [.list 1 false a, .list 1 false b]]) = some (.agg [.list 1 false (a ++ b)]) := by
  obtain ⟨n, rfl⟩ : ∃ n, m = n + 1 := ⟨m - 1, by omega⟩
  obtain ⟨n, rfl⟩ : ∃ k, n = k + 1 := ⟨n - 1, by omega⟩
  rw [R_succ (n + 1) 54 _ rfl]
  simp only [St54, ya, yb, yc, yd, ye, yf, yg, yh, yi, yj, yk, yl, ym, yn, yo, yp, yq, yr, yt, yu, yv, yw, yx, yy, yz, za, zb, zc, zd, get0, getS, ze, zf, zg, zh, zi, zj, zk, zl, zm, zn, zo, zp, zq, zr, zs, zt, zu, zv, zw, zx, zy, zz, ua, ub, uc, ud, ue, uf, ug, uh, ui, uj, uk, ul, um, List.nil_append, List.cons_append]
  have l2 : ((([PV.list 1 false a, .list 1 false b] : List PV).length : Nat) : Int) = 2 := rfl
  refine iter_loop (F := fun self v => St54b1.dn (n + 1 + 1) (R (n + 1)) [self] [.agg [.list 1 false [.list 1 false a, .list 1 false b]], v]) (N := 2) (fun j => .agg [.int .i64 (sz3 a.length b.length j), .int .i64 j]) (by omega) (fun self => ?_) (fun self j hj => ?_)
  · have g := R_grow n ((a.length : Int) + b.length) (by omega) (by omega)
    have e2 : sz3 (a.length : Int) b.length 2 = (a.length : Int) + b.length := rfl
    simp only [St54b1, ya, yb, yc, yd, ye, yf, yg, yh, yi, yj, yk, yl, ym, yn, yo, yp, yq, yr, yt, yu, yv, yw, yx, yy, yz, za, zb, zc, zd, get0, getS, ze, zf, zg, zh, zi, zj, zk, zl, zm, zn, zo, zp, zq, zr, zs, zt, zu, zv, zw, zx, zy, zz, ua, ub, uc, ud, ue, uf, ug, uh, ui, uj, uk, ul, um, List.nil_append, List.cons_append, l2, e2, g]
    rw [lt_neg (by decide)]
    refine iter_loop (F := fun self_1 v => St54b0.dn (n + 1 + 1) (R (n + 1)) [self, self_1] [.agg [.list 1 false [.list 1 false a, .list 1 false b]], .agg [.int .i64 ((a.length : Int) + b.length), .int .i64 (2 : Nat)], .agg [.list 1 false []], v]) (N := 2) (fun j => .agg [.int .i64 j, .list 1 false (ls3 a b j)]) (by omega) (fun self2 => ?_) (fun self2 j hj => ?_)
    · simp only [St54b0, ya, yb, yc, yd, ye, yf, yg, yh, yi, yj, yk, yl, ym, yn, yo, yp, yq, yr, yt, yu, yv, yw, yx, yy, yz, za, zb, zc, zd, get0, getS, ze, zf, zg, zh, zi, zj, zk, zl, zm, zn, zo, zp, zq, zr, zs, zt, zu, zv, zw, zx, zy, zz, ua, ub, uc, ud, ue, uf, ug, uh, ui, uj, uk, ul, um, List.nil_append, List.cons_append, l2]
      rw [lt_neg (by decide)]
      rfl
    · have hj : j = 0 ∨ j = 1 := by omega
      rcases hj with rfl | rfl
      · have z0 : (((0 : Nat) : Int)).toNat = 0 := rfl
        have w1 : IntKind.i64.wrap (((0 : Nat) : Int) + 1) = ((0 + 1 : Nat) : Int) := rfl
        have c0 : ls3 a b 0 = [] := rfl
        simp only [St54b0, ya, yb, yc, yd, ye, yf, yg, yh, yi, yj, yk, yl, ym, yn, yo, yp, yq, yr, yt, yu, yv, yw, yx, yy, yz, za, zb, zc, zd, get0, getS, ze, zf, zg, zh, zi, zj, zk, zl, zm, zn, zo, zp, zq, zr, zs, zt, zu, zv, zw, zx, zy, zz, ua, ub, uc, ud, ue, uf, ug, uh, ui, uj, uk, ul, um, List.nil_append, List.cons_append, dn_cont1, l2, z0, w1, c0]
        rw [lt_pos (by decide), le_pos (by decide), le_pos (by omega)]
        rfl
      · have z0 : (((1 : Nat) : Int)).toNat = 1 := rfl
        have w1 : IntKind.i64.wrap (((1 : Nat) : Int) + 1) = ((1 + 1 : Nat) : Int) := rfl
        have c0 : ls3 a b 1 = a := rfl
        simp only [St54b0, ya, yb, yc, yd, ye, yf, yg, yh, yi, yj, yk, yl, ym, yn, yo, yp, yq, yr, yt, yu, yv, yw, yx, yy, yz, za, zb, zc, zd, get0, getS, ze, zf, zg, zh, zi, zj, zk, zl, zm, zn, zo, zp, zq, zr, zs, zt, zu, zv, zw, zx, zy, zz, ua, ub, uc, ud, ue, uf, ug, uh, ui, uj, uk, ul, um, List.nil_append, List.cons_append, dn_cont1, l2, z0, w1, c0]
        rw [lt_pos (by decide), le_pos (by decide), le_pos (by rw [List.length_append]; omega)]
        rfl
  · have hj : j = 0 ∨ j = 1 := by omega
    rcases hj with rfl | rfl
    · have z0 : (((0 : Nat) : Int)).toNat = 0 := rfl
      have w1 : IntKind.i64.wrap (((0 : Nat) : Int) + 1) = ((0 + 1 : Nat) : Int) := rfl
      have c0 : sz3 (a.length : Int) b.length 0 = 0 := rfl
      have w2 : IntKind.i64.wrap (0 + (a.length : Int)) = (a.length : Int) := by rw [w64 (by omega) (by omega)]; omega
      simp only [St54b1, ya, yb, yc, yd, ye, yf, yg, yh, yi, yj, yk, yl, ym, yn, yo, yp, yq, yr, yt, yu, yv, yw, yx, yy, yz, za, zb, zc, zd, get0, getS, ze, zf, zg, zh, zi, zj, zk, zl, zm, zn, zo, zp, zq, zr, zs, zt, zu, zv, zw, zx, zy, zz, ua, ub, uc, ud, ue, uf, ug, uh, ui, uj, uk, ul, um, List.nil_append, List.cons_append, l2, z0, w1, c0, w2]
      rw [lt_pos (by decide), le_pos (by decide), lt_neg (by omega)]
      rfl
    · have z0 : (((1 : Nat) : Int)).toNat = 1 := rfl
      have w1 : IntKind.i64.wrap (((1 : Nat) : Int) + 1) = ((1 + 1 : Nat) : Int) := rfl
      have c0 : sz3 (a.length : Int) b.length 1 = a.length := rfl
      have w2 : IntKind.i64.wrap ((a.length : Int) + (b.length : Int)) = (a.length : Int) + b.length := w64 (by omega) (by omega)
      simp only [St54b1, ya, yb, yc, yd, ye, yf, yg, yh, yi, yj, yk, yl, ym, yn, yo, yp, yq, yr, yt, yu, yv, yw, yx, yy, yz, za, zb, zc, zd, get0, getS, ze, zf, zg, zh, zi, zj, zk, zl, zm, zn, zo, zp, zq, zr, zs, zt, zu, zv, zw, zx, zy, zz, ua, ub, uc, ud, ue, uf, ug, uh, ui, uj, uk, ul, um, List.nil_append, List.cons_append, l2, z0, w1, c0, w2]
      rw [lt_pos (by decide), le_pos (by decide), lt_neg (by omega)]
      rfl

/-! The names that are read. -/
def seeP (out : List PV) (s : List UInt8) : List PV := if anyS out s = true then out else out ++ [.str s]
def readsP : Nat → PV → List PV → List PV → List PV
  | 0, _, _, out => out
  | d + 1, v, bound, out => v.ec.foldl (fun o x => readsP d x (if v.ek = 16 then bound ++ v.en else bound) o) (if v.ek = 6 ∧ anyS bound v.et = false then seeP out v.et else out)
theorem readsP_ex (d : Nat) (k : Int) (t : List UInt8) (ns ks bound out : List PV) : readsP (d + 1) (exV k t ns ks) bound out = ks.foldl (fun o x => readsP d x (if k = 16 then bound ++ ns else bound) o) (if k = 6 ∧ anyS bound t = false then seeP out t else out) := rfl
def NN : Nat → Nat
  | 0 => 0
  | d + 1 => 1 + 12 * NN d
theorem seeP_len (out : List PV) (s : List UInt8) : (seeP out s).length ≤ out.length + 1 ∧ out.length ≤ (seeP out s).length := by
  unfold seeP
  split
  · omega
  · simp
theorem foldl_len {f : List PV → PV → List PV} {N : Nat} : ∀ (ks : List PV) (o : List PV), (∀ x ∈ ks, ∀ o, (f o x).length ≤ o.length + N) → (ks.foldl f o).length ≤ o.length + ks.length * N
  | [], o, h => by simp
  | x :: ks, o, h => by
    have h1 := h x List.mem_cons_self o
    have h2 := foldl_len ks (f o x) (fun y hy => h y (List.mem_cons_of_mem _ hy))
    simp only [List.foldl_cons, List.length_cons, Nat.succ_mul]
    omega
theorem plainKids {k : Int} {t : List UInt8} {ns : List PV} {n : Nat} (h : plainB k t ns n = true) : n ≤ 12 ∧ (k = 6 → n = 0) := by
  unfold plainB at h
  rw [Bool.and_eq_true] at h
  have h := h.2
  rcases k18 k with rfl | rfl | rfl | rfl | rfl | rfl | rfl | rfl | rfl | rfl | rfl | rfl | rfl | rfl | rfl | rfl | rfl | ⟨h1, h2, h3, h4, h5, h6, h7, h8, h9, h10, h11, h12, h13, h14, h15, h16, h17⟩
  case inr.inr.inr.inr.inr.inr.inr.inr.inr.inr.inr.inr.inr.inr.inr.inr.inr =>
    unfold kindB at h
    simp [h1, h2, h3, h4, h5, h6, h7, h8, h9, h10, h11, h12, h13, h14, h15, h16, h17] at h
  all_goals (simp [kindB] at h; refine ⟨by omega, fun hk => ?_⟩; first | omega | exact absurd hk (by decide))
theorem readsP_len : ∀ (d : Nat) (v : PV) (bound out : List PV), WF d v → valid d v = true → (readsP d v bound out).length ≤ out.length + NN d
  | 0, _, _, _, h, _ => h.elim
  | d + 1, v, bound, out, h, hv => by
    obtain ⟨k, t, ns, ks, rfl, hp, hk, -, -, -⟩ := valid_wf h hv
    rw [readsP_ex]
    have hl := (plainKids hp).1
    have h1 := foldl_len (f := fun o x => readsP d x (if k = 16 then bound ++ ns else bound) o) (N := NN d) ks (if k = 6 ∧ anyS bound t = false then seeP out t else out) (fun x hx o => readsP_len d x _ o (hk x hx).1 (hk x hx).2)
    have h2 : (if k = 6 ∧ anyS bound t = false then seeP out t else out).length ≤ out.length + 1 := by
      split
      · exact (seeP_len out t).1
      · omega
    have h3 : ks.length * NN d ≤ 12 * NN d := Nat.mul_le_mul_right _ hl
    rw [NN]
    omega

theorem kidsLoop {F : (PV → Option PV) → PV → Option PV} {ks : List PV} {f : List PV → PV → List PV} {N LIM n : Nat} (hn : ks.length < n) (hf : ∀ x ∈ ks, ∀ o, (f o x).length ≤ o.length + N)
    (stop : ∀ self o, F self (.agg [.int .i64 ks.length, .list 1 false o]) = some (.agg [.agg [.list 1 false o]]))
    (step : ∀ self (j : Nat) o, j < ks.length → o.length + N ≤ LIM → F self (.agg [.int .i64 j, .list 1 false o]) = self (.agg [.int .i64 (j + 1 : Nat), .list 1 false (f o (ks.getD j (.bool false)))])) (o : List PV) (ho : o.length + ks.length * N ≤ LIM) :
    rounds F n (.agg [.int .i64 0, .list 1 false o]) = some (.agg [.agg [.list 1 false (ks.foldl f o)]]) := by
  have : ∀ (r j : Nat) (o : List PV), j + r = ks.length → o.length + r * N ≤ LIM → ∀ k, r < k → rounds F k (.agg [.int .i64 j, .list 1 false o]) = some (.agg [.agg [.list 1 false ((ks.drop j).foldl f o)]]) := by
    intro r
    induction r with
    | zero =>
      intro j o hj _ k hk
      obtain ⟨k, rfl⟩ : ∃ n, k = n + 1 := ⟨k - 1, by omega⟩
      obtain rfl : j = ks.length := by omega
      rw [rounds_s, stop, List.drop_length]
      rfl
    | succ r ih =>
      intro j o hj ho k hk
      obtain ⟨k, rfl⟩ : ∃ n, k = n + 1 := ⟨k - 1, by omega⟩
      rw [Nat.succ_mul] at ho
      have hN : 0 ≤ r * N := Nat.zero_le _
      have hx := hf (ks.getD j (.bool false)) (getD_mem _ (by omega)) o
      rw [rounds_s, step _ j o (by omega) (by omega), drop_step (.bool false) (by omega), List.foldl_cons]
      exact ih (j + 1) _ (by omega) (by omega) k (by omega)
  exact this ks.length 0 o (by omega) ho n hn

/-- Bounds that hold on the way down. -/
theorem w28 : ∀ (d : Nat) (v : PV) (bound out : List PV) (m : Nat), WF d v → valid d v = true → d ≤ 7 → bound.length ≤ 100 + 20 * (7 - d) → out.length + NN d ≤ 10000000 → 10000100 + d ≤ m →
    R m 28 (.agg [v, .list 1 false bound, .agg [.list 1 false out]]) = some (.agg [.agg [.list 1 false (readsP d v bound out)]]) := by
  intro d
  induction d with
  | zero => intro v bound out m h _ _ _ _ _; exact h.elim
  | succ d ih =>
    intro v bound out m h hv hd hb ho hm
    obtain ⟨n, rfl⟩ : ∃ n, m = n + 1 := ⟨m - 1, by omega⟩
    obtain ⟨k, t, ns, ks, rfl, hp, hk, ⟨h2, h3⟩, h1, h4⟩ := valid_wf h hv
    simp only [Nat.add_sub_cancel] at hk
    obtain ⟨hl, h6⟩ := plainKids hp
    have e1 := w30 (m := n) bound t (by omega) (by omega)
    have e2 := w30 (m := n) out t (by omega) (by omega)
    have hNN : NN (d + 1) = 1 + 12 * NN d := rfl
    have hmul : ks.length * NN d ≤ 12 * NN d := Nat.mul_le_mul_right _ hl
    have hlen : ∀ bd, ∀ x ∈ ks, ∀ o, (readsP d x bd o).length ≤ o.length + NN d := fun bd x hx o => readsP_len d x bd o (hk x hx).1 (hk x hx).2
    rw [readsP_ex, R_succ n 28 _ rfl]
    by_cases k16 : k = 16
    · subst k16
      have e3 := w54 (m := n) (by omega) bound ns (by omega) (by omega)
      rw [if_pos rfl, if_neg (by intro h; exact absurd h.1 (by decide))]
      simp only [St28, exV, ya, yb, yc, yd, ye, yf, yg, yh, yi, yj, yk, yl, ym, yn, yo, yp, yq, yr, yt, yu, yv, yw, yx, yy, yz, za, zb, zc, zd, get0, getS, ze, zf, zg, zh, zi, zj, zk, zl, zm, zn, zo, zp, zq, zr, zs, zt, zu, zv, zw, zx, zy, zz, ua, ub, uc, ud, ue, uf, ug, uh, ui, uj, uk, ul, um, List.nil_append, List.cons_append, e3]
      rw [eq_neg (by decide), eq_pos rfl]
      refine kidsLoop (F := fun self v => St28b6.dn (n + 1) (R n) [self] [.agg [.agg [.int .i64 16, .str t, .list 1 false ns, .list 4 true ks], .list 1 false bound, .agg [.list 1 false out]], .agg [.list 1 false (bound ++ ns)], v]) (f := fun o x => readsP d x (bound ++ ns) o) (N := NN d) (LIM := 10000000) (by omega) (hlen _) (fun self o => ?_) (fun self j o hj ho' => ?_) out (by omega)
      · simp only [St28b6, ya, yb, yc, yd, ye, yf, yg, yh, yi, yj, yk, yl, ym, yn, yo, yp, yq, yr, yt, yu, yv, yw, yx, yy, yz, za, zb, zc, zd, get0, getS, ze, zf, zg, zh, zi, zj, zk, zl, zm, zn, zo, zp, zq, zr, zs, zt, zu, zv, zw, zx, zy, zz, ua, ub, uc, ud, ue, uf, ug, uh, ui, uj, uk, ul, um, List.nil_append, List.cons_append]
        rw [lt_neg (by omega)]
      · have hx := hk _ (getD_mem (.bool false) hj)
        have e := ih _ (bound ++ ns) o n hx.1 hx.2 (by omega) (by rw [List.length_append]; omega) ho' (by omega)
        simp (disch := omega) only [St28b6, ya, yb, yc, yd, ye, yf, yg, yh, yi, yj, yk, yl, ym, yn, yo, yp, yq, yr, yt, yu, yv, yw, yx, yy, yz, za, zb, zc, zd, get0, getS, ze, zf, zg, zh, zi, zj, zk, zl, zm, zn, zo, zp, zq, zr, zs, zt, zu, zv, zw, zx, zy, zz, ua, ub, uc, ud, ue, uf, ug, uh, ui, uj, uk, ul, um, List.nil_append, List.cons_append, Int.toNat_natCast, wS, hx.1.eta, e]
        rw [lt_pos (by omega), le_pos (by omega)]
    · rw [if_neg k16]
      by_cases k6 : k = 6
      · have hks : ks = [] := List.length_eq_zero_iff.1 (h6 k6)
        subst hks
        simp only [List.foldl_nil]
        have l0 : ((([] : List PV).length : Nat) : Int) = 0 := rfl
        have fin : ∀ (B : Tree) (E : List PV) (o : List PV), (B = St28b1 ∨ B = St28b3 ∨ B = St28b5) → True := fun _ _ _ _ => trivial
        cases hbd : anyS bound t with
        | true =>
          rw [hbd] at e1
          rw [if_neg (by intro h; cases h.2)]
          simp only [St28, exV, ya, yb, yc, yd, ye, yf, yg, yh, yi, yj, yk, yl, ym, yn, yo, yp, yq, yr, yt, yu, yv, yw, yx, yy, yz, za, zb, zc, zd, get0, getS, ze, zf, zg, zh, zi, zj, zk, zl, zm, zn, zo, zp, zq, zr, zs, zt, zu, zv, zw, zx, zy, zz, ua, ub, uc, ud, ue, uf, ug, uh, ui, uj, uk, ul, um, List.nil_append, List.cons_append, e1, Bool.not_true]
          rw [eq_pos k6, eq_neg k16, rounds_s]
          generalize rounds _ n = self
          simp only [St28b5, ya, yb, yc, yd, ye, yf, yg, yh, yi, yj, yk, yl, ym, yn, yo, yp, yq, yr, yt, yu, yv, yw, yx, yy, yz, za, zb, zc, zd, get0, getS, ze, zf, zg, zh, zi, zj, zk, zl, zm, zn, zo, zp, zq, zr, zs, zt, zu, zv, zw, zx, zy, zz, ua, ub, uc, ud, ue, uf, ug, uh, ui, uj, uk, ul, um, List.nil_append, List.cons_append, l0]
          rw [lt_neg (by decide)]
        | false =>
          rw [hbd] at e1
          rw [if_pos ⟨k6, rfl⟩]
          unfold seeP
          cases hou : anyS out t with
          | true =>
            rw [hou] at e2
            rw [if_pos rfl]
            simp only [St28, exV, ya, yb, yc, yd, ye, yf, yg, yh, yi, yj, yk, yl, ym, yn, yo, yp, yq, yr, yt, yu, yv, yw, yx, yy, yz, za, zb, zc, zd, get0, getS, ze, zf, zg, zh, zi, zj, zk, zl, zm, zn, zo, zp, zq, zr, zs, zt, zu, zv, zw, zx, zy, zz, ua, ub, uc, ud, ue, uf, ug, uh, ui, uj, uk, ul, um, List.nil_append, List.cons_append, e1, e2, Bool.not_true, Bool.not_false]
            rw [eq_pos k6, eq_neg k16, rounds_s]
            generalize rounds _ n = self
            simp only [St28b3, ya, yb, yc, yd, ye, yf, yg, yh, yi, yj, yk, yl, ym, yn, yo, yp, yq, yr, yt, yu, yv, yw, yx, yy, yz, za, zb, zc, zd, get0, getS, ze, zf, zg, zh, zi, zj, zk, zl, zm, zn, zo, zp, zq, zr, zs, zt, zu, zv, zw, zx, zy, zz, ua, ub, uc, ud, ue, uf, ug, uh, ui, uj, uk, ul, um, List.nil_append, List.cons_append, l0]
            rw [lt_neg (by decide)]
          | false =>
            rw [hou] at e2
            rw [if_neg (by decide)]
            have hlo : ((out ++ [PV.str t]).length : Int) ≤ 16777216 := by simp; omega
            simp only [St28, exV, ya, yb, yc, yd, ye, yf, yg, yh, yi, yj, yk, yl, ym, yn, yo, yp, yq, yr, yt, yu, yv, yw, yx, yy, yz, za, zb, zc, zd, get0, getS, ze, zf, zg, zh, zi, zj, zk, zl, zm, zn, zo, zp, zq, zr, zs, zt, zu, zv, zw, zx, zy, zz, ua, ub, uc, ud, ue, uf, ug, uh, ui, uj, uk, ul, um, List.nil_append, List.cons_append, e1, e2, Bool.not_true, Bool.not_false]
            rw [eq_pos k6, le_pos hlo, eq_neg k16, rounds_s]
            generalize rounds _ n = self
            simp only [St28b1, ya, yb, yc, yd, ye, yf, yg, yh, yi, yj, yk, yl, ym, yn, yo, yp, yq, yr, yt, yu, yv, yw, yx, yy, yz, za, zb, zc, zd, get0, getS, ze, zf, zg, zh, zi, zj, zk, zl, zm, zn, zo, zp, zq, zr, zs, zt, zu, zv, zw, zx, zy, zz, ua, ub, uc, ud, ue, uf, ug, uh, ui, uj, uk, ul, um, List.nil_append, List.cons_append, l0]
            rw [lt_neg (by decide)]
      · rw [if_neg (fun h => k6 h.1)]
        simp only [St28, exV, ya, yb, yc, yd, ye, yf, yg, yh, yi, yj, yk, yl, ym, yn, yo, yp, yq, yr, yt, yu, yv, yw, yx, yy, yz, za, zb, zc, zd, get0, getS, ze, zf, zg, zh, zi, zj, zk, zl, zm, zn, zo, zp, zq, zr, zs, zt, zu, zv, zw, zx, zy, zz, ua, ub, uc, ud, ue, uf, ug, uh, ui, uj, uk, ul, um, List.nil_append, List.cons_append]
        rw [eq_neg k6, eq_neg k16]
        refine kidsLoop (F := fun self v => St28b7.dn (n + 1) (R n) [self] [.agg [.agg [.int .i64 k, .str t, .list 1 false ns, .list 4 true ks], .list 1 false bound, .agg [.list 1 false out]], v]) (f := fun o x => readsP d x bound o) (N := NN d) (LIM := 10000000) (by omega) (hlen _) (fun self o => ?_) (fun self j o hj ho' => ?_) out (by omega)
        · simp only [St28b7, ya, yb, yc, yd, ye, yf, yg, yh, yi, yj, yk, yl, ym, yn, yo, yp, yq, yr, yt, yu, yv, yw, yx, yy, yz, za, zb, zc, zd, get0, getS, ze, zf, zg, zh, zi, zj, zk, zl, zm, zn, zo, zp, zq, zr, zs, zt, zu, zv, zw, zx, zy, zz, ua, ub, uc, ud, ue, uf, ug, uh, ui, uj, uk, ul, um, List.nil_append, List.cons_append]
          rw [lt_neg (by omega)]
        · have hx := hk _ (getD_mem (.bool false) hj)
          have e := ih _ bound o n hx.1 hx.2 (by omega) (by omega) ho' (by omega)
          simp (disch := omega) only [St28b7, ya, yb, yc, yd, ye, yf, yg, yh, yi, yj, yk, yl, ym, yn, yo, yp, yq, yr, yt, yu, yv, yw, yx, yy, yz, za, zb, zc, zd, get0, getS, ze, zf, zg, zh, zi, zj, zk, zl, zm, zn, zo, zp, zq, zr, zs, zt, zu, zv, zw, zx, zy, zz, ua, ub, uc, ud, ue, uf, ug, uh, ui, uj, uk, ul, um, List.nil_append, List.cons_append, Int.toNat_natCast, wS, hx.1.eta, e]
          rw [lt_pos (by omega), le_pos (by omega)]
end Go.Dv

/- The law on names behind folding: its tree returns true. -/
set_option linter.unusedVariables false
set_option linter.unusedSimpArgs false
namespace Go.Dv

/-- A name is read. -/
def Rd : Nat → PV → List PV → List UInt8 → Prop
  | 0, _, _, _ => False
  | d + 1, v, bound, s => (v.ek = 6 ∧ v.et = s ∧ anyS bound s = false) ∨ ∃ x ∈ v.ec, Rd d x (if v.ek = 16 then bound ++ v.en else bound) s
theorem anyS_iff (l : List PV) (s : List UInt8) : anyS l s = true ↔ ∃ x ∈ l, x.s = s := by
  unfold anyS
  rw [List.any_eq_true]
  constructor
  · rintro ⟨x, hx, h⟩; exact ⟨x, hx, by simpa using h⟩
  · rintro ⟨x, hx, h⟩; exact ⟨x, hx, by simpa using h⟩
theorem see_iff (out : List PV) (t s : List UInt8) : anyS (seeP out t) s = true ↔ anyS out s = true ∨ t = s := by
  unfold seeP
  split
  · rename_i h
    constructor
    · exact .inl
    · rintro (h1 | rfl)
      · exact h1
      · exact h
  · rw [anyS_iff, anyS_iff]
    constructor
    · rintro ⟨x, hx, e⟩
      rcases List.mem_append.1 hx with hx | hx
      · exact .inl ⟨x, hx, e⟩
      · rw [List.mem_singleton] at hx
        subst hx
        exact .inr e
    · rintro (⟨x, hx, e⟩ | rfl)
      · exact ⟨x, List.mem_append_left _ hx, e⟩
      · exact ⟨.str t, by simp, rfl⟩
theorem foldl_iff {f : List PV → PV → List PV} {Q : PV → Prop} {s : List UInt8} : ∀ (ks : List PV) (o : List PV), (∀ x ∈ ks, ∀ o, anyS (f o x) s = true ↔ anyS o s = true ∨ Q x) → (anyS (ks.foldl f o) s = true ↔ anyS o s = true ∨ ∃ x ∈ ks, Q x)
  | [], o, h => by simp
  | x :: ks, o, h => by
    rw [List.foldl_cons, foldl_iff ks (f o x) (fun y hy => h y (List.mem_cons_of_mem _ hy)), h x List.mem_cons_self o]
    constructor
    · rintro ((h1 | h1) | ⟨y, hy, h1⟩)
      · exact .inl h1
      · exact .inr ⟨x, List.mem_cons_self, h1⟩
      · exact .inr ⟨y, List.mem_cons_of_mem _ hy, h1⟩
    · rintro (h1 | ⟨y, hy, h1⟩)
      · exact .inl (.inl h1)
      · rcases List.mem_cons.1 hy with rfl | hy
        · exact .inl (.inr h1)
        · exact .inr ⟨y, hy, h1⟩
theorem reads_iff : ∀ (d : Nat) (v : PV) (bound out : List PV) (s : List UInt8), anyS (readsP d v bound out) s = true ↔ anyS out s = true ∨ Rd d v bound s
  | 0, v, bound, out, s => by simp [readsP, Rd]
  | d + 1, v, bound, out, s => by
    rw [readsP, Rd, foldl_iff (Q := fun x => Rd d x (if v.ek = 16 then bound ++ v.en else bound) s) _ _ (fun x _ o => reads_iff d x _ o s)]
    split
    · rename_i h
      rw [see_iff]
      constructor
      · rintro ((h1 | rfl) | h1)
        · exact .inl h1
        · exact .inr (.inl ⟨h.1, rfl, h.2⟩)
        · exact .inr (.inr h1)
      · rintro (h1 | ⟨h1, h2, h3⟩ | h1)
        · exact .inl (.inl h1)
        · exact .inl (.inr h2)
        · exact .inr h1
    · rename_i h
      constructor
      · rintro (h1 | h1)
        · exact .inl h1
        · exact .inr (.inr h1)
      · rintro (h1 | ⟨h1, h2, h3⟩ | h1)
        · exact .inl h1
        · exact absurd ⟨h1, by rw [h2]; exact h3⟩ h
        · exact .inr h1
def AllStr (l : List PV) : Prop := ∀ x ∈ l, ∃ s, x = PV.str s
theorem reads_strs : ∀ (d : Nat) (v : PV) (bound out : List PV), AllStr out → AllStr (readsP d v bound out)
  | 0, v, bound, out, h => h
  | d + 1, v, bound, out, h => by
    rw [readsP]
    have h0 : AllStr (if v.ek = 6 ∧ anyS bound v.et = false then seeP out v.et else out) := by
      split
      · unfold seeP
        split
        · exact h
        · intro x hx
          rcases List.mem_append.1 hx with hx | hx
          · exact h x hx
          · rw [List.mem_singleton] at hx
            exact ⟨_, hx⟩
      · exact h
    have : ∀ (ks : List PV) (o : List PV), AllStr o → AllStr (ks.foldl (fun o x => readsP d x (if v.ek = 16 then bound ++ v.en else bound) o) o) := by
      intro ks
      induction ks with
      | nil => intro o ho; exact ho
      | cons x ks ih => intro o ho; exact ih _ (reads_strs d x _ o ho)
    exact this _ _ h0
theorem Rd_up : ∀ {d : Nat} {v : PV} {b : List PV} {s : List UInt8}, WF d v → Rd (d + 1) v b s → Rd d v b s
  | 0, _, _, _, h, _ => h.elim
  | d + 1, v, b, s, h, hr => by
    obtain ⟨k, t, ns, ks, rfl, h1, h2, h3, h4, h5⟩ := h
    rw [Rd] at hr ⊢
    rcases hr with h | ⟨x, hx, h⟩
    · exact .inl h
    · exact .inr ⟨x, hx, Rd_up (h5 x hx) h⟩
theorem NF_Rd {v : PV} (h : NF v) (d : Nat) (b : List PV) (s : List UInt8) : ¬ Rd d v b s := by
  have leaf : ∀ (d : Nat) (k : Int) (t : List UInt8), k ≠ 6 → ¬ Rd d (exV k t [] []) b s := by
    intro d k t hk h
    cases d with
    | zero => exact h
    | succ d =>
      rw [Rd] at h
      rcases h with h | ⟨x, hx, _⟩
      · exact hk h.1
      · cases hx
  cases h with
  | bool q => cases q <;> exact leaf _ _ _ (by decide)
  | int z h =>
    unfold intE
    split
    · intro h
      cases d with
      | zero => exact h
      | succ d =>
        rw [Rd] at h
        rcases h with h | ⟨x, hx, h⟩
        · exact absurd h.1 (show ¬ (9 : Int) = 6 by decide)
        · rw [ex_c, List.mem_singleton] at hx
          subst hx
          have e : (if (exV 9 [45] [] [exV 4 (digT z.natAbs) [] []]).ek = 16 then b ++ (exV 9 [45] [] [exV 4 (digT z.natAbs) [] []]).en else b) = b := rfl
          rw [e] at h
          exact leaf _ _ _ (by decide) h
    · exact leaf _ _ _ (by decide)
  | text s' h => exact leaf _ _ _ (by decide)
/-- Folding reads no other names. -/
theorem fold_Rd : ∀ {d : Nat} {v : PV} {b : List PV} {s : List UInt8}, WF d v → valid d v = true → Rd d (fold d v) b s → Rd d v b s
  | 0, _, _, _, h, _, _ => h.elim
  | d + 1, v, b, s, hw, hv, hr => by
    obtain ⟨k, t, ns, ks, rfl, hp, hk, -, -, -⟩ := valid_wf hw hv
    simp only [Nat.add_sub_cancel] at hk
    rw [fold_ex] at hr
    have hlen : (ks.map (fold d)).length = ks.length := List.length_map ..
    have hfk : ∀ y ∈ ks.map (fold d), valid d y = true := by
      intro y hy
      obtain ⟨x, hx, rfl⟩ := List.mem_map.1 hy
      exact (fold_ok (hk x hx).1 (hk x hx).2).2.1
    have hp' : plainB k t ns (ks.map (fold d)).length = true := by rw [hlen]; exact hp
    have same : post k t ns (ks.map (fold d)) = exV k t ns (ks.map (fold d)) → Rd (d + 1) (exV k t ns ks) b s := by
      intro e
      rw [e, Rd] at hr
      rw [Rd]
      rcases hr with h | ⟨y, hy, h⟩
      · exact .inl h
      · obtain ⟨x, hx, rfl⟩ := List.mem_map.1 hy
        exact .inr ⟨x, hx, fold_Rd (hk x hx).1 (hk x hx).2 h⟩
    rcases post_cases hp' hfk with e | e | ⟨-, e⟩
    · exact same e
    · by_cases k16 : k = 16
      · refine same ?_
        unfold post
        rw [if_neg (by omega), if_neg (by omega), if_neg (by omega), if_neg (by omega)]
      · obtain ⟨x, hx, hx2⟩ := List.mem_map.1 e
        rw [← hx2] at hr
        have h1 := Rd_up (fold_ok (hk x hx).1 (hk x hx).2).1 hr
        rw [Rd]
        refine .inr ⟨x, hx, ?_⟩
        have e : (if (exV k t ns ks).ek = 16 then b ++ (exV k t ns ks).en else b) = b := if_neg k16
        rw [e]
        exact fold_Rd (hk x hx).1 (hk x hx).2 h1
    · exact absurd hr (NF_Rd e _ _ _)

/-! The functions. -/
def zeroE : PV := exV 0 [] [] []
theorem zero_wf (d : Nat) : WF (d + 1) zeroE := ⟨0, [], [], [], rfl, by simp, by simp, by simp, by simp, by simp⟩
theorem zero_bad (d : Nat) : valid d zeroE = false := by cases d <;> rfl
theorem wf_of_valid : ∀ {d D : Nat} {v : PV}, WF D v → valid d v = true → WF d v
  | 0, _, _, _, h => by simp [valid] at h
  | d + 1, 0, _, h, _ => h.elim
  | d + 1, D + 1, v, h, hv => by
    obtain ⟨k, t, ns, ks, rfl, h1, h2, h3, h4, h5⟩ := h
    exact ⟨k, t, ns, ks, rfl, h1, h2, h3, h4, fun x hx => wf_of_valid (h5 x hx) ((valid_parts hv).2 x hx)⟩
def foldX (v : PV) : PV := if valid 7 v = true then fold 7 v else zeroE
theorem foldX_wf {v : PV} (h : WF 8 v) : WF 7 (foldX v) := by
  unfold foldX
  split
  · rename_i hv; exact (fold_ok (wf_of_valid h hv) hv).1
  · exact zero_wf 6
theorem foldX_valid {v : PV} (h : WF 8 v) : valid 7 (foldX v) = valid 7 v := by
  unfold foldX
  split
  · rename_i hv; rw [(fold_ok (wf_of_valid h hv) hv).2.1, hv]
  · rename_i hv; rw [zero_bad]; simpa using hv
theorem w8x {m : Nat} (hm : 900 ≤ m) {v : PV} (h : WF 8 v) : R m 8 (.agg [v]) = some (.agg [foldX v]) := by
  obtain ⟨n, rfl⟩ : ∃ n, m = n + 1 := ⟨m - 1, by omega⟩
  have e1 := w15 (m := n) (d := 8) (by omega) h (by omega)
  have hv := h.eta
  rw [R_succ n 8 _ rfl]
  unfold foldX
  cases hval : valid 7 v with
  | false =>
    rw [hval] at e1
    simp only [bb] at e1
    simp only [St8, ya, yb, yc, yd, ye, yf, yg, yh, yi, yj, yk, yl, ym, yn, yo, yp, yq, yr, yt, yu, yv, yw, yx, yy, yz, za, zb, zc, zd, get0, getS, ze, zf, zg, zh, zi, zj, zk, zl, zm, zn, zo, zp, zq, zr, zs, zt, zu, zv, zw, zx, zy, zz, ua, ub, uc, ud, ue, uf, ug, uh, ui, uj, uk, ul, um, List.nil_append, List.cons_append, hv, e1, Bool.not_false]
    rfl
  | true =>
    rw [hval] at e1
    simp only [bb] at e1
    have h7 := wf_of_valid h hval
    obtain ⟨f1, f2, -⟩ := fold_ok h7 hval
    have e3 := w22 7 v n (by omega) h7 hval (by omega)
    have hf := f1.eta
    simp only [St8, ya, yb, yc, yd, ye, yf, yg, yh, yi, yj, yk, yl, ym, yn, yo, yp, yq, yr, yt, yu, yv, yw, yx, yy, yz, za, zb, zc, zd, get0, getS, ze, zf, zg, zh, zi, zj, zk, zl, zm, zn, zo, zp, zq, zr, zs, zt, zu, zv, zw, zx, zy, zz, ua, ub, uc, ud, ue, uf, ug, uh, ui, uj, uk, ul, um, List.nil_append, List.cons_append, hv, e1, e3, hf, Bool.not_true]
    rfl
theorem w12 {m : Nat} (hm : 900 ≤ m) {v : PV} (h : WF 8 v) : R m 12 (.agg [v]) = some (.agg [foldX v]) := by
  obtain ⟨n, rfl⟩ : ∃ n, m = n + 1 := ⟨m - 1, by omega⟩
  have e1 := w23 7 8 v n (by omega) (by omega) h (by omega)
  have e7 : ((7 : Nat) : Int) = 7 := rfl
  rw [e7] at e1
  have hv := h.eta
  rw [R_succ n 12 _ rfl]
  unfold foldX
  cases hval : valid 7 v with
  | false =>
    rw [hval] at e1
    simp only [bb] at e1
    simp only [St12, ya, yb, yc, yd, ye, yf, yg, yh, yi, yj, yk, yl, ym, yn, yo, yp, yq, yr, yt, yu, yv, yw, yx, yy, yz, za, zb, zc, zd, get0, getS, ze, zf, zg, zh, zi, zj, zk, zl, zm, zn, zo, zp, zq, zr, zs, zt, zu, zv, zw, zx, zy, zz, ua, ub, uc, ud, ue, uf, ug, uh, ui, uj, uk, ul, um, List.nil_append, List.cons_append, hv, e1, Bool.not_false]
    rfl
  | true =>
    rw [hval] at e1
    simp only [bb] at e1
    have h7 := wf_of_valid h hval
    obtain ⟨f1, f2, -⟩ := fold_ok h7 hval
    have e3 := w26 7 v n (by omega) h7 hval (by omega)
    have hf := f1.eta
    simp only [St12, ya, yb, yc, yd, ye, yf, yg, yh, yi, yj, yk, yl, ym, yn, yo, yp, yq, yr, yt, yu, yv, yw, yx, yy, yz, za, zb, zc, zd, get0, getS, ze, zf, zg, zh, zi, zj, zk, zl, zm, zn, zo, zp, zq, zr, zs, zt, zu, zv, zw, zx, zy, zz, ua, ub, uc, ud, ue, uf, ug, uh, ui, uj, uk, ul, um, List.nil_append, List.cons_append, hv, e1, e3, hf, Bool.not_true]
    rfl
def namesX (v : PV) : List PV := if valid 7 v = true then readsP 7 v [] [] else []
theorem w13 {m : Nat} (hm : 10000200 ≤ m) {v : PV} (h : WF 8 v) : R m 13 (.agg [v]) = some (.agg [.list 1 false (namesX v)]) := by
  obtain ⟨n, rfl⟩ : ∃ n, m = n + 1 := ⟨m - 1, by omega⟩
  have e1 := w15 (m := n) (d := 8) (by omega) h (by omega)
  have hv := h.eta
  rw [R_succ n 13 _ rfl]
  unfold namesX
  cases hval : valid 7 v with
  | false =>
    rw [hval] at e1
    simp only [bb] at e1
    simp only [St13, ya, yb, yc, yd, ye, yf, yg, yh, yi, yj, yk, yl, ym, yn, yo, yp, yq, yr, yt, yu, yv, yw, yx, yy, yz, za, zb, zc, zd, get0, getS, ze, zf, zg, zh, zi, zj, zk, zl, zm, zn, zo, zp, zq, zr, zs, zt, zu, zv, zw, zx, zy, zz, ua, ub, uc, ud, ue, uf, ug, uh, ui, uj, uk, ul, um, List.nil_append, List.cons_append, hv, e1, Bool.not_false]
    rfl
  | true =>
    rw [hval] at e1
    simp only [bb] at e1
    have h7 := wf_of_valid h hval
    have hN : NN 7 = 3257437 := rfl
    have e2 := w28 7 v [] [] n h7 hval (by omega) (by simp) (by rw [hN]; simp) (by omega)
    simp only [St13, ya, yb, yc, yd, ye, yf, yg, yh, yi, yj, yk, yl, ym, yn, yo, yp, yq, yr, yt, yu, yv, yw, yx, yy, yz, za, zb, zc, zd, get0, getS, ze, zf, zg, zh, zi, zj, zk, zl, zm, zn, zo, zp, zq, zr, zs, zt, zu, zv, zw, zx, zy, zz, ua, ub, uc, ud, ue, uf, ug, uh, ui, uj, uk, ul, um, List.nil_append, List.cons_append, hv, e1, e2, Bool.not_true]
    rfl
theorem d19 {l : List UInt8} (hl : l.length ≤ 4000) (m : Nat) (hm : 90 ≤ m) (i : Int) (i0 : 0 ≤ i) (i1 : i ≤ 100) (d : Nat) (hd1 : 1 ≤ d) (hd8 : d ≤ 8) : ∃ v j, R m 19 (.agg [.agg [bl l, .int .i64 i], .int .i64 d]) = some (.agg [v, .agg [bl l, .int .i64 j]]) ∧ WF 8 v := by
  obtain ⟨n, rfl⟩ : ∃ n, m = n + 1 := ⟨m - 1, by omega⟩
  have hb := BBle hd8
  obtain ⟨v, j2, e2, w2, p2, q2⟩ := d33 hl d hd1 hd8 n (by omega) i i0 (by omega)
  obtain ⟨s, j3, e3, l3, p3, q3⟩ := d38 (m := n) (by omega) l j2 hl (by omega) (by omega)
  obtain ⟨u, e4, w4⟩ := d37 d v s n l3 w2 (by omega)
  have hv := w2.eta
  have hu := w4.eta
  rw [R_succ n 19 _ rfl]
  simp only [St19, ya, yb, yc, yd, ye, yf, yg, yh, yi, yj, yk, yl, ym, yn, yo, yp, yq, yr, yt, yu, yv, yw, yx, yy, yz, za, zb, zc, zd, get0, getS, ze, zf, zg, zh, zi, zj, zk, zl, zm, zn, zo, zp, zq, zr, zs, zt, zu, zv, zw, zx, zy, zz, ua, ub, uc, ud, ue, uf, ug, uh, ui, uj, uk, ul, um, List.nil_append, List.cons_append, e2, e3, hv, e4, hu]
  exact ⟨u, j3, rfl, WFN.le (w4.mono (by omega)) hd8⟩
theorem d10 (m : Nat) (hm : 100 ≤ m) (l : List UInt8) (hl : l.length ≤ 100000000) : ∃ v, R m 10 (.agg [bl l]) = some (.agg [v]) ∧ WF 8 v := by
  obtain ⟨n, rfl⟩ : ∃ n, m = n + 1 := ⟨m - 1, by omega⟩
  have e0 := f48 (m := n) (by omega) l hl
  have hl' : (l.take 4000).length ≤ 4000 := by rw [List.length_take]; omega
  simp only [rndV] at e0
  generalize l.take 4000 = c at e0 hl'
  obtain ⟨x1, j1, e1, -, -, p1, q1⟩ := dPick (m := n) (by omega) c 0 3 hl' (by omega) (by omega) (by omega) (by omega)
  rw [R_succ n 10 _ rfl]
  by_cases h : x1 = 0
  · obtain ⟨v, j2, e2, w2⟩ := d18 hl' n (by omega) j1 (by omega) (by omega)
    have hv := w2.eta
    simp only [St10, ya, yb, yc, yd, ye, yf, yg, yh, yi, yj, yk, yl, ym, yn, yo, yp, yq, yr, yt, yu, yv, yw, yx, yy, yz, za, zb, zc, zd, get0, getS, ze, zf, zg, zh, zi, zj, zk, zl, zm, zn, zo, zp, zq, zr, zs, zt, zu, zv, zw, zx, zy, zz, ua, ub, uc, ud, ue, uf, ug, uh, ui, uj, uk, ul, um, List.nil_append, List.cons_append, e0, e1, e2, hv]
    rw [eq_pos h]
    exact ⟨v, rfl, w2⟩
  · obtain ⟨y, j2, e2, hy, p2, q2⟩ := f50 (m := n) (by omega) 20 (.inr rfl) false c j1 [.int .i64 2, .int .i64 3, .int .i64 4, .int .i64 5] hl' (by omega) (by omega) (by simp) (by simp)
    obtain ⟨d, rfl, hd1, hd8⟩ : ∃ d : Nat, y = .int .i64 d ∧ 1 ≤ d ∧ d ≤ 8 := by
      simp at hy
      rcases hy with h | h | h | h
      · exact ⟨2, h, by omega, by omega⟩
      · exact ⟨3, h, by omega, by omega⟩
      · exact ⟨4, h, by omega, by omega⟩
      · exact ⟨5, h, by omega, by omega⟩
    obtain ⟨v, j3, e3, w3⟩ := d19 hl' n (by omega) j2 (by omega) (by omega) d hd1 hd8
    have hv := w3.eta
    simp only [rndV] at e2
    simp only [St10, ya, yb, yc, yd, ye, yf, yg, yh, yi, yj, yk, yl, ym, yn, yo, yp, yq, yr, yt, yu, yv, yw, yx, yy, yz, za, zb, zc, zd, get0, getS, ze, zf, zg, zh, zi, zj, zk, zl, zm, zn, zo, zp, zq, zr, zs, zt, zu, zv, zw, zx, zy, zz, ua, ub, uc, ud, ue, uf, ug, uh, ui, uj, uk, ul, um, List.nil_append, List.cons_append, e0, e1, e2, e3, hv]
    rw [eq_neg h]
    exact ⟨v, rfl, w3⟩
theorem names_in {v : PV} (h : WF 8 v) : ∀ x ∈ namesX (foldX v), ∃ s, x = .str s ∧ anyS (namesX v) s = true := by
  intro x hx
  unfold namesX at hx ⊢
  rw [foldX_valid h] at hx
  by_cases hval : valid 7 v = true
  · rw [if_pos hval] at hx ⊢
    have h7 := wf_of_valid h hval
    obtain ⟨s, rfl⟩ := reads_strs 7 (foldX v) [] [] (fun x h => by cases h) x hx
    refine ⟨s, rfl, ?_⟩
    have hs : anyS (readsP 7 (foldX v) [] []) s = true := (anyS_iff _ _).2 ⟨_, hx, rfl⟩
    rw [reads_iff] at hs ⊢
    rcases hs with hs | hs
    · cases hs
    · have e : foldX v = fold 7 v := if_pos hval
      rw [e] at hs
      exact .inr (fold_Rd h7 hval hs)
  · rw [if_neg hval] at hx
    cases hx
theorem names_len {v : PV} (h : WF 8 v) : (namesX v).length ≤ 4000000 := by
  unfold namesX
  split
  · rename_i hval
    have := readsP_len 7 v [] [] (wf_of_valid h hval) hval
    have hN : NN 7 = 3257437 := rfl
    rw [hN] at this
    simp at this
    omega
  · simp
theorem law_true (l : List UInt8) : R 20000000 4 (.agg [bl l]) = some (.agg [.bool true]) := by
  obtain ⟨M, hM⟩ : ∃ M, M = 19999999 := ⟨_, rfl⟩
  have hM1 : (20000000 : Nat) = M + 1 := by omega
  rw [hM1, R_succ M 4 _ rfl]
  by_cases hbig : (1048576 : Int) < l.length
  · simp only [St4, ya, yb, yc, yd, ye, yf, yg, yh, yi, yj, yk, yl, ym, yn, yo, yp, yq, yr, yt, yu, yv, yw, yx, yy, yz, za, zb, zc, zd, get0, getS, ze, zf, zg, zh, zi, zj, zk, zl, zm, zn, zo, zp, zq, zr, zs, zt, zu, zv, zw, zx, zy, zz, ua, ub, uc, ud, ue, uf, ug, uh, ui, uj, uk, ul, um, List.nil_append, List.cons_append, ob_len]
    rw [lt_pos hbig]
  · obtain ⟨v, e0, h⟩ := d10 M (by omega) l (by omega)
    have hv := h.eta
    have hx7 := foldX_wf h
    have hx := hx7.eta
    have e1 := w8x (m := M) (by omega) h
    have e2 := w12 (m := M) (by omega) h
    have e3 := w11 (m := M) (d := 7) (by omega) hx7 (by omega)
    have e4 := w13 (m := M) (by omega) h
    have e5 := w13 (m := M) (by omega) hx7.up
    have e6 := w15 (m := M) (d := 8) (by omega) h (by omega)
    have e7 := w15 (m := M) (d := 7) (by omega) hx7 (by omega)
    rw [foldX_valid h] at e7
    simp only [bb] at e6 e7
    have hin := names_in h
    have hl1 := names_len h
    have hl2 := names_len hx7.up
    generalize foldX v = x at *
    generalize namesX v = ns at *
    generalize namesX x = now at *
    simp only [St4, ya, yb, yc, yd, ye, yf, yg, yh, yi, yj, yk, yl, ym, yn, yo, yp, yq, yr, yt, yu, yv, yw, yx, yy, yz, za, zb, zc, zd, get0, getS, ze, zf, zg, zh, zi, zj, zk, zl, zm, zn, zo, zp, zq, zr, zs, zt, zu, zv, zw, zx, zy, zz, ua, ub, uc, ud, ue, uf, ug, uh, ui, uj, uk, ul, um, List.nil_append, List.cons_append, ob_len, e0, hv, hx, e1, e2, e3, e4, e5, Bool.not_true]
    rw [lt_neg hbig]
    refine iter_loop (N := now.length) (fun j => .agg [.int .i64 j]) (by omega) (fun self => ?_) (fun self j hj => ?_)
    · simp only [St4b0, ya, yb, yc, yd, ye, yf, yg, yh, yi, yj, yk, yl, ym, yn, yo, yp, yq, yr, yt, yu, yv, yw, yx, yy, yz, za, zb, zc, zd, get0, getS, ze, zf, zg, zh, zi, zj, zk, zl, zm, zn, zo, zp, zq, zr, zs, zt, zu, zv, zw, zx, zy, zz, ua, ub, uc, ud, ue, uf, ug, uh, ui, uj, uk, ul, um, List.nil_append, List.cons_append, hv, hx, e6, e7]
      rw [lt_neg (by omega)]
      simp
    · obtain ⟨s, hs, hs2⟩ := hin _ (getD_mem (.bool false) hj)
      have e8 := w14 (m := M) ns s (by omega) (by omega)
      rw [hs2] at e8
      simp (disch := omega) only [St4b0, ya, yb, yc, yd, ye, yf, yg, yh, yi, yj, yk, yl, ym, yn, yo, yp, yq, yr, yt, yu, yv, yw, yx, yy, yz, za, zb, zc, zd, get0, getS, ze, zf, zg, zh, zi, zj, zk, zl, zm, zn, zo, zp, zq, zr, zs, zt, zu, zv, zw, zx, zy, zz, ua, ub, uc, ud, ue, uf, ug, uh, ui, uj, uk, ul, um, List.nil_append, List.cons_append, Int.toNat_natCast, wS, hs, e8, Bool.not_true]
      rw [lt_pos (by omega), le_pos (by omega)]
end Go.Dv
