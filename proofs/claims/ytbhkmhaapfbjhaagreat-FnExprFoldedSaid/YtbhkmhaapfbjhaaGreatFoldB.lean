/- Operations of two integers: powers, and all of them by value. -/
import Derived.Test.YtbhkmhaapfbjhaaGreatFoldA

set_option linter.unusedVariables false
set_option linter.unusedSimpArgs false
namespace Go.Dv

theorem pow_split (x : Int) (a : Nat) : ∀ b : Nat, x ^ (a + b) = x ^ a * x ^ b
  | 0 => by simp
  | b + 1 => by rw [← Nat.add_assoc, Int.pow_succ, pow_split x a b, Int.pow_succ, Int.mul_assoc]
theorem pow_bad3 {x : Int} {j n : Nat} (h : fits40 (x ^ j) = false) (h0 : 1 ≤ j) (hj : j ≤ n) : fits40 (x ^ n) = false := by
  obtain ⟨b, rfl⟩ : ∃ b, n = j + b := ⟨n - j, by omega⟩
  have hne := fits_ne h
  have hx : x ≠ 0 := by
    rintro rfl
    obtain ⟨i, rfl⟩ : ∃ i, j = i + 1 := ⟨j - 1, by omega⟩
    rw [Int.pow_succ, Int.mul_zero] at hne
    exact hne rfl
  rw [pow_split]
  exact fits_mul_false (pow_ne hx b) h
theorem textZ_neg (z : Int) : negL (textZ z) = decide (z < 0) := by
  unfold textZ
  by_cases hz : z < 0
  · rw [if_pos hz, decide_eq_true hz]; rfl
  · rw [if_neg hz, decide_eq_false hz, List.nil_append, digT_neg]
theorem textZ_body (z : Int) : bodyL (textZ z) = digT z.natAbs := by
  unfold bodyL
  rw [textZ_neg]
  unfold textZ
  by_cases hz : z < 0
  · rw [if_pos hz, decide_eq_true hz]; rfl
  · rw [if_neg hz, decide_eq_false hz, List.nil_append]; rfl
theorem Z_textZ (z : Int) : Z (textZ z) = z := by
  unfold Z
  rw [textZ_neg, textZ_body, (digT_ok z.natAbs).2.1]
  unfold sg
  by_cases hz : z < 0
  · rw [decide_eq_true hz, if_pos rfl]; omega
  · rw [decide_eq_false hz, if_neg (by decide)]; omega
theorem textZ_int {z : Int} (h : fits40 z = true) : isIntL (textZ z) = true := by
  have hd := digT_int (n := z.natAbs) (fits_Sm h)
  have := isInt_parts hd
  rw [digT_bodyL] at this
  unfold isIntL
  rw [textZ_body, textZ_neg]
  rw [decide_eq_true this.1, decide_eq_true this.2.1, this.2.2.1]
  by_cases h48 : (digT z.natAbs).getD 0 0 = 48
  · have hl := (this.2.2.2 h48).1
    have hz : ¬ z < 0 := by
      intro hz
      have e : digT z.natAbs = [48] := by
        cases hd : digT z.natAbs with
        | nil => rw [hd] at hl; simp at hl
        | cons c l =>
          rw [hd] at hl h48
          have : l = [] := List.length_eq_zero_iff.1 (by simpa using hl)
          subst this
          have : c = 48 := h48
          rw [this]
      have := digT_Z z.natAbs
      rw [e] at this
      have e0 : Z [48] = 0 := rfl
      omega
    rw [decide_eq_true h48, decide_eq_false hz, decide_eq_false (by omega)]
    rfl
  · rw [decide_eq_false h48]
    rfl

theorem num1 : PV.list 1 false [.int .i64 1] = dl [1] := rfl
theorem numV_eta (z : Int) : PV.agg [(O1.fld 0).dn (numV z), (O1.fld 1).dn (numV z)] = numV z := rfl
theorem w100 {m : Nat} (hm : 300 ≤ m) (a : List UInt8) (ha : isIntL a = true) (x : Nat) (hx : x ≤ 200) : R m 100 (.agg [.str a, .int .i64 x]) = some (fitV (Z a ^ x)) := by
  obtain ⟨n, rfl⟩ : ∃ n, m = n + 1 := ⟨m - 1, by omega⟩
  have e := f77 (m := n) (by omega) a
  rw [if_pos ha, numP_Z ha] at e
  rw [R_succ n 100 _ rfl]
  simp only [St100, ya, yb, yc, yd, ye, yf, yg, yh, yi, yj, yk, yl, ym, yn, yo, yp, yq, yr, yt, yu, yv, yw, yx, yy, yz, za, zb, zc, zd, get0, getS, ze, zf, zg, zh, zi, zj, zk, zl, zm, zn, zo, zp, zq, zr, zs, zt, zu, zv, zw, zx, zy, zz, ua, ub, uc, ud, ue, uf, ug, uh, ui, uj, uk, ul, um, List.nil_append, List.cons_append, e]
  rw [lt_neg (by omega), lt_neg (by omega)]
  have : ∀ (d j : Nat), j + d = x → fits40 (Z a ^ j) = true → ∀ k, d < k → rounds (fun self v => St100b0.dn (n + 1) (R n) [self] [.agg [.str a, .int .i64 x], .agg [numV (Z a), .bool true], v]) k (.agg [.int .i64 j, .bool (decide (Z a ^ j < 0)), dl (canon (Z a ^ j).natAbs)]) = some (fitV (Z a ^ x)) := by
    intro d
    induction d with
    | zero =>
      intro j hj hf k hk
      obtain ⟨k, rfl⟩ : ∃ n, k = n + 1 := ⟨k - 1, by omega⟩
      obtain rfl : j = x := by omega
      have e73 := f75' (m := n) (by omega) (Z a ^ j) ((fits_Sm hf).mono (by omega))
      rw [rounds_s]
      generalize rounds _ k = self
      have en : PV.agg [.bool (decide (Z a ^ j < 0)), dl (canon (Z a ^ j).natAbs)] = numV (Z a ^ j) := rfl
      simp only [St100b0, ya, yb, yc, yd, ye, yf, yg, yh, yi, yj, yk, yl, ym, yn, yo, yp, yq, yr, yt, yu, yv, yw, yx, yy, yz, za, zb, zc, zd, get0, getS, ze, zf, zg, zh, zi, zj, zk, zl, zm, zn, zo, zp, zq, zr, zs, zt, zu, zv, zw, zx, zy, zz, ua, ub, uc, ud, ue, uf, ug, uh, ui, uj, uk, ul, um, List.nil_append, List.cons_append, en, e73, fitV_eta]
      rw [lt_neg (by omega)]
    | succ d ih =>
      intro j hj hf k hk
      obtain ⟨k, rfl⟩ : ∃ n, k = n + 1 := ⟨k - 1, by omega⟩
      have e121 := f74 (m := n) (by omega) (Z a ^ j) (Z a) (fits_Sm hf) (Z_Sm ha)
      have ep : Z a ^ j * Z a = Z a ^ (j + 1) := (Int.pow_succ ..).symm
      rw [ep] at e121
      rw [rounds_s]
      have ih := fun hf => ih (j + 1) (by omega) hf k (by omega)
      generalize rounds _ k = self at ih ⊢
      have en : PV.agg [.bool (decide (Z a ^ j < 0)), dl (canon (Z a ^ j).natAbs)] = numV (Z a ^ j) := rfl
      have en2 : ∀ z, (O1.fld 1).dn (numV z) = dl (canon z.natAbs) := fun z => rfl
      have en3 : ∀ z, (O1.fld 0).dn (numV z) = .bool (decide (z < 0)) := fun z => rfl
      simp (disch := omega) only [St100b0, ya, yb, yc, yd, ye, yf, yg, yh, yi, yj, yk, yl, ym, yn, yo, yp, yq, yr, yt, yu, yv, yw, yx, yy, yz, za, zb, zc, zd, get0, getS, ze, zf, zg, zh, zi, zj, zk, zl, zm, zn, zo, zp, zq, zr, zs, zt, zu, zv, zw, zx, zy, zz, ua, ub, uc, ud, ue, uf, ug, uh, ui, uj, uk, ul, um, List.nil_append, List.cons_append, en, numV_eta, e121, wS]
      simp only [en2, en3, uo, ya, yb, yc, yd, ye, yf, yg, yh, yi, yj, yk, yl, ym, yn, yo, yp, yq, yr, yt, yu, yv, yw, yx, yy, yz, za, zb, zc, zd, get0, getS, ze, zf, zg, zh, zi, zj, zk, zl, zm, zn, zo, zp, zq, zr, zs, zt, zu, zv, zw, zx, zy, zz, ua, ub, uc, ud, ue, uf, ug, uh, ui, uj, uk, ul, um, List.nil_append, List.cons_append]
      rw [lt_pos (by omega)]
      by_cases hl : (40 : Int) < ((canon (Z a ^ (j + 1)).natAbs).length : Int)
      · rw [lt_pos hl, fit_false (pow_bad3 (j := j + 1) (by unfold fits40; rw [decide_eq_false_iff_not]; omega) (by omega) (by omega))]
      · rw [lt_neg hl]
        exact ih (by unfold fits40; rw [decide_eq_true_eq]; omega)
  have h0 : fits40 (Z a ^ 0) = true := by rw [Int.pow_zero]; decide
  have := this x 0 (by omega) h0 (n + 1) (by omega)
  rw [Int.pow_zero] at this
  exact this

/-! The fast power. -/
theorem w133 {m : Nat} (hm : 300 ≤ m) (A0 : Int) (hA0 : fits40 A0 = true) (x : Nat) (hx : x ≤ 200) : R m 133 (.agg [.str (textZ A0), .int .i64 x]) = some (fitV (A0 ^ x)) := by
  obtain ⟨n, rfl⟩ : ∃ n, m = n + 1 := ⟨m - 1, by omega⟩
  rw [R_succ n 133 _ rfl]
  simp only [St133, ya, yb, yc, yd, ye, yf, yg, yh, yi, yj, yk, yl, ym, yn, yo, yp, yq, yr, yt, yu, yv, yw, yx, yy, yz, za, zb, zc, zd, get0, getS, ze, zf, zg, zh, zi, zj, zk, zl, zm, zn, zo, zp, zq, zr, zs, zt, zu, zv, zw, zx, zy, zz, ua, ub, uc, ud, ue, uf, ug, uh, ui, uj, uk, ul, um, List.nil_append, List.cons_append]
  have hdig : ∀ z, fits40 z = true → ∀ n, 101 ≤ n → R n 114 (.agg [.str (textZ z)]) = some (digV z) := fun z hz n hn => f110T hn z ((fits_Sm hz).mono (by omega))
  have mul : ∀ A B, fits40 A = true → fits40 B = true → R n 131 (.agg [.str (textZ A), .str (textZ B)]) = some (fitV (A * B)) := fun A B hA hB => f76 (m := n) (by omega) (hdig A hA) (hdig B hB) (fits_Sm hA) (fits_Sm hB)
  have : ∀ (d : Nat) (y : Nat) (A O : Int), y < 2 ^ d → y ≤ 200 → fits40 A = true → fits40 O = true → (A = 0 ∨ O ≠ 0) → ∀ k, d < k → rounds (fun self v => St133b0.dn (n + 1) (R n) [self] [.agg [.str (textZ A0), .int .i64 x], v]) k (.agg [.str (textZ A), .int .i64 y, .str (textZ O)]) = some (fitV (O * A ^ y)) := by
    intro d
    induction d with
    | zero =>
      intro y A O hy _ hA hO _ k hk
      obtain ⟨k, rfl⟩ : ∃ n, k = n + 1 := ⟨k - 1, by omega⟩
      obtain rfl : y = 0 := by omega
      rw [rounds_s]
      generalize rounds _ k = self
      simp only [St133b0, ya, yb, yc, yd, ye, yf, yg, yh, yi, yj, yk, yl, ym, yn, yo, yp, yq, yr, yt, yu, yv, yw, yx, yy, yz, za, zb, zc, zd, get0, getS, ze, zf, zg, zh, zi, zj, zk, zl, zm, zn, zo, zp, zq, zr, zs, zt, zu, zv, zw, zx, zy, zz, ua, ub, uc, ud, ue, uf, ug, uh, ui, uj, uk, ul, um, List.nil_append, List.cons_append]
      rw [lt_neg (by omega), Int.pow_zero, Int.mul_one, fit_true hO]
    | succ d ih =>
      intro y A O hy hy2 hA hO h0 k hk
      obtain ⟨k, rfl⟩ : ∃ n, k = n + 1 := ⟨k - 1, by omega⟩
      rw [rounds_s]
      have ih := fun y A O h1 h2 h3 h4 h5 => ih y A O h1 h2 h3 h4 h5 k (by omega)
      generalize rounds _ k = self at ih ⊢
      by_cases y0 : y = 0
      · subst y0
        simp only [St133b0, ya, yb, yc, yd, ye, yf, yg, yh, yi, yj, yk, yl, ym, yn, yo, yp, yq, yr, yt, yu, yv, yw, yx, yy, yz, za, zb, zc, zd, get0, getS, ze, zf, zg, zh, zi, zj, zk, zl, zm, zn, zo, zp, zq, zr, zs, zt, zu, zv, zw, zx, zy, zz, ua, ub, uc, ud, ue, uf, ug, uh, ui, uj, uk, ul, um, List.nil_append, List.cons_append]
        rw [lt_neg (by omega), Int.pow_zero, Int.mul_one, fit_true hO]
      have hp : (2 : Nat) ^ (d + 1) = 2 ^ d * 2 := Nat.pow_succ 2 d
      have t1 : ((y : Int)).tmod 2 = ((y % 2 : Nat) : Int) := by rw [tmod_nn (by omega)]; rfl
      have t2 : IntKind.i64.wrap ((y : Int).tdiv 2) = ((y / 2 : Nat) : Int) := by rw [tdiv_nn (by omega), w64 (by omega) (by omega)]; rfl
      have mOA := mul O A hO hA
      have mAA := mul A A hA hA
      have c0 : (2 : Int) ≠ 0 := by decide
      simp only [St133b0, ya, yb, yc, yd, ye, yf, yg, yh, yi, yj, yk, yl, ym, yn, yo, yp, yq, yr, yt, yu, yv, yw, yx, yy, yz, za, zb, zc, zd, get0, getS, ze, zf, zg, zh, zi, zj, zk, zl, zm, zn, zo, zp, zq, zr, zs, zt, zu, zv, zw, zx, zy, zz, ua, ub, uc, ud, ue, uf, ug, uh, ui, uj, uk, ul, um, List.nil_append, List.cons_append, t1, t2, mOA, mAA]
      rw [lt_pos (by omega)]
      by_cases hodd : y % 2 = 1
      · rw [eq_pos (by omega), pow_odd hodd]
        cases hf : fits40 (O * A) with
        | false =>
          rw [fit_false hf]
          have hbad : fits40 (O * A * (A * A) ^ (y / 2)) = false := by rw [← pow_odd hodd]; exact pow_bad1 hf (by omega)
          rw [fit_false hbad]
          rfl
        | true =>
          rw [fit_true hf]
          have hO' : A = 0 ∨ O * A ≠ 0 := by
            by_cases hA0 : A = 0
            · exact .inl hA0
            · exact .inr (Int.mul_ne_zero (by rcases h0 with h | h <;> first | exact absurd h hA0 | exact h) hA0)
          simp only [ya, yb, yc, yd, ye, yf, yg, yh, yi, yj, yk, yl, ym, yn, yo, yp, yq, yr, yt, yu, yv, yw, yx, yy, yz, za, zb, zc, zd, get0, getS, ze, zf, zg, zh, zi, zj, zk, zl, zm, zn, zo, zp, zq, zr, zs, zt, zu, zv, zw, zx, zy, zz, ua, ub, uc, ud, ue, uf, ug, uh, ui, uj, uk, ul, um, List.nil_append, List.cons_append]
          by_cases hy1 : 1 ≤ y / 2
          · rw [lt_pos (by omega)]
            cases hf2 : fits40 (A * A) with
            | false =>
              rw [fit_false hf2, fit_false (pow_bad2 hf2 hO' hy1)]
              rfl
            | true =>
              rw [fit_true hf2]
              simp only [ya, yb, yc, yd, ye, yf, yg, yh, yi, yj, yk, yl, ym, yn, yo, yp, yq, yr, yt, yu, yv, yw, yx, yy, yz, za, zb, zc, zd, get0, getS, ze, zf, zg, zh, zi, zj, zk, zl, zm, zn, zo, zp, zq, zr, zs, zt, zu, zv, zw, zx, zy, zz, ua, ub, uc, ud, ue, uf, ug, uh, ui, uj, uk, ul, um, List.nil_append, List.cons_append]
              exact ih (y / 2) (A * A) (O * A) (by omega) (by omega) hf2 hf (by
                rcases hO' with h | h
                · exact .inl (by rw [h]; rfl)
                · exact .inr h)
          · rw [lt_neg (by omega)]
            have e0 : y / 2 = 0 := by omega
            rw [e0]
            have := ih 0 A (O * A) (Nat.pow_pos (by omega)) (by omega) hA hf hO'
            rw [Int.pow_zero] at this ⊢
            exact this
      · have heven : y % 2 = 0 := by omega
        rw [eq_neg (by omega), pow_even heven]
        by_cases hy1 : 1 ≤ y / 2
        · rw [lt_pos (by omega)]
          cases hf2 : fits40 (A * A) with
          | false =>
            rw [fit_false hf2, fit_false (pow_bad2 hf2 h0 hy1)]
            rfl
          | true =>
            rw [fit_true hf2]
            simp only [ya, yb, yc, yd, ye, yf, yg, yh, yi, yj, yk, yl, ym, yn, yo, yp, yq, yr, yt, yu, yv, yw, yx, yy, yz, za, zb, zc, zd, get0, getS, ze, zf, zg, zh, zi, zj, zk, zl, zm, zn, zo, zp, zq, zr, zs, zt, zu, zv, zw, zx, zy, zz, ua, ub, uc, ud, ue, uf, ug, uh, ui, uj, uk, ul, um, List.nil_append, List.cons_append]
            exact ih (y / 2) (A * A) O (by omega) (by omega) hf2 hO (by
              rcases h0 with h | h
              · exact .inl (by rw [h]; rfl)
              · exact .inr h)
        · omega
  have h1 : fits40 1 = true := by decide
  have := this 8 x A0 1 (by omega) hx hA0 h1 (.inr (by decide)) (n + 1) (by omega)
  rw [Int.one_mul] at this
  exact this

/-! small. -/
theorem dig_val (l : List UInt8) (j : Nat) (h : j < l.length) : nv (digL (l.take (j + 1))) = ((l.getD j 0).toNat - 48 : Int) + 10 * nv (digL (l.take j)) := by
  rw [digL_take l j h, nv_cons]
theorem dig_get {l : List UInt8} (h : l.all isD = true) {j : Nat} (hj : j < l.length) : 48 ≤ ((l.getD j 0).toNat : Int) ∧ ((l.getD j 0).toNat : Int) ≤ 57 := by
  have := (isD_iff _).1 (List.all_eq_true.1 h _ (getD_mem 0 hj))
  omega
theorem dig_bound {l : List UInt8} (h : l.all isD = true) : ∀ j, j ≤ l.length → j ≤ 9 → 0 ≤ nv (digL (l.take j)) ∧ nv (digL (l.take j)) < 10 ^ j := by
  intro j
  induction j with
  | zero => intro _ _; exact ⟨by simp [digL, nv], by simp [digL, nv]⟩
  | succ j ih =>
    intro h1 h2
    have := ih (by omega) (by omega)
    have hg := dig_get h (j := j) (by omega)
    rw [dig_val l j (by omega)]
    have hp : (10 : Int) ^ (j + 1) = 10 ^ j * 10 := Int.pow_succ 10 j
    omega
theorem ten9 : ∀ j : Nat, j ≤ 9 → (10 : Int) ^ j ≤ 1000000000 := by
  intro j hj
  match j, hj with
  | 0, _ => decide
  | 1, _ => decide
  | 2, _ => decide
  | 3, _ => decide
  | 4, _ => decide
  | 5, _ => decide
  | 6, _ => decide
  | 7, _ => decide
  | 8, _ => decide
  | 9, _ => decide
theorem digT_first48 {n : Nat} (h : (digT n).getD 0 0 = 48) : (digT n).length ≤ 1 := by
  have hb : ∀ k : Nat, (canon n).length ≤ k → (digT n).length ≤ 1 := by
    intro k hk
    unfold digT at h ⊢
    by_cases h0 : n = 0
    · rw [if_pos h0]; decide
    · rw [if_neg h0] at h ⊢
      exfalso
      have hne : canon n ≠ [] := fun e => h0 (canon_nil.1 e)
      obtain ⟨l, x, e⟩ : ∃ l x, canon n = l ++ [x] := by
        rcases List.eq_nil_or_concat (canon n) with e | ⟨l, x, e⟩
        · exact absurd e hne
        · exact ⟨l, x, by simpa using e⟩
      have hx := canon_dig n x (by rw [e]; simp)
      rw [e] at h
      simp only [List.reverse_append, List.reverse_cons, List.reverse_nil, List.nil_append, List.cons_append, List.map_cons, List.getD_cons_zero] at h
      have := chr_toNat hx.1 hx.2
      rw [h] at this
      have x0 : x = 0 := by
        have e48 : ((48 : UInt8).toNat : Int) = 48 := rfl
        omega
      exact trim_top (canon n) l (by rw [trim_canon, e, x0])
  exact hb _ (Nat.le_refl _)
theorem w132 {m : Nat} (hm : 60 ≤ m) (b : Int) : ∃ s : Int, R m 132 (.agg [.str (textZ b)]) = some (.agg [.int .i64 s]) ∧ (0 ≤ b ∧ b ≤ 200 → s = b) ∧ (¬ (0 ≤ b ∧ b ≤ 200) → s < 0 ∨ 200 < s) := by
  obtain ⟨n, rfl⟩ : ∃ n, m = n + 1 := ⟨m - 1, by omega⟩
  rw [R_succ n 132 _ rfl]
  simp only [St132, ya, yb, yc, yd, ye, yf, yg, yh, yi, yj, yk, yl, ym, yn, yo, yp, yq, yr, yt, yu, yv, yw, yx, yy, yz, za, zb, zc, zd, get0, getS, ze, zf, zg, zh, zi, zj, zk, zl, zm, zn, zo, zp, zq, zr, zs, zt, zu, zv, zw, zx, zy, zz, ua, ub, uc, ud, ue, uf, ug, uh, ui, uj, uk, ul, um, List.nil_append, List.cons_append]
  have z0 : (0 : Int).toNat = 0 := rfl
  by_cases hb : b < 0
  · refine ⟨-1, ?_, fun h => by omega, fun _ => .inl (by decide)⟩
    show rounds _ (n + 1) _ = _
    rw [rounds_s]
    generalize rounds _ n = self
    have g0 : (textZ b).getD 0 0 = 45 := by unfold textZ; rw [if_pos hb]; rfl
    have gl : 0 < (textZ b).length := by unfold textZ; rw [if_pos hb]; simp
    simp only [St132b0, ya, yb, yc, yd, ye, yf, yg, yh, yi, yj, yk, yl, ym, yn, yo, yp, yq, yr, yt, yu, yv, yw, yx, yy, yz, za, zb, zc, zd, get0, getS, ze, zf, zg, zh, zi, zj, zk, zl, zm, zn, zo, zp, zq, zr, zs, zt, zu, zv, zw, zx, zy, zz, ua, ub, uc, ud, ue, uf, ug, uh, ui, uj, uk, ul, um, List.nil_append, List.cons_append, z0, g0]
    rw [lt_pos (by omega), le_pos (by omega), lt_pos (by decide)]
  · have et : textZ b = digT b.natAbs := by unfold textZ; rw [if_neg hb, List.nil_append]
    rw [et]
    obtain ⟨hd, hv, hl1, hl2⟩ := digT_ok b.natAbs
    have f48 := digT_first48 (n := b.natAbs)
    have hlc : ¬ (canon b.natAbs).length ≤ 9 → 200 < b := by
      intro h
      rw [canon_len] at h
      omega
    have hcan : (digT b.natAbs).length ≤ 9 ∨ 9 < (canon b.natAbs).length := by
      unfold digT
      by_cases h0 : b.natAbs = 0
      · rw [if_pos h0]; exact .inl (by decide)
      · rw [if_neg h0]; simp; omega
    generalize digT b.natAbs = l at *
    have key : ∀ (d j : Nat), j + d = l.length → j ≤ 9 → ∀ k, d < k → rounds (fun self v => St132b0.dn (n + 1) (R n) [self] [.agg [.str l], v]) k (.agg [.int .i64 (nv (digL (l.take j))), .int .i64 j]) = some (.agg [.int .i64 (if l.length ≤ 9 then b else -1)]) := by
      intro d
      induction d with
      | zero =>
        intro j hj h9 k hk
        obtain ⟨k, rfl⟩ : ∃ n, k = n + 1 := ⟨k - 1, by omega⟩
        obtain rfl : j = l.length := by omega
        rw [rounds_s]
        generalize rounds _ k = self
        rw [List.take_length, hv, if_pos h9]
        have eb : ((b.natAbs : Nat) : Int) = b := by omega
        rw [eb]
        simp only [St132b0, ya, yb, yc, yd, ye, yf, yg, yh, yi, yj, yk, yl, ym, yn, yo, yp, yq, yr, yt, yu, yv, yw, yx, yy, yz, za, zb, zc, zd, get0, getS, ze, zf, zg, zh, zi, zj, zk, zl, zm, zn, zo, zp, zq, zr, zs, zt, zu, zv, zw, zx, zy, zz, ua, ub, uc, ud, ue, uf, ug, uh, ui, uj, uk, ul, um, List.nil_append, List.cons_append, z0]
        rw [lt_neg (by omega), eq_neg (by omega)]
        by_cases h1 : 1 < l.length
        · rw [lt_pos (by omega), lt_pos (by omega), eq_neg (by
            intro h
            have : l.getD 0 0 = 48 := UInt8.toNat_inj.1 (by
              have e48 : (48 : UInt8).toNat = 48 := rfl
              omega)
            have := f48 this
            omega)]
        · rw [lt_neg (by omega)]
      | succ d ih =>
        intro j hj h9 k hk
        obtain ⟨k, rfl⟩ : ∃ n, k = n + 1 := ⟨k - 1, by omega⟩
        have hg := dig_get hd (j := j) (by omega)
        have hbd := dig_bound hd j (by omega) h9
        have h10 := ten9 j h9
        rw [rounds_s]
        have ih := fun h => ih (j + 1) (by omega) h k (by omega)
        generalize rounds _ k = self at ih ⊢
        rw [dig_val l j (by omega)] at ih
        generalize nv (digL (l.take j)) = acc at *
        generalize hc : ((l.getD j 0).toNat : Int) = c at *
        have w1 : IntKind.u8.wrap (c - 48) = c - 48 := w8 (by omega) (by omega)
        have w2 : IntKind.i64.wrap (c - 48) = c - 48 := w64 (by omega) (by omega)
        have w3 : IntKind.i64.wrap (acc * 10) = acc * 10 := w64 (by omega) (by omega)
        have w4 : IntKind.i64.wrap (acc * 10 + (c - 48)) = c - 48 + 10 * acc := by rw [w64 (by omega) (by omega)]; omega
        simp (disch := omega) only [St132b0, ya, yb, yc, yd, ye, yf, yg, yh, yi, yj, yk, yl, ym, yn, yo, yp, yq, yr, yt, yu, yv, yw, yx, yy, yz, za, zb, zc, zd, get0, getS, ze, zf, zg, zh, zi, zj, zk, zl, zm, zn, zo, zp, zq, zr, zs, zt, zu, zv, zw, zx, zy, zz, ua, ub, uc, ud, ue, uf, ug, uh, ui, uj, uk, ul, um, List.nil_append, List.cons_append, Int.toNat_natCast, hc, w1, w2, w3, w4, wS]
        rw [lt_pos (by omega), le_pos (by omega), lt_neg (by omega), lt_neg (by omega)]
        by_cases hj9 : j = 9
        · rw [le_pos (by omega), if_neg (by omega)]
        · rw [le_neg (by omega)]
          exact ih (by omega)
    have hk := key l.length 0 (by omega) (by omega)
    have hlen : l.length ≤ 9 ∨ 9 < l.length := by omega
    refine ⟨if l.length ≤ 9 then b else -1, ?_, ?_, ?_⟩
    · by_cases hbig : l.length < n + 1
      · exact hk (n + 1) hbig
      · -- a long text: nine rounds are enough
        have long : ∀ (e j : Nat), j + e = 9 → ∀ k, e < k → rounds (fun self v => St132b0.dn (n + 1) (R n) [self] [.agg [.str l], v]) k (.agg [.int .i64 (nv (digL (l.take j))), .int .i64 j]) = some (.agg [.int .i64 (-1)]) := by
          intro e
          induction e with
          | zero =>
            intro j hj k hk
            obtain ⟨k, rfl⟩ : ∃ n, k = n + 1 := ⟨k - 1, by omega⟩
            obtain rfl : j = 9 := by omega
            have hg := dig_get hd (j := 9) (by omega)
            rw [rounds_s]
            generalize rounds _ k = self
            generalize hc : ((l.getD 9 0).toNat : Int) = c at *
            have z9 : ((9 : Nat) : Int).toNat = 9 := rfl
            simp only [St132b0, ya, yb, yc, yd, ye, yf, yg, yh, yi, yj, yk, yl, ym, yn, yo, yp, yq, yr, yt, yu, yv, yw, yx, yy, yz, za, zb, zc, zd, get0, getS, ze, zf, zg, zh, zi, zj, zk, zl, zm, zn, zo, zp, zq, zr, zs, zt, zu, zv, zw, zx, zy, zz, ua, ub, uc, ud, ue, uf, ug, uh, ui, uj, uk, ul, um, List.nil_append, List.cons_append, z9, hc]
            rw [lt_pos (by omega), le_pos (by omega), lt_neg (by omega), lt_neg (by omega), le_pos (by omega)]
          | succ e ih =>
            intro j hj k hk
            obtain ⟨k, rfl⟩ : ∃ n, k = n + 1 := ⟨k - 1, by omega⟩
            have hg := dig_get hd (j := j) (by omega)
            have hbd := dig_bound hd j (by omega) (by omega)
            have h10 := ten9 j (by omega)
            rw [rounds_s]
            have ih := ih (j + 1) (by omega) k (by omega)
            generalize rounds _ k = self at ih ⊢
            rw [dig_val l j (by omega)] at ih
            generalize nv (digL (l.take j)) = acc at *
            generalize hc : ((l.getD j 0).toNat : Int) = c at *
            have w1 : IntKind.u8.wrap (c - 48) = c - 48 := w8 (by omega) (by omega)
            have w2 : IntKind.i64.wrap (c - 48) = c - 48 := w64 (by omega) (by omega)
            have w3 : IntKind.i64.wrap (acc * 10) = acc * 10 := w64 (by omega) (by omega)
            have w4 : IntKind.i64.wrap (acc * 10 + (c - 48)) = c - 48 + 10 * acc := by rw [w64 (by omega) (by omega)]; omega
            simp (disch := omega) only [St132b0, ya, yb, yc, yd, ye, yf, yg, yh, yi, yj, yk, yl, ym, yn, yo, yp, yq, yr, yt, yu, yv, yw, yx, yy, yz, za, zb, zc, zd, get0, getS, ze, zf, zg, zh, zi, zj, zk, zl, zm, zn, zo, zp, zq, zr, zs, zt, zu, zv, zw, zx, zy, zz, ua, ub, uc, ud, ue, uf, ug, uh, ui, uj, uk, ul, um, List.nil_append, List.cons_append, Int.toNat_natCast, hc, w1, w2, w3, w4, wS]
            rw [lt_pos (by omega), le_pos (by omega), lt_neg (by omega), lt_neg (by omega), le_neg (by omega)]
            exact ih
        rw [if_neg (by omega)]
        exact long 9 0 (by omega) (n + 1) (by omega)
    · intro h
      rcases hcan with h' | h'
      · rw [if_pos h']
      · have := hlc (by omega)
        omega
    · intro h
      by_cases h' : l.length ≤ 9
      · rw [if_pos h']; omega
      · rw [if_neg h']; exact .inl (by decide)
end Go.Dv

/- Operations of two constants: both sides answer the same. -/
set_option linter.unusedVariables false
set_option linter.unusedSimpArgs false
namespace Go.Dv
open Go.Lib

theorem w65 {m : Nat} (hm : 1 ≤ m) (t : List UInt8) (c : Int) : R m 65 (.agg [.str t, .int .i64 c]) = some (match cmpB t c with | some q => .agg [.bool q, .bool true] | none => .agg [.bool false, .bool false]) := by
  obtain ⟨n, rfl⟩ : ∃ n, m = n + 1 := ⟨m - 1, by omega⟩
  rw [R_succ n 65 _ rfl]
  simp only [St65, ya, yb, yc, yd, ye, yf, yg, yh, yi, yj, yk, yl, ym, yn, yo, yp, yq, yr, yt, yu, yv, yw, yx, yy, yz, za, zb, zc, zd, get0, getS, ze, zf, zg, zh, zi, zj, zk, zl, zm, zn, zo, zp, zq, zr, zs, zt, zu, zv, zw, zx, zy, zz, ua, ub, uc, ud, ue, uf, ug, uh, ui, uj, uk, ul, um, List.nil_append, List.cons_append]
  unfold cmpB
  by_cases h1 : t = [60]
  · rw [seq_pos h1, if_pos h1]
  rw [seq_neg h1, if_neg h1]
  by_cases h2 : t = [60, 61]
  · rw [seq_pos h2, if_pos h2]
  rw [seq_neg h2, if_neg h2]
  by_cases h3 : t = [62]
  · rw [seq_pos h3, if_pos h3]
  rw [seq_neg h3, if_neg h3]
  by_cases h4 : t = [62, 61]
  · rw [seq_pos h4, if_pos h4]
  rw [seq_neg h4, if_neg h4]
  by_cases h5 : t = [61, 61]
  · rw [seq_pos h5, if_pos h5]
  rw [seq_neg h5, if_neg h5]
  by_cases h6 : t = [33, 61]
  · rw [seq_pos h6, if_pos h6]
  rw [seq_neg h6, if_neg h6]
theorem w87 {m : Nat} (hm : 1 ≤ m) (t : List UInt8) (c : Int) : R m 87 (.agg [.str t, .int .i64 c]) = some (.agg [.bool ((cmpB t c).getD (!decide (c = 0)))]) := by
  obtain ⟨n, rfl⟩ : ∃ n, m = n + 1 := ⟨m - 1, by omega⟩
  rw [R_succ n 87 _ rfl]
  simp only [St87, ya, yb, yc, yd, ye, yf, yg, yh, yi, yj, yk, yl, ym, yn, yo, yp, yq, yr, yt, yu, yv, yw, yx, yy, yz, za, zb, zc, zd, get0, getS, ze, zf, zg, zh, zi, zj, zk, zl, zm, zn, zo, zp, zq, zr, zs, zt, zu, zv, zw, zx, zy, zz, ua, ub, uc, ud, ue, uf, ug, uh, ui, uj, uk, ul, um, List.nil_append, List.cons_append]
  unfold cmpB
  by_cases h1 : t = [60]
  · rw [seq_pos h1, if_pos h1]; rfl
  rw [seq_neg h1, if_neg h1]
  by_cases h2 : t = [60, 61]
  · rw [seq_pos h2, if_pos h2]; rfl
  rw [seq_neg h2, if_neg h2]
  by_cases h3 : t = [62]
  · rw [seq_pos h3, if_pos h3]; rfl
  rw [seq_neg h3, if_neg h3]
  by_cases h4 : t = [62, 61]
  · rw [seq_pos h4, if_pos h4]; rfl
  rw [seq_neg h4, if_neg h4]
  by_cases h5 : t = [61, 61]
  · rw [seq_pos h5, if_pos h5]; rfl
  rw [seq_neg h5, if_neg h5]
  by_cases h6 : t = [33, 61]
  · rw [if_pos h6]; rfl
  rw [if_neg h6]; rfl
theorem w68_88 {m : Nat} (hm : 1 ≤ m) (f : Nat) (hf : f = 68 ∨ f = 88) (a b : List UInt8) : R m f (.agg [.str a, .str b]) = some (.agg [.int .i64 (cmpT a b)]) := by
  obtain ⟨n, rfl⟩ : ∃ n, m = n + 1 := ⟨m - 1, by omega⟩
  unfold cmpT
  rcases hf with rfl | rfl
  · rw [R_succ n 68 _ rfl]
    simp only [St68, ya, yb, yc, yd, ye, yf, yg, yh, yi, yj, yk, yl, ym, yn, yo, yp, yq, yr, yt, yu, yv, yw, yx, yy, yz, za, zb, zc, zd, get0, getS, ze, zf, zg, zh, zi, zj, zk, zl, zm, zn, zo, zp, zq, zr, zs, zt, zu, zv, zw, zx, zy, zz, ua, ub, uc, ud, ue, uf, ug, uh, ui, uj, uk, ul, um, List.nil_append, List.cons_append]
    cases Op.bytesLess a b
    · by_cases h : a = b
      · simp [h, bE]
      · simp [h, bE]
    · rfl
  · rw [R_succ n 88 _ rfl]
    simp only [St88, ya, yb, yc, yd, ye, yf, yg, yh, yi, yj, yk, yl, ym, yn, yo, yp, yq, yr, yt, yu, yv, yw, yx, yy, yz, za, zb, zc, zd, get0, getS, ze, zf, zg, zh, zi, zj, zk, zl, zm, zn, zo, zp, zq, zr, zs, zt, zu, zv, zw, zx, zy, zz, ua, ub, uc, ud, ue, uf, ug, uh, ui, uj, uk, ul, um, List.nil_append, List.cons_append]
    cases Op.bytesLess a b
    · by_cases h : a = b
      · simp [h, bE]
      · simp [h, bE]
    · rfl

/-! Searches. -/
theorem w101 {m : Nat} (hm : 10 ≤ m) (s t : List UInt8) (hs : s.length ≤ 400) (ht : t.length ≤ 400) : R m 101 (.agg [.list 1 false [.str s, .str t]]) = some (.agg [.bool true]) := by
  obtain ⟨n, rfl⟩ : ∃ n, m = n + 1 := ⟨m - 1, by omega⟩
  rw [R_succ n 101 _ rfl]
  simp only [St101, ya, yb, yc, yd, ye, yf, yg, yh, yi, yj, yk, yl, ym, yn, yo, yp, yq, yr, yt, yu, yv, yw, yx, yy, yz, za, zb, zc, zd, get0, getS, ze, zf, zg, zh, zi, zj, zk, zl, zm, zn, zo, zp, zq, zr, zs, zt, zu, zv, zw, zx, zy, zz, ua, ub, uc, ud, ue, uf, ug, uh, ui, uj, uk, ul, um, List.nil_append, List.cons_append]
  refine iter_loop (F := fun self v => St101b0.dn (n + 1) (R n) [self] [.agg [.list 1 false [.str s, .str t]], v]) (N := 2) (fun j => .agg [.int .i64 j]) (by omega) (fun self => ?_) (fun self j hj => ?_)
  · simp only [St101b0, ya, yb, yc, yd, ye, yf, yg, yh, yi, yj, yk, yl, ym, yn, yo, yp, yq, yr, yt, yu, yv, yw, yx, yy, yz, za, zb, zc, zd, get0, getS, ze, zf, zg, zh, zi, zj, zk, zl, zm, zn, zo, zp, zq, zr, zs, zt, zu, zv, zw, zx, zy, zz, ua, ub, uc, ud, ue, uf, ug, uh, ui, uj, uk, ul, um, List.nil_append, List.cons_append]
    rw [lt_neg (by simp)]
  · have hx : ∀ j, j < 2 → (([PV.str s, PV.str t] : List PV).getD j (.bool false)).s.length ≤ 400 := by
      intro j hj
      match j, hj with
      | 0, _ => exact hs
      | 1, _ => exact ht
    have := hx j hj
    simp (disch := omega) only [St101b0, ya, yb, yc, yd, ye, yf, yg, yh, yi, yj, yk, yl, ym, yn, yo, yp, yq, yr, yt, yu, yv, yw, yx, yy, yz, za, zb, zc, zd, get0, getS, ze, zf, zg, zh, zi, zj, zk, zl, zm, zn, zo, zp, zq, zr, zs, zt, zu, zv, zw, zx, zy, zz, ua, ub, uc, ud, ue, uf, ug, uh, ui, uj, uk, ul, um, List.nil_append, List.cons_append, Int.toNat_natCast, wS]
    rw [lt_pos (by simp; omega), le_pos (by omega), lt_neg (by omega)]
theorem w69 {m : Nat} (hm : 12 ≤ m) (s t : List UInt8) (hs : s.length ≤ 400) (ht : t.length ≤ 400) : R m 69 (.agg [.str s, .str t]) = some (.agg [.int .i64 (index s t)]) := by
  obtain ⟨n, rfl⟩ : ∃ n, m = n + 1 := ⟨m - 1, by omega⟩
  obtain ⟨n, rfl⟩ : ∃ k, n = k + 1 := ⟨n - 1, by omega⟩
  have e1 := w101 (m := n + 1) (by omega) s t hs ht
  have e2 := R_index n s t (by omega)
  rw [R_succ (n + 1) 69 _ rfl]
  simp only [St69, ya, yb, yc, yd, ye, yf, yg, yh, yi, yj, yk, yl, ym, yn, yo, yp, yq, yr, yt, yu, yv, yw, yx, yy, yz, za, zb, zc, zd, get0, getS, ze, zf, zg, zh, zi, zj, zk, zl, zm, zn, zo, zp, zq, zr, zs, zt, zu, zv, zw, zx, zy, zz, ua, ub, uc, ud, ue, uf, ug, uh, ui, uj, uk, ul, um, List.nil_append, List.cons_append, e1, e2, Bool.not_true]
theorem w86 {m : Nat} (s t : List UInt8) (hm : 420 ≤ m) (hs : s.length ≤ 400) (ht : t.length ≤ 400) : R m 86 (.agg [.str s, .str t, .int .i64 0]) = some (.agg [.int .i64 (index s t)]) := by
  obtain ⟨n, rfl⟩ : ∃ n, m = n + 1 := ⟨m - 1, by omega⟩
  rw [R_succ n 86 _ rfl]
  simp only [St86, ya, yb, yc, yd, ye, yf, yg, yh, yi, yj, yk, yl, ym, yn, yo, yp, yq, yr, yt, yu, yv, yw, yx, yy, yz, za, zb, zc, zd, get0, getS, ze, zf, zg, zh, zi, zj, zk, zl, zm, zn, zo, zp, zq, zr, zs, zt, zu, zv, zw, zx, zy, zz, ua, ub, uc, ud, ue, uf, ug, uh, ui, uj, uk, ul, um, List.nil_append, List.cons_append]
  have none_of : ∀ j : Nat, s.length < j + t.length → (∀ i, i < j → occAt s t i = false) → (t = [] → s.length < j) → index s t = -1 := by
    intro j hj hno h0
    refine index_none fun i hi => ?_
    by_cases hij : i < j
    · exact hno i hij
    · cases ho : occAt s t i with
      | false => rfl
      | true =>
        rcases occAt_room ho with h | h
        · omega
        · have := h0 h; omega
  have : ∀ (d j : Nat), j + d = s.length + 1 → (∀ i, i < j → occAt s t i = false) → ∀ k, d < k → rounds (fun self v => St86b0.dn (n + 1) (R n) [self] [.agg [.str s, .str t, .int .i64 0], v]) k (.agg [.int .i64 j]) = some (.agg [.int .i64 (index s t)]) := by
    intro d
    induction d with
    | zero =>
      intro j hj hno k hk
      obtain ⟨k, rfl⟩ : ∃ n, k = n + 1 := ⟨k - 1, by omega⟩
      rw [rounds_s]
      generalize rounds _ k = self
      have w1 : IntKind.i64.wrap ((j : Int) + (t.length : Int)) = (j : Int) + t.length := w64 (by omega) (by omega)
      simp only [St86b0, ya, yb, yc, yd, ye, yf, yg, yh, yi, yj, yk, yl, ym, yn, yo, yp, yq, yr, yt, yu, yv, yw, yx, yy, yz, za, zb, zc, zd, get0, getS, ze, zf, zg, zh, zi, zj, zk, zl, zm, zn, zo, zp, zq, zr, zs, zt, zu, zv, zw, zx, zy, zz, ua, ub, uc, ud, ue, uf, ug, uh, ui, uj, uk, ul, um, List.nil_append, List.cons_append, w1]
      rw [le_neg (by omega), none_of j (by omega) hno (fun _ => by omega)]
    | succ d ih =>
      intro j hj hno k hk
      obtain ⟨k, rfl⟩ : ∃ n, k = n + 1 := ⟨k - 1, by omega⟩
      rw [rounds_s]
      have ih := fun h => ih (j + 1) (by omega) h k (by omega)
      generalize rounds _ k = self at ih ⊢
      have w1 : IntKind.i64.wrap ((j : Int) + (t.length : Int)) = ((j + t.length : Nat) : Int) := by rw [w64 (by omega) (by omega)]; omega
      simp (disch := omega) only [St86b0, ya, yb, yc, yd, ye, yf, yg, yh, yi, yj, yk, yl, ym, yn, yo, yp, yq, yr, yt, yu, yv, yw, yx, yy, yz, za, zb, zc, zd, get0, getS, ze, zf, zg, zh, zi, zj, zk, zl, zm, zn, zo, zp, zq, zr, zs, zt, zu, zv, zw, zx, zy, zz, ua, ub, uc, ud, ue, uf, ug, uh, ui, uj, uk, ul, um, List.nil_append, List.cons_append, w1, Int.toNat_natCast, wS]
      by_cases hr : j + t.length ≤ s.length
      · have hocc := occAt_iff_take s t j hr
        have etk : (s.take (j + t.length)).drop j = (s.drop j).take t.length := by
          rw [List.drop_take]
          congr 1
          omega
        rw [le_pos (by omega), le_pos (by omega), le_pos (by omega), etk]
        by_cases heq : (s.drop j).take t.length = t
        · rw [seq_pos heq]
          have : occAt s t j = true := by rw [hocc, heq]; simp
          rw [index_first (by omega) this hno]
        · rw [seq_neg heq]
          refine ih fun i hi => ?_
          by_cases hij : i = j
          · subst hij
            rw [hocc]
            simpa using heq
          · exact hno i (by omega)
      · rw [le_neg (by omega), none_of j (by omega) hno (fun h => by subst h; simp at hr; omega)]
  exact this (s.length + 1) 0 (by omega) (fun i hi => by omega) (n + 1) (by omega)

/-! Operations. -/
def ozV (t : List UInt8) (a b : Int) : PV := match opZ t a b with
  | some z => fitV z
  | none => .agg [.str [], .bool false]
theorem ozV_eta (t : List UInt8) (a b : Int) : PV.agg [(O1.fld 0).dn (ozV t a b), (O1.fld 1).dn (ozV t a b)] = ozV t a b := by
  unfold ozV
  split
  · exact fitV_eta _
  · rfl
theorem opV_none : opV none = .agg [.str [], .bool false] := rfl
theorem Z200 : Z [50, 48, 48] = 200 := by decide
theorem Z0 : Z [48] = 0 := rfl
theorem cmp_lt (a b : Int) : cmpI a b < 0 ↔ a < b := by unfold cmpI; split <;> (try split) <;> omega
theorem cmp_gt (a b : Int) : 0 < cmpI a b ↔ b < a := by unfold cmpI; split <;> (try split) <;> omega
theorem w67 {m : Nat} (hm : 310 ≤ m) (t : List UInt8) (a b : Int) (ha : fits40 a = true) (hb : fits40 b = true) : R m 67 (.agg [.str t, .str (textZ a), .str (textZ b)]) = some (ozV t a b) := by
  obtain ⟨n, rfl⟩ : ∃ n, m = n + 1 := ⟨m - 1, by omega⟩
  have ia := textZ_int ha
  have ib := textZ_int hb
  have e1 := f36 (m := n) (by omega) (textZ a) (textZ b)
  have e2 := f39 (m := n) (by omega) (textZ a) (textZ b)
  have e3 := f32 (m := n) (by omega) (textZ a) (textZ b)
  have e4 := f42 (m := n) (by omega) (textZ a) (textZ b)
  have e5 := f46 (m := n) (by omega) (textZ a) (textZ b)
  have e6 := f28 (m := n) (by omega) (textZ b) [48]
  have e7 := f28 (m := n) (by omega) (textZ b) [50, 48, 48]
  rw [if_pos ⟨ia, ib⟩, Z_textZ, Z_textZ] at e1 e2 e3 e4 e5
  rw [if_pos ⟨ib, by decide⟩, Z_textZ] at e6 e7
  rw [Z0] at e6
  rw [Z200] at e7
  rw [R_succ n 67 _ rfl]
  simp only [St67, ya, yb, yc, yd, ye, yf, yg, yh, yi, yj, yk, yl, ym, yn, yo, yp, yq, yr, yt, yu, yv, yw, yx, yy, yz, za, zb, zc, zd, get0, getS, ze, zf, zg, zh, zi, zj, zk, zl, zm, zn, zo, zp, zq, zr, zs, zt, zu, zv, zw, zx, zy, zz, ua, ub, uc, ud, ue, uf, ug, uh, ui, uj, uk, ul, um, List.nil_append, List.cons_append, e1, e2, e3, e4, e5, e6, e7, fitV_eta]
  unfold ozV opZ
  by_cases h1 : t = [43]
  · rw [seq_pos h1, if_pos h1]
  rw [seq_neg h1, if_neg h1]
  by_cases h2 : t = [45]
  · rw [seq_pos h2, if_pos h2]
  rw [seq_neg h2, if_neg h2]
  by_cases h3 : t = [42]
  · rw [seq_pos h3, if_pos h3]
  rw [seq_neg h3, if_neg h3]
  by_cases h4 : t = [47, 47]
  · rw [seq_pos h4, if_pos h4]
    by_cases b0 : b = 0
    · rw [if_pos b0]; rfl
    · rw [if_neg b0, ← fit_op, fitV_eta]
  rw [seq_neg h4, if_neg h4]
  by_cases h5 : t = [37]
  · rw [seq_pos h5, if_pos h5]
    by_cases b0 : b = 0
    · rw [if_pos b0]; rfl
    · rw [if_neg b0, ← fit_op, fitV_eta]
  rw [seq_neg h5, if_neg h5]
  by_cases h6 : t = [42, 42]
  · rw [seq_pos h6, if_pos h6]
    by_cases b0 : b < 0
    · rw [lt_pos ((cmp_lt b 0).2 b0), if_pos (.inl b0)]
    rw [lt_neg (fun h => b0 ((cmp_lt b 0).1 h))]
    by_cases b2 : 200 < b
    · rw [lt_pos ((cmp_gt b 200).2 b2), if_pos (.inr b2)]
    rw [lt_neg (fun h => b2 ((cmp_gt b 200).1 h)), if_neg (by omega)]
    have et : textZ b = digT b.natAbs := by unfold textZ; rw [if_neg b0, List.nil_append]
    obtain ⟨hd, hv, hl1, hl2⟩ := digT_ok b.natAbs
    have hl3 : (canon b.natAbs).length ≤ 3 := (canon_len 3 _).2 (by omega)
    have ep := w100 (m := n) (by omega) (textZ a) ia b.toNat (by omega)
    rw [Z_textZ] at ep
    have eb : ((b.toNat : Nat) : Int) = b := by omega
    rw [eb] at ep
    have eb2 : ((b.natAbs : Nat) : Int) = b := by omega
    rw [eb2] at hv
    rw [et]
    generalize digT b.natAbs = l at *
    refine iter_loop (F := fun self v => St67b0.dn (n + 1) (R n) [self] [.agg [.str t, .str (textZ a), .str l], .agg [.int .i64 (cmpI b 0)], .agg [.int .i64 (cmpI b 200)], v]) (N := l.length) (fun j => .agg [.int .i64 (nv (digL (l.take j))), .int .i64 j]) (by omega) (fun self => ?_) (fun self j hj => ?_)
    · rw [List.take_length, hv]
      simp only [St67b0, ya, yb, yc, yd, ye, yf, yg, yh, yi, yj, yk, yl, ym, yn, yo, yp, yq, yr, yt, yu, yv, yw, yx, yy, yz, za, zb, zc, zd, get0, getS, ze, zf, zg, zh, zi, zj, zk, zl, zm, zn, zo, zp, zq, zr, zs, zt, zu, zv, zw, zx, zy, zz, ua, ub, uc, ud, ue, uf, ug, uh, ui, uj, uk, ul, um, List.nil_append, List.cons_append, ep, fitV_eta]
      rw [lt_neg (by omega)]
    · have hg := dig_get hd (j := j) (by omega)
      have hbd := dig_bound hd j (by omega) (by omega)
      have h10 := ten9 j (by omega)
      rw [dig_val l j hj]
      generalize nv (digL (l.take j)) = acc at *
      generalize hc : ((l.getD j 0).toNat : Int) = c at *
      have w1 : IntKind.u8.wrap (c - 48) = c - 48 := w8 (by omega) (by omega)
      have w2 : IntKind.i64.wrap (c - 48) = c - 48 := w64 (by omega) (by omega)
      have w3 : IntKind.i64.wrap (10 * acc) = 10 * acc := w64 (by omega) (by omega)
      have w4 : IntKind.i64.wrap (10 * acc + (c - 48)) = c - 48 + 10 * acc := by rw [w64 (by omega) (by omega)]; omega
      simp (disch := omega) only [St67b0, ya, yb, yc, yd, ye, yf, yg, yh, yi, yj, yk, yl, ym, yn, yo, yp, yq, yr, yt, yu, yv, yw, yx, yy, yz, za, zb, zc, zd, get0, getS, ze, zf, zg, zh, zi, zj, zk, zl, zm, zn, zo, zp, zq, zr, zs, zt, zu, zv, zw, zx, zy, zz, ua, ub, uc, ud, ue, uf, ug, uh, ui, uj, uk, ul, um, List.nil_append, List.cons_append, Int.toNat_natCast, hc, w1, w2, w3, w4, wS]
      rw [lt_pos (by omega), le_pos (by omega)]
  rw [seq_neg h6, if_neg h6]

/-- The six operators. -/
def ops6 : List (List UInt8) := [[43], [45], [42], [47, 47], [37], [42, 42]]
theorem w117 {m : Nat} (hm : 310 ≤ m) (t : List UInt8) (ht : t ∈ ops6) (a b : Int) (ha : fits40 a = true) (hb : fits40 b = true) : R m 117 (.agg [.str t, .str (textZ a), .str (textZ b)]) = some (ozV t a b) := by
  obtain ⟨n, rfl⟩ : ∃ n, m = n + 1 := ⟨m - 1, by omega⟩
  have dig : ∀ z, fits40 z = true → ∀ n, 101 ≤ n → R n 114 (.agg [.str (textZ z)]) = some (digV z) := fun z hz n hn => f110T hn z ((fits_Sm hz).mono (by omega))
  have e1 := f78 (m := n) (by omega) (dig a ha) (dig b hb) ((fits_Sm ha).mono (by omega)) ((fits_Sm hb).mono (by omega))
  have e2 := f79 (m := n) (by omega) (dig b hb) ((fits_Sm hb).mono (by omega))
  have hnb := NF_neg hb
  have e3 := f78 (m := n) (by omega) (dig a ha) (dig (-b) hnb) ((fits_Sm ha).mono (by omega)) ((fits_Sm hnb).mono (by omega))
  have e4 := f76 (m := n) (by omega) (dig a ha) (dig b hb) (fits_Sm ha) (fits_Sm hb)
  obtain ⟨s, e5, hs1, hs2⟩ := w132 (m := n) (by omega) b
  rw [R_succ n 117 _ rfl]
  by_cases hpow : t = [42, 42]
  · subst hpow
    by_cases hb2 : 0 ≤ b ∧ b ≤ 200
    · have es := hs1 hb2
      subst es
      have e6 := w133 (m := n) (by omega) a ha s.toNat (by omega)
      have eb : ((s.toNat : Nat) : Int) = s := by omega
      rw [eb] at e6
      simp only [St117, ya, yb, yc, yd, ye, yf, yg, yh, yi, yj, yk, yl, ym, yn, yo, yp, yq, yr, yt, yu, yv, yw, yx, yy, yz, za, zb, zc, zd, get0, getS, ze, zf, zg, zh, zi, zj, zk, zl, zm, zn, zo, zp, zq, zr, zs, zt, zu, zv, zw, zx, zy, zz, ua, ub, uc, ud, ue, uf, ug, uh, ui, uj, uk, ul, um, List.nil_append, List.cons_append, e1, e2, e3, e4, e5, e6, fitV_eta]
      rw [seq_neg (by decide), seq_neg (by decide), seq_neg (by decide), seq_pos rfl, lt_neg (by omega), lt_neg (by omega)]
      unfold ozV
      have : opZ [42, 42] a s = some (a ^ s.toNat) := by
        show (if s < 0 ∨ 200 < s then none else some (a ^ s.toNat)) = _
        rw [if_neg (by omega)]
      rw [this]
    · have hs := hs2 hb2
      have : ozV [42, 42] a b = .agg [.str [], .bool false] := by
        unfold ozV
        have : opZ [42, 42] a b = none := by
          show (if b < 0 ∨ 200 < b then none else some (a ^ b.toNat)) = _
          rw [if_pos (by omega)]
        rw [this]
      rw [this]
      cases hr : R n 133 (.agg [.str (textZ a), .int .i64 s]) with
      | none =>
        simp only [St117, ya, yb, yc, yd, ye, yf, yg, yh, yi, yj, yk, yl, ym, yn, yo, yp, yq, yr, yt, yu, yv, yw, yx, yy, yz, za, zb, zc, zd, get0, getS, ze, zf, zg, zh, zi, zj, zk, zl, zm, zn, zo, zp, zq, zr, zs, zt, zu, zv, zw, zx, zy, zz, ua, ub, uc, ud, ue, uf, ug, uh, ui, uj, uk, ul, um, List.nil_append, List.cons_append, e5, hr]
        rw [seq_neg (by decide), seq_neg (by decide), seq_neg (by decide), seq_pos rfl]
        by_cases h : s < 0
        · rw [lt_pos h]
        · rw [lt_neg h, lt_pos (by omega)]
      | some r =>
        simp only [St117, ya, yb, yc, yd, ye, yf, yg, yh, yi, yj, yk, yl, ym, yn, yo, yp, yq, yr, yt, yu, yv, yw, yx, yy, yz, za, zb, zc, zd, get0, getS, ze, zf, zg, zh, zi, zj, zk, zl, zm, zn, zo, zp, zq, zr, zs, zt, zu, zv, zw, zx, zy, zz, ua, ub, uc, ud, ue, uf, ug, uh, ui, uj, uk, ul, um, List.nil_append, List.cons_append, e5, hr]
        rw [seq_neg (by decide), seq_neg (by decide), seq_neg (by decide), seq_pos rfl]
        by_cases h : s < 0
        · rw [lt_pos h]
        · rw [lt_neg h, lt_pos (by omega)]
  · simp only [ops6, List.mem_cons, List.not_mem_nil, or_false] at ht
    rcases ht with rfl | rfl | rfl | rfl | rfl | rfl
    · simp only [St117, ya, yb, yc, yd, ye, yf, yg, yh, yi, yj, yk, yl, ym, yn, yo, yp, yq, yr, yt, yu, yv, yw, yx, yy, yz, za, zb, zc, zd, get0, getS, ze, zf, zg, zh, zi, zj, zk, zl, zm, zn, zo, zp, zq, zr, zs, zt, zu, zv, zw, zx, zy, zz, ua, ub, uc, ud, ue, uf, ug, uh, ui, uj, uk, ul, um, List.nil_append, List.cons_append, e1, e2, e3, e4, e5, fitV_eta]
      rw [seq_pos rfl]
      rfl
    · simp only [St117, ya, yb, yc, yd, ye, yf, yg, yh, yi, yj, yk, yl, ym, yn, yo, yp, yq, yr, yt, yu, yv, yw, yx, yy, yz, za, zb, zc, zd, get0, getS, ze, zf, zg, zh, zi, zj, zk, zl, zm, zn, zo, zp, zq, zr, zs, zt, zu, zv, zw, zx, zy, zz, ua, ub, uc, ud, ue, uf, ug, uh, ui, uj, uk, ul, um, List.nil_append, List.cons_append, e1, e2, e3, e4, e5, fitV_eta]
      rw [seq_neg (by decide), seq_pos rfl]
      rfl
    · simp only [St117, ya, yb, yc, yd, ye, yf, yg, yh, yi, yj, yk, yl, ym, yn, yo, yp, yq, yr, yt, yu, yv, yw, yx, yy, yz, za, zb, zc, zd, get0, getS, ze, zf, zg, zh, zi, zj, zk, zl, zm, zn, zo, zp, zq, zr, zs, zt, zu, zv, zw, zx, zy, zz, ua, ub, uc, ud, ue, uf, ug, uh, ui, uj, uk, ul, um, List.nil_append, List.cons_append, e1, e2, e3, e4, e5, fitV_eta]
      rw [seq_neg (by decide), seq_neg (by decide), seq_pos rfl]
      rfl
    · by_cases b0 : b = 0
      · subst b0
        have : ozV [47, 47] a 0 = .agg [.str [], .bool false] := rfl
        rw [this]
        simp only [St117, ya, yb, yc, yd, ye, yf, yg, yh, yi, yj, yk, yl, ym, yn, yo, yp, yq, yr, yt, yu, yv, yw, yx, yy, yz, za, zb, zc, zd, get0, getS, ze, zf, zg, zh, zi, zj, zk, zl, zm, zn, zo, zp, zq, zr, zs, zt, zu, zv, zw, zx, zy, zz, ua, ub, uc, ud, ue, uf, ug, uh, ui, uj, uk, ul, um, List.nil_append, List.cons_append, e5]
        rw [seq_neg (by decide), seq_neg (by decide), seq_neg (by decide), seq_neg (by decide), seq_pos ((textZ_zero 0).2 rfl)]
      · have e7 := f81 (m := n) (by omega) b0 (dig a ha) (dig b hb) (fits_Sm ha) (fits_Sm hb)
        have hq : fits40 (dmQ a b) = true := by unfold fits40; rw [decide_eq_true_eq]; exact dmQ_Sm b0 (fits_Sm ha)
        have : ozV [47, 47] a b = fitV (dmQ a b) := by
          unfold ozV
          have : opZ [47, 47] a b = some (dmQ a b) := by
            show (if b = 0 then none else some (dmQ a b)) = _
            rw [if_neg b0]
          rw [this]
        rw [this, fit_true hq]
        simp only [St117, ya, yb, yc, yd, ye, yf, yg, yh, yi, yj, yk, yl, ym, yn, yo, yp, yq, yr, yt, yu, yv, yw, yx, yy, yz, za, zb, zc, zd, get0, getS, ze, zf, zg, zh, zi, zj, zk, zl, zm, zn, zo, zp, zq, zr, zs, zt, zu, zv, zw, zx, zy, zz, ua, ub, uc, ud, ue, uf, ug, uh, ui, uj, uk, ul, um, List.nil_append, List.cons_append, e5, e7]
        rw [seq_neg (by decide), seq_neg (by decide), seq_neg (by decide), seq_neg (by decide), seq_neg (fun h => b0 ((textZ_zero b).1 h)), seq_pos rfl]
    · by_cases b0 : b = 0
      · subst b0
        have : ozV [37] a 0 = .agg [.str [], .bool false] := rfl
        rw [this]
        simp only [St117, ya, yb, yc, yd, ye, yf, yg, yh, yi, yj, yk, yl, ym, yn, yo, yp, yq, yr, yt, yu, yv, yw, yx, yy, yz, za, zb, zc, zd, get0, getS, ze, zf, zg, zh, zi, zj, zk, zl, zm, zn, zo, zp, zq, zr, zs, zt, zu, zv, zw, zx, zy, zz, ua, ub, uc, ud, ue, uf, ug, uh, ui, uj, uk, ul, um, List.nil_append, List.cons_append, e5]
        rw [seq_neg (by decide), seq_neg (by decide), seq_neg (by decide), seq_neg (by decide), seq_pos ((textZ_zero 0).2 rfl)]
      · have e7 := f81 (m := n) (by omega) b0 (dig a ha) (dig b hb) (fits_Sm ha) (fits_Sm hb)
        have hq : fits40 (dmR a b) = true := by unfold fits40; rw [decide_eq_true_eq]; exact dmR_Sm b0 (fits_Sm hb)
        have : ozV [37] a b = fitV (dmR a b) := by
          unfold ozV
          have : opZ [37] a b = some (dmR a b) := by
            show (if b = 0 then none else some (dmR a b)) = _
            rw [if_neg b0]
          rw [this]
        rw [this, fit_true hq]
        simp only [St117, ya, yb, yc, yd, ye, yf, yg, yh, yi, yj, yk, yl, ym, yn, yo, yp, yq, yr, yt, yu, yv, yw, yx, yy, yz, za, zb, zc, zd, get0, getS, ze, zf, zg, zh, zi, zj, zk, zl, zm, zn, zo, zp, zq, zr, zs, zt, zu, zv, zw, zx, zy, zz, ua, ub, uc, ud, ue, uf, ug, uh, ui, uj, uk, ul, um, List.nil_append, List.cons_append, e5, e7]
        rw [seq_neg (by decide), seq_neg (by decide), seq_neg (by decide), seq_neg (by decide), seq_neg (fun h => b0 ((textZ_zero b).1 h)), seq_neg (by decide)]
    · exact absurd rfl hpow
end Go.Dv

/- Folding: both sides fold alike. -/
set_option linter.unusedVariables false
set_option linter.unusedSimpArgs false
namespace Go.Dv
open Go.Lib

def foldZ (t : List UInt8) (a b : Int) (e : PV) : PV := match cmpB t (cmpI a b) with
  | some q => boolE q
  | none => match opZ t a b with
    | some z => if fits40 z then intE z else e
    | none => e
def foldT (t : List UInt8) (kx : Int) (tx : List UInt8) (ky : Int) (ty : List UInt8) (e : PV) : PV := if kx = 5 ∧ ky = 5 then
      match cmpB t (cmpT tx ty) with
      | some q => boolE q
      | none => if t = [43] ∧ tx.length + ty.length ≤ 400 then textE (tx ++ ty) else if t = [105, 110] then boolE (findB ty tx) else e
    else e
theorem foldB_int {t : List UInt8} {x y e : PV} {a b : Int} (hx : intZ x = some a) (hy : intZ y = some b) : foldB t x y e = foldZ t a b e := by
  unfold foldB foldZ
  rw [hx, hy]
  rfl
theorem foldB_text {t : List UInt8} {x y e : PV} (h : intZ x = none ∨ intZ y = none) : foldB t x y e = foldT t x.ek x.et y.ek y.et e := by
  unfold foldB foldT
  cases hx : intZ x with
  | none => rfl
  | some a => cases hy : intZ y with
    | none => rfl
    | some b =>
      rcases h with h | h
      · rw [hx] at h; cases h
      · rw [hy] at h; cases h
theorem boolE_eta (q : Bool) : PV.agg [(O1.fld 0).dn (boolE q), (O1.fld 1).dn (boolE q), (O1.fld 2).dn (boolE q), (O1.fld 3).dn (boolE q)] = boolE q := rfl
theorem intE_eta (z : Int) : PV.agg [(O1.fld 0).dn (intE z), (O1.fld 1).dn (intE z), (O1.fld 2).dn (intE z), (O1.fld 3).dn (intE z)] = intE z := by
  unfold intE
  split <;> rfl
/-- What is asked of an operand. -/
structure Opd (x : PV) : Prop where
  wf : WF 10 x
  shape : Shape x
  fits : ∀ z, intZ x = some z → fits40 z = true
  text : x.ek = 5 → x.et.length ≤ 400
theorem plain5 {t : List UInt8} {ns : List PV} {n : Nat} (h : plainB 5 t ns n = true) : t.length ≤ 400 := by
  unfold plainB kindB at h
  simp at h
  omega
theorem Opd.of {d : Nat} {x : PV} (hd : d ≤ 10) (h : WF d x) (hv : valid d x = true) : Opd x where
  wf := h.le hd
  shape := shape_of h hv
  fits := fun z hz => intZ_fits hv hz
  text := fun hk => by
    obtain ⟨k, t, ns, ks, rfl, hp, -⟩ := valid_wf h hv
    have hk : k = 5 := hk
    subst hk
    exact plain5 hp
theorem cmpB_none_in (c : Int) : cmpB [105, 110] c = none := rfl

theorem w39 {m : Nat} (hm : 450 ≤ m) (k : Int) (t : List UInt8) (ns : List PV) (x y : PV) (hx : Opd x) (hy : Opd y) :
    R m 39 (.agg [exV k t ns [x, y]]) = some (.agg [foldB t x y (exV k t ns [x, y])]) := by
  obtain ⟨n, rfl⟩ : ∃ n, m = n + 1 := ⟨m - 1, by omega⟩
  have e1 := w43 (m := n) (by omega) hx.shape
  have e2 := w43 (m := n) (by omega) hy.shape
  have bo := w41_82 (m := n) (by omega) 41 (.inl rfl)
  rw [R_succ n 39 _ rfl]
  obtain ⟨kx, tx, nx, cx, rfl, lx, -⟩ := hx.wf
  obtain ⟨ky, ty, ny, cy, rfl, ly, -⟩ := hy.wf
  have z0 : (0 : Int).toNat = 0 := rfl
  have z1 : (1 : Int).toNat = 1 := rfl
  have len2 : ∀ a b : PV, (([a, b] : List PV).length : Int) = 2 := fun _ _ => rfl
  have hxt : kx = 5 → tx.length ≤ 400 := hx.text
  have hyt : ky = 5 → ty.length ≤ 400 := hy.text
  have text : ∀ A : Option PV, A = St39.dn (n + 1) (R n) [] [.agg [exV k t ns [exV kx tx nx cx, exV ky ty ny cy]]] → (intZ (exV kx tx nx cx) = none ∨ intZ (exV ky ty ny cy) = none) → A = some (.agg [foldT t kx tx ky ty (exV k t ns [exV kx tx nx cx, exV ky ty ny cy])]) := by
    rintro A rfl h
    have c1 := w68_88 (m := n) (by omega) 68 (.inl rfl) tx ty
    have c2 := w65 (m := n) (by omega) t (cmpT tx ty)
    have wl : IntKind.i64.wrap ((tx.length : Int) + (ty.length : Int)) = (tx.length : Int) + ty.length := w64 (by omega) (by omega)
    have happ : ((tx ++ ty).length : Int) ≤ 16777216 := by rw [List.length_append]; omega
    have fin : ∀ B : Option PV, (B = eqE kx 5 (eqE ky 5 (match R n 68 (.agg [.str tx, .str ty]) with
        | some r => match R n 65 (.agg [.str t, (O1.fld 0).dn r]) with
          | some r => pbE ((O1.fld 1).dn r)
              (match R n 41 (.agg [(O1.fld 0).dn r]) with
              | some r => some (.agg [.agg [(O1.fld 0).dn ((O1.fld 0).dn r), (O1.fld 1).dn ((O1.fld 0).dn r), (O1.fld 2).dn ((O1.fld 0).dn r), (O1.fld 3).dn ((O1.fld 0).dn r)]])
              | none => none)
              (seqE t [43] (leE ((tx.length : Int) + ty.length) 400 (leE ((tx ++ ty).length : Int) 16777216 (some (.agg [exV 5 (tx ++ ty) [] []])) none)
                (seqE t [105, 110] (match R n 69 (.agg [.str ty, .str tx]) with
                  | some r => match R n 41 (.agg [.bool (decide (0 ≤ ((O1.fld 0).dn r).i))]) with
                    | some r => some (.agg [.agg [(O1.fld 0).dn ((O1.fld 0).dn r), (O1.fld 1).dn ((O1.fld 0).dn r), (O1.fld 2).dn ((O1.fld 0).dn r), (O1.fld 3).dn ((O1.fld 0).dn r)]])
                    | none => none
                  | none => none) (some (.agg [exV k t ns [exV kx tx nx cx, exV ky ty ny cy]]))))
                (seqE t [105, 110] (match R n 69 (.agg [.str ty, .str tx]) with
                  | some r => match R n 41 (.agg [.bool (decide (0 ≤ ((O1.fld 0).dn r).i))]) with
                    | some r => some (.agg [.agg [(O1.fld 0).dn ((O1.fld 0).dn r), (O1.fld 1).dn ((O1.fld 0).dn r), (O1.fld 2).dn ((O1.fld 0).dn r), (O1.fld 3).dn ((O1.fld 0).dn r)]])
                    | none => none
                  | none => none) (some (.agg [exV k t ns [exV kx tx nx cx, exV ky ty ny cy]]))))
          | none => none
        | none => none) (some (.agg [exV k t ns [exV kx tx nx cx, exV ky ty ny cy]]))) (some (.agg [exV k t ns [exV kx tx nx cx, exV ky ty ny cy]]))) → B = some (.agg [foldT t kx tx ky ty (exV k t ns [exV kx tx nx cx, exV ky ty ny cy])]) := by
      rintro B rfl
      unfold foldT
      by_cases hk5 : kx = 5
      · by_cases hk5' : ky = 5
        · rw [eq_pos hk5, eq_pos hk5', if_pos ⟨hk5, hk5'⟩, c1]
          have fx := w69 (m := n) (by omega) ty tx (hyt hk5') (hxt hk5)
          have e0 : (O1.fld 0).dn (.agg [.int .i64 (cmpT tx ty)]) = .int .i64 (cmpT tx ty) := rfl
          simp only [e0, c2, fx]
          cases hc : cmpB t (cmpT tx ty) with
          | some q =>
            simp only [ya, yb, yc, yd, ye, yf, yg, yh, yi, yj, yk, yl, ym, yn, yo, yp, yq, yr, yt, yu, yv, yw, yx, yy, yz, za, zb, zc, zd, get0, getS, ze, zf, zg, zh, zi, zj, zk, zl, zm, zn, zo, zp, zq, zr, zs, zt, zu, zv, zw, zx, zy, zz, ua, ub, uc, ud, ue, uf, ug, uh, ui, uj, uk, ul, um, List.nil_append, List.cons_append, bo, boolE_eta]
          | none =>
            simp only [ya, yb, yc, yd, ye, yf, yg, yh, yi, yj, yk, yl, ym, yn, yo, yp, yq, yr, yt, yu, yv, yw, yx, yy, yz, za, zb, zc, zd, get0, getS, ze, zf, zg, zh, zi, zj, zk, zl, zm, zn, zo, zp, zq, zr, zs, zt, zu, zv, zw, zx, zy, zz, ua, ub, uc, ud, ue, uf, ug, uh, ui, uj, uk, ul, um, List.nil_append, List.cons_append, bo, boolE_eta]
            by_cases h43 : t = [43]
            · rw [seq_pos h43]
              by_cases hl : tx.length + ty.length ≤ 400
              · rw [le_pos (by omega), le_pos happ, if_pos ⟨h43, hl⟩]; rfl
              · rw [le_neg (by omega), seq_neg (by rw [h43]; decide), if_neg (fun h => hl h.2), if_neg (by rw [h43]; decide)]
            · rw [seq_neg h43, if_neg (fun h => h43 h.1)]
              by_cases hin : t = [105, 110]
              · rw [seq_pos hin, if_pos hin]; rfl
              · rw [seq_neg hin, if_neg hin]
        · rw [eq_pos hk5, eq_neg hk5', if_neg (fun h => hk5' h.2)]
      · rw [eq_neg hk5, if_neg (fun h => hk5 h.1)]
    apply fin
    unfold intP at e1 e2
    cases hzx : intZ (exV kx tx nx cx) with
    | none =>
      rw [hzx] at e1
      simp only [exV, ya, yb, yc, yd, ye, yf, yg, yh, yi, yj, yk, yl, ym, yn, yo, yp, yq, yr, yt, yu, yv, yw, yx, yy, yz, za, zb, zc, zd, get0, getS, ze, zf, zg, zh, zi, zj, zk, zl, zm, zn, zo, zp, zq, zr, zs, zt, zu, zv, zw, zx, zy, zz, ua, ub, uc, ud, ue, uf, ug, uh, ui, uj, uk, ul, um, List.nil_append, List.cons_append] at e1
      cases hzy : intZ (exV ky ty ny cy) with
      | none =>
        rw [hzy] at e2
        simp only [exV, ya, yb, yc, yd, ye, yf, yg, yh, yi, yj, yk, yl, ym, yn, yo, yp, yq, yr, yt, yu, yv, yw, yx, yy, yz, za, zb, zc, zd, get0, getS, ze, zf, zg, zh, zi, zj, zk, zl, zm, zn, zo, zp, zq, zr, zs, zt, zu, zv, zw, zx, zy, zz, ua, ub, uc, ud, ue, uf, ug, uh, ui, uj, uk, ul, um, List.nil_append, List.cons_append] at e2
        simp only [St39, exV, ya, yb, yc, yd, ye, yf, yg, yh, yi, yj, yk, yl, ym, yn, yo, yp, yq, yr, yt, yu, yv, yw, yx, yy, yz, za, zb, zc, zd, get0, getS, ze, zf, zg, zh, zi, zj, zk, zl, zm, zn, zo, zp, zq, zr, zs, zt, zu, zv, zw, zx, zy, zz, ua, ub, uc, ud, ue, uf, ug, uh, ui, uj, uk, ul, um, List.nil_append, List.cons_append, z0, z1, len2, e1, e2, wl]
        rw [lt_pos (by decide), lt_pos (by decide)]; rfl
      | some b =>
        rw [hzy] at e2
        simp only [exV, ya, yb, yc, yd, ye, yf, yg, yh, yi, yj, yk, yl, ym, yn, yo, yp, yq, yr, yt, yu, yv, yw, yx, yy, yz, za, zb, zc, zd, get0, getS, ze, zf, zg, zh, zi, zj, zk, zl, zm, zn, zo, zp, zq, zr, zs, zt, zu, zv, zw, zx, zy, zz, ua, ub, uc, ud, ue, uf, ug, uh, ui, uj, uk, ul, um, List.nil_append, List.cons_append] at e2
        simp only [St39, exV, ya, yb, yc, yd, ye, yf, yg, yh, yi, yj, yk, yl, ym, yn, yo, yp, yq, yr, yt, yu, yv, yw, yx, yy, yz, za, zb, zc, zd, get0, getS, ze, zf, zg, zh, zi, zj, zk, zl, zm, zn, zo, zp, zq, zr, zs, zt, zu, zv, zw, zx, zy, zz, ua, ub, uc, ud, ue, uf, ug, uh, ui, uj, uk, ul, um, List.nil_append, List.cons_append, z0, z1, len2, e1, e2, wl]
        rw [lt_pos (by decide), lt_pos (by decide)]; rfl
    | some a =>
      rw [hzx] at e1
      simp only [exV, ya, yb, yc, yd, ye, yf, yg, yh, yi, yj, yk, yl, ym, yn, yo, yp, yq, yr, yt, yu, yv, yw, yx, yy, yz, za, zb, zc, zd, get0, getS, ze, zf, zg, zh, zi, zj, zk, zl, zm, zn, zo, zp, zq, zr, zs, zt, zu, zv, zw, zx, zy, zz, ua, ub, uc, ud, ue, uf, ug, uh, ui, uj, uk, ul, um, List.nil_append, List.cons_append] at e1
      cases hzy : intZ (exV ky ty ny cy) with
      | none =>
        rw [hzy] at e2
        simp only [exV, ya, yb, yc, yd, ye, yf, yg, yh, yi, yj, yk, yl, ym, yn, yo, yp, yq, yr, yt, yu, yv, yw, yx, yy, yz, za, zb, zc, zd, get0, getS, ze, zf, zg, zh, zi, zj, zk, zl, zm, zn, zo, zp, zq, zr, zs, zt, zu, zv, zw, zx, zy, zz, ua, ub, uc, ud, ue, uf, ug, uh, ui, uj, uk, ul, um, List.nil_append, List.cons_append] at e2
        simp only [St39, exV, ya, yb, yc, yd, ye, yf, yg, yh, yi, yj, yk, yl, ym, yn, yo, yp, yq, yr, yt, yu, yv, yw, yx, yy, yz, za, zb, zc, zd, get0, getS, ze, zf, zg, zh, zi, zj, zk, zl, zm, zn, zo, zp, zq, zr, zs, zt, zu, zv, zw, zx, zy, zz, ua, ub, uc, ud, ue, uf, ug, uh, ui, uj, uk, ul, um, List.nil_append, List.cons_append, z0, z1, len2, e1, e2, wl]
        rw [lt_pos (by decide), lt_pos (by decide)]; rfl
      | some b =>
        rcases h with h | h
        · rw [hzx] at h; cases h
        · rw [hzy] at h; cases h
  cases hzx : intZ (exV kx tx nx cx) with
  | none => rw [foldB_text (.inl hzx)]; exact text _ rfl (.inl hzx)
  | some a =>
    cases hzy : intZ (exV ky ty ny cy) with
    | none => rw [foldB_text (.inr hzy)]; exact text _ rfl (.inr hzy)
    | some b =>
      rw [foldB_int hzx hzy]
      have fa := hx.fits a hzx
      have fb := hy.fits b hzy
      have e3 := f28 (m := n) (by omega) (textZ a) (textZ b)
      rw [if_pos ⟨textZ_int fa, textZ_int fb⟩, Z_textZ, Z_textZ] at e3
      have e4 := w65 (m := n) (by omega) t (cmpI a b)
      have e5 := w67 (m := n) (by omega) t a b fa fb
      have e6 := w45_83 (m := n) (by omega) 45 (.inl rfl)
      unfold intP at e1 e2
      rw [hzx] at e1
      rw [hzy] at e2
      simp only [exV, ya, yb, yc, yd, ye, yf, yg, yh, yi, yj, yk, yl, ym, yn, yo, yp, yq, yr, yt, yu, yv, yw, yx, yy, yz, za, zb, zc, zd, get0, getS, ze, zf, zg, zh, zi, zj, zk, zl, zm, zn, zo, zp, zq, zr, zs, zt, zu, zv, zw, zx, zy, zz, ua, ub, uc, ud, ue, uf, ug, uh, ui, uj, uk, ul, um, List.nil_append, List.cons_append] at e1 e2
      unfold foldZ
      cases hc : cmpB t (cmpI a b) with
      | some q =>
        rw [hc] at e4
        simp only [St39, exV, ya, yb, yc, yd, ye, yf, yg, yh, yi, yj, yk, yl, ym, yn, yo, yp, yq, yr, yt, yu, yv, yw, yx, yy, yz, za, zb, zc, zd, get0, getS, ze, zf, zg, zh, zi, zj, zk, zl, zm, zn, zo, zp, zq, zr, zs, zt, zu, zv, zw, zx, zy, zz, ua, ub, uc, ud, ue, uf, ug, uh, ui, uj, uk, ul, um, List.nil_append, List.cons_append, z0, z1, len2, e1, e2, e3, e4, bo, boolE_eta]
        rw [lt_pos (by decide), lt_pos (by decide)]
      | none =>
        rw [hc] at e4
        unfold ozV at e5
        cases ho : opZ t a b with
        | none =>
          rw [ho] at e5
          simp only [St39, exV, ya, yb, yc, yd, ye, yf, yg, yh, yi, yj, yk, yl, ym, yn, yo, yp, yq, yr, yt, yu, yv, yw, yx, yy, yz, za, zb, zc, zd, get0, getS, ze, zf, zg, zh, zi, zj, zk, zl, zm, zn, zo, zp, zq, zr, zs, zt, zu, zv, zw, zx, zy, zz, ua, ub, uc, ud, ue, uf, ug, uh, ui, uj, uk, ul, um, List.nil_append, List.cons_append, z0, z1, len2, e1, e2, e3, e4, e5]
          rw [lt_pos (by decide), lt_pos (by decide)]
        | some z =>
          rw [ho] at e5
          cases hf : fits40 z with
          | true =>
            simp only [fit_true hf] at e5
            simp only [St39, exV, ya, yb, yc, yd, ye, yf, yg, yh, yi, yj, yk, yl, ym, yn, yo, yp, yq, yr, yt, yu, yv, yw, yx, yy, yz, za, zb, zc, zd, get0, getS, ze, zf, zg, zh, zi, zj, zk, zl, zm, zn, zo, zp, zq, zr, zs, zt, zu, zv, zw, zx, zy, zz, ua, ub, uc, ud, ue, uf, ug, uh, ui, uj, uk, ul, um, List.nil_append, List.cons_append, z0, z1, len2, e1, e2, e3, e4, e5, e6, intE_eta]
            rw [lt_pos (by decide), lt_pos (by decide), if_pos hf]
          | false =>
            simp only [fit_false hf] at e5
            simp only [St39, exV, ya, yb, yc, yd, ye, yf, yg, yh, yi, yj, yk, yl, ym, yn, yo, yp, yq, yr, yt, yu, yv, yw, yx, yy, yz, za, zb, zc, zd, get0, getS, ze, zf, zg, zh, zi, zj, zk, zl, zm, zn, zo, zp, zq, zr, zs, zt, zu, zv, zw, zx, zy, zz, ua, ub, uc, ud, ue, uf, ug, uh, ui, uj, uk, ul, um, List.nil_append, List.cons_append, z0, z1, len2, e1, e2, e3, e4, e5]
            rw [lt_pos (by decide), lt_pos (by decide), if_neg (by rw [hf]; decide)]
end Go.Dv

/- Folding of the reference. -/
set_option linter.unusedVariables false
set_option linter.unusedSimpArgs false
namespace Go.Dv
open Go.Lib

theorem ops_split {t : List UInt8} (ht : t ∈ ops14) : (t ∈ ops6 ∧ oplv t ≠ 5 ∧ (∀ c, cmpB t c = none) ∧ t ≠ [105, 110] ∧ t ≠ [105, 115]) ∨ (oplv t = 5 ∧ t ≠ [43] ∧ (t = [105, 110] ∨ t = [105, 115] ∨ (t ≠ [105, 110] ∧ t ≠ [105, 115] ∧ ∀ c, (cmpB t c).isSome = true))) := by
  simp only [ops14, List.mem_cons, List.not_mem_nil, or_false] at ht
  rcases ht with rfl | rfl | rfl | rfl | rfl | rfl | rfl | rfl | rfl | rfl | rfl | rfl | rfl | rfl
  · exact .inl ⟨by decide, by decide, fun _ => rfl, by decide, by decide⟩
  · exact .inl ⟨by decide, by decide, fun _ => rfl, by decide, by decide⟩
  · exact .inl ⟨by decide, by decide, fun _ => rfl, by decide, by decide⟩
  · exact .inl ⟨by decide, by decide, fun _ => rfl, by decide, by decide⟩
  · exact .inl ⟨by decide, by decide, fun _ => rfl, by decide, by decide⟩
  · exact .inl ⟨by decide, by decide, fun _ => rfl, by decide, by decide⟩
  · exact .inr ⟨by decide, by decide, .inr (.inr ⟨by decide, by decide, fun _ => rfl⟩)⟩
  · exact .inr ⟨by decide, by decide, .inr (.inr ⟨by decide, by decide, fun _ => rfl⟩)⟩
  · exact .inr ⟨by decide, by decide, .inr (.inr ⟨by decide, by decide, fun _ => rfl⟩)⟩
  · exact .inr ⟨by decide, by decide, .inr (.inr ⟨by decide, by decide, fun _ => rfl⟩)⟩
  · exact .inr ⟨by decide, by decide, .inr (.inr ⟨by decide, by decide, fun _ => rfl⟩)⟩
  · exact .inr ⟨by decide, by decide, .inr (.inr ⟨by decide, by decide, fun _ => rfl⟩)⟩
  · exact .inr ⟨by decide, by decide, .inl rfl⟩
  · exact .inr ⟨by decide, by decide, .inr (.inl rfl)⟩
theorem w85 {m : Nat} (hm : 320 ≤ m) (k : Int) (t : List UInt8) (ns ks : List PV) (ht : t ∈ ops14) (a b : Int) (ha : fits40 a = true) (hb : fits40 b = true) :
    R m 85 (.agg [exV k t ns ks, .str (textZ a), .str (textZ b)]) = some (.agg [foldZ t a b (exV k t ns ks)]) := by
  obtain ⟨n, rfl⟩ : ∃ n, m = n + 1 := ⟨m - 1, by omega⟩
  have dig : ∀ z, fits40 z = true → ∀ n, 101 ≤ n → R n 114 (.agg [.str (textZ z)]) = some (digV z) := fun z hz n hn => f110T hn z ((fits_Sm hz).mono (by omega))
  have e1 := w78 (m := n) (by omega) t
  have e2 := f73 (m := n) (by omega) (dig a ha) (dig b hb) ((fits_Sm ha).mono (by omega)) ((fits_Sm hb).mono (by omega))
  have e3 := w87 (m := n) (by omega) t (cmpI a b)
  have bo := w41_82 (m := n) (by omega) 82 (.inr rfl)
  have e6 := w45_83 (m := n) (by omega) 83 (.inr rfl)
  rw [R_succ n 85 _ rfl]
  unfold foldZ
  rcases ops_split ht with ⟨h6, h5, hc, hin, his⟩ | ⟨h5, h43, h⟩
  · have e5 := w117 (m := n) (by omega) t h6 a b ha hb
    rw [hc]
    unfold ozV at e5
    cases ho : opZ t a b with
    | none =>
      rw [ho] at e5
      simp only [St85, exV, ya, yb, yc, yd, ye, yf, yg, yh, yi, yj, yk, yl, ym, yn, yo, yp, yq, yr, yt, yu, yv, yw, yx, yy, yz, za, zb, zc, zd, get0, getS, ze, zf, zg, zh, zi, zj, zk, zl, zm, zn, zo, zp, zq, zr, zs, zt, zu, zv, zw, zx, zy, zz, ua, ub, uc, ud, ue, uf, ug, uh, ui, uj, uk, ul, um, List.nil_append, List.cons_append, e1, e5, Bool.not_false]
      rw [eq_neg h5]
    | some z =>
      rw [ho] at e5
      cases hf : fits40 z with
      | true =>
        simp only [fit_true hf] at e5
        simp only [St85, exV, ya, yb, yc, yd, ye, yf, yg, yh, yi, yj, yk, yl, ym, yn, yo, yp, yq, yr, yt, yu, yv, yw, yx, yy, yz, za, zb, zc, zd, get0, getS, ze, zf, zg, zh, zi, zj, zk, zl, zm, zn, zo, zp, zq, zr, zs, zt, zu, zv, zw, zx, zy, zz, ua, ub, uc, ud, ue, uf, ug, uh, ui, uj, uk, ul, um, List.nil_append, List.cons_append, e1, e5, e6, intE_eta, Bool.not_true]
        rw [eq_neg h5, if_pos hf]
      | false =>
        simp only [fit_false hf] at e5
        simp only [St85, exV, ya, yb, yc, yd, ye, yf, yg, yh, yi, yj, yk, yl, ym, yn, yo, yp, yq, yr, yt, yu, yv, yw, yx, yy, yz, za, zb, zc, zd, get0, getS, ze, zf, zg, zh, zi, zj, zk, zl, zm, zn, zo, zp, zq, zr, zs, zt, zu, zv, zw, zx, zy, zz, ua, ub, uc, ud, ue, uf, ug, uh, ui, uj, uk, ul, um, List.nil_append, List.cons_append, e1, e5, Bool.not_false]
        rw [eq_neg h5, if_neg (by rw [hf]; decide)]
  · rcases h with rfl | rfl | ⟨hin, his, hs⟩
    · have : cmpB [105, 110] (cmpI a b) = none := rfl
      rw [this]
      have : opZ [105, 110] a b = none := rfl
      rw [this]
      simp only [St85, exV, ya, yb, yc, yd, ye, yf, yg, yh, yi, yj, yk, yl, ym, yn, yo, yp, yq, yr, yt, yu, yv, yw, yx, yy, yz, za, zb, zc, zd, get0, getS, ze, zf, zg, zh, zi, zj, zk, zl, zm, zn, zo, zp, zq, zr, zs, zt, zu, zv, zw, zx, zy, zz, ua, ub, uc, ud, ue, uf, ug, uh, ui, uj, uk, ul, um, List.nil_append, List.cons_append, e1]
      rw [eq_pos h5, seq_pos rfl]
    · have : cmpB [105, 115] (cmpI a b) = none := rfl
      rw [this]
      have : opZ [105, 115] a b = none := rfl
      rw [this]
      simp only [St85, exV, ya, yb, yc, yd, ye, yf, yg, yh, yi, yj, yk, yl, ym, yn, yo, yp, yq, yr, yt, yu, yv, yw, yx, yy, yz, za, zb, zc, zd, get0, getS, ze, zf, zg, zh, zi, zj, zk, zl, zm, zn, zo, zp, zq, zr, zs, zt, zu, zv, zw, zx, zy, zz, ua, ub, uc, ud, ue, uf, ug, uh, ui, uj, uk, ul, um, List.nil_append, List.cons_append, e1]
      rw [eq_pos h5, seq_neg (by decide), seq_pos rfl]
    · have hs := hs (cmpI a b)
      cases hc : cmpB t (cmpI a b) with
      | none => rw [hc] at hs; cases hs
      | some q =>
        rw [hc] at e3
        have eq : (some q).getD (!decide (cmpI a b = 0)) = q := rfl
        rw [eq] at e3
        simp only [St85, exV, ya, yb, yc, yd, ye, yf, yg, yh, yi, yj, yk, yl, ym, yn, yo, yp, yq, yr, yt, yu, yv, yw, yx, yy, yz, za, zb, zc, zd, get0, getS, ze, zf, zg, zh, zi, zj, zk, zl, zm, zn, zo, zp, zq, zr, zs, zt, zu, zv, zw, zx, zy, zz, ua, ub, uc, ud, ue, uf, ug, uh, ui, uj, uk, ul, um, List.nil_append, List.cons_append, e1, e2, e3, bo, boolE_eta]
        rw [eq_pos h5, seq_neg hin, seq_neg his]

theorem w49 {m : Nat} (hm : 450 ≤ m) (k : Int) (t : List UInt8) (ns : List PV) (x y : PV) (ht : t ∈ ops14) (hx : Opd x) (hy : Opd y) :
    R m 49 (.agg [exV k t ns [x, y]]) = some (.agg [foldB t x y (exV k t ns [x, y])]) := by
  obtain ⟨n, rfl⟩ : ∃ n, m = n + 1 := ⟨m - 1, by omega⟩
  have e1 := w81 (m := n) (by omega) hx.shape
  have e2 := w81 (m := n) (by omega) hy.shape
  have bo := w41_82 (m := n) (by omega) 82 (.inr rfl)
  rw [R_succ n 49 _ rfl]
  obtain ⟨kx, tx, nx, cx, rfl, lx, -⟩ := hx.wf
  obtain ⟨ky, ty, ny, cy, rfl, ly, -⟩ := hy.wf
  have z0 : (0 : Int).toNat = 0 := rfl
  have z1 : (1 : Int).toNat = 1 := rfl
  have len2 : ∀ a b : PV, (([a, b] : List PV).length : Int) = 2 := fun _ _ => rfl
  have hxt : kx = 5 → tx.length ≤ 400 := hx.text
  have hyt : ky = 5 → ty.length ≤ 400 := hy.text
  have text : ∀ A : Option PV, A = St49.dn (n + 1) (R n) [] [.agg [exV k t ns [exV kx tx nx cx, exV ky ty ny cy]]] → (intZ (exV kx tx nx cx) = none ∨ intZ (exV ky ty ny cy) = none) → A = some (.agg [foldT t kx tx ky ty (exV k t ns [exV kx tx nx cx, exV ky ty ny cy])]) := by
    rintro A rfl h
    have c1 := w68_88 (m := n) (by omega) 88 (.inr rfl) tx ty
    have c2 := w87 (m := n) (by omega) t (cmpT tx ty)
    have c3 := w76 (m := n) (by omega) (tx ++ ty)
    have c4 := w78 (m := n) (by omega) t
    have happ : ((tx ++ ty).length : Int) ≤ 16777216 := by rw [List.length_append]; omega
    have fin : ∀ B : Option PV, (B = eqE kx 5 (eqE ky 5 (seqE t [43] (leE ((tx ++ ty).length : Int) 16777216 (bE (decide (((tx ++ ty).length : Int) ≤ 400)) (some (.agg [exV 5 (tx ++ ty) [] []]))
          (seqE t [105, 110] (match R n 86 (.agg [.str ty, .str tx, .int .i64 0]) with
                  | some r => match R n 82 (.agg [.bool (decide (0 ≤ ((O1.fld 0).dn r).i))]) with
                    | some r => some (.agg [.agg [(O1.fld 0).dn ((O1.fld 0).dn r), (O1.fld 1).dn ((O1.fld 0).dn r), (O1.fld 2).dn ((O1.fld 0).dn r), (O1.fld 3).dn ((O1.fld 0).dn r)]])
                    | none => none
                  | none => none)
            (eqE (oplv t) 5 (seqE t [105, 115] (some (.agg [exV k t ns [exV kx tx nx cx, exV ky ty ny cy]])) (match R n 88 (.agg [.str tx, .str ty]) with
              | some r => match R n 87 (.agg [.str t, (O1.fld 0).dn r]) with
                | some r => match R n 82 (.agg [(O1.fld 0).dn r]) with
                  | some r => some (.agg [.agg [(O1.fld 0).dn ((O1.fld 0).dn r), (O1.fld 1).dn ((O1.fld 0).dn r), (O1.fld 2).dn ((O1.fld 0).dn r), (O1.fld 3).dn ((O1.fld 0).dn r)]])
                  | none => none
                | none => none
              | none => none)) (some (.agg [exV k t ns [exV kx tx nx cx, exV ky ty ny cy]]))))) none)
          (seqE t [105, 110] (match R n 86 (.agg [.str ty, .str tx, .int .i64 0]) with
                  | some r => match R n 82 (.agg [.bool (decide (0 ≤ ((O1.fld 0).dn r).i))]) with
                    | some r => some (.agg [.agg [(O1.fld 0).dn ((O1.fld 0).dn r), (O1.fld 1).dn ((O1.fld 0).dn r), (O1.fld 2).dn ((O1.fld 0).dn r), (O1.fld 3).dn ((O1.fld 0).dn r)]])
                    | none => none
                  | none => none)
            (eqE (oplv t) 5 (seqE t [105, 115] (some (.agg [exV k t ns [exV kx tx nx cx, exV ky ty ny cy]])) (match R n 88 (.agg [.str tx, .str ty]) with
              | some r => match R n 87 (.agg [.str t, (O1.fld 0).dn r]) with
                | some r => match R n 82 (.agg [(O1.fld 0).dn r]) with
                  | some r => some (.agg [.agg [(O1.fld 0).dn ((O1.fld 0).dn r), (O1.fld 1).dn ((O1.fld 0).dn r), (O1.fld 2).dn ((O1.fld 0).dn r), (O1.fld 3).dn ((O1.fld 0).dn r)]])
                  | none => none
                | none => none
              | none => none)) (some (.agg [exV k t ns [exV kx tx nx cx, exV ky ty ny cy]]))))) (some (.agg [exV k t ns [exV kx tx nx cx, exV ky ty ny cy]]))) (some (.agg [exV k t ns [exV kx tx nx cx, exV ky ty ny cy]]))) → B = some (.agg [foldT t kx tx ky ty (exV k t ns [exV kx tx nx cx, exV ky ty ny cy])]) := by
      rintro B rfl
      unfold foldT
      by_cases hk5 : kx = 5
      · by_cases hk5' : ky = 5
        · rw [eq_pos hk5, eq_pos hk5', if_pos ⟨hk5, hk5'⟩]
          have fx := w86 (m := n) ty tx (by omega) (hyt hk5') (hxt hk5)
          rcases ops_split ht with ⟨h6, h5, hc, hin, his⟩ | ⟨h5, h43, h⟩
          · rw [hc]
            simp only [if_neg hin]
            by_cases h43 : t = [43]
            · rw [seq_pos h43, le_pos happ]
              by_cases hl : tx.length + ty.length ≤ 400
              · rw [decide_eq_true (by rw [List.length_append]; omega), yx, if_pos ⟨h43, hl⟩]; rfl
              · rw [decide_eq_false (by rw [List.length_append]; omega), yy, seq_neg hin, eq_neg h5, if_neg (fun h => hl h.2)]
            · rw [seq_neg h43, seq_neg hin, eq_neg h5, if_neg (fun h => h43 h.1)]
          · rw [seq_neg h43]
            rcases h with rfl | rfl | ⟨hin, his, hs⟩
            · have : cmpB [105, 110] (cmpT tx ty) = none := rfl
              rw [this, seq_pos rfl]
              simp only [fx, ya, yb, yc, yd, ye, yf, yg, yh, yi, yj, yk, yl, ym, yn, yo, yp, yq, yr, yt, yu, yv, yw, yx, yy, yz, za, zb, zc, zd, get0, getS, ze, zf, zg, zh, zi, zj, zk, zl, zm, zn, zo, zp, zq, zr, zs, zt, zu, zv, zw, zx, zy, zz, ua, ub, uc, ud, ue, uf, ug, uh, ui, uj, uk, ul, um, List.nil_append, List.cons_append, bo, boolE_eta]
              rw [if_neg (by intro h; exact absurd h.1 (by decide)), if_pos trivial]
              rfl
            · have : cmpB [105, 115] (cmpT tx ty) = none := rfl
              rw [this, seq_neg (by decide), eq_pos h5, seq_pos rfl]
              simp only []
              rw [if_neg (by intro h; exact absurd h.1 (by decide)), if_neg (by decide)]
            · have hs := hs (cmpT tx ty)
              rw [seq_neg hin, eq_pos h5, seq_neg his, c1]
              cases hc : cmpB t (cmpT tx ty) with
              | none => rw [hc] at hs; cases hs
              | some q =>
                rw [hc] at c2
                have eq : (some q).getD (!decide (cmpT tx ty = 0)) = q := rfl
                rw [eq] at c2
                simp only [ya, yb, yc, yd, ye, yf, yg, yh, yi, yj, yk, yl, ym, yn, yo, yp, yq, yr, yt, yu, yv, yw, yx, yy, yz, za, zb, zc, zd, get0, getS, ze, zf, zg, zh, zi, zj, zk, zl, zm, zn, zo, zp, zq, zr, zs, zt, zu, zv, zw, zx, zy, zz, ua, ub, uc, ud, ue, uf, ug, uh, ui, uj, uk, ul, um, List.nil_append, List.cons_append, c2, bo, boolE_eta]
        · rw [eq_pos hk5, eq_neg hk5', if_neg (fun h => hk5' h.2)]
      · rw [eq_neg hk5, if_neg (fun h => hk5 h.1)]
    apply fin
    unfold intP at e1 e2
    cases hzx : intZ (exV kx tx nx cx) with
    | none =>
      rw [hzx] at e1
      simp only [exV, ya, yb, yc, yd, ye, yf, yg, yh, yi, yj, yk, yl, ym, yn, yo, yp, yq, yr, yt, yu, yv, yw, yx, yy, yz, za, zb, zc, zd, get0, getS, ze, zf, zg, zh, zi, zj, zk, zl, zm, zn, zo, zp, zq, zr, zs, zt, zu, zv, zw, zx, zy, zz, ua, ub, uc, ud, ue, uf, ug, uh, ui, uj, uk, ul, um, List.nil_append, List.cons_append] at e1
      cases hzy : intZ (exV ky ty ny cy) with
      | none =>
        rw [hzy] at e2
        simp only [exV, ya, yb, yc, yd, ye, yf, yg, yh, yi, yj, yk, yl, ym, yn, yo, yp, yq, yr, yt, yu, yv, yw, yx, yy, yz, za, zb, zc, zd, get0, getS, ze, zf, zg, zh, zi, zj, zk, zl, zm, zn, zo, zp, zq, zr, zs, zt, zu, zv, zw, zx, zy, zz, ua, ub, uc, ud, ue, uf, ug, uh, ui, uj, uk, ul, um, List.nil_append, List.cons_append] at e2
        simp only [St49, exV, ya, yb, yc, yd, ye, yf, yg, yh, yi, yj, yk, yl, ym, yn, yo, yp, yq, yr, yt, yu, yv, yw, yx, yy, yz, za, zb, zc, zd, get0, getS, ze, zf, zg, zh, zi, zj, zk, zl, zm, zn, zo, zp, zq, zr, zs, zt, zu, zv, zw, zx, zy, zz, ua, ub, uc, ud, ue, uf, ug, uh, ui, uj, uk, ul, um, List.nil_append, List.cons_append, z0, z1, len2, e1, e2, c3, c4]
        rw [lt_pos (by decide), lt_pos (by decide)]; rfl
      | some b =>
        rw [hzy] at e2
        simp only [exV, ya, yb, yc, yd, ye, yf, yg, yh, yi, yj, yk, yl, ym, yn, yo, yp, yq, yr, yt, yu, yv, yw, yx, yy, yz, za, zb, zc, zd, get0, getS, ze, zf, zg, zh, zi, zj, zk, zl, zm, zn, zo, zp, zq, zr, zs, zt, zu, zv, zw, zx, zy, zz, ua, ub, uc, ud, ue, uf, ug, uh, ui, uj, uk, ul, um, List.nil_append, List.cons_append] at e2
        simp only [St49, exV, ya, yb, yc, yd, ye, yf, yg, yh, yi, yj, yk, yl, ym, yn, yo, yp, yq, yr, yt, yu, yv, yw, yx, yy, yz, za, zb, zc, zd, get0, getS, ze, zf, zg, zh, zi, zj, zk, zl, zm, zn, zo, zp, zq, zr, zs, zt, zu, zv, zw, zx, zy, zz, ua, ub, uc, ud, ue, uf, ug, uh, ui, uj, uk, ul, um, List.nil_append, List.cons_append, z0, z1, len2, e1, e2, c3, c4]
        rw [lt_pos (by decide), lt_pos (by decide)]; rfl
    | some a =>
      rw [hzx] at e1
      simp only [exV, ya, yb, yc, yd, ye, yf, yg, yh, yi, yj, yk, yl, ym, yn, yo, yp, yq, yr, yt, yu, yv, yw, yx, yy, yz, za, zb, zc, zd, get0, getS, ze, zf, zg, zh, zi, zj, zk, zl, zm, zn, zo, zp, zq, zr, zs, zt, zu, zv, zw, zx, zy, zz, ua, ub, uc, ud, ue, uf, ug, uh, ui, uj, uk, ul, um, List.nil_append, List.cons_append] at e1
      cases hzy : intZ (exV ky ty ny cy) with
      | none =>
        rw [hzy] at e2
        simp only [exV, ya, yb, yc, yd, ye, yf, yg, yh, yi, yj, yk, yl, ym, yn, yo, yp, yq, yr, yt, yu, yv, yw, yx, yy, yz, za, zb, zc, zd, get0, getS, ze, zf, zg, zh, zi, zj, zk, zl, zm, zn, zo, zp, zq, zr, zs, zt, zu, zv, zw, zx, zy, zz, ua, ub, uc, ud, ue, uf, ug, uh, ui, uj, uk, ul, um, List.nil_append, List.cons_append] at e2
        simp only [St49, exV, ya, yb, yc, yd, ye, yf, yg, yh, yi, yj, yk, yl, ym, yn, yo, yp, yq, yr, yt, yu, yv, yw, yx, yy, yz, za, zb, zc, zd, get0, getS, ze, zf, zg, zh, zi, zj, zk, zl, zm, zn, zo, zp, zq, zr, zs, zt, zu, zv, zw, zx, zy, zz, ua, ub, uc, ud, ue, uf, ug, uh, ui, uj, uk, ul, um, List.nil_append, List.cons_append, z0, z1, len2, e1, e2, c3, c4]
        rw [lt_pos (by decide), lt_pos (by decide)]; rfl
      | some b =>
        rcases h with h | h
        · rw [hzx] at h; cases h
        · rw [hzy] at h; cases h
  cases hzx : intZ (exV kx tx nx cx) with
  | none => rw [foldB_text (.inl hzx)]; exact text _ rfl (.inl hzx)
  | some a =>
    cases hzy : intZ (exV ky ty ny cy) with
    | none => rw [foldB_text (.inr hzy)]; exact text _ rfl (.inr hzy)
    | some b =>
      rw [foldB_int hzx hzy]
      have fa := hx.fits a hzx
      have fb := hy.fits b hzy
      have e85 := w85 (m := n) (by omega) k t ns [exV kx tx nx cx, exV ky ty ny cy] ht a b fa fb
      have eta : ∀ z : PV, z = foldZ t a b (exV k t ns [exV kx tx nx cx, exV ky ty ny cy]) → PV.agg [(O1.fld 0).dn z, (O1.fld 1).dn z, (O1.fld 2).dn z, (O1.fld 3).dn z] = z := by
        rintro z rfl
        unfold foldZ
        split
        · exact boolE_eta _
        · split
          · split
            · exact intE_eta _
            · rfl
          · rfl
      have eta := eta _ rfl
      generalize foldZ t a b (exV k t ns [exV kx tx nx cx, exV ky ty ny cy]) = z at e85 eta ⊢
      unfold intP at e1 e2
      rw [hzx] at e1
      rw [hzy] at e2
      simp only [exV, ya, yb, yc, yd, ye, yf, yg, yh, yi, yj, yk, yl, ym, yn, yo, yp, yq, yr, yt, yu, yv, yw, yx, yy, yz, za, zb, zc, zd, get0, getS, ze, zf, zg, zh, zi, zj, zk, zl, zm, zn, zo, zp, zq, zr, zs, zt, zu, zv, zw, zx, zy, zz, ua, ub, uc, ud, ue, uf, ug, uh, ui, uj, uk, ul, um, List.nil_append, List.cons_append] at e1 e2 e85
      simp only [St49, exV, ya, yb, yc, yd, ye, yf, yg, yh, yi, yj, yk, yl, ym, yn, yo, yp, yq, yr, yt, yu, yv, yw, yx, yy, yz, za, zb, zc, zd, get0, getS, ze, zf, zg, zh, zi, zj, zk, zl, zm, zn, zo, zp, zq, zr, zs, zt, zu, zv, zw, zx, zy, zz, ua, ub, uc, ud, ue, uf, ug, uh, ui, uj, uk, ul, um, List.nil_append, List.cons_append, z0, z1, len2, e1, e2, e85, eta]
      rw [lt_pos (by decide), lt_pos (by decide)]
theorem w48 {m : Nat} (hm : 450 ≤ m) (k : Int) (t : List UInt8) (ns : List PV) (x : PV) (hx : Opd x) :
    R m 48 (.agg [exV k t ns [x]]) = some (.agg [foldU t x (exV k t ns [x])]) := by
  obtain ⟨n, rfl⟩ : ∃ n, m = n + 1 := ⟨m - 1, by omega⟩
  have e1 := w81 (m := n) (by omega) hx.shape
  have e2 := w50 (m := n) (by omega) hx.shape
  have e3 := w51 (m := n) (by omega) hx.shape
  have bo := w41_82 (m := n) (by omega) 82 (.inr rfl)
  have e6 := w45_83 (m := n) (by omega) 83 (.inr rfl)
  rw [R_succ n 48 _ rfl]
  have heta := hx.wf.eta
  have z0 : (0 : Int).toNat = 0 := rfl
  have len1 : ∀ a : PV, (([a] : List PV).length : Int) = 1 := fun _ => rfl
  have e7 : ∀ z, intZ x = some z → R n 84 (.agg [.str (textZ z)]) = some (.agg [.str (textZ (-z))]) := fun z hz =>
    f79 (m := n) (by omega) (fun n hn => f110T hn z ((fits_Sm (hx.fits z hz)).mono (by omega))) ((fits_Sm (hx.fits z hz)).mono (by omega))
  unfold foldU
  by_cases hnot : t = wNot
  · subst hnot
    cases hc : constB x with
    | true =>
      rw [hc] at e2
      simp only [bb] at e2 e3
      simp only [St48, exV, ya, yb, yc, yd, ye, yf, yg, yh, yi, yj, yk, yl, ym, yn, yo, yp, yq, yr, yt, yu, yv, yw, yx, yy, yz, za, zb, zc, zd, get0, getS, ze, zf, zg, zh, zi, zj, zk, zl, zm, zn, zo, zp, zq, zr, zs, zt, zu, zv, zw, zx, zy, zz, ua, ub, uc, ud, ue, uf, ug, uh, ui, uj, uk, ul, um, List.nil_append, List.cons_append, z0, len1, heta, e1, e2, e3, bo, boolE_eta]
      rw [lt_pos (by decide), seq_pos (show wNot = [110, 111, 116] from rfl), if_pos ⟨trivial, trivial⟩]
    | false =>
      rw [hc] at e2
      simp only [bb] at e2 e3
      simp only [St48, exV, ya, yb, yc, yd, ye, yf, yg, yh, yi, yj, yk, yl, ym, yn, yo, yp, yq, yr, yt, yu, yv, yw, yx, yy, yz, za, zb, zc, zd, get0, getS, ze, zf, zg, zh, zi, zj, zk, zl, zm, zn, zo, zp, zq, zr, zs, zt, zu, zv, zw, zx, zy, zz, ua, ub, uc, ud, ue, uf, ug, uh, ui, uj, uk, ul, um, List.nil_append, List.cons_append, z0, len1, heta, e1, e2, e3]
      rw [lt_pos (by decide), seq_pos (show wNot = [110, 111, 116] from rfl), seq_neg (by decide), if_neg (by intro h; simp at h)]
      cases intZ x with
      | none => rfl
      | some z =>
        show _ = some (PV.agg [if wNot = [45] then _ else _])
        rw [if_neg (by decide)]
  · rw [if_neg (fun h => hnot h.1)]
    have hw : wNot = [110, 111, 116] := rfl
    rw [hw] at hnot
    unfold intP at e1
    cases hz : intZ x with
    | none =>
      rw [hz] at e1
      simp only [ya, yb, yc, yd, ye, yf, yg, yh, yi, yj, yk, yl, ym, yn, yo, yp, yq, yr, yt, yu, yv, yw, yx, yy, yz, za, zb, zc, zd, get0, getS, ze, zf, zg, zh, zi, zj, zk, zl, zm, zn, zo, zp, zq, zr, zs, zt, zu, zv, zw, zx, zy, zz, ua, ub, uc, ud, ue, uf, ug, uh, ui, uj, uk, ul, um, List.nil_append, List.cons_append] at e1
      simp only [St48, exV, ya, yb, yc, yd, ye, yf, yg, yh, yi, yj, yk, yl, ym, yn, yo, yp, yq, yr, yt, yu, yv, yw, yx, yy, yz, za, zb, zc, zd, get0, getS, ze, zf, zg, zh, zi, zj, zk, zl, zm, zn, zo, zp, zq, zr, zs, zt, zu, zv, zw, zx, zy, zz, ua, ub, uc, ud, ue, uf, ug, uh, ui, uj, uk, ul, um, List.nil_append, List.cons_append, z0, len1, heta, e1]
      rw [lt_pos (by decide), seq_neg hnot]
      by_cases h45 : t = [45]
      · rw [seq_pos h45]
      · rw [seq_neg h45]
    | some z =>
      rw [hz] at e1
      simp only [ya, yb, yc, yd, ye, yf, yg, yh, yi, yj, yk, yl, ym, yn, yo, yp, yq, yr, yt, yu, yv, yw, yx, yy, yz, za, zb, zc, zd, get0, getS, ze, zf, zg, zh, zi, zj, zk, zl, zm, zn, zo, zp, zq, zr, zs, zt, zu, zv, zw, zx, zy, zz, ua, ub, uc, ud, ue, uf, ug, uh, ui, uj, uk, ul, um, List.nil_append, List.cons_append] at e1
      simp only [St48, exV, ya, yb, yc, yd, ye, yf, yg, yh, yi, yj, yk, yl, ym, yn, yo, yp, yq, yr, yt, yu, yv, yw, yx, yy, yz, za, zb, zc, zd, get0, getS, ze, zf, zg, zh, zi, zj, zk, zl, zm, zn, zo, zp, zq, zr, zs, zt, zu, zv, zw, zx, zy, zz, ua, ub, uc, ud, ue, uf, ug, uh, ui, uj, uk, ul, um, List.nil_append, List.cons_append, z0, len1, heta, e1, e7 z hz, e6, intE_eta]
      rw [lt_pos (by decide), seq_neg hnot]
      by_cases h45 : t = [45]
      · rw [seq_pos h45, if_pos h45]
      · rw [seq_neg h45, if_neg h45]
end Go.Dv

/- Folding: the whole. -/
set_option linter.unusedVariables false
set_option linter.unusedSimpArgs false
namespace Go.Dv
open Go.Lib

theorem plainN {k : Int} {t : List UInt8} {ns : List PV} {n : Nat} (h : plainB k t ns n = true) : (k = 9 → n = 1) ∧ (k = 10 → n = 2 ∧ t ∈ ops14) ∧ (k = 11 → n = 2) ∧ (k = 12 → n = 3) := by
  refine ⟨?_, ?_, ?_, ?_⟩
  · rintro rfl; exact plain9 h
  · rintro rfl
    unfold plainB kindB at h
    rw [anyS_mem] at h
    simp at h
    exact ⟨by omega, h.2.2⟩
  · rintro rfl
    unfold plainB kindB at h
    simp at h
    omega
  · rintro rfl
    unfold plainB kindB at h
    simp at h
    omega
theorem post22 (n : Nat) (hn : 450 ≤ n) (k : Int) (t : List UInt8) (ns ks ks' : List PV) (hp : plainB k t ns ks'.length = true) (hk : ∀ x ∈ ks', Opd x) (hns : ns.length ≤ 20) (hl : ks.length = ks'.length) (self : PV → Option PV) :
    St22b0.dn (n + 1) (R n) [self] [.agg [exV k t ns ks], .agg [.list 4 true ks', .int .i64 ks.length]] = some (.agg [post k t ns ks']) := by
  obtain ⟨n9, n10, n11, n12⟩ := plainN hp
  have z0 : (0 : Int).toNat = 0 := rfl
  have z1 : (1 : Int).toNat = 1 := rfl
  have z2 : (2 : Int).toNat = 2 := rfl
  have lenS : ∀ (a : PV) (l : List PV), ((a :: l).length : Int) = (l.length : Int) + 1 := fun a l => by simp
  have len0 : ((([] : List PV).length : Nat) : Int) = 0 := rfl
  by_cases h10 : k = 10
  · obtain ⟨h2, ht⟩ := n10 h10
    obtain ⟨x, y, rfl⟩ := list2 h2
    have e := w39 (m := n) (by omega) k t ns x y (hk x (by simp)) (hk y (by simp))
    unfold post
    rw [if_pos h10]
    have k0 : kid [x, y] 0 = x := rfl
    have k1 : kid [x, y] 1 = y := rfl
    rw [k0, k1]
    have eta : ∀ z : PV, z = foldB t x y (exV k t ns [x, y]) → PV.agg [(O1.fld 0).dn z, (O1.fld 1).dn z, (O1.fld 2).dn z, (O1.fld 3).dn z] = z := by
      rintro z rfl
      unfold foldB
      split
      · split
        · exact boolE_eta _
        · split
          · split
            · exact intE_eta _
            · rfl
          · rfl
      · split
        · split
          · exact boolE_eta _
          · split
            · rfl
            · split
              · exact boolE_eta _
              · rfl
        · rfl
    have eta := eta _ rfl
    generalize foldB t x y (exV k t ns [x, y]) = z at e eta ⊢
    simp only [exV] at e
    simp only [St22b0, exV, ya, yb, yc, yd, ye, yf, yg, yh, yi, yj, yk, yl, ym, yn, yo, yp, yq, yr, yt, yu, yv, yw, yx, yy, yz, za, zb, zc, zd, get0, getS, ze, zf, zg, zh, zi, zj, zk, zl, zm, zn, zo, zp, zq, zr, zs, zt, zu, zv, zw, zx, zy, zz, ua, ub, uc, ud, ue, uf, ug, uh, ui, uj, uk, ul, um, List.nil_append, List.cons_append, e, eta]
    rw [lt_neg (by omega), le_pos (by omega), eq_pos h10]
  by_cases h9 : k = 9
  · obtain ⟨x, rfl⟩ := list1 (n9 h9)
    have hx := hk x (by simp)
    have e1 := w40 (m := n) (by omega) hx.shape
    have e2 := w42 (m := n) (by omega) hx.shape
    have e3 := w43 (m := n) (by omega) hx.shape
    have bo := w41_82 (m := n) (by omega) 41 (.inl rfl)
    have e6 := w45_83 (m := n) (by omega) 45 (.inl rfl)
    have heta := hx.wf.eta
    have e7 : ∀ z, intZ x = some z → R n 44 (.agg [.str [48], .str (textZ z)]) = some (.agg [.str (textZ (-z)), .bool true]) := fun z hz => by
      have hf := hx.fits z hz
      have e := f39 (m := n) (by omega) [48] (textZ z)
      rw [if_pos ⟨rfl, textZ_int hf⟩, Z_textZ, Z0, Int.zero_sub, fit_true (NF_neg hf)] at e
      exact e
    unfold post
    rw [if_neg h10, if_pos h9]
    have k0 : kid [x] 0 = x := rfl
    rw [k0]
    unfold foldU
    simp only [bb] at e1 e2
    by_cases hnot : t = wNot
    · subst hnot
      have hw : wNot = [110, 111, 116] := rfl
      cases hc : constB x with
      | true =>
        rw [hc] at e1
        rw [if_pos ⟨rfl, rfl⟩]
        simp only [St22b0, exV, ya, yb, yc, yd, ye, yf, yg, yh, yi, yj, yk, yl, ym, yn, yo, yp, yq, yr, yt, yu, yv, yw, yx, yy, yz, za, zb, zc, zd, get0, getS, ze, zf, zg, zh, zi, zj, zk, zl, zm, zn, zo, zp, zq, zr, zs, zt, zu, zv, zw, zx, zy, zz, ua, ub, uc, ud, ue, uf, ug, uh, ui, uj, uk, ul, um, List.nil_append, List.cons_append, z0, lenS, len0, heta, e1, e2, bo, boolE_eta]
        rw [lt_neg (Int.lt_irrefl _), le_pos (by omega), eq_neg h10, eq_pos h9, seq_pos hw, lt_pos (by omega)]
      | false =>
        rw [hc] at e1
        rw [if_neg (fun h => by cases h.2)]
        unfold intP at e3
        cases hz : intZ x with
        | none =>
          rw [hz] at e3
          simp only [ya, yb, yc, yd, ye, yf, yg, yh, yi, yj, yk, yl, ym, yn, yo, yp, yq, yr, yt, yu, yv, yw, yx, yy, yz, za, zb, zc, zd, get0, getS, ze, zf, zg, zh, zi, zj, zk, zl, zm, zn, zo, zp, zq, zr, zs, zt, zu, zv, zw, zx, zy, zz, ua, ub, uc, ud, ue, uf, ug, uh, ui, uj, uk, ul, um, List.nil_append, List.cons_append] at e3
          simp only [St22b0, exV, ya, yb, yc, yd, ye, yf, yg, yh, yi, yj, yk, yl, ym, yn, yo, yp, yq, yr, yt, yu, yv, yw, yx, yy, yz, za, zb, zc, zd, get0, getS, ze, zf, zg, zh, zi, zj, zk, zl, zm, zn, zo, zp, zq, zr, zs, zt, zu, zv, zw, zx, zy, zz, ua, ub, uc, ud, ue, uf, ug, uh, ui, uj, uk, ul, um, List.nil_append, List.cons_append, z0, lenS, len0, heta, e1, e2, e3]
          rw [lt_neg (Int.lt_irrefl _), le_pos (by omega), eq_neg h10, eq_pos h9, seq_pos hw, lt_pos (by omega)]
        | some z =>
          rw [hz] at e3
          simp only [ya, yb, yc, yd, ye, yf, yg, yh, yi, yj, yk, yl, ym, yn, yo, yp, yq, yr, yt, yu, yv, yw, yx, yy, yz, za, zb, zc, zd, get0, getS, ze, zf, zg, zh, zi, zj, zk, zl, zm, zn, zo, zp, zq, zr, zs, zt, zu, zv, zw, zx, zy, zz, ua, ub, uc, ud, ue, uf, ug, uh, ui, uj, uk, ul, um, List.nil_append, List.cons_append] at e3
          simp only [if_neg (show ¬ wNot = [45] by decide)]
          simp only [St22b0, exV, ya, yb, yc, yd, ye, yf, yg, yh, yi, yj, yk, yl, ym, yn, yo, yp, yq, yr, yt, yu, yv, yw, yx, yy, yz, za, zb, zc, zd, get0, getS, ze, zf, zg, zh, zi, zj, zk, zl, zm, zn, zo, zp, zq, zr, zs, zt, zu, zv, zw, zx, zy, zz, ua, ub, uc, ud, ue, uf, ug, uh, ui, uj, uk, ul, um, List.nil_append, List.cons_append, z0, lenS, len0, heta, e1, e2, e3]
          rw [lt_neg (Int.lt_irrefl _), le_pos (by omega), eq_neg h10, eq_pos h9, seq_pos hw, lt_pos (by omega), seq_neg (by decide)]
    · rw [if_neg (fun h => hnot h.1)]
      have hw : ¬ t = [110, 111, 116] := hnot
      unfold intP at e3
      cases hz : intZ x with
      | none =>
        rw [hz] at e3
        simp only [ya, yb, yc, yd, ye, yf, yg, yh, yi, yj, yk, yl, ym, yn, yo, yp, yq, yr, yt, yu, yv, yw, yx, yy, yz, za, zb, zc, zd, get0, getS, ze, zf, zg, zh, zi, zj, zk, zl, zm, zn, zo, zp, zq, zr, zs, zt, zu, zv, zw, zx, zy, zz, ua, ub, uc, ud, ue, uf, ug, uh, ui, uj, uk, ul, um, List.nil_append, List.cons_append] at e3
        simp only [St22b0, exV, ya, yb, yc, yd, ye, yf, yg, yh, yi, yj, yk, yl, ym, yn, yo, yp, yq, yr, yt, yu, yv, yw, yx, yy, yz, za, zb, zc, zd, get0, getS, ze, zf, zg, zh, zi, zj, zk, zl, zm, zn, zo, zp, zq, zr, zs, zt, zu, zv, zw, zx, zy, zz, ua, ub, uc, ud, ue, uf, ug, uh, ui, uj, uk, ul, um, List.nil_append, List.cons_append, z0, lenS, len0, heta, e3]
        rw [lt_neg (Int.lt_irrefl _), le_pos (by omega), eq_neg h10, eq_pos h9, seq_neg hw, lt_pos (by omega)]
      | some z =>
        rw [hz] at e3
        simp only [ya, yb, yc, yd, ye, yf, yg, yh, yi, yj, yk, yl, ym, yn, yo, yp, yq, yr, yt, yu, yv, yw, yx, yy, yz, za, zb, zc, zd, get0, getS, ze, zf, zg, zh, zi, zj, zk, zl, zm, zn, zo, zp, zq, zr, zs, zt, zu, zv, zw, zx, zy, zz, ua, ub, uc, ud, ue, uf, ug, uh, ui, uj, uk, ul, um, List.nil_append, List.cons_append] at e3
        simp only [St22b0, exV, ya, yb, yc, yd, ye, yf, yg, yh, yi, yj, yk, yl, ym, yn, yo, yp, yq, yr, yt, yu, yv, yw, yx, yy, yz, za, zb, zc, zd, get0, getS, ze, zf, zg, zh, zi, zj, zk, zl, zm, zn, zo, zp, zq, zr, zs, zt, zu, zv, zw, zx, zy, zz, ua, ub, uc, ud, ue, uf, ug, uh, ui, uj, uk, ul, um, List.nil_append, List.cons_append, z0, lenS, len0, heta, e3, e7 z hz, e6, intE_eta]
        rw [lt_neg (Int.lt_irrefl _), le_pos (by omega), eq_neg h10, eq_pos h9, seq_neg hw, lt_pos (by omega)]
        by_cases h45 : t = [45]
        · rw [seq_pos h45, if_pos h45]
        · rw [seq_neg h45, if_neg h45]
  by_cases h11 : k = 11
  · obtain ⟨x, y, rfl⟩ := list2 (n11 h11)
    have hx := hk x (by simp)
    have hy := hk y (by simp)
    have e1 := w40 (m := n) (by omega) hx.shape
    have e2 := w42 (m := n) (by omega) hx.shape
    have e3 := w46 10 y n hy.wf (by omega)
    have hex := hx.wf.eta
    have hey := hy.wf.eta
    unfold post
    rw [if_neg h10, if_neg h9, if_pos h11]
    have k0 : kid [x, y] 0 = x := rfl
    have k1 : kid [x, y] 1 = y := rfl
    rw [k0, k1]
    unfold foldL
    have hw : wAnd = [97, 110, 100] := rfl
    rw [hw]
    simp only [bb] at e1 e2 e3
    simp only [St22b0, exV, ya, yb, yc, yd, ye, yf, yg, yh, yi, yj, yk, yl, ym, yn, yo, yp, yq, yr, yt, yu, yv, yw, yx, yy, yz, za, zb, zc, zd, get0, getS, ze, zf, zg, zh, zi, zj, zk, zl, zm, zn, zo, zp, zq, zr, zs, zt, zu, zv, zw, zx, zy, zz, ua, ub, uc, ud, ue, uf, ug, uh, ui, uj, uk, ul, um, List.nil_append, List.cons_append, z0, z1, lenS, len0, hex, hey, e1, e2, e3]
    rw [lt_neg (Int.lt_irrefl _), le_pos (by omega), eq_neg h10, eq_neg h9, eq_pos h11, lt_pos (by omega), lt_pos (by omega)]
    cases constB x
    · rfl
    · cases truthB x <;> cases decide (t = [97, 110, 100]) <;> cases yieldsB 10 y <;> rfl
  by_cases h12 : k = 12
  · obtain ⟨x, y, z, rfl⟩ := list3 (n12 h12)
    have hx := hk x (by simp)
    have hy := hk y (by simp)
    have hz := hk z (by simp)
    have e1 := w40 (m := n) (by omega) hy.shape
    have e2 := w42 (m := n) (by omega) hy.shape
    have e3 := w46 10 z n hz.wf (by omega)
    have e4 := w46 10 x n hx.wf (by omega)
    have hex := hx.wf.eta
    have hey := hy.wf.eta
    have hez := hz.wf.eta
    unfold post
    rw [if_neg h10, if_neg h9, if_neg h11, if_pos h12]
    have k0 : kid [x, y, z] 0 = x := rfl
    have k1 : kid [x, y, z] 1 = y := rfl
    have k2 : kid [x, y, z] 2 = z := rfl
    rw [k0, k1, k2]
    unfold foldI
    simp only [bb] at e1 e2 e3 e4
    have l3 : ((0 : Int) + 1 + 1 + 1) = 3 := rfl
    simp only [St22b0, exV, ya, yb, yc, yd, ye, yf, yg, yh, yi, yj, yk, yl, ym, yn, yo, yp, yq, yr, yt, yu, yv, yw, yx, yy, yz, za, zb, zc, zd, get0, getS, ze, zf, zg, zh, zi, zj, zk, zl, zm, zn, zo, zp, zq, zr, zs, zt, zu, zv, zw, zx, zy, zz, ua, ub, uc, ud, ue, uf, ug, uh, ui, uj, uk, ul, um, List.nil_append, List.cons_append, z0, z1, z2, lenS, len0, l3, hex, hey, hez, e1, e2, e3, e4]
    rw [lt_neg (Int.lt_irrefl _), le_pos (by omega), eq_neg h10, eq_neg h9, eq_neg h11, eq_pos h12]
    simp only [ltE_def, Int.reduceLT, if_true]
    cases constB y
    · rfl
    · cases truthB y <;> cases yieldsB 10 z <;> cases yieldsB 10 x <;> rfl
  · unfold post
    rw [if_neg h10, if_neg h9, if_neg h11, if_neg h12]
    simp only [St22b0, exV, ya, yb, yc, yd, ye, yf, yg, yh, yi, yj, yk, yl, ym, yn, yo, yp, yq, yr, yt, yu, yv, yw, yx, yy, yz, za, zb, zc, zd, get0, getS, ze, zf, zg, zh, zi, zj, zk, zl, zm, zn, zo, zp, zq, zr, zs, zt, zu, zv, zw, zx, zy, zz, ua, ub, uc, ud, ue, uf, ug, uh, ui, uj, uk, ul, um, List.nil_append, List.cons_append]
    rw [lt_neg (by omega), le_pos (by omega), eq_neg h10, eq_neg h9, eq_neg h11, eq_neg h12]
theorem w22 : ∀ (d : Nat) (v : PV) (m : Nat), d ≤ 10 → WF d v → valid d v = true → 500 + d ≤ m → R m 22 (.agg [v]) = some (.agg [fold d v]) := by
  intro d
  induction d with
  | zero => intro v m _ h _ _; exact h.elim
  | succ d ih =>
    intro v m hd h hv hm
    obtain ⟨n, rfl⟩ : ∃ n, m = n + 1 := ⟨m - 1, by omega⟩
    obtain ⟨k, t, ns, ks, rfl, hp, hk, ⟨h2, h3⟩, h1, h4⟩ := valid_wf h hv
    simp only [Nat.add_sub_cancel] at hk
    have hok : ∀ y ∈ ks.map (fold d), Opd y := by
      intro y hy
      obtain ⟨x, hx, rfl⟩ := List.mem_map.1 hy
      have := fold_ok (hk x hx).1 (hk x hx).2
      exact Opd.of (d := d) (by omega) this.1 this.2.1
    have hlen : ks.length = (ks.map (fold d)).length := (List.length_map ..).symm
    rw [fold_ex, R_succ n 22 _ rfl]
    simp only [St22, ya, yb, yc, yd, ye, yf, yg, yh, yi, yj, yk, yl, ym, yn, yo, yp, yq, yr, yt, yu, yv, yw, yx, yy, yz, za, zb, zc, zd, get0, getS, ze, zf, zg, zh, zi, zj, zk, zl, zm, zn, zo, zp, zq, zr, zs, zt, zu, zv, zw, zx, zy, zz, ua, ub, uc, ud, ue, uf, ug, uh, ui, uj, uk, ul, um, List.nil_append, List.cons_append]
    refine iter_loop (F := fun self v => St22b0.dn (n + 1) (R n) [self] [.agg [exV k t ns ks], v]) (N := ks.length) (fun j => .agg [.list 4 true ((ks.take j).map (fold d)), .int .i64 j]) (by omega) (fun self => ?_) (fun self j hj => ?_)
    · rw [List.take_length]
      exact post22 n (by omega) k t ns ks _ (by rw [← hlen]; exact hp) hok h2 hlen self
    · have hx := hk _ (getD_mem (.bool false) hj)
      have e := ih _ n (by omega) hx.1 hx.2 (by omega)
      have heta := (fold_ok hx.1 hx.2).1.eta
      have hxe := hx.1.eta
      have hll : ((ks.take j).map (fold d) ++ [fold d (ks.getD j (.bool false))]).length = j + 1 := by simp; omega
      rw [take_step (.bool false) hj, List.map_append, List.map_cons, List.map_nil]
      simp (disch := omega) only [St22b0, exV, ya, yb, yc, yd, ye, yf, yg, yh, yi, yj, yk, yl, ym, yn, yo, yp, yq, yr, yt, yu, yv, yw, yx, yy, yz, za, zb, zc, zd, get0, getS, ze, zf, zg, zh, zi, zj, zk, zl, zm, zn, zo, zp, zq, zr, zs, zt, zu, zv, zw, zx, zy, zz, ua, ub, uc, ud, ue, uf, ug, uh, ui, uj, uk, ul, um, List.nil_append, List.cons_append, Int.toNat_natCast, wS, hxe, e, heta, hll]
      rw [lt_pos (by omega), le_pos (by omega), le_pos (by omega)]

theorem post26 (n : Nat) (hn : 450 ≤ n) (k : Int) (t : List UInt8) (ns ks ks' : List PV) (hp : plainB k t ns ks'.length = true) (hk : ∀ x ∈ ks', Opd x) (hns : ns.length ≤ 20) (hl : ks.length = ks'.length) (self : PV → Option PV) :
    St26b0.dn (n + 1) (R n) [self] [.agg [exV k t ns ks], .agg [.int .i64 ks.length, .list 4 true ks']] = some (.agg [post k t ns ks']) := by
  obtain ⟨n9, n10, n11, n12⟩ := plainN hp
  have z0 : (0 : Int).toNat = 0 := rfl
  have z1 : (1 : Int).toNat = 1 := rfl
  have z2 : (2 : Int).toNat = 2 := rfl
  have lenS : ∀ (a : PV) (l : List PV), ((a :: l).length : Int) = (l.length : Int) + 1 := fun a l => by simp
  have len0 : ((([] : List PV).length : Nat) : Int) = 0 := rfl
  by_cases h10 : k = 10
  · obtain ⟨h2, ht⟩ := n10 h10
    obtain ⟨x, y, rfl⟩ := list2 h2
    have e := w49 (m := n) (by omega) k t ns x y ht (hk x (by simp)) (hk y (by simp))
    unfold post
    rw [if_pos h10]
    have k0 : kid [x, y] 0 = x := rfl
    have k1 : kid [x, y] 1 = y := rfl
    rw [k0, k1]
    have eta : ∀ z : PV, z = foldB t x y (exV k t ns [x, y]) → PV.agg [(O1.fld 0).dn z, (O1.fld 1).dn z, (O1.fld 2).dn z, (O1.fld 3).dn z] = z := by
      rintro z rfl
      unfold foldB
      split
      · split
        · exact boolE_eta _
        · split
          · split
            · exact intE_eta _
            · rfl
          · rfl
      · split
        · split
          · exact boolE_eta _
          · split
            · rfl
            · split
              · exact boolE_eta _
              · rfl
        · rfl
    have eta := eta _ rfl
    generalize foldB t x y (exV k t ns [x, y]) = z at e eta ⊢
    simp only [exV] at e
    simp only [St26b0, exV, ya, yb, yc, yd, ye, yf, yg, yh, yi, yj, yk, yl, ym, yn, yo, yp, yq, yr, yt, yu, yv, yw, yx, yy, yz, za, zb, zc, zd, get0, getS, ze, zf, zg, zh, zi, zj, zk, zl, zm, zn, zo, zp, zq, zr, zs, zt, zu, zv, zw, zx, zy, zz, ua, ub, uc, ud, ue, uf, ug, uh, ui, uj, uk, ul, um, List.nil_append, List.cons_append, e, eta]
    rw [lt_neg (by omega), le_pos (by omega), eq_neg (by omega), eq_pos h10]
  by_cases h9 : k = 9
  · obtain ⟨x, rfl⟩ := list1 (n9 h9)
    have e := w48 (m := n) (by omega) k t ns x (hk x (by simp))
    unfold post
    rw [if_neg h10, if_pos h9]
    have k0 : kid [x] 0 = x := rfl
    rw [k0]
    have eta : ∀ z : PV, z = foldU t x (exV k t ns [x]) → PV.agg [(O1.fld 0).dn z, (O1.fld 1).dn z, (O1.fld 2).dn z, (O1.fld 3).dn z] = z := by
      rintro z rfl
      unfold foldU
      split
      · exact boolE_eta _
      · split
        · split
          · exact intE_eta _
          · rfl
        · rfl
    have eta := eta _ rfl
    generalize foldU t x (exV k t ns [x]) = z at e eta ⊢
    simp only [exV] at e
    simp only [St26b0, exV, ya, yb, yc, yd, ye, yf, yg, yh, yi, yj, yk, yl, ym, yn, yo, yp, yq, yr, yt, yu, yv, yw, yx, yy, yz, za, zb, zc, zd, get0, getS, ze, zf, zg, zh, zi, zj, zk, zl, zm, zn, zo, zp, zq, zr, zs, zt, zu, zv, zw, zx, zy, zz, ua, ub, uc, ud, ue, uf, ug, uh, ui, uj, uk, ul, um, List.nil_append, List.cons_append, e, eta]
    rw [lt_neg (by omega), le_pos (by omega), eq_pos h9]
  by_cases h11 : k = 11
  · obtain ⟨x, y, rfl⟩ := list2 (n11 h11)
    have hx := hk x (by simp)
    have hy := hk y (by simp)
    have e1 := w50 (m := n) (by omega) hx.shape
    have e2 := w51 (m := n) (by omega) hx.shape
    have e3 := w52 10 y n hy.wf (by omega)
    have hex := hx.wf.eta
    have hey := hy.wf.eta
    unfold post
    rw [if_neg h10, if_neg h9, if_pos h11]
    have k0 : kid [x, y] 0 = x := rfl
    have k1 : kid [x, y] 1 = y := rfl
    rw [k0, k1]
    unfold foldL
    have hw : wAnd = [97, 110, 100] := rfl
    rw [hw]
    simp only [bb] at e1 e2 e3
    have l2 : ((0 : Int) + 1 + 1) = 2 := rfl
    simp only [St26b0, exV, ya, yb, yc, yd, ye, yf, yg, yh, yi, yj, yk, yl, ym, yn, yo, yp, yq, yr, yt, yu, yv, yw, yx, yy, yz, za, zb, zc, zd, get0, getS, ze, zf, zg, zh, zi, zj, zk, zl, zm, zn, zo, zp, zq, zr, zs, zt, zu, zv, zw, zx, zy, zz, ua, ub, uc, ud, ue, uf, ug, uh, ui, uj, uk, ul, um, List.nil_append, List.cons_append, z0, z1, lenS, len0, l2, hex, hey, e1, e2, e3]
    rw [lt_neg (Int.lt_irrefl _), le_pos (by omega), eq_neg h9, eq_neg h10, eq_pos h11]
    simp only [ltE_def, Int.reduceLT, if_true]
    cases constB x
    · rfl
    · cases truthB x <;> cases decide (t = [97, 110, 100]) <;> cases yieldsB 10 y <;> rfl
  by_cases h12 : k = 12
  · obtain ⟨x, y, z, rfl⟩ := list3 (n12 h12)
    have hx := hk x (by simp)
    have hy := hk y (by simp)
    have hz := hk z (by simp)
    have e1 := w50 (m := n) (by omega) hy.shape
    have e2 := w51 (m := n) (by omega) hy.shape
    have e3 := w52 10 z n hz.wf (by omega)
    have e4 := w52 10 x n hx.wf (by omega)
    have hex := hx.wf.eta
    have hey := hy.wf.eta
    have hez := hz.wf.eta
    unfold post
    rw [if_neg h10, if_neg h9, if_neg h11, if_pos h12]
    have k0 : kid [x, y, z] 0 = x := rfl
    have k1 : kid [x, y, z] 1 = y := rfl
    have k2 : kid [x, y, z] 2 = z := rfl
    rw [k0, k1, k2]
    unfold foldI
    simp only [bb] at e1 e2 e3 e4
    have l3 : ((0 : Int) + 1 + 1 + 1) = 3 := rfl
    simp only [St26b0, exV, ya, yb, yc, yd, ye, yf, yg, yh, yi, yj, yk, yl, ym, yn, yo, yp, yq, yr, yt, yu, yv, yw, yx, yy, yz, za, zb, zc, zd, get0, getS, ze, zf, zg, zh, zi, zj, zk, zl, zm, zn, zo, zp, zq, zr, zs, zt, zu, zv, zw, zx, zy, zz, ua, ub, uc, ud, ue, uf, ug, uh, ui, uj, uk, ul, um, List.nil_append, List.cons_append, z0, z1, z2, lenS, len0, l3, hex, hey, hez, e1, e2, e3, e4]
    rw [lt_neg (Int.lt_irrefl _), le_pos (by omega), eq_neg h9, eq_neg h10, eq_neg h11, eq_pos h12]
    simp only [ltE_def, Int.reduceLT, if_true]
    cases constB y
    · rfl
    · cases truthB y <;> cases yieldsB 10 z <;> cases yieldsB 10 x <;> rfl
  · unfold post
    rw [if_neg h10, if_neg h9, if_neg h11, if_neg h12]
    simp only [St26b0, exV, ya, yb, yc, yd, ye, yf, yg, yh, yi, yj, yk, yl, ym, yn, yo, yp, yq, yr, yt, yu, yv, yw, yx, yy, yz, za, zb, zc, zd, get0, getS, ze, zf, zg, zh, zi, zj, zk, zl, zm, zn, zo, zp, zq, zr, zs, zt, zu, zv, zw, zx, zy, zz, ua, ub, uc, ud, ue, uf, ug, uh, ui, uj, uk, ul, um, List.nil_append, List.cons_append]
    rw [lt_neg (by omega), le_pos (by omega), eq_neg h9, eq_neg h10, eq_neg h11, eq_neg h12]
theorem w26 : ∀ (d : Nat) (v : PV) (m : Nat), d ≤ 10 → WF d v → valid d v = true → 500 + d ≤ m → R m 26 (.agg [v]) = some (.agg [fold d v]) := by
  intro d
  induction d with
  | zero => intro v m _ h _ _; exact h.elim
  | succ d ih =>
    intro v m hd h hv hm
    obtain ⟨n, rfl⟩ : ∃ n, m = n + 1 := ⟨m - 1, by omega⟩
    obtain ⟨k, t, ns, ks, rfl, hp, hk, ⟨h2, h3⟩, h1, h4⟩ := valid_wf h hv
    simp only [Nat.add_sub_cancel] at hk
    have hok : ∀ y ∈ ks.map (fold d), Opd y := by
      intro y hy
      obtain ⟨x, hx, rfl⟩ := List.mem_map.1 hy
      have := fold_ok (hk x hx).1 (hk x hx).2
      exact Opd.of (d := d) (by omega) this.1 this.2.1
    have hlen : ks.length = (ks.map (fold d)).length := (List.length_map ..).symm
    rw [fold_ex, R_succ n 26 _ rfl]
    simp only [St26, ya, yb, yc, yd, ye, yf, yg, yh, yi, yj, yk, yl, ym, yn, yo, yp, yq, yr, yt, yu, yv, yw, yx, yy, yz, za, zb, zc, zd, get0, getS, ze, zf, zg, zh, zi, zj, zk, zl, zm, zn, zo, zp, zq, zr, zs, zt, zu, zv, zw, zx, zy, zz, ua, ub, uc, ud, ue, uf, ug, uh, ui, uj, uk, ul, um, List.nil_append, List.cons_append]
    refine iter_loop (F := fun self v => St26b0.dn (n + 1) (R n) [self] [.agg [exV k t ns ks], v]) (N := ks.length) (fun j => .agg [.int .i64 j, .list 4 true ((ks.take j).map (fold d))]) (by omega) (fun self => ?_) (fun self j hj => ?_)
    · rw [List.take_length]
      exact post26 n (by omega) k t ns ks _ (by rw [← hlen]; exact hp) hok h2 hlen self
    · have hx := hk _ (getD_mem (.bool false) hj)
      have e := ih _ n (by omega) hx.1 hx.2 (by omega)
      have heta := (fold_ok hx.1 hx.2).1.eta
      have hxe := hx.1.eta
      have hll : ((ks.take j).map (fold d) ++ [fold d (ks.getD j (.bool false))]).length = j + 1 := by simp; omega
      rw [take_step (.bool false) hj, List.map_append, List.map_cons, List.map_nil]
      simp (disch := omega) only [St26b0, exV, ya, yb, yc, yd, ye, yf, yg, yh, yi, yj, yk, yl, ym, yn, yo, yp, yq, yr, yt, yu, yv, yw, yx, yy, yz, za, zb, zc, zd, get0, getS, ze, zf, zg, zh, zi, zj, zk, zl, zm, zn, zo, zp, zq, zr, zs, zt, zu, zv, zw, zx, zy, zz, ua, ub, uc, ud, ue, uf, ug, uh, ui, uj, uk, ul, um, List.nil_append, List.cons_append, Int.toNat_natCast, wS, hxe, e, heta, hll]
      rw [lt_pos (by omega), le_pos (by omega), le_pos (by omega)]
end Go.Dv
