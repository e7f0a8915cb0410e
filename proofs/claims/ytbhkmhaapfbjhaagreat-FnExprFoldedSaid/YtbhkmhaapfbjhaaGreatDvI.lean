/- Quotients and remainders of digits. -/
import Derived.Test.YtbhkmhaapfbjhaaGreatDvP

set_option linter.unusedVariables false
set_option linter.unusedSimpArgs false
namespace Go.Dv

theorem o_idx2 (l : List Int) (k : IntKind) (j : Int) (h : j.toNat < l.length) : O2.idx.dn (dl l) (.int k j) = .int .i64 (l.getD j.toNat 0) := o_idx' l (.int k j) h
theorem inner121 (B0 : Tree) (hB : B0 = St137b0 ∨ B0 = St148b0) (n : Nat) (hn : 150 ≤ n) (oself : PV → Option PV) (a : PV) (y : Nat) (y0 : 0 < y) (ly : (canon y).length ≤ 45) (i : Nat) (hi : i ≤ 45) (e1 e2 e3 : PV) :
    ∀ (k r q : Nat) (d : Int) (z suf : List Int), z.length = i → z.length + suf.length ≤ 90 → (canon r).length ≤ 46 → 0 ≤ d → r / y = q → d + (q : Int) ≤ 1000 → q < k →
        rounds (fun self v => B0.dn (n + 1) (R n) [oself, self] [.agg [a, dl (canon y)], .agg [e1, .int .i64 i, e2], e3, v]) k (.agg [dl (canon r), dl (z ++ d :: suf)]) =
          oself (.agg [dl (canon (r % y)), .int .i64 ((i : Int) - 1), dl (z ++ (d + (q : Int)) :: suf)]) := by
  intro k
  induction k with
  | zero => intro r q d z suf h1 h2 h3 h4 hqq h5 h6; omega
  | succ k ih =>
    intro r q d z suf h1 h2 h3 h4 hqq h5 h6
    simp only [rounds_s]
    have c1 := f108_111 (m := n) (by omega) 106 (.inl rfl) r y (by omega) (by omega)
    have c2 := f108_111 (m := n) (by omega) 129 (.inr rfl) r y (by omega) (by omega)
    have hlen := pre_len z suf d
    by_cases h : y ≤ r
    · have s1 := f109 (m := n) (by omega) (canon r) (canon y) (canon_dig _) (canon_dig _) (by omega) (by rw [canon_nv, canon_nv]; omega)
      have s2 := f119 (m := n) (by omega) (canon r) (canon y) (canon_dig _) (canon_dig _) (by omega) (by rw [canon_nv, canon_nv]; omega)
      have es : (nv (canon r) - nv (canon y)).toNat = r - y := by rw [canon_nv, canon_nv]; omega
      rw [es] at s1 s2
      have hdiv : r / y = (r - y) / y + 1 := by rw [Nat.div_eq r y, if_pos ⟨y0, h⟩]
      have hmod : r % y = (r - y) % y := Nat.mod_eq_sub_mod h
      have hm := canon_mono (show r - y ≤ r by omega)
      obtain ⟨q', hq'⟩ : ∃ t, (r - y) / y = t := ⟨_, rfl⟩
      rw [hq'] at hdiv
      have ih2 := ih (r - y) q' (d + 1) z suf h1 h2 (by omega) (by omega) hq' (by omega) (by omega)
      clear ih
      have ed : d + (q : Int) = d + 1 + (q' : Int) := by omega
      rw [hmod, ed]
      have g1 : (z ++ d :: suf).getD i 0 = d := by rw [← h1]; exact pre_get z suf d
      have g2 : ∀ t, (z ++ d :: suf).set i t = z ++ t :: suf := by intro t; rw [← h1]; exact pre_set z suf d t
      have hc : 0 ≤ cmpI (r : Int) (y : Int) := by
        unfold cmpI
        rw [if_neg (by omega)]
        split <;> omega
      generalize rounds _ k = self at ih2 ⊢
      rcases hB with rfl | rfl
      · simp (disch := omega) only [St137b0, ya, yb, yc, yd, ye, yf, yg, yh, yi, yj, yk, yl, yp, yq, ys, yu, yv, yw, yx, yy, yz, za, zb, zc, zd, get0, getS, ze, zf, zg, zh, zj, uo, zk, zl, zm, zn, zo, zp, zq, zr, zs, zt, zu, zv, zw, zx, zy, zz, ub, uc, ud, ue, up, uq, ur, ut, uu, ul, um, w64, w8, List.nil_append, List.cons_append, uv, dn_cont1, c1, s1, Int.toNat_natCast, g1, g2]
        rw [le_pos hc, lt_pos (by omega)]
        exact ih2
      · simp (disch := omega) only [St148b0, ya, yb, yc, yd, ye, yf, yg, yh, yi, yj, yk, yl, yp, yq, ys, yu, yv, yw, yx, yy, yz, za, zb, zc, zd, get0, getS, ze, zf, zg, zh, zj, uo, zk, zl, zm, zn, zo, zp, zq, zr, zs, zt, zu, zv, zw, zx, zy, zz, ub, uc, ud, ue, up, uq, ur, ut, uu, ul, um, w64, w8, List.nil_append, List.cons_append, uv, dn_cont1, c2, s2, Int.toNat_natCast, g1, g2]
        rw [le_pos hc, lt_pos (by omega)]
        exact ih2
    · clear ih
      have hdiv : r / y = 0 := Nat.div_eq_of_lt (by omega)
      have hmod : r % y = r := Nat.mod_eq_of_lt (by omega)
      have hq0 : q = 0 := by omega
      rw [hq0, hmod, Int.natCast_zero, Int.add_zero]
      have hc : ¬ 0 ≤ cmpI (r : Int) (y : Int) := by
        unfold cmpI
        rw [if_pos (by omega)]
        omega
      generalize rounds _ k = self
      rcases hB with rfl | rfl
      · simp (disch := omega) only [St137b0, ya, yb, yc, yd, ye, yf, yg, yh, yi, yj, yk, yl, yp, yq, ys, yu, yv, yw, yx, yy, yz, za, zb, zc, zd, get0, getS, ze, zf, zg, zh, zj, uo, zk, zl, zm, zn, zo, zp, zq, zr, zs, zt, zu, zv, zw, zx, zy, zz, ub, uc, ud, ue, up, uq, ur, ut, uu, ul, um, w64, w8, List.nil_append, List.cons_append, uv, dn_cont1, c1]
        rw [le_neg hc]
      · simp (disch := omega) only [St148b0, ya, yb, yc, yd, ye, yf, yg, yh, yi, yj, yk, yl, yp, yq, ys, yu, yv, yw, yx, yy, yz, za, zb, zc, zd, get0, getS, ze, zf, zg, zh, zj, uo, zk, zl, zm, zn, zo, zp, zq, zr, zs, zt, zu, zv, zw, zx, zy, zz, ub, uc, ud, ue, up, uq, ur, ut, uu, ul, um, w64, w8, List.nil_append, List.cons_append, uv, dn_cont1, c2]
        rw [le_neg hc]

theorem nv_take (a : List Int) {j : Nat} (h : j < a.length) : nv (a.take (j + 1)) = nv (a.take j) + (10 : Int) ^ j * a.getD j 0 := by
  rw [takeI h]
  have : ∀ (l : List Int) (d : Int), nv (l ++ [d]) = nv l + (10 : Int) ^ l.length * d := by
    intro l d
    induction l with
    | nil => simp [nv_cons, nv_nil]
    | cons x l ih =>
      rw [List.cons_append, nv_cons, nv_cons, ih, List.length_cons, Int.pow_succ, Int.mul_comm ((10 : Int) ^ l.length) 10, Int.mul_assoc]
      omega
  rw [this, List.length_take, Nat.min_eq_left (by omega)]
theorem nv_snoc (l : List Int) (d : Int) : nv (l ++ [d]) = nv l + (10 : Int) ^ l.length * d := by
  induction l with
  | nil => simp [nv_cons, nv_nil]
  | cons x l ih =>
    rw [List.cons_append, nv_cons, nv_cons, ih, List.length_cons, Int.pow_succ, Int.mul_comm ((10 : Int) ^ l.length) 10, Int.mul_assoc]
    omega
theorem outer121 (B1 : Tree) (hB : B1 = St137b1 ∨ B1 = St148b1) (n : Nat) (hn : 150 ≤ n) (a : List Int) (ha : Dig a) (la : a.length ≤ 45) (y : Nat) (y0 : 0 < y) (ly : (canon y).length ≤ 45) :
    ∀ (j k r : Nat) (suf : List Int), j ≤ a.length → j + suf.length = a.length → r < y → j < k →
      ∃ l rf, Dig l ∧ l.length = j ∧ rf < y ∧ nv l * y + (rf : Nat) = nv (a.take j) + (10 : Int) ^ j * r ∧
        rounds (fun self v => B1.dn (n + 1) (R n) [self] [.agg [dl a, dl (canon y)], v]) k (.agg [dl (canon r), .int .i64 ((j : Int) - 1), dl (List.replicate j 0 ++ suf)]) = some (.agg [dl (trim (l ++ suf)), dl (canon rf)]) := by
  intro j
  induction j with
  | zero =>
    intro k r suf h1 h2 h3 h4
    obtain ⟨k, rfl⟩ : ∃ t, k = t + 1 := ⟨k - 1, by omega⟩
    refine ⟨[], r, Dig.nil, rfl, h3, by simp [nv_nil], ?_⟩
    simp only [rounds_s]
    have t1 := f117 (m := n) (by omega) suf (by omega)
    have t2 := f155 (m := n) (by omega) suf (by omega)
    generalize rounds _ k = self
    rcases hB with rfl | rfl
    · simp (disch := omega) only [St137b1, ya, yb, yc, yd, ye, yf, yg, yh, yi, yj, yk, yl, yp, yq, ys, yu, yv, yw, yx, yy, yz, za, zb, zc, zd, get0, getS, ze, zf, zg, zh, zj, uo, zk, zl, zm, zn, zo, zp, zq, zr, zs, zt, zu, zv, zw, zx, zy, zz, ub, uc, ud, ue, up, uq, ur, ut, uu, ul, um, w64, w8, List.nil_append, List.cons_append, uv, List.replicate_zero]
      rw [le_neg (by omega), t1]
      rfl
    · simp (disch := omega) only [St148b1, ya, yb, yc, yd, ye, yf, yg, yh, yi, yj, yk, yl, yp, yq, ys, yu, yv, yw, yx, yy, yz, za, zb, zc, zd, get0, getS, ze, zf, zg, zh, zj, uo, zk, zl, zm, zn, zo, zp, zq, zr, zs, zt, zu, zv, zw, zx, zy, zz, ub, uc, ud, ue, up, uq, ur, ut, uu, ul, um, w64, w8, List.nil_append, List.cons_append, uv, List.replicate_zero]
      rw [le_neg (by omega), t2]
      rfl
  | succ j ih =>
    intro k r suf h1 h2 h3 h4
    obtain ⟨k, rfl⟩ : ∃ t, k = t + 1 := ⟨k - 1, by omega⟩
    have ga := ha.get (i := j)
    obtain ⟨c, hc⟩ : ∃ c : Nat, a.getD j 0 = c := ⟨(a.getD j 0).toNat, by omega⟩
    have hc9 : c ≤ 9 := by omega
    have hr := canon_mono (show r ≤ y by omega)
    have hq : (c + 10 * r) / y < 10 := Nat.div_lt_of_lt_mul (by omega)
    obtain ⟨q, hqq⟩ : ∃ t, (c + 10 * r) / y = t := ⟨_, rfl⟩
    rw [hqq] at hq
    obtain ⟨l, rf, p1, p2, p3, p4, p5⟩ := ih k ((c + 10 * r) % y) ((q : Int) :: suf) (by omega) (by simp; omega) (Nat.mod_lt _ y0) (by omega)
    clear ih
    have hrr : (canon (c + 10 * r)).length ≤ 46 := by
      rw [canon_len, Nat.pow_succ]
      have := (canon_len 45 r).1 (by omega)
      omega
    have hd : Dig ((c : Int) :: canon r) := Dig.cons (by omega) (by omega) (canon_dig r)
    have ht : trim ((c : Int) :: canon r) = canon (c + 10 * r) := by
      rw [canon_trim hd, nv_cons, canon_nv]
      congr 1
    refine ⟨l ++ [(q : Int)], rf, p1.app (Dig.cons (by omega) (by omega) Dig.nil), by rw [List.length_append, p2]; rfl, p3, ?_, ?_⟩
    · rw [nv_snoc, nv_take a (by omega), hc, p2, Int.add_mul]
      have hdm := Nat.div_add_mod (c + 10 * r) y
      have hdm' : (q : Int) * (y : Int) + (((c + 10 * r) % y : Nat) : Int) = c + 10 * r := by
        rw [hqq] at hdm
        rw [Int.mul_comm]
        exact_mod_cast hdm
      rw [Int.pow_succ, Int.mul_assoc, Int.mul_assoc]
      have e : (10 : Int) ^ j * ((q : Int) * (y : Int)) + (10 : Int) ^ j * (((c + 10 * r) % y : Nat) : Int) = (10 : Int) ^ j * c + (10 : Int) ^ j * (10 * r) := by
        rw [← Int.mul_add, ← Int.mul_add, hdm']
      omega
    · simp only [rounds_s]
      rw [List.append_assoc, List.singleton_append]
      generalize hself : rounds (fun self v => B1.dn (n + 1) (R n) [self] [.agg [dl a, dl (canon y)], v]) k = self at p5 ⊢
      have e1 : ((j + 1 : Nat) : Int) - 1 = (j : Int) := by omega
      have erep : List.replicate (j + 1) (0 : Int) ++ suf = List.replicate j 0 ++ 0 :: suf := by
        rw [List.replicate_succ', List.append_assoc]; rfl
      have t1 := f117 (m := n) (by omega) ((c : Int) :: canon r) (by simp; omega)
      have t2 := f155 (m := n) (by omega) ((c : Int) :: canon r) (by simp; omega)
      rw [ht] at t1 t2
      rw [e1, erep]
      have hlen : (((c : Int) :: canon r).length : Int) ≤ 16777216 := by simp; omega
      rcases hB with rfl | rfl
      · have hi := inner121 St137b0 (.inl rfl) n hn self (dl a) y y0 ly j (by omega) (dl (canon r)) (dl (List.replicate j 0 ++ 0 :: suf)) (.agg [dl (canon (c + 10 * r))]) (n + 1) (c + 10 * r) q 0 (List.replicate j 0) suf (by simp) (by simp; omega) hrr (by omega) hqq (by omega) (by omega)
        rw [Int.zero_add] at hi
        simp (disch := omega) only [St137b1, ya, yb, yc, yd, ye, yf, yg, yh, yi, yj, yk, yl, yp, yq, ys, yu, yv, yw, yx, yy, yz, za, zb, zc, zd, get0, getS, ze, zf, zg, zh, zj, uo, zk, zl, zm, zn, zo, zp, zq, zr, zs, zt, zu, zv, zw, zx, zy, zz, ub, uc, ud, ue, up, uq, ur, ut, uu, ul, um, w64, w8, List.nil_append, List.cons_append, uv, Int.toNat_natCast, o_idx2, hc, t1]
        rw [le_pos (by omega), le_pos (by omega), lt_pos (by omega), le_pos hlen]
        exact hi.trans p5
      · have hi := inner121 St148b0 (.inr rfl) n hn self (dl a) y y0 ly j (by omega) (dl (canon r)) (dl (List.replicate j 0 ++ 0 :: suf)) (.agg [dl (canon (c + 10 * r))]) (n + 1) (c + 10 * r) q 0 (List.replicate j 0) suf (by simp) (by simp; omega) hrr (by omega) hqq (by omega) (by omega)
        rw [Int.zero_add] at hi
        simp (disch := omega) only [St148b1, ya, yb, yc, yd, ye, yf, yg, yh, yi, yj, yk, yl, yp, yq, ys, yu, yv, yw, yx, yy, yz, za, zb, zc, zd, get0, getS, ze, zf, zg, zh, zj, uo, zk, zl, zm, zn, zo, zp, zq, zr, zs, zt, zu, zv, zw, zx, zy, zz, ub, uc, ud, ue, up, uq, ur, ut, uu, ul, um, w64, w8, List.nil_append, List.cons_append, uv, Int.toNat_natCast, o_idx2, hc, t2]
        rw [le_pos (by omega), le_pos (by omega), lt_pos (by omega), le_pos hlen]
        exact hi.trans p5

theorem f121_122 {m : Nat} (hm : 160 ≤ m) (f : Nat) (hf : f = 137 ∨ f = 148) (x y : Nat) (y0 : 0 < y) (lx : (canon x).length ≤ 45) (ly : (canon y).length ≤ 45) : R m f (.agg [dl (canon x), dl (canon y)]) = some (.agg [dl (canon (x / y)), dl (canon (x % y))]) := by
  obtain ⟨n, rfl⟩ : ∃ n, m = n + 1 := ⟨m - 1, by omega⟩
  have key : ∀ B1, (B1 = St137b1 ∨ B1 = St148b1) → rounds (fun self v => B1.dn (n + 1) (R n) [self] [.agg [dl (canon x), dl (canon y)], v]) (n + 1) (.agg [dl [], .int .i64 (((canon x).length : Int) - 1), dl (List.replicate (canon x).length 0)]) = some (.agg [dl (canon (x / y)), dl (canon (x % y))]) := by
    intro B1 hB
    obtain ⟨l, rf, p1, p2, p3, p4, p5⟩ := outer121 B1 hB n (by omega) (canon x) (canon_dig x) lx y y0 ly (canon x).length (n + 1) 0 [] (Nat.le_refl _) (by simp) y0 (by omega)
    rw [List.append_nil, List.append_nil, canon_trim p1] at p5
    rw [List.take_length, canon_nv, Int.natCast_zero, Int.mul_zero, Int.add_zero] at p4
    obtain ⟨q, hq⟩ : ∃ q : Nat, nv l = q := ⟨(nv l).toNat, by have := nv_nonneg p1; omega⟩
    rw [hq] at p4 p5
    have p4' : rf + y * q = x := by
      have : (q : Int) * (y : Int) + (rf : Int) = x := p4
      have : q * y + rf = x := by exact_mod_cast this
      rw [Nat.mul_comm]; omega
    obtain ⟨e1, e2⟩ := (Nat.div_mod_unique y0).2 ⟨p4', p3⟩
    rw [e1, e2]
    rw [Int.toNat_natCast] at p5
    exact p5
  rcases hf with rfl | rfl
  · rw [R_succ n 137 _ rfl]
    simp (disch := omega) only [St137, ya, yb, yc, yd, ye, yf, yg, yh, yi, yj, yk, yl, yp, yq, ys, yu, yv, yw, yx, yy, yz, za, zb, zc, zd, get0, getS, ze, zf, zg, zh, zj, uo, zk, zl, zm, zn, zo, zp, zq, zr, zs, zt, zu, zv, zw, zx, zy, zz, ub, uc, ud, ue, up, uq, ur, ut, uu, ul, um, w64, w8, List.nil_append, List.cons_append, uv, o_zeros, Int.toNat_natCast]
    rw [le_pos (by omega), le_pos (by omega), le_pos (by omega)]
    exact key St137b1 (.inl rfl)
  · rw [R_succ n 148 _ rfl]
    simp (disch := omega) only [St148, ya, yb, yc, yd, ye, yf, yg, yh, yi, yj, yk, yl, yp, yq, ys, yu, yv, yw, yx, yy, yz, za, zb, zc, zd, get0, getS, ze, zf, zg, zh, zj, uo, zk, zl, zm, zn, zo, zp, zq, zr, zs, zt, zu, zv, zw, zx, zy, zz, ub, uc, ud, ue, up, uq, ur, ut, uu, ul, um, w64, w8, List.nil_append, List.cons_append, uv, o_zeros, Int.toNat_natCast]
    rw [le_pos (by omega), le_pos (by omega), le_pos (by omega)]
    exact key St148b1 (.inr rfl)

/-! Both, with their signs: the quotient goes down, the remainder has the divisor's sign. -/
def dmO (x y : Int) : Bool := !decide (x.natAbs % y.natAbs = 0) && !(decide (x < 0) == decide (y < 0))
def dmQ (x y : Int) : Int := if dmO x y then -((x.natAbs / y.natAbs : Nat) + 1 : Int) else sg (!(decide (x < 0) == decide (y < 0))) (x.natAbs / y.natAbs : Nat)
def dmR (x y : Int) : Int := sg (decide (y < 0)) (if dmO x y then (y.natAbs : Int) - (x.natAbs % y.natAbs : Nat) else (x.natAbs % y.natAbs : Nat))
theorem neg1 : PV.agg [.bool true, dl [1]] = numV (-1) := rfl
theorem qr_bounds {x y : Int} (y0 : y ≠ 0) : x.natAbs / y.natAbs ≤ x.natAbs ∧ x.natAbs % y.natAbs < y.natAbs ∧ (x.natAbs % y.natAbs ≠ 0 → x.natAbs / y.natAbs + 1 ≤ x.natAbs) := by
  have hy : 0 < y.natAbs := by omega
  have h1 := Nat.mod_lt x.natAbs hy
  refine ⟨Nat.div_le_self _ _, h1, fun h => ?_⟩
  have h2 : 2 ≤ y.natAbs := by omega
  have h3 : x.natAbs / y.natAbs ≤ x.natAbs / 2 := Nat.div_le_div_left h2 (by omega)
  have h4 : x.natAbs ≠ 0 := by
    intro e
    rw [e, Nat.zero_mod] at h
    exact h rfl
  by_cases h5 : x.natAbs = 1
  · have : x.natAbs / y.natAbs = 0 := Nat.div_eq_of_lt (by omega)
    omega
  · omega
theorem dmQ_Sm {x y : Int} {k : Nat} (y0 : y ≠ 0) (hx : Sm x k) : Sm (dmQ x y) k := by
  have hb := qr_bounds (x := x) y0
  refine Sm.of (Nat.lt_of_le_of_lt ?_ hx.lt)
  unfold dmQ
  cases h : dmO x y with
  | true =>
    have : x.natAbs % y.natAbs ≠ 0 := by
      intro e
      unfold dmO at h
      rw [e] at h
      simp at h
    have := hb.2.2 this
    simp only [if_true]
    generalize x.natAbs / y.natAbs = q at this ⊢
    omega
  | false =>
    simp only [Bool.false_eq_true, if_false]
    have : ∀ (b : Bool) (n : Nat), (sg b (n : Int)).natAbs = n := by intro b n; cases b <;> simp [sg]
    rw [this]
    exact hb.1
theorem dmR_Sm {x y : Int} {k : Nat} (y0 : y ≠ 0) (hy : Sm y k) : Sm (dmR x y) k := by
  have hb := qr_bounds (x := x) y0
  refine Sm.of (Nat.lt_of_le_of_lt ?_ hy.lt)
  unfold dmR
  have : ∀ (b : Bool) (n : Int), (sg b n).natAbs = n.natAbs := by intro b n; cases b <;> simp [sg]
  rw [this]
  have h1 := hb.2.1
  generalize x.natAbs % y.natAbs = r at h1 ⊢
  cases h : dmO x y
  · simp only [Bool.false_eq_true, if_false]; omega
  · simp only [if_true]; omega
theorem ncons (l : List Int) : 0 < l.length ↔ l ≠ [] := by cases l <;> simp
theorem f80 {m : Nat} (hm : 165 ≤ m) (x y : Int) (y0 : y ≠ 0) (hx : Sm x 40) (hy : Sm y 40) : R m 122 (.agg [numV x, numV y]) = some (.agg [numV (dmQ x y), numV (dmR x y)]) := by
  obtain ⟨n, rfl⟩ : ∃ n, m = n + 1 := ⟨m - 1, by omega⟩
  have hb := qr_bounds (x := x) y0
  have e1 := f121_122 (m := n) (by omega) 137 (.inl rfl) x.natAbs y.natAbs (by omega) (by unfold Sm at hx; omega) (by unfold Sm at hy; omega)
  have hq : (canon (x.natAbs / y.natAbs)).length ≤ 40 := by have := canon_mono hb.1; unfold Sm at hx; omega
  have hr : (canon (x.natAbs % y.natAbs)).length ≤ 40 := by have := canon_mono (show x.natAbs % y.natAbs ≤ y.natAbs by omega); unfold Sm at hy; omega
  have e2 := f107 (m := n) (by omega) (!(decide (x < 0) == decide (y < 0))) (canon (x.natAbs / y.natAbs)) (by omega) (canon_dig _)
  have e3 := f107 (m := n) (by omega) (decide (x < 0)) (canon (x.natAbs % y.natAbs)) (by omega) (canon_dig _)
  rw [canon_nv] at e2 e3
  have sgn : ∀ (b : Bool) (n : Nat), (sg b (n : Int)).natAbs = n := by intro b n; cases b <;> simp [sg]
  have e4 := f70 (m := n) (by omega) (sg (!(decide (x < 0) == decide (y < 0))) ((x.natAbs / y.natAbs : Nat) : Int)) (-1) (by unfold Sm; rw [sgn]; omega) (by unfold Sm; exact (by decide : (canon 1).length ≤ 89))
  have e5 := f70 (m := n) (by omega) (sg (decide (x < 0)) ((x.natAbs % y.natAbs : Nat) : Int)) y (by unfold Sm; rw [sgn]; omega) (hy.mono (by omega))
  have eta : ∀ z, PV.agg [(O1.fld 0).dn (numV z), (O1.fld 1).dn (numV z)] = numV z := fun z => rfl
  have es : ∀ z, (O1.fld 1).dn (numV z) = dl (canon z.natAbs) := fun z => rfl
  have e0 : ∀ z, (O1.fld 0).dn (numV z) = .bool (decide (z < 0)) := fun z => rfl
  have fin : ∀ (z : Int) (k : Nat), z.natAbs = k → PV.agg [.bool (decide (z < 0)), dl (canon k)] = numV z := by rintro z k rfl; rfl
  rw [R_succ n 122 _ rfl]
  have f1 : ∀ z, (numV z).cs.getD 0 (PV.bool false) = .bool (decide (z < 0)) := fun z => rfl
  simp (disch := omega) only [St122, ya, yb, yc, yd, ye, yf, yg, yh, yi, yj, yk, yl, yp, yq, ys, yu, yv, yw, yx, yy, yz, za, zb, zc, zd, get0, getS, ze, zf, zg, zh, zj, uo, zk, zl, zm, zn, zo, zp, zq, zr, zs, zt, zu, zv, zw, zx, zy, zz, ub, uc, ud, ue, up, uq, ur, ut, uu, ul, um, w64, w8, List.nil_append, List.cons_append, uv, e0, es, e1]
  simp only [e2, e3, ya, yb, yc, yd, ye, yf, yg, yh, yi, yj, yk, yl, yp, yq, ys, yu, yv, yw, yx, yy, yz, za, zb, zc, zd, get0, getS, ze, zf, zg, zh, zj, uo, zk, zl, zm, zn, zo, zp, zq, zr, zs, zt, zu, zv, zw, zx, zy, zz, ub, uc, ud, ue, up, uq, ur, ut, uu, ul, um, w64, w8, List.nil_append, List.cons_append, uv, eta, es, e0, sgn]
  by_cases hz : x.natAbs % y.natAbs = 0
  · have : (canon (x.natAbs % y.natAbs)).length = 0 := by rw [hz]; rfl
    rw [lt_neg (by omega)]
    have ho : dmO x y = false := by unfold dmO; rw [decide_eq_true hz]; rfl
    unfold dmQ dmR
    rw [ho, hz]
    simp only [Bool.false_eq_true, if_false]
    have : ∀ b, sg b ((0 : Nat) : Int) = 0 := by intro b; cases b <;> rfl
    rw [this, this, fin _ _ (sgn _ _), fin 0 0 rfl]
  · have hne : 0 < (canon (x.natAbs % y.natAbs)).length := by
      rw [ncons]
      intro e
      exact hz (canon_nil.1 e)
    rw [lt_pos (by omega)]
    have hneg : decide (sg (decide (x < 0)) ((x.natAbs % y.natAbs : Nat) : Int) < 0) = decide (x < 0) := by
      by_cases hx0 : x < 0
      · simp [sg, hx0]; omega
      · simp [sg, hx0]; omega
    rw [hneg]
    cases hs : (decide (x < 0) == decide (y < 0)) with
    | true =>
      have ho : dmO x y = false := by unfold dmO; rw [hs]; simp
      unfold dmQ dmR
      rw [ho, hs, yx]
      have hxy : decide (x < 0) = decide (y < 0) := by simpa using hs
      rw [hxy] at hneg ⊢
      have fin2 : PV.agg [.bool (decide (y < 0)), dl (canon (x.natAbs % y.natAbs))] = numV (sg (decide (y < 0)) ((x.natAbs % y.natAbs : Nat) : Int)) := by rw [numV, sgn, hneg]
      rw [fin _ _ (sgn _ _), fin2]
      rfl
    | false =>
      have ho : dmO x y = true := by unfold dmO; rw [hs, decide_eq_false hz]; rfl
      rw [hs] at e4
      unfold dmQ dmR
      rw [ho, hs, yy]
      have q1 : sg (!false) ((x.natAbs / y.natAbs : Nat) : Int) + -1 = -((x.natAbs / y.natAbs : Nat) + 1 : Int) := by simp [sg]; omega
      have q2 : sg (decide (x < 0)) ((x.natAbs % y.natAbs : Nat) : Int) + y = sg (decide (y < 0)) ((y.natAbs : Int) - (x.natAbs % y.natAbs : Nat)) := by
        by_cases hx0 : x < 0 <;> by_cases hy0 : y < 0 <;> simp [hx0, hy0] at hs <;> simp [sg, hx0, hy0] <;> omega
      rw [q1] at e4
      rw [q2] at e5
      have el : O2.snoc.dn (dl []) (.int .i64 1) = dl [1] := rfl
      have fin2 : PV.agg [.bool (decide (x < 0)), dl (canon (x.natAbs % y.natAbs))] = numV (sg (decide (x < 0)) ((x.natAbs % y.natAbs : Nat) : Int)) := by rw [numV, sgn, hneg]
      simp only [ya, yb, yc, yd, ye, yf, yg, yh, yi, yj, yk, yl, yp, yq, ys, yu, yv, yw, yx, yy, yz, za, zb, zc, zd, get0, getS, ze, zf, zg, zh, zj, uo, zk, zl, zm, zn, zo, zp, zq, zr, zs, zt, zu, zv, zw, zx, zy, zz, ub, uc, ud, ue, up, uq, ur, ut, uu, ul, um, w64, w8, List.nil_append, List.cons_append, uv, neg1, if_true]
      rw [fin _ _ (sgn (!false) _), fin2, fin y _ rfl, e4]
      simp only [ya, yb, yc, yd, ye, yf, yg, yh, yi, yj, yk, yl, yp, yq, ys, yu, yv, yw, yx, yy, yz, za, zb, zc, zd, get0, getS, ze, zf, zg, zh, zj, uo, zk, zl, zm, zn, zo, zp, zq, zr, zs, zt, zu, zv, zw, zx, zy, zz, ub, uc, ud, ue, up, uq, ur, ut, uu, ul, um, w64, w8, List.nil_append, List.cons_append, uv, e5]
      rfl
theorem f81 {m : Nat} (hm : 165 ≤ m) {s t : List UInt8} {x y : Int} (y0 : y ≠ 0) (hs : ∀ n, 101 ≤ n → R n 114 (.agg [.str s]) = some (digV x)) (ht : ∀ n, 101 ≤ n → R n 114 (.agg [.str t]) = some (digV y)) (hx : Sm x 40) (hy : Sm y 40) :
    R m 134 (.agg [.str s, .str t]) = some (.agg [.str (textZ (dmQ x y)), .str (textZ (dmR x y))]) := by
  obtain ⟨n, rfl⟩ : ∃ n, m = n + 1 := ⟨m - 1, by omega⟩
  have hb := qr_bounds (x := x) y0
  have e1 := f121_122 (m := n) (by omega) 148 (.inr rfl) x.natAbs y.natAbs (by omega) (by unfold Sm at hx; omega) (by unfold Sm at hy; omega)
  have hq : (canon (x.natAbs / y.natAbs)).length ≤ 40 := by have := canon_mono hb.1; unfold Sm at hx; omega
  have hyl : (canon y.natAbs).length ≤ 40 := hy
  have hr : (canon (x.natAbs % y.natAbs)).length ≤ 40 := by have := canon_mono (show x.natAbs % y.natAbs ≤ y.natAbs by omega); omega
  have i1 := fun q => f120 (m := n) (by omega) (x.natAbs / y.natAbs) q (by omega)
  have i2 := fun q => f120 (m := n) (by omega) (x.natAbs % y.natAbs) q (by omega)
  simp only [textZ_sg] at i1 i2
  have e4 := f118 (m := n) (by omega) (canon (x.natAbs / y.natAbs)) [1] (canon_dig _) (Dig.cons (by omega) (by omega) Dig.nil) (by omega) (by simp)
  have e5 := f119 (m := n) (by omega) (canon y.natAbs) (canon (x.natAbs % y.natAbs)) (canon_dig _) (canon_dig _) (by omega) (by rw [canon_nv, canon_nv]; omega)
  have n4 : ∀ q : Nat, (nv (canon q) + nv [1]).toNat = q + 1 := by intro q; rw [canon_nv, nv_cons, nv_nil]; omega
  have n5 : ∀ q r : Nat, (nv (canon q) - nv (canon r)).toNat = q - r := by intro q r; rw [canon_nv, canon_nv]; omega
  rw [n4] at e4
  rw [n5] at e5
  rw [R_succ n 134 _ rfl]
  simp (disch := omega) only [St134, ya, yb, yc, yd, ye, yf, yg, yh, yi, yj, yk, yl, yp, yq, ys, yu, yv, yw, yx, yy, yz, za, zb, zc, zd, get0, getS, ze, zf, zg, zh, zj, uo, zk, zl, zm, zn, zo, zp, zq, zr, zs, zt, zu, zv, zw, zx, zy, zz, ub, uc, ud, ue, up, uq, ur, ut, uu, ul, um, w64, w8, List.nil_append, List.cons_append, uv, hs n (by omega), ht n (by omega), digV, e1]
  by_cases hz : x.natAbs % y.natAbs = 0
  · have : (canon (x.natAbs % y.natAbs)).length = 0 := by rw [hz]; rfl
    rw [lt_neg (by omega)]
    have ho : dmO x y = false := by unfold dmO; rw [decide_eq_true hz]; rfl
    simp only [i1, i2, ya, yb, yc, yd, ye, yf, yg, yh, yi, yj, yk, yl, yp, yq, ys, yu, yv, yw, yx, yy, yz, za, zb, zc, zd, get0, getS, ze, zf, zg, zh, zj, uo, zk, zl, zm, zn, zo, zp, zq, zr, zs, zt, zu, zv, zw, zx, zy, zz, ub, uc, ud, ue, up, uq, ur, ut, uu, ul, um, w64, w8, List.nil_append, List.cons_append, uv]
    unfold dmQ dmR
    rw [ho]
    rfl
  · have hne : 0 < (canon (x.natAbs % y.natAbs)).length := by
      rw [ncons]
      intro e
      exact hz (canon_nil.1 e)
    rw [lt_pos (by omega)]
    cases hs : (decide (x < 0) == decide (y < 0)) with
    | true =>
      have ho : dmO x y = false := by unfold dmO; rw [hs]; simp
      simp only [ya, yb, yc, yd, ye, yf, yg, yh, yi, yj, yk, yl, yp, yq, ys, yu, yv, yw, yx, yy, yz, za, zb, zc, zd, get0, getS, ze, zf, zg, zh, zj, uo, zk, zl, zm, zn, zo, zp, zq, zr, zs, zt, zu, zv, zw, zx, zy, zz, ub, uc, ud, ue, up, uq, ur, ut, uu, ul, um, w64, w8, List.nil_append, List.cons_append, uv, i1, i2]
      unfold dmQ dmR
      rw [ho, hs]
      rfl
    | false =>
      have ho : dmO x y = true := by unfold dmO; rw [hs, decide_eq_false hz]; rfl
      have h1 := hb.2.2 hz
      have hq1 : (canon (x.natAbs / y.natAbs + 1)).length ≤ 40 := by have := canon_mono h1; unfold Sm at hx; omega
      have hr1 : (canon (y.natAbs - x.natAbs % y.natAbs)).length ≤ 40 := by have := canon_mono (show y.natAbs - x.natAbs % y.natAbs ≤ y.natAbs by omega); omega
      have i3 := fun q => f120 (m := n) (by omega) (x.natAbs / y.natAbs + 1) q (by omega)
      have i4 := fun q => f120 (m := n) (by omega) (y.natAbs - x.natAbs % y.natAbs) q (by omega)
      simp only [textZ_sg] at i3 i4
      have el : O2.snoc.dn (dl []) (.int .i64 1) = dl [1] := rfl
      simp only [ya, yb, yc, yd, ye, yf, yg, yh, yi, yj, yk, yl, yp, yq, ys, yu, yv, yw, yx, yy, yz, za, zb, zc, zd, get0, getS, ze, zf, zg, zh, zj, uo, zk, zl, zm, zn, zo, zp, zq, zr, zs, zt, zu, zv, zw, zx, zy, zz, ub, uc, ud, ue, up, uq, ur, ut, uu, ul, um, w64, w8, List.nil_append, List.cons_append, uv, e4, e5, i3, i4]
      unfold dmQ dmR
      rw [ho]
      simp only [if_true]
      have q1 : sg true ((x.natAbs / y.natAbs + 1 : Nat) : Int) = -((x.natAbs / y.natAbs : Nat) + 1 : Int) := by simp [sg]
      have q2 : ((y.natAbs - x.natAbs % y.natAbs : Nat) : Int) = (y.natAbs : Int) - (x.natAbs % y.natAbs : Nat) := by omega
      rw [q1, q2]
theorem zero_iff {b : List UInt8} (h : isIntL b = true) : b = [48] ↔ Z b = 0 := by
  constructor
  · rintro rfl; rfl
  · intro hz
    have := textZ_Z h
    rw [hz] at this
    exact this.symm
end Go.Dv

/- Sums. -/
set_option linter.unusedVariables false
set_option linter.unusedSimpArgs false
namespace Go.Dv
theorem f36 {m : Nat} (hm : 105 ≤ m) (a b : List UInt8) : R m 96 (.agg [.str a, .str b]) = some (if isIntL a = true ∧ isIntL b = true then fitV (Z a + Z b) else .agg [.str [], .bool false]) := by
  obtain ⟨n, rfl⟩ : ∃ n, m = n + 1 := ⟨m - 1, by omega⟩
  rw [R_succ n 96 _ rfl]
  by_cases h : isIntL a = true ∧ isIntL b = true
  · rw [if_pos h]
    have h70 := f70 (m := n) (by omega) (Z a) (Z b) ((Z_Sm h.1).mono (by omega)) ((Z_Sm h.2).mono (by omega))
    have h75 := f75' (m := n) (by omega) (Z a + Z b) ((Sm.add (Z_Sm h.1) (Z_Sm h.2)).mono (by omega))
    have eta : ∀ z, PV.agg [(O1.fld 0).dn (numV z), (O1.fld 1).dn (numV z)] = numV z := fun z => rfl
    simp (disch := omega) only [St96, ya, yb, yc, yd, ye, yf, yg, yh, yi, yj, yk, yl, yp, yq, ys, yu, yv, yw, yx, yy, yz, za, zb, zc, zd, get0, getS, ze, zf, zg, zh, zj, uo, zk, zl, zm, zn, zo, zp, zq, zr, zs, zt, zu, zv, zw, zx, zy, zz, ub, uc, ud, ue, up, uq, ur, ut, uu, ul, um, w64, w8, List.nil_append, List.cons_append, uv, f69 (m := n) (by omega) a b h.1 h.2, eta, h70, h75, fitV_eta]
  · rw [if_neg h]
    obtain ⟨p, q, e⟩ := f69' (m := n) (by omega) a b h
    simp only [St96, ya, yb, yc, yd, ye, yf, yg, yh, yi, yj, yk, yl, yp, yq, ys, yu, yv, yw, yx, yy, yz, za, zb, zc, zd, get0, getS, ze, zf, zg, zh, zj, uo, zk, zl, zm, zn, zo, zp, zq, zr, zs, zt, zu, zv, zw, zx, zy, zz, ub, uc, ud, ue, up, uq, ur, ut, uu, ul, um, w64, w8, List.nil_append, List.cons_append, uv, e]
end Go.Dv

/- Differences. -/
set_option linter.unusedVariables false
set_option linter.unusedSimpArgs false
namespace Go.Dv
/-- negInt. -/
theorem f79 {m : Nat} (hm : 102 ≤ m) {s : List UInt8} {z : Int} (h : ∀ n, 101 ≤ n → R n 114 (.agg [.str s]) = some (digV z)) (hz : Sm z 80) : R m 84 (.agg [.str s]) = some (.agg [.str (textZ (-z))]) := by
  obtain ⟨n, rfl⟩ : ∃ n, m = n + 1 := ⟨m - 1, by omega⟩
  unfold Sm at hz
  have e : sg (!decide (z < 0)) z.natAbs = -z := by
    by_cases hz : z < 0
    · simp [sg, hz]; omega
    · simp [sg, hz]; omega
  rw [R_succ n 84 _ rfl]
  simp only [St84, ya, yb, yc, yd, ye, yf, yg, yh, yi, yj, yk, yl, yp, yq, ys, yu, yv, yw, yx, yy, yz, za, zb, zc, zd, get0, getS, ze, zf, zg, zh, zj, uo, zk, zl, zm, zn, zo, zp, zq, zr, zs, zt, zu, zv, zw, zx, zy, zz, ub, uc, ud, ue, up, uq, ur, ut, uu, ul, um, w64, w8, List.nil_append, List.cons_append, uv, h n (by omega), digV, f120 (m := n) (by omega) z.natAbs (!decide (z < 0)) (by omega), textZ_sg, e]
end Go.Dv

/- Comparing. -/
set_option linter.unusedVariables false
set_option linter.unusedSimpArgs false
namespace Go.Dv
/-- cmpInts. -/
theorem f73 {m : Nat} (hm : 102 ≤ m) {s t : List UInt8} {x y : Int} (hs : ∀ n, 101 ≤ n → R n 114 (.agg [.str s]) = some (digV x)) (ht : ∀ n, 101 ≤ n → R n 114 (.agg [.str t]) = some (digV y)) (hx : Sm x 80) (hy : Sm y 80) :
    R m 116 (.agg [.str s, .str t]) = some (.agg [.int .i64 (cmpI x y)]) := by
  obtain ⟨n, rfl⟩ : ∃ n, m = n + 1 := ⟨m - 1, by omega⟩
  unfold Sm at hx hy
  have cmp := f108_111 (m := n) (by omega) 129 (.inr rfl) x.natAbs y.natAbs (by omega) (by omega)
  have cmp' := f108_111 (m := n) (by omega) 129 (.inr rfl) y.natAbs x.natAbs (by omega) (by omega)
  rw [R_succ n 116 _ rfl]
  simp (disch := omega) only [St116, ya, yb, yc, yd, ye, yf, yg, yh, yi, yj, yk, yl, yp, yq, ys, yu, yv, yw, yx, yy, yz, za, zb, zc, zd, get0, getS, ze, zf, zg, zh, zj, uo, zk, zl, zm, zn, zo, zp, zq, zr, zs, zt, zu, zv, zw, zx, zy, zz, ub, uc, ud, ue, up, uq, ur, ut, uu, ul, um, w64, w8, List.nil_append, List.cons_append, uv, hs n (by omega), ht n (by omega), digV]
  by_cases hx0 : x < 0 <;> by_cases hy0 : y < 0
  · simp only [hx0, hy0, decide_true, decide_false, bneq_tt, cmp', ya, yb, yc, yd, ye, yf, yg, yh, yi, yj, yk, yl, yp, yq, ys, yu, yv, yw, yx, yy, yz, za, zb, zc, zd, get0, getS, ze, zf, zg, zh, zj, uo, zk, zl, zm, zn, zo, zp, zq, zr, zs, zt, zu, zv, zw, zx, zy, zz, ub, uc, ud, ue, up, uq, ur, ut, uu, ul, um, w64, w8, List.nil_append, List.cons_append, uv]
    have : cmpI (y.natAbs : Int) (x.natAbs : Int) = cmpI x y := by unfold cmpI; simp only [show ((y.natAbs : Int) < x.natAbs) ↔ x < y by omega, show ((y.natAbs : Int) = x.natAbs) ↔ x = y by omega]
    rw [this]
  · simp only [hx0, hy0, decide_true, decide_false, bneq_tf, ya, yb, yc, yd, ye, yf, yg, yh, yi, yj, yk, yl, yp, yq, ys, yu, yv, yw, yx, yy, yz, za, zb, zc, zd, get0, getS, ze, zf, zg, zh, zj, uo, zk, zl, zm, zn, zo, zp, zq, zr, zs, zt, zu, zv, zw, zx, zy, zz, ub, uc, ud, ue, up, uq, ur, ut, uu, ul, um, w64, w8, List.nil_append, List.cons_append, uv]
    have : cmpI x y = -1 := by unfold cmpI; rw [if_pos (by omega)]
    rw [this]
  · simp only [hx0, hy0, decide_true, decide_false, bneq_ft, ya, yb, yc, yd, ye, yf, yg, yh, yi, yj, yk, yl, yp, yq, ys, yu, yv, yw, yx, yy, yz, za, zb, zc, zd, get0, getS, ze, zf, zg, zh, zj, uo, zk, zl, zm, zn, zo, zp, zq, zr, zs, zt, zu, zv, zw, zx, zy, zz, ub, uc, ud, ue, up, uq, ur, ut, uu, ul, um, w64, w8, List.nil_append, List.cons_append, uv]
    have : cmpI x y = 1 := by unfold cmpI; rw [if_neg (by omega), if_neg (by omega)]
    rw [this]
  · simp only [hx0, hy0, decide_true, decide_false, bneq_ff, cmp, ya, yb, yc, yd, ye, yf, yg, yh, yi, yj, yk, yl, yp, yq, ys, yu, yv, yw, yx, yy, yz, za, zb, zc, zd, get0, getS, ze, zf, zg, zh, zj, uo, zk, zl, zm, zn, zo, zp, zq, zr, zs, zt, zu, zv, zw, zx, zy, zz, ub, uc, ud, ue, up, uq, ur, ut, uu, ul, um, w64, w8, List.nil_append, List.cons_append, uv]
    have : cmpI (x.natAbs : Int) (y.natAbs : Int) = cmpI x y := by unfold cmpI; simp only [show ((x.natAbs : Int) < y.natAbs) ↔ x < y by omega, show ((x.natAbs : Int) = y.natAbs) ↔ x = y by omega]
    rw [this]
theorem f28 {m : Nat} (hm : 105 ≤ m) (a b : List UInt8) : R m 66 (.agg [.str a, .str b]) = some (.agg [.int .i64 (if isIntL a = true ∧ isIntL b = true then cmpI (Z a) (Z b) else -2)]) := by
  obtain ⟨n, rfl⟩ : ∃ n, m = n + 1 := ⟨m - 1, by omega⟩
  rw [R_succ n 66 _ rfl]
  by_cases h : isIntL a = true ∧ isIntL b = true
  · rw [if_pos h]
    have h71 := f71 (m := n) (by omega) (Z b) ((Z_Sm h.2).mono (by omega))
    have h70 := f70 (m := n) (by omega) (Z a) (-(Z b)) ((Z_Sm h.1).mono (by omega)) ((Z_Sm h.2).neg.mono (by omega))
    have eta : ∀ z, PV.agg [(O1.fld 0).dn (numV z), (O1.fld 1).dn (numV z)] = numV z := fun z => rfl
    simp (disch := omega) only [St66, ya, yb, yc, yd, ye, yf, yg, yh, yi, yj, yk, yl, yp, yq, ys, yu, yv, yw, yx, yy, yz, za, zb, zc, zd, get0, getS, ze, zf, zg, zh, zj, uo, zk, zl, zm, zn, zo, zp, zq, zr, zs, zt, zu, zv, zw, zx, zy, zz, ub, uc, ud, ue, up, uq, ur, ut, uu, ul, um, w64, w8, List.nil_append, List.cons_append, uv, f69 (m := n) (by omega) a b h.1 h.2, eta, h71, h70]
    have e1 : (O1.fld 1).dn (numV (Z a + -Z b)) = dl (canon (Z a + -Z b).natAbs) := rfl
    have e2 : (numV (Z a + -Z b)).cs.getD 0 (PV.bool false) = .bool (decide (Z a + -Z b < 0)) := rfl
    simp only [e1, e2, uo, zf]
    unfold cmpI
    by_cases h0 : Z a = Z b
    · rw [h0, Int.add_right_neg, if_neg (by omega), if_pos rfl]
      rfl
    · have : 0 < (canon (Z a + -Z b).natAbs).length := by
        cases e : canon (Z a + -Z b).natAbs with
        | nil => have := canon_nil.1 e; omega
        | cons a l => simp
      rw [eq_neg (by omega)]
      by_cases h1 : Z a < Z b
      · rw [decide_eq_true (show Z a + -Z b < 0 by omega), if_pos h1]
      · rw [decide_eq_false (show ¬ Z a + -Z b < 0 by omega), if_neg h1, if_neg h0]
  · rw [if_neg h]
    obtain ⟨p, q, e⟩ := f69' (m := n) (by omega) a b h
    simp only [St66, ya, yb, yc, yd, ye, yf, yg, yh, yi, yj, yk, yl, yp, yq, ys, yu, yv, yw, yx, yy, yz, za, zb, zc, zd, get0, getS, ze, zf, zg, zh, zj, uo, zk, zl, zm, zn, zo, zp, zq, zr, zs, zt, zu, zv, zw, zx, zy, zz, ub, uc, ud, ue, up, uq, ur, ut, uu, ul, um, w64, w8, List.nil_append, List.cons_append, uv, e]
end Go.Dv

/- Products. -/
set_option linter.unusedVariables false
set_option linter.unusedSimpArgs false
namespace Go.Dv

theorem mul_dig {x y : Int} (x0 : 0 ≤ x) (x9 : x ≤ 9) (y0 : 0 ≤ y) (y9 : y ≤ 9) : 0 ≤ x * y ∧ x * y ≤ 81 := by
  refine ⟨Int.mul_nonneg x0 y0, ?_⟩
  have := Int.mul_le_mul x9 y9 y0 (by omega)
  omega
theorem getD_tl (l : List Int) (d : Int) (t : Nat) : (d :: l).getD (t + 1) 0 = l.getD t 0 := rfl
theorem mul_nv (x y : Int) (B : Int) : x * (y + 10 * B) = x * y + 10 * (x * B) := by rw [Int.mul_add, Int.mul_left_comm]
theorem mul_nv' (x A B : Int) : (x + 10 * A) * B = x * B + 10 * (A * B) := by rw [Int.add_mul, Int.mul_assoc]

theorem inner112 (n : Nat) (G : FuncId → PV → Option PV) (oself : PV → Option PV) (a b : List Int) (hb : Dig b) (lb : b.length ≤ 45) (x : Int) (x0 : 0 ≤ x) (x9 : x ≤ 9) (i : Nat) (hi : i ≤ 45) (hx : a.getD i 0 = x) (o1 : PV) :
    ∀ (k j : Nat) (c : Int) (pre cur : List Int), pre.length = i + j → 0 ≤ c → c ≤ 9 → Dig cur → b.length - j + 1 ≤ cur.length ∨ (c = 0 ∧ b.length ≤ j) → (∀ t, b.length - j ≤ t → cur.getD t 0 = 0) → cur.length < k → pre.length + cur.length ≤ 200 →
      ∃ l, Dig l ∧ l.length = cur.length ∧ nv l = nv cur + c + x * nv (b.drop j) ∧ (∀ t, b.length - j + 1 ≤ t → l.getD t 0 = 0) ∧ (c = 0 → b.length ≤ j → l = cur) ∧
        rounds (fun self v => St136b0.dn n G [oself, self] [.agg [dl a, dl b], .agg [.int .i64 i, o1], v]) k (.agg [.int .i64 c, .int .i64 j, dl (pre ++ cur)]) = oself (.agg [.int .i64 ((i : Int) + 1), dl (pre ++ l)]) := by
  intro k
  induction k with
  | zero => intro j c pre cur h1 h2 h3 h4 h5 h6 h7; omega
  | succ k ih =>
    intro j c pre cur h1 h2 h3 h4 h5 h6 h7 h8
    simp only [rounds_s]
    have ecast : (i : Int) + (j : Int) = ((i + j : Nat) : Int) := by omega
    by_cases hj : j < b.length
    · cases cur with
      | nil => simp at h5; omega
      | cons u cur =>
        have gb := hb.get (i := j)
        have gu := h4.head
        have hxy := mul_dig x0 x9 gb.1 gb.2
        have hs : (c + u + x * b.getD j 0) / 10 ≤ 9 := by omega
        obtain ⟨l, q1, q2, q3, q4, -, q6⟩ := ih (j + 1) ((c + u + x * b.getD j 0) / 10) (pre ++ [(c + u + x * b.getD j 0) % 10]) cur (by rw [len_snoc]; omega) (by omega) hs h4.tail (.inl (by simp at h5 h7; omega)) (fun t ht => by have := h6 (t + 1) (by omega); rwa [getD_tl] at this) (by simp at h7; omega) (by rw [len_snoc]; simp at h8; omega)
        clear ih
        refine ⟨(c + u + x * b.getD j 0) % 10 :: l, Dig.cons (by omega) (by omega) q1, by rw [List.length_cons, q2]; rfl, ?_, ?_, fun _ h => by omega, ?_⟩
        · rw [drop_cons hj, nv_cons, nv_cons, nv_cons, mul_nv, q3]; omega
        · intro t ht
          cases t with
          | zero => omega
          | succ t => rw [getD_tl]; exact q4 t (by omega)
        · generalize rounds _ k = self at q6 ⊢
          rw [List.append_assoc, List.append_assoc, Int.natCast_add, Int.natCast_one] at q6
          have e1 : (pre ++ u :: cur).getD (i + j) 0 = u := by rw [← h1]; exact pre_get pre cur u
          have e2 : ∀ y, (pre ++ u :: cur).set (i + j) y = pre ++ y :: cur := by intro y; rw [← h1]; exact pre_set pre cur u y
          have e3 := pre_len pre cur u
          simp only [List.length_cons] at h7 h8
          simp (disch := omega) only [St136b0, ya, yb, yc, yd, ye, yf, yg, yh, yi, yj, yk, yl, yp, yq, ys, yu, yv, yw, yx, yy, yz, za, zb, zc, zd, get0, getS, ze, zf, zg, zh, zj, uo, zk, zl, zm, zn, zo, zp, zq, zr, zs, zt, zu, zv, zw, zx, zy, zz, ub, uc, ud, ue, up, uq, ur, ut, uu, ul, um, w64, w8, List.nil_append, List.cons_append, uv, dn_cont1, ecast, Int.toNat_natCast, e1, e2, hx, tdiv_nn, tmod_nn]
          rw [lt_pos (by omega), le_pos (by omega), lt_pos (by omega), le_pos (by omega)]
          exact q6
    · have hbn : b.drop j = [] := drop_nil hj
      by_cases hc : 0 < c
      · cases cur with
        | nil => simp at h5; omega
        | cons u cur =>
          have hu : u = 0 := h6 0 (by omega)
          obtain ⟨l, q1, q2, q3, q4, q5, q6⟩ := ih (j + 1) 0 (pre ++ [c]) cur (by rw [len_snoc]; omega) (by omega) (by omega) h4.tail (.inr ⟨rfl, by omega⟩) (fun t ht => by have := h6 (t + 1) (by omega); rwa [getD_tl] at this) (by simp at h7; omega) (by rw [len_snoc]; simp at h8; omega)
          clear ih
          have q5 := q5 rfl (by omega)
          subst q5 hu
          refine ⟨c :: l, Dig.cons (by omega) (by omega) q1, rfl, ?_, ?_, fun h => by omega, ?_⟩
          · rw [hbn, nv_cons, nv_cons, nv_nil]; omega
          · intro t ht
            cases t with
            | zero => omega
            | succ t => have := h6 (t + 1) (by omega); rwa [getD_tl] at this ⊢
          · generalize rounds _ k = self at q6 ⊢
            rw [List.append_assoc, Int.natCast_add, Int.natCast_one] at q6
            have e1 : (pre ++ 0 :: l).getD (i + j) 0 = 0 := by rw [← h1]; exact pre_get pre l 0
            have e2 : ∀ y, (pre ++ 0 :: l).set (i + j) y = pre ++ y :: l := by intro y; rw [← h1]; exact pre_set pre l 0 y
            have e3 := pre_len pre l 0
            have e4 : c / 10 = 0 := by omega
            have e5 : c % 10 = c := by omega
            simp only [List.length_cons] at h7 h8
            simp (disch := omega) only [St136b0, ya, yb, yc, yd, ye, yf, yg, yh, yi, yj, yk, yl, yp, yq, ys, yu, yv, yw, yx, yy, yz, za, zb, zc, zd, get0, getS, ze, zf, zg, zh, zj, uo, zk, zl, zm, zn, zo, zp, zq, zr, zs, zt, zu, zv, zw, zx, zy, zz, ub, uc, ud, ue, up, uq, ur, ut, uu, ul, um, w64, w8, List.nil_append, List.cons_append, uv, dn_cont1, ecast, Int.toNat_natCast, e1, e2, tdiv_nn, tmod_nn, Int.add_zero, e4, e5]
            rw [lt_neg (by omega), lt_pos (by omega), le_pos (by omega), lt_pos (by omega)]
            exact q6
      · have hc0 : c = 0 := by omega
        subst hc0
        clear ih
        refine ⟨cur, h4, rfl, by rw [hbn, nv_nil]; omega, fun t ht => h6 t (by omega), fun _ _ => rfl, ?_⟩
        generalize rounds _ k = self
        simp (disch := omega) only [St136b0, ya, yb, yc, yd, ye, yf, yg, yh, yi, yj, yk, yl, yp, yq, ys, yu, yv, yw, yx, yy, yz, za, zb, zc, zd, get0, getS, ze, zf, zg, zh, zj, uo, zk, zl, zm, zn, zo, zp, zq, zr, zs, zt, zu, zv, zw, zx, zy, zz, ub, uc, ud, ue, up, uq, ur, ut, uu, ul, um, w64, w8, List.nil_append, List.cons_append, uv]
        rw [lt_neg (by omega), lt_neg (by omega)]

theorem outer112 (n : Nat) (hn : 150 ≤ n) (a b : List Int) (ha : Dig a) (hb : Dig b) (la : a.length ≤ 45) (lb : b.length ≤ 45) :
    ∀ (k i : Nat) (pre cur : List Int), pre.length = i → i ≤ a.length → pre.length + cur.length = a.length + b.length + 1 → Dig cur → (∀ t, b.length ≤ t → cur.getD t 0 = 0) → a.length < k + i →
      ∃ l, Dig l ∧ l.length = cur.length ∧ nv l = nv cur + nv (a.drop i) * nv b ∧
        rounds (fun self v => St136b1.dn (n + 1) (R n) [self] [.agg [dl a, dl b], v]) k (.agg [.int .i64 i, dl (pre ++ cur)]) = some (.agg [dl (trim (pre ++ l))]) := by
  intro k
  induction k with
  | zero => intro i pre cur h1 h2 h3 h4 h5 h6; omega
  | succ k ih =>
    intro i pre cur h1 h2 h3 h4 h5 h6
    simp only [rounds_s]
    by_cases hi : i < a.length
    · have ga := ha.get (i := i)
      generalize hself : rounds (fun self v => St136b1.dn (n + 1) (R n) [self] [.agg [dl a, dl b], v]) k = self at ih ⊢
      obtain ⟨l, q1, q2, q3, q4, -, q6⟩ := inner112 (n + 1) (R n) self a b hb lb (a.getD i 0) ga.1 ga.2 i (by omega) rfl (dl (pre ++ cur)) (n + 1) 0 0 pre cur (by omega) (by omega) (by omega) h4 (.inl (by omega)) (fun t ht => h5 t (by omega)) (by omega) (by omega)
      cases l with
      | nil => simp at q2; omega
      | cons d l =>
        obtain ⟨l', p1, p2, p3, p4⟩ := ih (i + 1) (pre ++ [d]) l (by rw [len_snoc]; omega) (by omega) (by rw [len_snoc]; simp at q2; omega) q1.tail (fun t ht => by have := q4 (t + 1) (by omega); rwa [getD_tl] at this) (by omega)
        clear ih
        rw [List.append_assoc, List.append_assoc, Int.natCast_add, Int.natCast_one] at p4
        have hd := q1.head
        refine ⟨d :: l', Dig.cons hd.1 hd.2 p1, by rw [← q2, List.length_cons, List.length_cons, p2], ?_, ?_⟩
        · rw [List.drop_zero] at q3
          rw [drop_cons hi, nv_cons, nv_cons, mul_nv', p3]
          rw [nv_cons] at q3
          omega
        · simp (disch := omega) only [St136b1, ya, yb, yc, yd, ye, yf, yg, yh, yi, yj, yk, yl, yp, yq, ys, yu, yv, yw, yx, yy, yz, za, zb, zc, zd, get0, getS, ze, zf, zg, zh, zj, uo, zk, zl, zm, zn, zo, zp, zq, zr, zs, zt, zu, zv, zw, zx, zy, zz, ub, uc, ud, ue, up, uq, ur, ut, uu, ul, um, w64, w8, List.nil_append, List.cons_append, uv]
          rw [lt_pos (by omega), le_pos (by omega)]
          rw [Int.natCast_zero] at q6
          exact q6.trans p4
    · clear ih
      refine ⟨cur, h4, rfl, by rw [drop_nil hi, nv_nil]; omega, ?_⟩
      have ht := f117 (m := n) (by omega) (pre ++ cur) (by rw [List.length_append]; omega)
      generalize rounds _ k = self
      simp (disch := omega) only [St136b1, ya, yb, yc, yd, ye, yf, yg, yh, yi, yj, yk, yl, yp, yq, ys, yu, yv, yw, yx, yy, yz, za, zb, zc, zd, get0, getS, ze, zf, zg, zh, zj, uo, zk, zl, zm, zn, zo, zp, zq, zr, zs, zt, zu, zv, zw, zx, zy, zz, ub, uc, ud, ue, up, uq, ur, ut, uu, ul, um, w64, w8, List.nil_append, List.cons_append, uv]
      rw [lt_neg (by omega), ht]
      rfl
theorem zeros_dig (z : Nat) : Dig (List.replicate z 0) := by
  intro d hd
  rw [List.eq_of_mem_replicate hd]
  omega
theorem zeros_get (z t : Nat) : (List.replicate z (0 : Int)).getD t 0 = 0 := by
  rw [List.getD_eq_getElem?_getD, List.getElem?_replicate]
  split <;> rfl
theorem zeros_nv : ∀ z : Nat, nv (List.replicate z 0) = 0
  | 0 => rfl
  | z + 1 => by rw [List.replicate_succ, nv_cons, zeros_nv z]; rfl
theorem f112 {m : Nat} (hm : 160 ≤ m) (a b : List Int) (ha : Dig a) (hb : Dig b) (la : a.length ≤ 45) (lb : b.length ≤ 45) : R m 136 (.agg [dl a, dl b]) = some (.agg [dl (canon (nv a * nv b).toNat)]) := by
  obtain ⟨n, rfl⟩ : ∃ n, m = n + 1 := ⟨m - 1, by omega⟩
  obtain ⟨l, q1, q2, q3, q4⟩ := outer112 n (by omega) a b ha hb la lb (n + 1) 0 [] (List.replicate (a.length + b.length + 1) 0) rfl (by omega) (by simp) (zeros_dig _) (fun t _ => zeros_get _ t) (by omega)
  rw [zeros_nv, List.drop_zero, Int.zero_add] at q3
  rw [List.nil_append, List.nil_append, canon_trim q1, q3] at q4
  have ez : ((a.length : Int) + b.length + 1).toNat = a.length + b.length + 1 := by omega
  rw [R_succ n 136 _ rfl]
  simp (disch := omega) only [St136, ya, yb, yc, yd, ye, yf, yg, yh, yi, yj, yk, yl, yp, yq, ys, yu, yv, yw, yx, yy, yz, za, zb, zc, zd, get0, getS, ze, zf, zg, zh, zj, uo, zk, zl, zm, zn, zo, zp, zq, zr, zs, zt, zu, zv, zw, zx, zy, zz, ub, uc, ud, ue, up, uq, ur, ut, uu, ul, um, w64, w8, List.nil_append, List.cons_append, uv, o_zeros, ez]
  rw [le_pos (by omega), le_pos (by omega), le_pos (by omega)]
  exact q4

/-! The reference's products: sums of products first, carries last. -/
def Bd (M : Int) (l : List Int) : Prop := ∀ d ∈ l, 0 ≤ d ∧ d ≤ M
theorem Bd.cons {M d : Int} {l : List Int} (h1 : 0 ≤ d) (h2 : d ≤ M) (h : Bd M l) : Bd M (d :: l) := by
  intro x hx
  rcases List.mem_cons.1 hx with rfl | hx
  · exact ⟨h1, h2⟩
  · exact h x hx
theorem Bd.tail {M d : Int} {l : List Int} (h : Bd M (d :: l)) : Bd M l := fun x hx => h x (List.mem_cons_of_mem _ hx)
theorem Bd.head {M d : Int} {l : List Int} (h : Bd M (d :: l)) : 0 ≤ d ∧ d ≤ M := h d List.mem_cons_self
theorem Bd.mono {M M' : Int} {l : List Int} (h : Bd M l) (hm : M ≤ M') : Bd M' l := fun x hx => by have := h x hx; omega
theorem Bd.app {M : Int} {l m : List Int} (h : Bd M l) (h' : Bd M m) : Bd M (l ++ m) := by
  intro x hx
  rcases List.mem_append.1 hx with hx | hx
  · exact h x hx
  · exact h' x hx
theorem inner115 (n : Nat) (G : FuncId → PV → Option PV) (oself : PV → Option PV) (a b : List Int) (hb : Dig b) (lb : b.length ≤ 45) (x : Int) (x0 : 0 ≤ x) (x9 : x ≤ 9) (i : Nat) (hi : i ≤ 45) (hx : a.getD i 0 = x) (o1 : PV) (M : Int) (M0 : 0 ≤ M) (M1 : M ≤ 100000) :
    ∀ (k j : Nat) (pre cur : List Int), pre.length = i + j → Bd M cur → b.length - j ≤ cur.length → b.length < k + j → pre.length + cur.length ≤ 200 → j ≤ b.length →
      ∃ l, Bd (M + 81) l ∧ l.length = cur.length ∧ nv l = nv cur + x * nv (b.drop j) ∧
        rounds (fun self v => St147b0.dn n G [oself, self] [.agg [dl a, dl b], .agg [.int .i64 i, o1], v]) k (.agg [.int .i64 j, dl (pre ++ cur)]) = oself (.agg [.int .i64 ((i : Int) + 1), dl (pre ++ l)]) := by
  intro k
  induction k with
  | zero =>
    intro j pre cur h1 h2 h3 h4 h5 h6
    omega
  | succ k ih =>
    intro j pre cur h1 h2 h3 h4 h5 h6
    simp only [rounds_s]
    have ecast : (i : Int) + (j : Int) = ((i + j : Nat) : Int) := by omega
    by_cases hj : j < b.length
    · cases cur with
      | nil => simp at h3; omega
      | cons u cur =>
        have gb := hb.get (i := j)
        have gu := h2.head
        have hxy := mul_dig x0 x9 gb.1 gb.2
        obtain ⟨l, q1, q2, q3, q6⟩ := ih (j + 1) (pre ++ [u + x * b.getD j 0]) cur (by rw [len_snoc]; omega) h2.tail (by simp at h3; omega) (by omega) (by rw [len_snoc]; simp at h5; omega) (by omega)
        clear ih
        refine ⟨(u + x * b.getD j 0) :: l, Bd.cons (by omega) (by omega) q1, by rw [List.length_cons, q2]; rfl, ?_, ?_⟩
        · rw [drop_cons hj, nv_cons, nv_cons, nv_cons, mul_nv, q3]; omega
        · generalize rounds _ k = self at q6 ⊢
          rw [List.append_assoc, List.append_assoc, Int.natCast_add, Int.natCast_one] at q6
          have e1 : (pre ++ u :: cur).getD (i + j) 0 = u := by rw [← h1]; exact pre_get pre cur u
          have e2 : ∀ y, (pre ++ u :: cur).set (i + j) y = pre ++ y :: cur := by intro y; rw [← h1]; exact pre_set pre cur u y
          have e3 := pre_len pre cur u
          simp only [List.length_cons] at h5
          simp (disch := omega) only [St147b0, ya, yb, yc, yd, ye, yf, yg, yh, yi, yj, yk, yl, yp, yq, ys, yu, yv, yw, yx, yy, yz, za, zb, zc, zd, get0, getS, ze, zf, zg, zh, zj, uo, zk, zl, zm, zn, zo, zp, zq, zr, zs, zt, zu, zv, zw, zx, zy, zz, ub, uc, ud, ue, up, uq, ur, ut, uu, ul, um, w64, w8, List.nil_append, List.cons_append, uv, dn_cont1, ecast, Int.toNat_natCast, e1, e2, hx]
          rw [lt_pos (by omega), le_pos (by omega), lt_pos (by omega), le_pos (by omega), le_pos (by omega)]
          exact q6
    · clear ih
      refine ⟨cur, h2.mono (by omega), rfl, by rw [drop_nil hj, nv_nil]; omega, ?_⟩
      generalize rounds _ k = self
      simp (disch := omega) only [St147b0, ya, yb, yc, yd, ye, yf, yg, yh, yi, yj, yk, yl, yp, yq, ys, yu, yv, yw, yx, yy, yz, za, zb, zc, zd, get0, getS, ze, zf, zg, zh, zj, uo, zk, zl, zm, zn, zo, zp, zq, zr, zs, zt, zu, zv, zw, zx, zy, zz, ub, uc, ud, ue, up, uq, ur, ut, uu, ul, um, w64, w8, List.nil_append, List.cons_append, uv]
      rw [lt_neg (by omega)]

theorem pass115 (n : Nat) (hn : 150 ≤ n) (oself : PV → Option PV) (e0 e1 : PV) :
    ∀ (k : Nat) (pre cur : List Int) (c : Int), Bd 10000 cur → 0 ≤ c → c ≤ 2000 → cur.length < k → pre.length + cur.length ≤ 94 →
      ∃ l e, Dig l ∧ l.length = cur.length ∧ 0 ≤ e ∧ nv l + e * (10 : Int) ^ cur.length = nv cur + c ∧
        rounds (fun self v => St147b1.dn (n + 1) (R n) [oself, self] [e0, e1, v]) k (.agg [.int .i64 c, .int .i64 pre.length, dl (pre ++ cur)]) = some (.agg [dl (trim (pre ++ l))]) := by
  intro k
  induction k with
  | zero => intro pre cur c h1 h2 h3 h4; omega
  | succ k ih =>
    intro pre cur c h1 h2 h3 h4 h5
    simp only [rounds_s]
    cases cur with
    | nil =>
      clear ih
      refine ⟨[], c, Dig.nil, rfl, h2, by simp [nv_nil], ?_⟩
      have ht := f155 (m := n) (by omega) pre (by simp at h5; omega)
      generalize rounds _ k = self
      simp (disch := omega) only [St147b1, ya, yb, yc, yd, ye, yf, yg, yh, yi, yj, yk, yl, yp, yq, ys, yu, yv, yw, yx, yy, yz, za, zb, zc, zd, get0, getS, ze, zf, zg, zh, zj, uo, zk, zl, zm, zn, zo, zp, zq, zr, zs, zt, zu, zv, zw, zx, zy, zz, ub, uc, ud, ue, up, uq, ur, ut, uu, ul, um, w64, w8, List.nil_append, List.cons_append, uv, List.append_nil]
      rw [lt_neg (by omega), ht]
      rfl
    | cons u cur =>
      have gu := h1.head
      obtain ⟨l, e, q1, q2, q3, q4, q6⟩ := ih (pre ++ [(u + c) % 10]) cur ((u + c) / 10) h1.tail (by omega) (by omega) (by simp at h4; omega) (by rw [len_snoc]; simp at h5; omega)
      clear ih
      refine ⟨(u + c) % 10 :: l, e, Dig.cons (by omega) (by omega) q1, by rw [List.length_cons, q2]; rfl, q3, ?_, ?_⟩
      · rw [nv_cons, nv_cons, List.length_cons, Int.pow_succ, ← Int.mul_assoc]
        generalize e * (10 : Int) ^ cur.length = P at q4 ⊢
        omega
      · generalize rounds _ k = self at q6 ⊢
        rw [List.append_assoc, List.append_assoc, len_snoc, Int.natCast_add, Int.natCast_one] at q6
        have e3 := pre_len pre cur u
        simp only [List.length_cons] at h5
        simp (disch := omega) only [St147b1, ya, yb, yc, yd, ye, yf, yg, yh, yi, yj, yk, yl, yp, yq, ys, yu, yv, yw, yx, yy, yz, za, zb, zc, zd, get0, getS, ze, zf, zg, zh, zj, uo, zk, zl, zm, zn, zo, zp, zq, zr, zs, zt, zu, zv, zw, zx, zy, zz, ub, uc, ud, ue, up, uq, ur, ut, uu, ul, um, w64, w8, List.nil_append, List.cons_append, uv, dn_cont1, Int.toNat_natCast, pre_get, pre_set, tdiv_nn, tmod_nn]
        rw [lt_pos (by omega), le_pos (by omega)]
        exact q6

theorem outer115 (n : Nat) (hn : 150 ≤ n) (a b : List Int) (ha : Dig a) (hb : Dig b) (la : a.length ≤ 45) (lb : b.length ≤ 45) :
    ∀ (k i : Nat) (pre cur : List Int), pre.length = i → i ≤ a.length → pre.length + cur.length = a.length + b.length + 1 → Bd (81 * i) (pre ++ cur) → a.length < k + i →
      ∃ X, X.length = cur.length ∧ nv X = nv cur + nv (a.drop i) * nv b ∧ ∃ l e, Dig l ∧ 0 ≤ e ∧ nv l + e * (10 : Int) ^ (a.length + b.length + 1) = nv (pre ++ X) ∧
        rounds (fun self v => St147b2.dn (n + 1) (R n) [self] [.agg [dl a, dl b], v]) k (.agg [.int .i64 i, dl (pre ++ cur)]) = some (.agg [dl (trim l)]) := by
  intro k
  induction k with
  | zero => intro i pre cur h1 h2 h3 h4 h6; omega
  | succ k ih =>
    intro i pre cur h1 h2 h3 h4 h6
    simp only [rounds_s]
    by_cases hi : i < a.length
    · have ga := ha.get (i := i)
      generalize hself : rounds (fun self v => St147b2.dn (n + 1) (R n) [self] [.agg [dl a, dl b], v]) k = self at ih ⊢
      obtain ⟨l, q1, q2, q3, q6⟩ := inner115 (n + 1) (R n) self a b hb lb (a.getD i 0) ga.1 ga.2 i (by omega) rfl (dl (pre ++ cur)) (81 * i) (by omega) (by omega) (n + 1) 0 pre cur (by omega) (fun x hx => h4 x (List.mem_append_right _ hx)) (by omega) (by omega) (by omega) (by omega)
      cases l with
      | nil => simp at q2; omega
      | cons d l =>
        have e81 : (81 * (i : Int) + 81) = 81 * ((i + 1 : Nat) : Int) := by omega
        rw [e81] at q1
        obtain ⟨X, p1, p2, l', e, p3, p4, p5, p6⟩ := ih (i + 1) (pre ++ [d]) l (by rw [len_snoc]; omega) (by omega) (by rw [len_snoc]; simp at q2; omega) (by
          rw [List.append_assoc]
          exact Bd.app (fun x hx => by have := h4 x (List.mem_append_left _ hx); omega) q1) (by omega)
        clear ih
        rw [List.append_assoc, Int.natCast_add, Int.natCast_one] at p6
        rw [List.append_assoc] at p5
        refine ⟨d :: X, by rw [← q2, List.length_cons, List.length_cons, p1], ?_, l', e, p3, p4, p5, ?_⟩
        · rw [List.drop_zero] at q3
          rw [drop_cons hi, nv_cons, nv_cons, mul_nv', p2]
          rw [nv_cons] at q3
          omega
        · simp (disch := omega) only [St147b2, ya, yb, yc, yd, ye, yf, yg, yh, yi, yj, yk, yl, yp, yq, ys, yu, yv, yw, yx, yy, yz, za, zb, zc, zd, get0, getS, ze, zf, zg, zh, zj, uo, zk, zl, zm, zn, zo, zp, zq, zr, zs, zt, zu, zv, zw, zx, zy, zz, ub, uc, ud, ue, up, uq, ur, ut, uu, ul, um, w64, w8, List.nil_append, List.cons_append, uv]
          rw [lt_pos (by omega)]
          rw [Int.natCast_zero] at q6
          exact q6.trans p6
    · clear ih
      generalize rounds _ k = self
      obtain ⟨l, e, q1, q2, q3, q4, q6⟩ := pass115 n hn self (.agg [dl a, dl b]) (.agg [.int .i64 i, dl (pre ++ cur)]) (n + 1) [] (pre ++ cur) 0 (h4.mono (by omega)) (by omega) (by omega) (by rw [List.length_append]; omega) (by rw [List.length_append, List.length_nil]; omega)
      have hlen : (pre ++ cur).length = a.length + b.length + 1 := by rw [List.length_append]; omega
      rw [hlen, Int.add_zero] at q4
      refine ⟨cur, rfl, by rw [drop_nil hi, nv_nil]; omega, l, e, q1, q3, q4, ?_⟩
      simp (disch := omega) only [St147b2, ya, yb, yc, yd, ye, yf, yg, yh, yi, yj, yk, yl, yp, yq, ys, yu, yv, yw, yx, yy, yz, za, zb, zc, zd, get0, getS, ze, zf, zg, zh, zj, uo, zk, zl, zm, zn, zo, zp, zq, zr, zs, zt, zu, zv, zw, zx, zy, zz, ub, uc, ud, ue, up, uq, ur, ut, uu, ul, um, w64, w8, List.nil_append, List.cons_append, uv]
      rw [lt_neg (by omega)]
      exact q6
theorem nv_lt : ∀ (l : List Int), Dig l → nv l < (10 : Int) ^ l.length
  | [], _ => by simp [nv_nil]
  | d :: l, h => by
    have := nv_lt l h.tail
    have := h.head
    rw [nv_cons, List.length_cons, Int.pow_succ]
    omega
theorem f115 {m : Nat} (hm : 160 ≤ m) (a b : List Int) (ha : Dig a) (hb : Dig b) (la : a.length ≤ 45) (lb : b.length ≤ 45) : R m 147 (.agg [dl a, dl b]) = some (.agg [dl (canon (nv a * nv b).toNat)]) := by
  obtain ⟨n, rfl⟩ : ∃ n, m = n + 1 := ⟨m - 1, by omega⟩
  obtain ⟨X, p1, p2, l, e, p3, p4, p5, p6⟩ := outer115 n (by omega) a b ha hb la lb (n + 1) 0 [] (List.replicate (a.length + b.length + 1) 0) rfl (by omega) (by simp) (by
    intro d hd
    rw [List.nil_append] at hd
    rw [List.eq_of_mem_replicate hd]
    omega) (by omega)
  rw [zeros_nv, List.drop_zero, Int.zero_add] at p2
  rw [List.nil_append, p2] at p5
  have hlt : nv a * nv b ≤ (10 : Int) ^ (a.length + b.length) := by
    rw [Int.pow_add]
    exact Int.mul_le_mul (Int.le_of_lt (nv_lt a ha)) (Int.le_of_lt (nv_lt b hb)) (nv_nonneg hb) (Int.le_of_lt (Int.lt_of_le_of_lt (nv_nonneg ha) (nv_lt a ha)))
  have hpos : 0 < (10 : Int) ^ (a.length + b.length) := Int.pow_pos (by omega)
  have he : e = 0 := by
    by_cases h : e = 0
    · exact h
    · have h1 : (1 : Int) ≤ e := by omega
      have := Int.mul_le_mul_of_nonneg_right h1 (Int.le_of_lt (Int.pow_pos (n := 10) (m := a.length + b.length + 1) (by omega)))
      have hl := nv_nonneg p3
      rw [Int.one_mul] at this
      rw [Int.pow_succ] at this p5
      omega
  subst he
  rw [Int.zero_mul, Int.add_zero] at p5
  rw [canon_trim p3, p5] at p6
  have ez : ((a.length : Int) + b.length + 1).toNat = a.length + b.length + 1 := by omega
  rw [R_succ n 147 _ rfl]
  simp (disch := omega) only [St147, ya, yb, yc, yd, ye, yf, yg, yh, yi, yj, yk, yl, yp, yq, ys, yu, yv, yw, yx, yy, yz, za, zb, zc, zd, get0, getS, ze, zf, zg, zh, zj, uo, zk, zl, zm, zn, zo, zp, zq, zr, zs, zt, zu, zv, zw, zx, zy, zz, ub, uc, ud, ue, up, uq, ur, ut, uu, ul, um, w64, w8, List.nil_append, List.cons_append, uv, o_zeros, ez]
  rw [le_pos (by omega), le_pos (by omega), le_pos (by omega)]
  exact p6

theorem sg_mul (x y : Int) : sg (!(decide (x < 0) == decide (y < 0))) ((x.natAbs : Int) * (y.natAbs : Int)) = x * y := by
  by_cases hx : x < 0 <;> by_cases hy : y < 0
  · have ex : (x.natAbs : Int) = -x := by omega
    have ey : (y.natAbs : Int) = -y := by omega
    simp [hx, hy, sg, ex, ey, Int.neg_mul, Int.mul_neg]
  · have ex : (x.natAbs : Int) = -x := by omega
    have ey : (y.natAbs : Int) = y := by omega
    simp [hx, hy, sg, ex, ey, Int.neg_mul, Int.mul_neg]
  · have ex : (x.natAbs : Int) = x := by omega
    have ey : (y.natAbs : Int) = -y := by omega
    simp [hx, hy, sg, ex, ey, Int.neg_mul, Int.mul_neg]
  · have ex : (x.natAbs : Int) = x := by omega
    have ey : (y.natAbs : Int) = y := by omega
    simp [hx, hy, sg, ex, ey, Int.neg_mul, Int.mul_neg]
theorem Sm_mul {x y : Int} (hx : Sm x 40) (hy : Sm y 40) : Sm (x * y) 80 := by
  refine Sm.of ?_
  rw [Int.natAbs_mul]
  have h1 := hx.lt
  have h2 := hy.lt
  calc x.natAbs * y.natAbs ≤ x.natAbs * 10 ^ 40 := Nat.mul_le_mul_left _ (Nat.le_of_lt h2)
    _ < 10 ^ 40 * 10 ^ 40 := Nat.mul_lt_mul_of_pos_right h1 (by decide)
    _ = 10 ^ 80 := by decide
theorem canon_mul (x y : Int) : (nv (canon x.natAbs) * nv (canon y.natAbs)).toNat = (x * y).natAbs := by
  rw [canon_nv, canon_nv, Int.natAbs_mul]
  omega
theorem f74 {m : Nat} (hm : 161 ≤ m) (x y : Int) (hx : Sm x 40) (hy : Sm y 40) : R m 121 (.agg [numV x, numV y]) = some (.agg [numV (x * y)]) := by
  obtain ⟨n, rfl⟩ : ∃ n, m = n + 1 := ⟨m - 1, by omega⟩
  have hxy := Sm_mul hx hy
  unfold Sm at hx hy hxy
  have e1 := f112 (m := n) (by omega) (canon x.natAbs) (canon y.natAbs) (canon_dig _) (canon_dig _) (by omega) (by omega)
  rw [canon_mul] at e1
  have e2 := f107 (m := n) (by omega) (!(decide (x < 0) == decide (y < 0))) (canon (x * y).natAbs) (by omega) (canon_dig _)
  rw [canon_nv, Int.natAbs_mul, Int.natCast_mul, sg_mul, ← Int.natAbs_mul] at e2
  rw [R_succ n 121 _ rfl]
  simp only [St121, ya, yb, yc, yd, ye, yf, yg, yh, yi, yj, yk, yl, yp, yq, ys, yu, yv, yw, yx, yy, yz, za, zb, zc, zd, get0, getS, ze, zf, zg, zh, zj, uo, zk, zl, zm, zn, zo, zp, zq, zr, zs, zt, zu, zv, zw, zx, zy, zz, ub, uc, ud, ue, up, uq, ur, ut, uu, ul, um, w64, w8, List.nil_append, List.cons_append, uv, numV, e1] at e2 ⊢
  rw [e2]
  rfl
theorem f76 {m : Nat} (hm : 161 ≤ m) {s t : List UInt8} {x y : Int} (hs : ∀ n, 101 ≤ n → R n 114 (.agg [.str s]) = some (digV x)) (ht : ∀ n, 101 ≤ n → R n 114 (.agg [.str t]) = some (digV y)) (hx : Sm x 40) (hy : Sm y 40) :
    R m 131 (.agg [.str s, .str t]) = some (fitV (x * y)) := by
  obtain ⟨n, rfl⟩ : ∃ n, m = n + 1 := ⟨m - 1, by omega⟩
  have hxy := Sm_mul hx hy
  unfold Sm at hx hy hxy
  have e1 := f115 (m := n) (by omega) (canon x.natAbs) (canon y.natAbs) (canon_dig _) (canon_dig _) (by omega) (by omega)
  rw [canon_mul] at e1
  have e2 := f114' (m := n) (by omega) (x * y).natAbs (!(decide (x < 0) == decide (y < 0))) (by omega)
  rw [Int.natAbs_mul, Int.natCast_mul, sg_mul, ← Int.natAbs_mul] at e2
  rw [R_succ n 131 _ rfl]
  simp (disch := omega) only [St131, ya, yb, yc, yd, ye, yf, yg, yh, yi, yj, yk, yl, yp, yq, ys, yu, yv, yw, yx, yy, yz, za, zb, zc, zd, get0, getS, ze, zf, zg, zh, zj, uo, zk, zl, zm, zn, zo, zp, zq, zr, zs, zt, zu, zv, zw, zx, zy, zz, ub, uc, ud, ue, up, uq, ur, ut, uu, ul, um, w64, w8, List.nil_append, List.cons_append, uv, hs n (by omega), ht n (by omega), digV, e1, e2, fitV_eta]
theorem f32 {m : Nat} (hm : 165 ≤ m) (a b : List UInt8) : R m 97 (.agg [.str a, .str b]) = some (if isIntL a = true ∧ isIntL b = true then fitV (Z a * Z b) else .agg [.str [], .bool false]) := by
  obtain ⟨n, rfl⟩ : ∃ n, m = n + 1 := ⟨m - 1, by omega⟩
  rw [R_succ n 97 _ rfl]
  by_cases h : isIntL a = true ∧ isIntL b = true
  · rw [if_pos h]
    have h74 := f74 (m := n) (by omega) (Z a) (Z b) (Z_Sm h.1) (Z_Sm h.2)
    have h75 := f75' (m := n) (by omega) (Z a * Z b) ((Sm_mul (Z_Sm h.1) (Z_Sm h.2)).mono (by omega))
    have eta : ∀ z, PV.agg [(O1.fld 0).dn (numV z), (O1.fld 1).dn (numV z)] = numV z := fun z => rfl
    simp (disch := omega) only [St97, ya, yb, yc, yd, ye, yf, yg, yh, yi, yj, yk, yl, yp, yq, ys, yu, yv, yw, yx, yy, yz, za, zb, zc, zd, get0, getS, ze, zf, zg, zh, zj, uo, zk, zl, zm, zn, zo, zp, zq, zr, zs, zt, zu, zv, zw, zx, zy, zz, ub, uc, ud, ue, up, uq, ur, ut, uu, ul, um, w64, w8, List.nil_append, List.cons_append, uv, f69 (m := n) (by omega) a b h.1 h.2, eta, h74, h75, fitV_eta]
  · rw [if_neg h]
    obtain ⟨p, q, e⟩ := f69' (m := n) (by omega) a b h
    simp only [St97, ya, yb, yc, yd, ye, yf, yg, yh, yi, yj, yk, yl, yp, yq, ys, yu, yv, yw, yx, yy, yz, za, zb, zc, zd, get0, getS, ze, zf, zg, zh, zj, uo, zk, zl, zm, zn, zo, zp, zq, zr, zs, zt, zu, zv, zw, zx, zy, zz, ub, uc, ud, ue, up, uq, ur, ut, uu, ul, um, w64, w8, List.nil_append, List.cons_append, uv, e]
end Go.Dv

/- Quotients. -/
set_option linter.unusedVariables false
set_option linter.unusedSimpArgs false
namespace Go.Dv
theorem f42 {m : Nat} (hm : 170 ≤ m) (a b : List UInt8) : R m 98 (.agg [.str a, .str b]) = some (opV (if isIntL a = true ∧ isIntL b = true then (if Z b = 0 then none else some (dmQ (Z a) (Z b))) else none)) := by
  obtain ⟨n, rfl⟩ : ∃ n, m = n + 1 := ⟨m - 1, by omega⟩
  rw [R_succ n 98 _ rfl]
  by_cases h : isIntL a = true ∧ isIntL b = true
  · rw [if_pos h]
    have eta : ∀ z, PV.agg [(O1.fld 0).dn (numV z), (O1.fld 1).dn (numV z)] = numV z := fun z => rfl
    have es : ∀ z, (O1.fld 1).dn (numV z) = dl (canon z.natAbs) := fun z => rfl
    by_cases h0 : Z b = 0
    · rw [if_pos h0]
      simp (disch := omega) only [St98, ya, yb, yc, yd, ye, yf, yg, yh, yi, yj, yk, yl, yp, yq, ys, yu, yv, yw, yx, yy, yz, za, zb, zc, zd, get0, getS, ze, zf, zg, zh, zj, uo, zk, zl, zm, zn, zo, zp, zq, zr, zs, zt, zu, zv, zw, zx, zy, zz, ub, uc, ud, ue, up, uq, ur, ut, uu, ul, um, w64, w8, List.nil_append, List.cons_append, uv, f69 (m := n) (by omega) a b h.1 h.2, es]
      have : (canon (Z b).natAbs).length = 0 := by rw [h0]; rfl
      rw [eq_pos (by omega)]
      rfl
    · rw [if_neg h0, ← fit_op]
      have h80 := f80 (m := n) (by omega) (Z a) (Z b) h0 (Z_Sm h.1) (Z_Sm h.2)
      have h75 := f75' (m := n) (by omega) (dmQ (Z a) (Z b)) ((dmQ_Sm h0 (Z_Sm h.1)).mono (by omega))
      have hne : 0 < (canon (Z b).natAbs).length := by
        rw [ncons]
        intro e
        have := canon_nil.1 e
        omega
      simp (disch := omega) only [St98, ya, yb, yc, yd, ye, yf, yg, yh, yi, yj, yk, yl, yp, yq, ys, yu, yv, yw, yx, yy, yz, za, zb, zc, zd, get0, getS, ze, zf, zg, zh, zj, uo, zk, zl, zm, zn, zo, zp, zq, zr, zs, zt, zu, zv, zw, zx, zy, zz, ub, uc, ud, ue, up, uq, ur, ut, uu, ul, um, w64, w8, List.nil_append, List.cons_append, uv, f69 (m := n) (by omega) a b h.1 h.2, es]
      rw [eq_neg (by omega)]
      have eta2 : ∀ z, PV.agg [(O1.fld 0).dn (numV z), dl (canon z.natAbs)] = numV z := fun z => rfl
      have eta3 : ∀ z, PV.agg [.bool (decide (z < 0)), dl (canon z.natAbs)] = numV z := fun z => rfl
      have e0 : ∀ z, (O1.fld 0).dn (numV z) = .bool (decide (z < 0)) := fun z => rfl
      simp (disch := omega) only [eta2, e0, eta3, h80, ya, yb, yc, yd, ye, yf, yg, yh, yi, yj, yk, yl, yp, yq, ys, yu, yv, yw, yx, yy, yz, za, zb, zc, zd, get0, getS, ze, zf, zg, zh, zj, uo, zk, zl, zm, zn, zo, zp, zq, zr, zs, zt, zu, zv, zw, zx, zy, zz, ub, uc, ud, ue, up, uq, ur, ut, uu, ul, um, w64, w8, List.nil_append, List.cons_append, uv, es, h75, fitV_eta]
  · rw [if_neg h]
    obtain ⟨p, q, e⟩ := f69' (m := n) (by omega) a b h
    simp only [St98, ya, yb, yc, yd, ye, yf, yg, yh, yi, yj, yk, yl, yp, yq, ys, yu, yv, yw, yx, yy, yz, za, zb, zc, zd, get0, getS, ze, zf, zg, zh, zj, uo, zk, zl, zm, zn, zo, zp, zq, zr, zs, zt, zu, zv, zw, zx, zy, zz, ub, uc, ud, ue, up, uq, ur, ut, uu, ul, um, w64, w8, List.nil_append, List.cons_append, uv, e]
    rfl
end Go.Dv

/- Remainders. -/
set_option linter.unusedVariables false
set_option linter.unusedSimpArgs false
namespace Go.Dv
theorem f46 {m : Nat} (hm : 170 ≤ m) (a b : List UInt8) : R m 99 (.agg [.str a, .str b]) = some (opV (if isIntL a = true ∧ isIntL b = true then (if Z b = 0 then none else some (dmR (Z a) (Z b))) else none)) := by
  obtain ⟨n, rfl⟩ : ∃ n, m = n + 1 := ⟨m - 1, by omega⟩
  rw [R_succ n 99 _ rfl]
  by_cases h : isIntL a = true ∧ isIntL b = true
  · rw [if_pos h]
    have eta : ∀ z, PV.agg [(O1.fld 0).dn (numV z), (O1.fld 1).dn (numV z)] = numV z := fun z => rfl
    have es : ∀ z, (O1.fld 1).dn (numV z) = dl (canon z.natAbs) := fun z => rfl
    by_cases h0 : Z b = 0
    · rw [if_pos h0]
      simp (disch := omega) only [St99, ya, yb, yc, yd, ye, yf, yg, yh, yi, yj, yk, yl, yp, yq, ys, yu, yv, yw, yx, yy, yz, za, zb, zc, zd, get0, getS, ze, zf, zg, zh, zj, uo, zk, zl, zm, zn, zo, zp, zq, zr, zs, zt, zu, zv, zw, zx, zy, zz, ub, uc, ud, ue, up, uq, ur, ut, uu, ul, um, w64, w8, List.nil_append, List.cons_append, uv, f69 (m := n) (by omega) a b h.1 h.2, es]
      have : (canon (Z b).natAbs).length = 0 := by rw [h0]; rfl
      rw [eq_pos (by omega)]
      rfl
    · rw [if_neg h0, ← fit_op]
      have h80 := f80 (m := n) (by omega) (Z a) (Z b) h0 (Z_Sm h.1) (Z_Sm h.2)
      have h75 := f75' (m := n) (by omega) (dmR (Z a) (Z b)) ((dmR_Sm h0 (Z_Sm h.2)).mono (by omega))
      have hne : 0 < (canon (Z b).natAbs).length := by
        rw [ncons]
        intro e
        have := canon_nil.1 e
        omega
      simp (disch := omega) only [St99, ya, yb, yc, yd, ye, yf, yg, yh, yi, yj, yk, yl, yp, yq, ys, yu, yv, yw, yx, yy, yz, za, zb, zc, zd, get0, getS, ze, zf, zg, zh, zj, uo, zk, zl, zm, zn, zo, zp, zq, zr, zs, zt, zu, zv, zw, zx, zy, zz, ub, uc, ud, ue, up, uq, ur, ut, uu, ul, um, w64, w8, List.nil_append, List.cons_append, uv, f69 (m := n) (by omega) a b h.1 h.2, es]
      rw [eq_neg (by omega)]
      have eta2 : ∀ z, PV.agg [(O1.fld 0).dn (numV z), dl (canon z.natAbs)] = numV z := fun z => rfl
      have eta3 : ∀ z, PV.agg [.bool (decide (z < 0)), dl (canon z.natAbs)] = numV z := fun z => rfl
      have e0 : ∀ z, (O1.fld 0).dn (numV z) = .bool (decide (z < 0)) := fun z => rfl
      simp (disch := omega) only [eta2, e0, eta3, h80, ya, yb, yc, yd, ye, yf, yg, yh, yi, yj, yk, yl, yp, yq, ys, yu, yv, yw, yx, yy, yz, za, zb, zc, zd, get0, getS, ze, zf, zg, zh, zj, uo, zk, zl, zm, zn, zo, zp, zq, zr, zs, zt, zu, zv, zw, zx, zy, zz, ub, uc, ud, ue, up, uq, ur, ut, uu, ul, um, w64, w8, List.nil_append, List.cons_append, uv, es, h75, fitV_eta]
  · rw [if_neg h]
    obtain ⟨p, q, e⟩ := f69' (m := n) (by omega) a b h
    simp only [St99, ya, yb, yc, yd, ye, yf, yg, yh, yi, yj, yk, yl, yp, yq, ys, yu, yv, yw, yx, yy, yz, za, zb, zc, zd, get0, getS, ze, zf, zg, zh, zj, uo, zk, zl, zm, zn, zo, zp, zq, zr, zs, zt, zu, zv, zw, zx, zy, zz, ub, uc, ud, ue, up, uq, ur, ut, uu, ul, um, w64, w8, List.nil_append, List.cons_append, uv, e]
    rfl
end Go.Dv
