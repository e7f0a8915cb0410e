/- Quotients and remainders of digits. -/
import Derived.Test.YtdbaglgkbfjbnaaGreatDvI

set_option linter.unusedVariables false
set_option linter.unusedSimpArgs false
namespace Go.Dv

theorem o_idx2 (l : List Int) (k : IntKind) (j : Int) (h : j.toNat < l.length) : O2.idx.dn (dl l) (.int k j) = .int .i64 (l.getD j.toNat 0) := o_idx' l (.int k j) h
theorem inner121 (B0 : Tree) (hB : B0 = St121b0 ∨ B0 = St122b0) (n : Nat) (hn : 150 ≤ n) (oself : PV → Option PV) (a : PV) (y : Nat) (y0 : 0 < y) (ly : (canon y).length ≤ 45) (i : Nat) (hi : i ≤ 45) (e1 e2 e3 : PV) :
    ∀ (k r q : Nat) (d : Int) (z suf : List Int), z.length = i → z.length + suf.length ≤ 90 → (canon r).length ≤ 46 → 0 ≤ d → r / y = q → d + (q : Int) ≤ 1000 → q < k →
        rounds (fun self v => B0.dn (n + 1) (R n) [oself, self] [.agg [a, dl (canon y)], .agg [e1, .int .i64 i, e2], e3, v]) k (.agg [dl (canon r), dl (z ++ d :: suf)]) =
          oself (.agg [dl (canon (r % y)), .int .i64 ((i : Int) - 1), dl (z ++ (d + (q : Int)) :: suf)]) := by
  intro k
  induction k with
  | zero => intro r q d z suf h1 h2 h3 h4 hqq h5 h6; omega
  | succ k ih =>
    intro r q d z suf h1 h2 h3 h4 hqq h5 h6
    simp only [rounds_s]
    have c1 := f108_111 (m := n) (by omega) 108 (.inl rfl) r y (by omega) (by omega)
    have c2 := f108_111 (m := n) (by omega) 111 (.inr rfl) r y (by omega) (by omega)
    have hlen := pre_len z suf d
    by_cases h : y ≤ r
    · have s1 := f109 (m := n) (by omega) (canon r) (canon y) (canon_dig _) (canon_dig _) (by omega) (by rw [canon_nv, canon_nv]; omega)
      have s2 := f119 (m := n) (by omega) (canon r) (canon y) (canon_dig _) (canon_dig _) (by omega) (by rw [canon_nv, canon_nv]; omega)
      have es : (nv (canon r) - nv (canon y)).toNat = r - y := by rw [canon_nv, canon_nv]; omega
      rw [es] at s1 s2
      have hdiv : r / y = (r - y) / y + 1 := by rw [Nat.div_eq r y, if_pos ⟨y0, h⟩]
      have hmod : r % y = (r - y) % y := Nat.mod_eq_sub_mod h
      have hm := canon_mono (show r - y ≤ r by omega)
      obtain ⟨q', hq'⟩ : ∃ t, (r - y) / y = t := ⟨_, rfl⟩
      rw [hq'] at hdiv
      have ih2 := ih (r - y) q' (d + 1) z suf h1 h2 (by omega) (by omega) hq' (by omega) (by omega)
      clear ih
      have ed : d + (q : Int) = d + 1 + (q' : Int) := by omega
      rw [hmod, ed]
      have g1 : (z ++ d :: suf).getD i 0 = d := by rw [← h1]; exact pre_get z suf d
      have g2 : ∀ t, (z ++ d :: suf).set i t = z ++ t :: suf := by intro t; rw [← h1]; exact pre_set z suf d t
      have hc : 0 ≤ cmpI (r : Int) (y : Int) := by
        unfold cmpI
        rw [if_neg (by omega)]
        split <;> omega
      generalize rounds _ k = self at ih2 ⊢
      rcases hB with rfl | rfl
      · simp (disch := omega) only [St121b0, dn_ret, dn_call, dn_loop, dn_cont0, ite_lss, ite_leq, ite_gtr, ite_geq, ite_eql, ite_neq, ite_not, ite_seql, ite_beql, ite_bneq, ite_fld, need_leq', need_lss', need_neq0, b_true, b_false, se_var, se_lit, se_o1, se_o2, se_o3, get0, getS, pc_agg, pi_int, pb_bool, ps_str, o_not, o_len, o_fld, o_slen, o_conv, o_add, o_sub, o_mul, o_quo, o_rem, o_lss, o_leq, o_gtr, o_geq, o_eql, o_neq, o_sadd, o_seql, o_bneq, o_beql, o_mx, o_mkS, o_idx, o_snoc, o_cat, o_subl, o_upd, o_ssub, o_sidx, w64, w8, List.nil_append, List.cons_append, dl_nil, dn_cont1, c1, s1, Int.toNat_natCast, g1, g2]
        rw [le_pos hc, lt_pos (by omega)]
        exact ih2
      · simp (disch := omega) only [St122b0, dn_ret, dn_call, dn_loop, dn_cont0, ite_lss, ite_leq, ite_gtr, ite_geq, ite_eql, ite_neq, ite_not, ite_seql, ite_beql, ite_bneq, ite_fld, need_leq', need_lss', need_neq0, b_true, b_false, se_var, se_lit, se_o1, se_o2, se_o3, get0, getS, pc_agg, pi_int, pb_bool, ps_str, o_not, o_len, o_fld, o_slen, o_conv, o_add, o_sub, o_mul, o_quo, o_rem, o_lss, o_leq, o_gtr, o_geq, o_eql, o_neq, o_sadd, o_seql, o_bneq, o_beql, o_mx, o_mkS, o_idx, o_snoc, o_cat, o_subl, o_upd, o_ssub, o_sidx, w64, w8, List.nil_append, List.cons_append, dl_nil, dn_cont1, c2, s2, Int.toNat_natCast, g1, g2]
        rw [le_pos hc, lt_pos (by omega)]
        exact ih2
    · clear ih
      have hdiv : r / y = 0 := Nat.div_eq_of_lt (by omega)
      have hmod : r % y = r := Nat.mod_eq_of_lt (by omega)
      have hq0 : q = 0 := by omega
      rw [hq0, hmod, Int.natCast_zero, Int.add_zero]
      have hc : ¬ 0 ≤ cmpI (r : Int) (y : Int) := by
        unfold cmpI
        rw [if_pos (by omega)]
        omega
      generalize rounds _ k = self
      rcases hB with rfl | rfl
      · simp (disch := omega) only [St121b0, dn_ret, dn_call, dn_loop, dn_cont0, ite_lss, ite_leq, ite_gtr, ite_geq, ite_eql, ite_neq, ite_not, ite_seql, ite_beql, ite_bneq, ite_fld, need_leq', need_lss', need_neq0, b_true, b_false, se_var, se_lit, se_o1, se_o2, se_o3, get0, getS, pc_agg, pi_int, pb_bool, ps_str, o_not, o_len, o_fld, o_slen, o_conv, o_add, o_sub, o_mul, o_quo, o_rem, o_lss, o_leq, o_gtr, o_geq, o_eql, o_neq, o_sadd, o_seql, o_bneq, o_beql, o_mx, o_mkS, o_idx, o_snoc, o_cat, o_subl, o_upd, o_ssub, o_sidx, w64, w8, List.nil_append, List.cons_append, dl_nil, dn_cont1, c1]
        rw [le_neg hc]
      · simp (disch := omega) only [St122b0, dn_ret, dn_call, dn_loop, dn_cont0, ite_lss, ite_leq, ite_gtr, ite_geq, ite_eql, ite_neq, ite_not, ite_seql, ite_beql, ite_bneq, ite_fld, need_leq', need_lss', need_neq0, b_true, b_false, se_var, se_lit, se_o1, se_o2, se_o3, get0, getS, pc_agg, pi_int, pb_bool, ps_str, o_not, o_len, o_fld, o_slen, o_conv, o_add, o_sub, o_mul, o_quo, o_rem, o_lss, o_leq, o_gtr, o_geq, o_eql, o_neq, o_sadd, o_seql, o_bneq, o_beql, o_mx, o_mkS, o_idx, o_snoc, o_cat, o_subl, o_upd, o_ssub, o_sidx, w64, w8, List.nil_append, List.cons_append, dl_nil, dn_cont1, c2]
        rw [le_neg hc]

theorem nv_take (a : List Int) {j : Nat} (h : j < a.length) : nv (a.take (j + 1)) = nv (a.take j) + (10 : Int) ^ j * a.getD j 0 := by
  rw [takeI h]
  have : ∀ (l : List Int) (d : Int), nv (l ++ [d]) = nv l + (10 : Int) ^ l.length * d := by
    intro l d
    induction l with
    | nil => simp [nv_cons, nv_nil]
    | cons x l ih =>
      rw [List.cons_append, nv_cons, nv_cons, ih, List.length_cons, Int.pow_succ, Int.mul_comm ((10 : Int) ^ l.length) 10, Int.mul_assoc]
      omega
  rw [this, List.length_take, Nat.min_eq_left (by omega)]
theorem nv_snoc (l : List Int) (d : Int) : nv (l ++ [d]) = nv l + (10 : Int) ^ l.length * d := by
  induction l with
  | nil => simp [nv_cons, nv_nil]
  | cons x l ih =>
    rw [List.cons_append, nv_cons, nv_cons, ih, List.length_cons, Int.pow_succ, Int.mul_comm ((10 : Int) ^ l.length) 10, Int.mul_assoc]
    omega
theorem outer121 (B1 : Tree) (hB : B1 = St121b1 ∨ B1 = St122b1) (n : Nat) (hn : 150 ≤ n) (a : List Int) (ha : Dig a) (la : a.length ≤ 45) (y : Nat) (y0 : 0 < y) (ly : (canon y).length ≤ 45) :
    ∀ (j k r : Nat) (suf : List Int), j ≤ a.length → j + suf.length = a.length → r < y → j < k →
      ∃ l rf, Dig l ∧ l.length = j ∧ rf < y ∧ nv l * y + (rf : Nat) = nv (a.take j) + (10 : Int) ^ j * r ∧
        rounds (fun self v => B1.dn (n + 1) (R n) [self] [.agg [dl a, dl (canon y)], v]) k (.agg [dl (canon r), .int .i64 ((j : Int) - 1), dl (List.replicate j 0 ++ suf)]) = some (.agg [dl (trim (l ++ suf)), dl (canon rf)]) := by
  intro j
  induction j with
  | zero =>
    intro k r suf h1 h2 h3 h4
    obtain ⟨k, rfl⟩ : ∃ t, k = t + 1 := ⟨k - 1, by omega⟩
    refine ⟨[], r, Dig.nil, rfl, h3, by simp [nv_nil], ?_⟩
    simp only [rounds_s]
    have t1 := f117 (m := n) (by omega) suf (by omega)
    have t2 := f155 (m := n) (by omega) suf (by omega)
    generalize rounds _ k = self
    rcases hB with rfl | rfl
    · simp (disch := omega) only [St121b1, dn_ret, dn_call, dn_loop, dn_cont0, ite_lss, ite_leq, ite_gtr, ite_geq, ite_eql, ite_neq, ite_not, ite_seql, ite_beql, ite_bneq, ite_fld, need_leq', need_lss', need_neq0, b_true, b_false, se_var, se_lit, se_o1, se_o2, se_o3, get0, getS, pc_agg, pi_int, pb_bool, ps_str, o_not, o_len, o_fld, o_slen, o_conv, o_add, o_sub, o_mul, o_quo, o_rem, o_lss, o_leq, o_gtr, o_geq, o_eql, o_neq, o_sadd, o_seql, o_bneq, o_beql, o_mx, o_mkS, o_idx, o_snoc, o_cat, o_subl, o_upd, o_ssub, o_sidx, w64, w8, List.nil_append, List.cons_append, dl_nil, List.replicate_zero]
      rw [le_neg (by omega), t1]
      rfl
    · simp (disch := omega) only [St122b1, dn_ret, dn_call, dn_loop, dn_cont0, ite_lss, ite_leq, ite_gtr, ite_geq, ite_eql, ite_neq, ite_not, ite_seql, ite_beql, ite_bneq, ite_fld, need_leq', need_lss', need_neq0, b_true, b_false, se_var, se_lit, se_o1, se_o2, se_o3, get0, getS, pc_agg, pi_int, pb_bool, ps_str, o_not, o_len, o_fld, o_slen, o_conv, o_add, o_sub, o_mul, o_quo, o_rem, o_lss, o_leq, o_gtr, o_geq, o_eql, o_neq, o_sadd, o_seql, o_bneq, o_beql, o_mx, o_mkS, o_idx, o_snoc, o_cat, o_subl, o_upd, o_ssub, o_sidx, w64, w8, List.nil_append, List.cons_append, dl_nil, List.replicate_zero]
      rw [le_neg (by omega), t2]
      rfl
  | succ j ih =>
    intro k r suf h1 h2 h3 h4
    obtain ⟨k, rfl⟩ : ∃ t, k = t + 1 := ⟨k - 1, by omega⟩
    have ga := ha.get (i := j)
    obtain ⟨c, hc⟩ : ∃ c : Nat, a.getD j 0 = c := ⟨(a.getD j 0).toNat, by omega⟩
    have hc9 : c ≤ 9 := by omega
    have hr := canon_mono (show r ≤ y by omega)
    have hq : (c + 10 * r) / y < 10 := Nat.div_lt_of_lt_mul (by omega)
    obtain ⟨q, hqq⟩ : ∃ t, (c + 10 * r) / y = t := ⟨_, rfl⟩
    rw [hqq] at hq
    obtain ⟨l, rf, p1, p2, p3, p4, p5⟩ := ih k ((c + 10 * r) % y) ((q : Int) :: suf) (by omega) (by simp; omega) (Nat.mod_lt _ y0) (by omega)
    clear ih
    have hrr : (canon (c + 10 * r)).length ≤ 46 := by
      rw [canon_len, Nat.pow_succ]
      have := (canon_len 45 r).1 (by omega)
      omega
    have hd : Dig ((c : Int) :: canon r) := Dig.cons (by omega) (by omega) (canon_dig r)
    have ht : trim ((c : Int) :: canon r) = canon (c + 10 * r) := by
      rw [canon_trim hd, nv_cons, canon_nv]
      congr 1
    refine ⟨l ++ [(q : Int)], rf, p1.app (Dig.cons (by omega) (by omega) Dig.nil), by rw [List.length_append, p2]; rfl, p3, ?_, ?_⟩
    · rw [nv_snoc, nv_take a (by omega), hc, p2, Int.add_mul]
      have hdm := Nat.div_add_mod (c + 10 * r) y
      have hdm' : (q : Int) * (y : Int) + (((c + 10 * r) % y : Nat) : Int) = c + 10 * r := by
        rw [hqq] at hdm
        rw [Int.mul_comm]
        exact_mod_cast hdm
      rw [Int.pow_succ, Int.mul_assoc, Int.mul_assoc]
      have e : (10 : Int) ^ j * ((q : Int) * (y : Int)) + (10 : Int) ^ j * (((c + 10 * r) % y : Nat) : Int) = (10 : Int) ^ j * c + (10 : Int) ^ j * (10 * r) := by
        rw [← Int.mul_add, ← Int.mul_add, hdm']
      omega
    · simp only [rounds_s]
      rw [List.append_assoc, List.singleton_append]
      generalize hself : rounds (fun self v => B1.dn (n + 1) (R n) [self] [.agg [dl a, dl (canon y)], v]) k = self at p5 ⊢
      have e1 : ((j + 1 : Nat) : Int) - 1 = (j : Int) := by omega
      have erep : List.replicate (j + 1) (0 : Int) ++ suf = List.replicate j 0 ++ 0 :: suf := by
        rw [List.replicate_succ', List.append_assoc]; rfl
      have t1 := f117 (m := n) (by omega) ((c : Int) :: canon r) (by simp; omega)
      have t2 := f155 (m := n) (by omega) ((c : Int) :: canon r) (by simp; omega)
      rw [ht] at t1 t2
      rw [e1, erep]
      have hlen : (((c : Int) :: canon r).length : Int) ≤ 16777216 := by simp; omega
      rcases hB with rfl | rfl
      · have hi := inner121 St121b0 (.inl rfl) n hn self (dl a) y y0 ly j (by omega) (dl (canon r)) (dl (List.replicate j 0 ++ 0 :: suf)) (.agg [dl (canon (c + 10 * r))]) (n + 1) (c + 10 * r) q 0 (List.replicate j 0) suf (by simp) (by simp; omega) hrr (by omega) hqq (by omega) (by omega)
        rw [Int.zero_add] at hi
        simp (disch := omega) only [St121b1, dn_ret, dn_call, dn_loop, dn_cont0, ite_lss, ite_leq, ite_gtr, ite_geq, ite_eql, ite_neq, ite_not, ite_seql, ite_beql, ite_bneq, ite_fld, need_leq', need_lss', need_neq0, b_true, b_false, se_var, se_lit, se_o1, se_o2, se_o3, get0, getS, pc_agg, pi_int, pb_bool, ps_str, o_not, o_len, o_fld, o_slen, o_conv, o_add, o_sub, o_mul, o_quo, o_rem, o_lss, o_leq, o_gtr, o_geq, o_eql, o_neq, o_sadd, o_seql, o_bneq, o_beql, o_mx, o_mkS, o_idx, o_snoc, o_cat, o_subl, o_upd, o_ssub, o_sidx, w64, w8, List.nil_append, List.cons_append, dl_nil, Int.toNat_natCast, o_idx2, hc, t1]
        rw [le_pos (by omega), le_pos (by omega), lt_pos (by omega), le_pos hlen]
        exact hi.trans p5
      · have hi := inner121 St122b0 (.inr rfl) n hn self (dl a) y y0 ly j (by omega) (dl (canon r)) (dl (List.replicate j 0 ++ 0 :: suf)) (.agg [dl (canon (c + 10 * r))]) (n + 1) (c + 10 * r) q 0 (List.replicate j 0) suf (by simp) (by simp; omega) hrr (by omega) hqq (by omega) (by omega)
        rw [Int.zero_add] at hi
        simp (disch := omega) only [St122b1, dn_ret, dn_call, dn_loop, dn_cont0, ite_lss, ite_leq, ite_gtr, ite_geq, ite_eql, ite_neq, ite_not, ite_seql, ite_beql, ite_bneq, ite_fld, need_leq', need_lss', need_neq0, b_true, b_false, se_var, se_lit, se_o1, se_o2, se_o3, get0, getS, pc_agg, pi_int, pb_bool, ps_str, o_not, o_len, o_fld, o_slen, o_conv, o_add, o_sub, o_mul, o_quo, o_rem, o_lss, o_leq, o_gtr, o_geq, o_eql, o_neq, o_sadd, o_seql, o_bneq, o_beql, o_mx, o_mkS, o_idx, o_snoc, o_cat, o_subl, o_upd, o_ssub, o_sidx, w64, w8, List.nil_append, List.cons_append, dl_nil, Int.toNat_natCast, o_idx2, hc, t2]
        rw [le_pos (by omega), le_pos (by omega), lt_pos (by omega), le_pos hlen]
        exact hi.trans p5

theorem f121_122 {m : Nat} (hm : 160 ≤ m) (f : Nat) (hf : f = 121 ∨ f = 122) (x y : Nat) (y0 : 0 < y) (lx : (canon x).length ≤ 45) (ly : (canon y).length ≤ 45) : R m f (.agg [dl (canon x), dl (canon y)]) = some (.agg [dl (canon (x / y)), dl (canon (x % y))]) := by
  obtain ⟨n, rfl⟩ : ∃ n, m = n + 1 := ⟨m - 1, by omega⟩
  have key : ∀ B1, (B1 = St121b1 ∨ B1 = St122b1) → rounds (fun self v => B1.dn (n + 1) (R n) [self] [.agg [dl (canon x), dl (canon y)], v]) (n + 1) (.agg [dl [], .int .i64 (((canon x).length : Int) - 1), dl (List.replicate (canon x).length 0)]) = some (.agg [dl (canon (x / y)), dl (canon (x % y))]) := by
    intro B1 hB
    obtain ⟨l, rf, p1, p2, p3, p4, p5⟩ := outer121 B1 hB n (by omega) (canon x) (canon_dig x) lx y y0 ly (canon x).length (n + 1) 0 [] (Nat.le_refl _) (by simp) y0 (by omega)
    rw [List.append_nil, List.append_nil, canon_trim p1] at p5
    rw [List.take_length, canon_nv, Int.natCast_zero, Int.mul_zero, Int.add_zero] at p4
    obtain ⟨q, hq⟩ : ∃ q : Nat, nv l = q := ⟨(nv l).toNat, by have := nv_nonneg p1; omega⟩
    rw [hq] at p4 p5
    have p4' : rf + y * q = x := by
      have : (q : Int) * (y : Int) + (rf : Int) = x := p4
      have : q * y + rf = x := by exact_mod_cast this
      rw [Nat.mul_comm]; omega
    obtain ⟨e1, e2⟩ := (Nat.div_mod_unique y0).2 ⟨p4', p3⟩
    rw [e1, e2]
    rw [Int.toNat_natCast] at p5
    exact p5
  rcases hf with rfl | rfl
  · rw [R_succ n 121 _ rfl]
    simp (disch := omega) only [St121, dn_ret, dn_call, dn_loop, dn_cont0, ite_lss, ite_leq, ite_gtr, ite_geq, ite_eql, ite_neq, ite_not, ite_seql, ite_beql, ite_bneq, ite_fld, need_leq', need_lss', need_neq0, b_true, b_false, se_var, se_lit, se_o1, se_o2, se_o3, get0, getS, pc_agg, pi_int, pb_bool, ps_str, o_not, o_len, o_fld, o_slen, o_conv, o_add, o_sub, o_mul, o_quo, o_rem, o_lss, o_leq, o_gtr, o_geq, o_eql, o_neq, o_sadd, o_seql, o_bneq, o_beql, o_mx, o_mkS, o_idx, o_snoc, o_cat, o_subl, o_upd, o_ssub, o_sidx, w64, w8, List.nil_append, List.cons_append, dl_nil, o_zeros, Int.toNat_natCast]
    rw [le_pos (by omega), le_pos (by omega), le_pos (by omega)]
    exact key St121b1 (.inl rfl)
  · rw [R_succ n 122 _ rfl]
    simp (disch := omega) only [St122, dn_ret, dn_call, dn_loop, dn_cont0, ite_lss, ite_leq, ite_gtr, ite_geq, ite_eql, ite_neq, ite_not, ite_seql, ite_beql, ite_bneq, ite_fld, need_leq', need_lss', need_neq0, b_true, b_false, se_var, se_lit, se_o1, se_o2, se_o3, get0, getS, pc_agg, pi_int, pb_bool, ps_str, o_not, o_len, o_fld, o_slen, o_conv, o_add, o_sub, o_mul, o_quo, o_rem, o_lss, o_leq, o_gtr, o_geq, o_eql, o_neq, o_sadd, o_seql, o_bneq, o_beql, o_mx, o_mkS, o_idx, o_snoc, o_cat, o_subl, o_upd, o_ssub, o_sidx, w64, w8, List.nil_append, List.cons_append, dl_nil, o_zeros, Int.toNat_natCast]
    rw [le_pos (by omega), le_pos (by omega), le_pos (by omega)]
    exact key St122b1 (.inr rfl)

/-! Both, with their signs: the quotient goes down, the remainder has the divisor's sign. -/
def dmO (x y : Int) : Bool := !decide (x.natAbs % y.natAbs = 0) && !(decide (x < 0) == decide (y < 0))
def dmQ (x y : Int) : Int := if dmO x y then -((x.natAbs / y.natAbs : Nat) + 1 : Int) else sg (!(decide (x < 0) == decide (y < 0))) (x.natAbs / y.natAbs : Nat)
def dmR (x y : Int) : Int := sg (decide (y < 0)) (if dmO x y then (y.natAbs : Int) - (x.natAbs % y.natAbs : Nat) else (x.natAbs % y.natAbs : Nat))
theorem neg1 : PV.agg [.bool true, dl [1]] = numV (-1) := rfl
theorem qr_bounds {x y : Int} (y0 : y ≠ 0) : x.natAbs / y.natAbs ≤ x.natAbs ∧ x.natAbs % y.natAbs < y.natAbs ∧ (x.natAbs % y.natAbs ≠ 0 → x.natAbs / y.natAbs + 1 ≤ x.natAbs) := by
  have hy : 0 < y.natAbs := by omega
  have h1 := Nat.mod_lt x.natAbs hy
  refine ⟨Nat.div_le_self _ _, h1, fun h => ?_⟩
  have h2 : 2 ≤ y.natAbs := by omega
  have h3 : x.natAbs / y.natAbs ≤ x.natAbs / 2 := Nat.div_le_div_left h2 (by omega)
  have h4 : x.natAbs ≠ 0 := by
    intro e
    rw [e, Nat.zero_mod] at h
    exact h rfl
  by_cases h5 : x.natAbs = 1
  · have : x.natAbs / y.natAbs = 0 := Nat.div_eq_of_lt (by omega)
    omega
  · omega
theorem dmQ_Sm {x y : Int} {k : Nat} (y0 : y ≠ 0) (hx : Sm x k) : Sm (dmQ x y) k := by
  have hb := qr_bounds (x := x) y0
  refine Sm.of (Nat.lt_of_le_of_lt ?_ hx.lt)
  unfold dmQ
  cases h : dmO x y with
  | true =>
    have : x.natAbs % y.natAbs ≠ 0 := by
      intro e
      unfold dmO at h
      rw [e] at h
      simp at h
    have := hb.2.2 this
    simp only [if_true]
    generalize x.natAbs / y.natAbs = q at this ⊢
    omega
  | false =>
    simp only [Bool.false_eq_true, if_false]
    have : ∀ (b : Bool) (n : Nat), (sg b (n : Int)).natAbs = n := by intro b n; cases b <;> simp [sg]
    rw [this]
    exact hb.1
theorem dmR_Sm {x y : Int} {k : Nat} (y0 : y ≠ 0) (hy : Sm y k) : Sm (dmR x y) k := by
  have hb := qr_bounds (x := x) y0
  refine Sm.of (Nat.lt_of_le_of_lt ?_ hy.lt)
  unfold dmR
  have : ∀ (b : Bool) (n : Int), (sg b n).natAbs = n.natAbs := by intro b n; cases b <;> simp [sg]
  rw [this]
  have h1 := hb.2.1
  generalize x.natAbs % y.natAbs = r at h1 ⊢
  cases h : dmO x y
  · simp only [Bool.false_eq_true, if_false]; omega
  · simp only [if_true]; omega
theorem ncons (l : List Int) : 0 < l.length ↔ l ≠ [] := by cases l <;> simp
theorem f80 {m : Nat} (hm : 165 ≤ m) (x y : Int) (y0 : y ≠ 0) (hx : Sm x 40) (hy : Sm y 40) : R m 80 (.agg [numV x, numV y]) = some (.agg [numV (dmQ x y), numV (dmR x y)]) := by
  obtain ⟨n, rfl⟩ : ∃ n, m = n + 1 := ⟨m - 1, by omega⟩
  have hb := qr_bounds (x := x) y0
  have e1 := f121_122 (m := n) (by omega) 121 (.inl rfl) x.natAbs y.natAbs (by omega) (by unfold Sm at hx; omega) (by unfold Sm at hy; omega)
  have hq : (canon (x.natAbs / y.natAbs)).length ≤ 40 := by have := canon_mono hb.1; unfold Sm at hx; omega
  have hr : (canon (x.natAbs % y.natAbs)).length ≤ 40 := by have := canon_mono (show x.natAbs % y.natAbs ≤ y.natAbs by omega); unfold Sm at hy; omega
  have e2 := f107 (m := n) (by omega) (!(decide (x < 0) == decide (y < 0))) (canon (x.natAbs / y.natAbs)) (by omega) (canon_dig _)
  have e3 := f107 (m := n) (by omega) (decide (x < 0)) (canon (x.natAbs % y.natAbs)) (by omega) (canon_dig _)
  rw [canon_nv] at e2 e3
  have sgn : ∀ (b : Bool) (n : Nat), (sg b (n : Int)).natAbs = n := by intro b n; cases b <;> simp [sg]
  have e4 := f70 (m := n) (by omega) (sg (!(decide (x < 0) == decide (y < 0))) ((x.natAbs / y.natAbs : Nat) : Int)) (-1) (by unfold Sm; rw [sgn]; omega) (by unfold Sm; exact (by decide : (canon 1).length ≤ 89))
  have e5 := f70 (m := n) (by omega) (sg (decide (x < 0)) ((x.natAbs % y.natAbs : Nat) : Int)) y (by unfold Sm; rw [sgn]; omega) (hy.mono (by omega))
  have eta : ∀ z, PV.agg [(O1.fld 0).dn (numV z), (O1.fld 1).dn (numV z)] = numV z := fun z => rfl
  have es : ∀ z, (O1.fld 1).dn (numV z) = dl (canon z.natAbs) := fun z => rfl
  have e0 : ∀ z, (O1.fld 0).dn (numV z) = .bool (decide (z < 0)) := fun z => rfl
  have fin : ∀ (z : Int) (k : Nat), z.natAbs = k → PV.agg [.bool (decide (z < 0)), dl (canon k)] = numV z := by rintro z k rfl; rfl
  rw [R_succ n 80 _ rfl]
  have f1 : ∀ z, (numV z).cs.getD 0 (PV.bool false) = .bool (decide (z < 0)) := fun z => rfl
  simp (disch := omega) only [St80, dn_ret, dn_call, dn_loop, dn_cont0, ite_lss, ite_leq, ite_gtr, ite_geq, ite_eql, ite_neq, ite_not, ite_seql, ite_beql, ite_bneq, ite_fld, need_leq', need_lss', need_neq0, b_true, b_false, se_var, se_lit, se_o1, se_o2, se_o3, get0, getS, pc_agg, pi_int, pb_bool, ps_str, o_not, o_len, o_fld, o_slen, o_conv, o_add, o_sub, o_mul, o_quo, o_rem, o_lss, o_leq, o_gtr, o_geq, o_eql, o_neq, o_sadd, o_seql, o_bneq, o_beql, o_mx, o_mkS, o_idx, o_snoc, o_cat, o_subl, o_upd, o_ssub, o_sidx, w64, w8, List.nil_append, List.cons_append, dl_nil, e0, es, e1]
  simp only [e2, e3, dn_ret, dn_call, dn_loop, dn_cont0, ite_lss, ite_leq, ite_gtr, ite_geq, ite_eql, ite_neq, ite_not, ite_seql, ite_beql, ite_bneq, ite_fld, need_leq', need_lss', need_neq0, b_true, b_false, se_var, se_lit, se_o1, se_o2, se_o3, get0, getS, pc_agg, pi_int, pb_bool, ps_str, o_not, o_len, o_fld, o_slen, o_conv, o_add, o_sub, o_mul, o_quo, o_rem, o_lss, o_leq, o_gtr, o_geq, o_eql, o_neq, o_sadd, o_seql, o_bneq, o_beql, o_mx, o_mkS, o_idx, o_snoc, o_cat, o_subl, o_upd, o_ssub, o_sidx, w64, w8, List.nil_append, List.cons_append, dl_nil, eta, es, e0, sgn]
  by_cases hz : x.natAbs % y.natAbs = 0
  · have : (canon (x.natAbs % y.natAbs)).length = 0 := by rw [hz]; rfl
    rw [lt_neg (by omega)]
    have ho : dmO x y = false := by unfold dmO; rw [decide_eq_true hz]; rfl
    unfold dmQ dmR
    rw [ho, hz]
    simp only [Bool.false_eq_true, if_false]
    have : ∀ b, sg b ((0 : Nat) : Int) = 0 := by intro b; cases b <;> rfl
    rw [this, this, fin _ _ (sgn _ _), fin 0 0 rfl]
  · have hne : 0 < (canon (x.natAbs % y.natAbs)).length := by
      rw [ncons]
      intro e
      exact hz (canon_nil.1 e)
    rw [lt_pos (by omega)]
    have hneg : decide (sg (decide (x < 0)) ((x.natAbs % y.natAbs : Nat) : Int) < 0) = decide (x < 0) := by
      by_cases hx0 : x < 0
      · simp [sg, hx0]; omega
      · simp [sg, hx0]; omega
    rw [hneg]
    cases hs : (decide (x < 0) == decide (y < 0)) with
    | true =>
      have ho : dmO x y = false := by unfold dmO; rw [hs]; simp
      unfold dmQ dmR
      rw [ho, hs, b_true]
      have hxy : decide (x < 0) = decide (y < 0) := by simpa using hs
      rw [hxy] at hneg ⊢
      have fin2 : PV.agg [.bool (decide (y < 0)), dl (canon (x.natAbs % y.natAbs))] = numV (sg (decide (y < 0)) ((x.natAbs % y.natAbs : Nat) : Int)) := by rw [numV, sgn, hneg]
      rw [fin _ _ (sgn _ _), fin2]
      rfl
    | false =>
      have ho : dmO x y = true := by unfold dmO; rw [hs, decide_eq_false hz]; rfl
      rw [hs] at e4
      unfold dmQ dmR
      rw [ho, hs, b_false]
      have q1 : sg (!false) ((x.natAbs / y.natAbs : Nat) : Int) + -1 = -((x.natAbs / y.natAbs : Nat) + 1 : Int) := by simp [sg]; omega
      have q2 : sg (decide (x < 0)) ((x.natAbs % y.natAbs : Nat) : Int) + y = sg (decide (y < 0)) ((y.natAbs : Int) - (x.natAbs % y.natAbs : Nat)) := by
        by_cases hx0 : x < 0 <;> by_cases hy0 : y < 0 <;> simp [hx0, hy0] at hs <;> simp [sg, hx0, hy0] <;> omega
      rw [q1] at e4
      rw [q2] at e5
      have el : O2.snoc.dn (dl []) (.int .i64 1) = dl [1] := rfl
      have fin2 : PV.agg [.bool (decide (x < 0)), dl (canon (x.natAbs % y.natAbs))] = numV (sg (decide (x < 0)) ((x.natAbs % y.natAbs : Nat) : Int)) := by rw [numV, sgn, hneg]
      simp only [dn_ret, dn_call, dn_loop, dn_cont0, ite_lss, ite_leq, ite_gtr, ite_geq, ite_eql, ite_neq, ite_not, ite_seql, ite_beql, ite_bneq, ite_fld, need_leq', need_lss', need_neq0, b_true, b_false, se_var, se_lit, se_o1, se_o2, se_o3, get0, getS, pc_agg, pi_int, pb_bool, ps_str, o_not, o_len, o_fld, o_slen, o_conv, o_add, o_sub, o_mul, o_quo, o_rem, o_lss, o_leq, o_gtr, o_geq, o_eql, o_neq, o_sadd, o_seql, o_bneq, o_beql, o_mx, o_mkS, o_idx, o_snoc, o_cat, o_subl, o_upd, o_ssub, o_sidx, w64, w8, List.nil_append, List.cons_append, dl_nil, neg1, if_true]
      rw [fin _ _ (sgn (!false) _), fin2, fin y _ rfl, e4]
      simp only [dn_ret, dn_call, dn_loop, dn_cont0, ite_lss, ite_leq, ite_gtr, ite_geq, ite_eql, ite_neq, ite_not, ite_seql, ite_beql, ite_bneq, ite_fld, need_leq', need_lss', need_neq0, b_true, b_false, se_var, se_lit, se_o1, se_o2, se_o3, get0, getS, pc_agg, pi_int, pb_bool, ps_str, o_not, o_len, o_fld, o_slen, o_conv, o_add, o_sub, o_mul, o_quo, o_rem, o_lss, o_leq, o_gtr, o_geq, o_eql, o_neq, o_sadd, o_seql, o_bneq, o_beql, o_mx, o_mkS, o_idx, o_snoc, o_cat, o_subl, o_upd, o_ssub, o_sidx, w64, w8, List.nil_append, List.cons_append, dl_nil, e5]
      rfl
theorem f81 {m : Nat} (hm : 165 ≤ m) {s t : List UInt8} {x y : Int} (y0 : y ≠ 0) (hs : ∀ n, 101 ≤ n → R n 110 (.agg [.str s]) = some (digV x)) (ht : ∀ n, 101 ≤ n → R n 110 (.agg [.str t]) = some (digV y)) (hx : Sm x 40) (hy : Sm y 40) :
    R m 81 (.agg [.str s, .str t]) = some (.agg [.str (textZ (dmQ x y)), .str (textZ (dmR x y))]) := by
  obtain ⟨n, rfl⟩ : ∃ n, m = n + 1 := ⟨m - 1, by omega⟩
  have hb := qr_bounds (x := x) y0
  have e1 := f121_122 (m := n) (by omega) 122 (.inr rfl) x.natAbs y.natAbs (by omega) (by unfold Sm at hx; omega) (by unfold Sm at hy; omega)
  have hq : (canon (x.natAbs / y.natAbs)).length ≤ 40 := by have := canon_mono hb.1; unfold Sm at hx; omega
  have hyl : (canon y.natAbs).length ≤ 40 := hy
  have hr : (canon (x.natAbs % y.natAbs)).length ≤ 40 := by have := canon_mono (show x.natAbs % y.natAbs ≤ y.natAbs by omega); omega
  have i1 := fun q => f120 (m := n) (by omega) (x.natAbs / y.natAbs) q (by omega)
  have i2 := fun q => f120 (m := n) (by omega) (x.natAbs % y.natAbs) q (by omega)
  simp only [textZ_sg] at i1 i2
  have e4 := f118 (m := n) (by omega) (canon (x.natAbs / y.natAbs)) [1] (canon_dig _) (Dig.cons (by omega) (by omega) Dig.nil) (by omega) (by simp)
  have e5 := f119 (m := n) (by omega) (canon y.natAbs) (canon (x.natAbs % y.natAbs)) (canon_dig _) (canon_dig _) (by omega) (by rw [canon_nv, canon_nv]; omega)
  have n4 : ∀ q : Nat, (nv (canon q) + nv [1]).toNat = q + 1 := by intro q; rw [canon_nv, nv_cons, nv_nil]; omega
  have n5 : ∀ q r : Nat, (nv (canon q) - nv (canon r)).toNat = q - r := by intro q r; rw [canon_nv, canon_nv]; omega
  rw [n4] at e4
  rw [n5] at e5
  rw [R_succ n 81 _ rfl]
  simp (disch := omega) only [St81, dn_ret, dn_call, dn_loop, dn_cont0, ite_lss, ite_leq, ite_gtr, ite_geq, ite_eql, ite_neq, ite_not, ite_seql, ite_beql, ite_bneq, ite_fld, need_leq', need_lss', need_neq0, b_true, b_false, se_var, se_lit, se_o1, se_o2, se_o3, get0, getS, pc_agg, pi_int, pb_bool, ps_str, o_not, o_len, o_fld, o_slen, o_conv, o_add, o_sub, o_mul, o_quo, o_rem, o_lss, o_leq, o_gtr, o_geq, o_eql, o_neq, o_sadd, o_seql, o_bneq, o_beql, o_mx, o_mkS, o_idx, o_snoc, o_cat, o_subl, o_upd, o_ssub, o_sidx, w64, w8, List.nil_append, List.cons_append, dl_nil, hs n (by omega), ht n (by omega), digV, e1]
  by_cases hz : x.natAbs % y.natAbs = 0
  · have : (canon (x.natAbs % y.natAbs)).length = 0 := by rw [hz]; rfl
    rw [lt_neg (by omega)]
    have ho : dmO x y = false := by unfold dmO; rw [decide_eq_true hz]; rfl
    simp only [i1, i2, dn_ret, dn_call, dn_loop, dn_cont0, ite_lss, ite_leq, ite_gtr, ite_geq, ite_eql, ite_neq, ite_not, ite_seql, ite_beql, ite_bneq, ite_fld, need_leq', need_lss', need_neq0, b_true, b_false, se_var, se_lit, se_o1, se_o2, se_o3, get0, getS, pc_agg, pi_int, pb_bool, ps_str, o_not, o_len, o_fld, o_slen, o_conv, o_add, o_sub, o_mul, o_quo, o_rem, o_lss, o_leq, o_gtr, o_geq, o_eql, o_neq, o_sadd, o_seql, o_bneq, o_beql, o_mx, o_mkS, o_idx, o_snoc, o_cat, o_subl, o_upd, o_ssub, o_sidx, w64, w8, List.nil_append, List.cons_append, dl_nil]
    unfold dmQ dmR
    rw [ho]
    rfl
  · have hne : 0 < (canon (x.natAbs % y.natAbs)).length := by
      rw [ncons]
      intro e
      exact hz (canon_nil.1 e)
    rw [lt_pos (by omega)]
    cases hs : (decide (x < 0) == decide (y < 0)) with
    | true =>
      have ho : dmO x y = false := by unfold dmO; rw [hs]; simp
      simp only [dn_ret, dn_call, dn_loop, dn_cont0, ite_lss, ite_leq, ite_gtr, ite_geq, ite_eql, ite_neq, ite_not, ite_seql, ite_beql, ite_bneq, ite_fld, need_leq', need_lss', need_neq0, b_true, b_false, se_var, se_lit, se_o1, se_o2, se_o3, get0, getS, pc_agg, pi_int, pb_bool, ps_str, o_not, o_len, o_fld, o_slen, o_conv, o_add, o_sub, o_mul, o_quo, o_rem, o_lss, o_leq, o_gtr, o_geq, o_eql, o_neq, o_sadd, o_seql, o_bneq, o_beql, o_mx, o_mkS, o_idx, o_snoc, o_cat, o_subl, o_upd, o_ssub, o_sidx, w64, w8, List.nil_append, List.cons_append, dl_nil, i1, i2]
      unfold dmQ dmR
      rw [ho, hs]
      rfl
    | false =>
      have ho : dmO x y = true := by unfold dmO; rw [hs, decide_eq_false hz]; rfl
      have h1 := hb.2.2 hz
      have hq1 : (canon (x.natAbs / y.natAbs + 1)).length ≤ 40 := by have := canon_mono h1; unfold Sm at hx; omega
      have hr1 : (canon (y.natAbs - x.natAbs % y.natAbs)).length ≤ 40 := by have := canon_mono (show y.natAbs - x.natAbs % y.natAbs ≤ y.natAbs by omega); omega
      have i3 := fun q => f120 (m := n) (by omega) (x.natAbs / y.natAbs + 1) q (by omega)
      have i4 := fun q => f120 (m := n) (by omega) (y.natAbs - x.natAbs % y.natAbs) q (by omega)
      simp only [textZ_sg] at i3 i4
      have el : O2.snoc.dn (dl []) (.int .i64 1) = dl [1] := rfl
      simp only [dn_ret, dn_call, dn_loop, dn_cont0, ite_lss, ite_leq, ite_gtr, ite_geq, ite_eql, ite_neq, ite_not, ite_seql, ite_beql, ite_bneq, ite_fld, need_leq', need_lss', need_neq0, b_true, b_false, se_var, se_lit, se_o1, se_o2, se_o3, get0, getS, pc_agg, pi_int, pb_bool, ps_str, o_not, o_len, o_fld, o_slen, o_conv, o_add, o_sub, o_mul, o_quo, o_rem, o_lss, o_leq, o_gtr, o_geq, o_eql, o_neq, o_sadd, o_seql, o_bneq, o_beql, o_mx, o_mkS, o_idx, o_snoc, o_cat, o_subl, o_upd, o_ssub, o_sidx, w64, w8, List.nil_append, List.cons_append, dl_nil, e4, e5, i3, i4]
      unfold dmQ dmR
      rw [ho]
      simp only [if_true]
      have q1 : sg true ((x.natAbs / y.natAbs + 1 : Nat) : Int) = -((x.natAbs / y.natAbs : Nat) + 1 : Int) := by simp [sg]
      have q2 : ((y.natAbs - x.natAbs % y.natAbs : Nat) : Int) = (y.natAbs : Int) - (x.natAbs % y.natAbs : Nat) := by omega
      rw [q1, q2]
theorem zero_iff {b : List UInt8} (h : isIntL b = true) : b = [48] ↔ Z b = 0 := by
  constructor
  · rintro rfl; rfl
  · intro hz
    have := textZ_Z h
    rw [hz] at this
    exact this.symm
end Go.Dv

/- Remainders. -/
set_option linter.unusedVariables false
set_option linter.unusedSimpArgs false
namespace Go.Dv
/-- The draw. -/
theorem fDraw {m : Nat} (hm : 200 ≤ m) (l : List UInt8) (hl : l.length ≤ 100000000) :
    ∃ x y, R m 45 (.agg [bl l]) = some (.agg [.str x, .str y]) ∧ x.length ≤ 301 ∧ y.length ≤ 301 := by
  obtain ⟨n, rfl⟩ : ∃ n, m = n + 1 := ⟨m - 1, by omega⟩
  have hl' : (l.take 4000).length ≤ 4000 := by rw [List.length_take]; omega
  have e0 := f48 (m := n) (by omega) l hl
  obtain ⟨s1, j1, e1, l1, j10, j11⟩ := f68 (m := n) (by omega) (l.take 4000) 0 hl' (by omega) (by omega)
  obtain ⟨x2, j2, e2, x20, x21, j20, j21⟩ := f62 (m := n) (by omega) (l.take 4000) j1 6 hl' (by omega) (by omega) (by omega) (by omega)
  obtain ⟨s3, j3, e3, l3, j30, j31⟩ := f68 (m := n) (by omega) (l.take 4000) j2 hl' (by omega) (by omega)
  simp only [rndV] at e0 e1 e2 e3
  rw [R_succ n 45 _ rfl]
  simp (disch := omega) only [St45, dn_ret, dn_call, dn_loop, dn_cont0, ite_lss, ite_leq, ite_gtr, ite_geq, ite_eql, ite_neq, ite_not, ite_seql, ite_beql, ite_bneq, ite_fld, need_leq', need_lss', need_neq0, b_true, b_false, se_var, se_lit, se_o1, se_o2, se_o3, get0, getS, pc_agg, pi_int, pb_bool, ps_str, o_not, o_len, o_fld, o_slen, o_conv, o_add, o_sub, o_mul, o_quo, o_rem, o_lss, o_leq, o_gtr, o_geq, o_eql, o_neq, o_sadd, o_seql, o_bneq, o_beql, o_mx, o_mkS, o_idx, o_snoc, o_cat, o_subl, o_upd, o_ssub, o_sidx, w64, w8, List.nil_append, List.cons_append, bl_nil, e0, e1, e2, e3]
  by_cases h : x2 = 0
  · rw [eq_pos h]; exact ⟨s1, s1, rfl, l1, l1⟩
  · rw [eq_neg h]; exact ⟨s1, s3, rfl, l1, l3⟩

theorem f46 {m : Nat} (hm : 170 ≤ m) (a b : List UInt8) : R m 46 (.agg [.str a, .str b]) = some (opV (if isIntL a = true ∧ isIntL b = true then (if Z b = 0 then none else some (dmR (Z a) (Z b))) else none)) := by
  obtain ⟨n, rfl⟩ : ∃ n, m = n + 1 := ⟨m - 1, by omega⟩
  rw [R_succ n 46 _ rfl]
  by_cases h : isIntL a = true ∧ isIntL b = true
  · rw [if_pos h]
    have eta : ∀ z, PV.agg [(O1.fld 0).dn (numV z), (O1.fld 1).dn (numV z)] = numV z := fun z => rfl
    have es : ∀ z, (O1.fld 1).dn (numV z) = dl (canon z.natAbs) := fun z => rfl
    by_cases h0 : Z b = 0
    · rw [if_pos h0]
      simp (disch := omega) only [St46, dn_ret, dn_call, dn_loop, dn_cont0, ite_lss, ite_leq, ite_gtr, ite_geq, ite_eql, ite_neq, ite_not, ite_seql, ite_beql, ite_bneq, ite_fld, need_leq', need_lss', need_neq0, b_true, b_false, se_var, se_lit, se_o1, se_o2, se_o3, get0, getS, pc_agg, pi_int, pb_bool, ps_str, o_not, o_len, o_fld, o_slen, o_conv, o_add, o_sub, o_mul, o_quo, o_rem, o_lss, o_leq, o_gtr, o_geq, o_eql, o_neq, o_sadd, o_seql, o_bneq, o_beql, o_mx, o_mkS, o_idx, o_snoc, o_cat, o_subl, o_upd, o_ssub, o_sidx, w64, w8, List.nil_append, List.cons_append, dl_nil, f69 (m := n) (by omega) a b h.1 h.2, es]
      have : (canon (Z b).natAbs).length = 0 := by rw [h0]; rfl
      rw [eq_pos (by omega)]
      rfl
    · rw [if_neg h0, ← fit_op]
      have h80 := f80 (m := n) (by omega) (Z a) (Z b) h0 (Z_Sm h.1) (Z_Sm h.2)
      have h75 := f75' (m := n) (by omega) (dmR (Z a) (Z b)) ((dmR_Sm h0 (Z_Sm h.2)).mono (by omega))
      have hne : 0 < (canon (Z b).natAbs).length := by
        rw [ncons]
        intro e
        have := canon_nil.1 e
        omega
      simp (disch := omega) only [St46, dn_ret, dn_call, dn_loop, dn_cont0, ite_lss, ite_leq, ite_gtr, ite_geq, ite_eql, ite_neq, ite_not, ite_seql, ite_beql, ite_bneq, ite_fld, need_leq', need_lss', need_neq0, b_true, b_false, se_var, se_lit, se_o1, se_o2, se_o3, get0, getS, pc_agg, pi_int, pb_bool, ps_str, o_not, o_len, o_fld, o_slen, o_conv, o_add, o_sub, o_mul, o_quo, o_rem, o_lss, o_leq, o_gtr, o_geq, o_eql, o_neq, o_sadd, o_seql, o_bneq, o_beql, o_mx, o_mkS, o_idx, o_snoc, o_cat, o_subl, o_upd, o_ssub, o_sidx, w64, w8, List.nil_append, List.cons_append, dl_nil, f69 (m := n) (by omega) a b h.1 h.2, es]
      rw [eq_neg (by omega)]
      have eta2 : ∀ z, PV.agg [(O1.fld 0).dn (numV z), dl (canon z.natAbs)] = numV z := fun z => rfl
      have eta3 : ∀ z, PV.agg [.bool (decide (z < 0)), dl (canon z.natAbs)] = numV z := fun z => rfl
      have e0 : ∀ z, (O1.fld 0).dn (numV z) = .bool (decide (z < 0)) := fun z => rfl
      simp (disch := omega) only [eta2, e0, eta3, h80, dn_ret, dn_call, dn_loop, dn_cont0, ite_lss, ite_leq, ite_gtr, ite_geq, ite_eql, ite_neq, ite_not, ite_seql, ite_beql, ite_bneq, ite_fld, need_leq', need_lss', need_neq0, b_true, b_false, se_var, se_lit, se_o1, se_o2, se_o3, get0, getS, pc_agg, pi_int, pb_bool, ps_str, o_not, o_len, o_fld, o_slen, o_conv, o_add, o_sub, o_mul, o_quo, o_rem, o_lss, o_leq, o_gtr, o_geq, o_eql, o_neq, o_sadd, o_seql, o_bneq, o_beql, o_mx, o_mkS, o_idx, o_snoc, o_cat, o_subl, o_upd, o_ssub, o_sidx, w64, w8, List.nil_append, List.cons_append, dl_nil, es, h75, fitV_eta]
  · rw [if_neg h]
    obtain ⟨p, q, e⟩ := f69' (m := n) (by omega) a b h
    simp only [St46, dn_ret, dn_call, dn_loop, dn_cont0, ite_lss, ite_leq, ite_gtr, ite_geq, ite_eql, ite_neq, ite_not, ite_seql, ite_beql, ite_bneq, ite_fld, need_leq', need_lss', need_neq0, b_true, b_false, se_var, se_lit, se_o1, se_o2, se_o3, get0, getS, pc_agg, pi_int, pb_bool, ps_str, o_not, o_len, o_fld, o_slen, o_conv, o_add, o_sub, o_mul, o_quo, o_rem, o_lss, o_leq, o_gtr, o_geq, o_eql, o_neq, o_sadd, o_seql, o_bneq, o_beql, o_mx, o_mkS, o_idx, o_snoc, o_cat, o_subl, o_upd, o_ssub, o_sidx, w64, w8, List.nil_append, List.cons_append, dl_nil, e]
    rfl
theorem f47 {m : Nat} (a b : List UInt8) (hm : 170 ≤ m) (ha : a.length + 5 ≤ m) (hb : b.length + 5 ≤ m) (ha2 : a.length < 100000) (hb2 : b.length < 100000) : R m 47 (.agg [.str a, .str b]) = some (opV (if isIntL a = true ∧ isIntL b = true then (if Z b = 0 then none else some (dmR (Z a) (Z b))) else none)) := by
  obtain ⟨n, rfl⟩ : ∃ n, m = n + 1 := ⟨m - 1, by omega⟩
  rw [R_succ n 47 _ rfl]
  simp (disch := omega) only [St47, dn_ret, dn_call, dn_loop, dn_cont0, ite_lss, ite_leq, ite_gtr, ite_geq, ite_eql, ite_neq, ite_not, ite_seql, ite_beql, ite_bneq, ite_fld, need_leq', need_lss', need_neq0, b_true, b_false, se_var, se_lit, se_o1, se_o2, se_o3, get0, getS, pc_agg, pi_int, pb_bool, ps_str, o_not, o_len, o_fld, o_slen, o_conv, o_add, o_sub, o_mul, o_quo, o_rem, o_lss, o_leq, o_gtr, o_geq, o_eql, o_neq, o_sadd, o_seql, o_bneq, o_beql, o_mx, o_mkS, o_idx, o_snoc, o_cat, o_subl, o_upd, o_ssub, o_sidx, w64, w8, List.nil_append, List.cons_append, dl_nil, f72 (m := n) a (by omega) ha2, f72 (m := n) b (by omega) hb2]
  by_cases h1 : isIntL a = true
  · rw [h1]
    by_cases h2 : isIntL b = true
    · rw [h2]
      simp only [dn_ret, dn_call, dn_loop, dn_cont0, ite_lss, ite_leq, ite_gtr, ite_geq, ite_eql, ite_neq, ite_not, ite_seql, ite_beql, ite_bneq, ite_fld, need_leq', need_lss', need_neq0, b_true, b_false, se_var, se_lit, se_o1, se_o2, se_o3, get0, getS, pc_agg, pi_int, pb_bool, ps_str, o_not, o_len, o_fld, o_slen, o_conv, o_add, o_sub, o_mul, o_quo, o_rem, o_lss, o_leq, o_gtr, o_geq, o_eql, o_neq, o_sadd, o_seql, o_bneq, o_beql, o_mx, o_mkS, o_idx, o_snoc, o_cat, o_subl, o_upd, o_ssub, o_sidx, w64, w8, List.nil_append, List.cons_append, dl_nil, and_self, if_true]
      by_cases h0 : Z b = 0
      · rw [if_pos h0, seq_pos ((zero_iff h2).2 h0)]
        rfl
      · rw [if_neg h0, seq_neg (fun e => h0 ((zero_iff h2).1 e)), f81 (m := n) (by omega) h0 (fun n hn => f110Z hn h1) (fun n hn => f110Z hn h2) (Z_Sm h1) (Z_Sm h2), ← fit_op]
        have hs : (canon (dmR (Z a) (Z b)).natAbs).length ≤ 40 := dmR_Sm h0 (Z_Sm h2)
        simp only [dn_ret, dn_call, dn_loop, dn_cont0, ite_lss, ite_leq, ite_gtr, ite_geq, ite_eql, ite_neq, ite_not, ite_seql, ite_beql, ite_bneq, ite_fld, need_leq', need_lss', need_neq0, b_true, b_false, se_var, se_lit, se_o1, se_o2, se_o3, get0, getS, pc_agg, pi_int, pb_bool, ps_str, o_not, o_len, o_fld, o_slen, o_conv, o_add, o_sub, o_mul, o_quo, o_rem, o_lss, o_leq, o_gtr, o_geq, o_eql, o_neq, o_sadd, o_seql, o_bneq, o_beql, o_mx, o_mkS, o_idx, o_snoc, o_cat, o_subl, o_upd, o_ssub, o_sidx, w64, w8, List.nil_append, List.cons_append, dl_nil]
        unfold fitV
        rw [if_pos hs]
    · have h2 : isIntL b = false := by simpa using h2
      rw [h2]; simp; rfl
  · have h1 : isIntL a = false := by simpa using h1
    rw [h1]; simp; rfl
end Go.Dv
