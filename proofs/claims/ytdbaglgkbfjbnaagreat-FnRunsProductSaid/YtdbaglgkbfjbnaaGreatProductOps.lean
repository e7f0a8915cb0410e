/- Products. -/
import Derived.Test.YtdbaglgkbfjbnaaGreatDvI

set_option linter.unusedVariables false
set_option linter.unusedSimpArgs false
namespace Go.Dv

theorem mul_dig {x y : Int} (x0 : 0 ≤ x) (x9 : x ≤ 9) (y0 : 0 ≤ y) (y9 : y ≤ 9) : 0 ≤ x * y ∧ x * y ≤ 81 := by
  refine ⟨Int.mul_nonneg x0 y0, ?_⟩
  have := Int.mul_le_mul x9 y9 y0 (by omega)
  omega
theorem getD_tl (l : List Int) (d : Int) (t : Nat) : (d :: l).getD (t + 1) 0 = l.getD t 0 := rfl
theorem mul_nv (x y : Int) (B : Int) : x * (y + 10 * B) = x * y + 10 * (x * B) := by rw [Int.mul_add, Int.mul_left_comm]
theorem mul_nv' (x A B : Int) : (x + 10 * A) * B = x * B + 10 * (A * B) := by rw [Int.add_mul, Int.mul_assoc]

theorem inner112 (n : Nat) (G : FuncId → PV → Option PV) (oself : PV → Option PV) (a b : List Int) (hb : Dig b) (lb : b.length ≤ 45) (x : Int) (x0 : 0 ≤ x) (x9 : x ≤ 9) (i : Nat) (hi : i ≤ 45) (hx : a.getD i 0 = x) (o1 : PV) :
    ∀ (k j : Nat) (c : Int) (pre cur : List Int), pre.length = i + j → 0 ≤ c → c ≤ 9 → Dig cur → b.length - j + 1 ≤ cur.length ∨ (c = 0 ∧ b.length ≤ j) → (∀ t, b.length - j ≤ t → cur.getD t 0 = 0) → cur.length < k → pre.length + cur.length ≤ 200 →
      ∃ l, Dig l ∧ l.length = cur.length ∧ nv l = nv cur + c + x * nv (b.drop j) ∧ (∀ t, b.length - j + 1 ≤ t → l.getD t 0 = 0) ∧ (c = 0 → b.length ≤ j → l = cur) ∧
        rounds (fun self v => St112b0.dn n G [oself, self] [.agg [dl a, dl b], .agg [.int .i64 i, o1], v]) k (.agg [.int .i64 c, .int .i64 j, dl (pre ++ cur)]) = oself (.agg [.int .i64 ((i : Int) + 1), dl (pre ++ l)]) := by
  intro k
  induction k with
  | zero => intro j c pre cur h1 h2 h3 h4 h5 h6 h7; omega
  | succ k ih =>
    intro j c pre cur h1 h2 h3 h4 h5 h6 h7 h8
    simp only [rounds_s]
    have ecast : (i : Int) + (j : Int) = ((i + j : Nat) : Int) := by omega
    by_cases hj : j < b.length
    · cases cur with
      | nil => simp at h5; omega
      | cons u cur =>
        have gb := hb.get (i := j)
        have gu := h4.head
        have hxy := mul_dig x0 x9 gb.1 gb.2
        have hs : (c + u + x * b.getD j 0) / 10 ≤ 9 := by omega
        obtain ⟨l, q1, q2, q3, q4, -, q6⟩ := ih (j + 1) ((c + u + x * b.getD j 0) / 10) (pre ++ [(c + u + x * b.getD j 0) % 10]) cur (by rw [len_snoc]; omega) (by omega) hs h4.tail (.inl (by simp at h5 h7; omega)) (fun t ht => by have := h6 (t + 1) (by omega); rwa [getD_tl] at this) (by simp at h7; omega) (by rw [len_snoc]; simp at h8; omega)
        clear ih
        refine ⟨(c + u + x * b.getD j 0) % 10 :: l, Dig.cons (by omega) (by omega) q1, by rw [List.length_cons, q2]; rfl, ?_, ?_, fun _ h => by omega, ?_⟩
        · rw [drop_cons hj, nv_cons, nv_cons, nv_cons, mul_nv, q3]; omega
        · intro t ht
          cases t with
          | zero => omega
          | succ t => rw [getD_tl]; exact q4 t (by omega)
        · generalize rounds _ k = self at q6 ⊢
          rw [List.append_assoc, List.append_assoc, Int.natCast_add, Int.natCast_one] at q6
          have e1 : (pre ++ u :: cur).getD (i + j) 0 = u := by rw [← h1]; exact pre_get pre cur u
          have e2 : ∀ y, (pre ++ u :: cur).set (i + j) y = pre ++ y :: cur := by intro y; rw [← h1]; exact pre_set pre cur u y
          have e3 := pre_len pre cur u
          simp only [List.length_cons] at h7 h8
          simp (disch := omega) only [St112b0, dn_ret, dn_call, dn_loop, dn_cont0, ite_lss, ite_leq, ite_gtr, ite_geq, ite_eql, ite_neq, ite_not, ite_seql, ite_beql, ite_bneq, ite_fld, need_leq', need_lss', need_neq0, b_true, b_false, se_var, se_lit, se_o1, se_o2, se_o3, get0, getS, pc_agg, pi_int, pb_bool, ps_str, o_not, o_len, o_fld, o_slen, o_conv, o_add, o_sub, o_mul, o_quo, o_rem, o_lss, o_leq, o_gtr, o_geq, o_eql, o_neq, o_sadd, o_seql, o_bneq, o_beql, o_mx, o_mkS, o_idx, o_snoc, o_cat, o_subl, o_upd, o_ssub, o_sidx, w64, w8, List.nil_append, List.cons_append, dl_nil, dn_cont1, ecast, Int.toNat_natCast, e1, e2, hx, tdiv_nn, tmod_nn]
          rw [lt_pos (by omega), le_pos (by omega), lt_pos (by omega), le_pos (by omega)]
          exact q6
    · have hbn : b.drop j = [] := drop_nil hj
      by_cases hc : 0 < c
      · cases cur with
        | nil => simp at h5; omega
        | cons u cur =>
          have hu : u = 0 := h6 0 (by omega)
          obtain ⟨l, q1, q2, q3, q4, q5, q6⟩ := ih (j + 1) 0 (pre ++ [c]) cur (by rw [len_snoc]; omega) (by omega) (by omega) h4.tail (.inr ⟨rfl, by omega⟩) (fun t ht => by have := h6 (t + 1) (by omega); rwa [getD_tl] at this) (by simp at h7; omega) (by rw [len_snoc]; simp at h8; omega)
          clear ih
          have q5 := q5 rfl (by omega)
          subst q5 hu
          refine ⟨c :: l, Dig.cons (by omega) (by omega) q1, rfl, ?_, ?_, fun h => by omega, ?_⟩
          · rw [hbn, nv_cons, nv_cons, nv_nil]; omega
          · intro t ht
            cases t with
            | zero => omega
            | succ t => have := h6 (t + 1) (by omega); rwa [getD_tl] at this ⊢
          · generalize rounds _ k = self at q6 ⊢
            rw [List.append_assoc, Int.natCast_add, Int.natCast_one] at q6
            have e1 : (pre ++ 0 :: l).getD (i + j) 0 = 0 := by rw [← h1]; exact pre_get pre l 0
            have e2 : ∀ y, (pre ++ 0 :: l).set (i + j) y = pre ++ y :: l := by intro y; rw [← h1]; exact pre_set pre l 0 y
            have e3 := pre_len pre l 0
            have e4 : c / 10 = 0 := by omega
            have e5 : c % 10 = c := by omega
            simp only [List.length_cons] at h7 h8
            simp (disch := omega) only [St112b0, dn_ret, dn_call, dn_loop, dn_cont0, ite_lss, ite_leq, ite_gtr, ite_geq, ite_eql, ite_neq, ite_not, ite_seql, ite_beql, ite_bneq, ite_fld, need_leq', need_lss', need_neq0, b_true, b_false, se_var, se_lit, se_o1, se_o2, se_o3, get0, getS, pc_agg, pi_int, pb_bool, ps_str, o_not, o_len, o_fld, o_slen, o_conv, o_add, o_sub, o_mul, o_quo, o_rem, o_lss, o_leq, o_gtr, o_geq, o_eql, o_neq, o_sadd, o_seql, o_bneq, o_beql, o_mx, o_mkS, o_idx, o_snoc, o_cat, o_subl, o_upd, o_ssub, o_sidx, w64, w8, List.nil_append, List.cons_append, dl_nil, dn_cont1, ecast, Int.toNat_natCast, e1, e2, tdiv_nn, tmod_nn, Int.add_zero, e4, e5]
            rw [lt_neg (by omega), lt_pos (by omega), le_pos (by omega), lt_pos (by omega)]
            exact q6
      · have hc0 : c = 0 := by omega
        subst hc0
        clear ih
        refine ⟨cur, h4, rfl, by rw [hbn, nv_nil]; omega, fun t ht => h6 t (by omega), fun _ _ => rfl, ?_⟩
        generalize rounds _ k = self
        simp (disch := omega) only [St112b0, dn_ret, dn_call, dn_loop, dn_cont0, ite_lss, ite_leq, ite_gtr, ite_geq, ite_eql, ite_neq, ite_not, ite_seql, ite_beql, ite_bneq, ite_fld, need_leq', need_lss', need_neq0, b_true, b_false, se_var, se_lit, se_o1, se_o2, se_o3, get0, getS, pc_agg, pi_int, pb_bool, ps_str, o_not, o_len, o_fld, o_slen, o_conv, o_add, o_sub, o_mul, o_quo, o_rem, o_lss, o_leq, o_gtr, o_geq, o_eql, o_neq, o_sadd, o_seql, o_bneq, o_beql, o_mx, o_mkS, o_idx, o_snoc, o_cat, o_subl, o_upd, o_ssub, o_sidx, w64, w8, List.nil_append, List.cons_append, dl_nil]
        rw [lt_neg (by omega), lt_neg (by omega)]

theorem outer112 (n : Nat) (hn : 150 ≤ n) (a b : List Int) (ha : Dig a) (hb : Dig b) (la : a.length ≤ 45) (lb : b.length ≤ 45) :
    ∀ (k i : Nat) (pre cur : List Int), pre.length = i → i ≤ a.length → pre.length + cur.length = a.length + b.length + 1 → Dig cur → (∀ t, b.length ≤ t → cur.getD t 0 = 0) → a.length < k + i →
      ∃ l, Dig l ∧ l.length = cur.length ∧ nv l = nv cur + nv (a.drop i) * nv b ∧
        rounds (fun self v => St112b1.dn (n + 1) (R n) [self] [.agg [dl a, dl b], v]) k (.agg [.int .i64 i, dl (pre ++ cur)]) = some (.agg [dl (trim (pre ++ l))]) := by
  intro k
  induction k with
  | zero => intro i pre cur h1 h2 h3 h4 h5 h6; omega
  | succ k ih =>
    intro i pre cur h1 h2 h3 h4 h5 h6
    simp only [rounds_s]
    by_cases hi : i < a.length
    · have ga := ha.get (i := i)
      generalize hself : rounds (fun self v => St112b1.dn (n + 1) (R n) [self] [.agg [dl a, dl b], v]) k = self at ih ⊢
      obtain ⟨l, q1, q2, q3, q4, -, q6⟩ := inner112 (n + 1) (R n) self a b hb lb (a.getD i 0) ga.1 ga.2 i (by omega) rfl (dl (pre ++ cur)) (n + 1) 0 0 pre cur (by omega) (by omega) (by omega) h4 (.inl (by omega)) (fun t ht => h5 t (by omega)) (by omega) (by omega)
      cases l with
      | nil => simp at q2; omega
      | cons d l =>
        obtain ⟨l', p1, p2, p3, p4⟩ := ih (i + 1) (pre ++ [d]) l (by rw [len_snoc]; omega) (by omega) (by rw [len_snoc]; simp at q2; omega) q1.tail (fun t ht => by have := q4 (t + 1) (by omega); rwa [getD_tl] at this) (by omega)
        clear ih
        rw [List.append_assoc, List.append_assoc, Int.natCast_add, Int.natCast_one] at p4
        have hd := q1.head
        refine ⟨d :: l', Dig.cons hd.1 hd.2 p1, by rw [← q2, List.length_cons, List.length_cons, p2], ?_, ?_⟩
        · rw [List.drop_zero] at q3
          rw [drop_cons hi, nv_cons, nv_cons, mul_nv', p3]
          rw [nv_cons] at q3
          omega
        · simp (disch := omega) only [St112b1, dn_ret, dn_call, dn_loop, dn_cont0, ite_lss, ite_leq, ite_gtr, ite_geq, ite_eql, ite_neq, ite_not, ite_seql, ite_beql, ite_bneq, ite_fld, need_leq', need_lss', need_neq0, b_true, b_false, se_var, se_lit, se_o1, se_o2, se_o3, get0, getS, pc_agg, pi_int, pb_bool, ps_str, o_not, o_len, o_fld, o_slen, o_conv, o_add, o_sub, o_mul, o_quo, o_rem, o_lss, o_leq, o_gtr, o_geq, o_eql, o_neq, o_sadd, o_seql, o_bneq, o_beql, o_mx, o_mkS, o_idx, o_snoc, o_cat, o_subl, o_upd, o_ssub, o_sidx, w64, w8, List.nil_append, List.cons_append, dl_nil]
          rw [lt_pos (by omega), le_pos (by omega)]
          rw [Int.natCast_zero] at q6
          exact q6.trans p4
    · clear ih
      refine ⟨cur, h4, rfl, by rw [drop_nil hi, nv_nil]; omega, ?_⟩
      have ht := f117 (m := n) (by omega) (pre ++ cur) (by rw [List.length_append]; omega)
      generalize rounds _ k = self
      simp (disch := omega) only [St112b1, dn_ret, dn_call, dn_loop, dn_cont0, ite_lss, ite_leq, ite_gtr, ite_geq, ite_eql, ite_neq, ite_not, ite_seql, ite_beql, ite_bneq, ite_fld, need_leq', need_lss', need_neq0, b_true, b_false, se_var, se_lit, se_o1, se_o2, se_o3, get0, getS, pc_agg, pi_int, pb_bool, ps_str, o_not, o_len, o_fld, o_slen, o_conv, o_add, o_sub, o_mul, o_quo, o_rem, o_lss, o_leq, o_gtr, o_geq, o_eql, o_neq, o_sadd, o_seql, o_bneq, o_beql, o_mx, o_mkS, o_idx, o_snoc, o_cat, o_subl, o_upd, o_ssub, o_sidx, w64, w8, List.nil_append, List.cons_append, dl_nil]
      rw [lt_neg (by omega), ht]
      rfl
theorem zeros_dig (z : Nat) : Dig (List.replicate z 0) := by
  intro d hd
  rw [List.eq_of_mem_replicate hd]
  omega
theorem zeros_get (z t : Nat) : (List.replicate z (0 : Int)).getD t 0 = 0 := by
  rw [List.getD_eq_getElem?_getD, List.getElem?_replicate]
  split <;> rfl
theorem zeros_nv : ∀ z : Nat, nv (List.replicate z 0) = 0
  | 0 => rfl
  | z + 1 => by rw [List.replicate_succ, nv_cons, zeros_nv z]; rfl
theorem f112 {m : Nat} (hm : 160 ≤ m) (a b : List Int) (ha : Dig a) (hb : Dig b) (la : a.length ≤ 45) (lb : b.length ≤ 45) : R m 112 (.agg [dl a, dl b]) = some (.agg [dl (canon (nv a * nv b).toNat)]) := by
  obtain ⟨n, rfl⟩ : ∃ n, m = n + 1 := ⟨m - 1, by omega⟩
  obtain ⟨l, q1, q2, q3, q4⟩ := outer112 n (by omega) a b ha hb la lb (n + 1) 0 [] (List.replicate (a.length + b.length + 1) 0) rfl (by omega) (by simp) (zeros_dig _) (fun t _ => zeros_get _ t) (by omega)
  rw [zeros_nv, List.drop_zero, Int.zero_add] at q3
  rw [List.nil_append, List.nil_append, canon_trim q1, q3] at q4
  have ez : ((a.length : Int) + b.length + 1).toNat = a.length + b.length + 1 := by omega
  rw [R_succ n 112 _ rfl]
  simp (disch := omega) only [St112, dn_ret, dn_call, dn_loop, dn_cont0, ite_lss, ite_leq, ite_gtr, ite_geq, ite_eql, ite_neq, ite_not, ite_seql, ite_beql, ite_bneq, ite_fld, need_leq', need_lss', need_neq0, b_true, b_false, se_var, se_lit, se_o1, se_o2, se_o3, get0, getS, pc_agg, pi_int, pb_bool, ps_str, o_not, o_len, o_fld, o_slen, o_conv, o_add, o_sub, o_mul, o_quo, o_rem, o_lss, o_leq, o_gtr, o_geq, o_eql, o_neq, o_sadd, o_seql, o_bneq, o_beql, o_mx, o_mkS, o_idx, o_snoc, o_cat, o_subl, o_upd, o_ssub, o_sidx, w64, w8, List.nil_append, List.cons_append, dl_nil, o_zeros, ez]
  rw [le_pos (by omega), le_pos (by omega), le_pos (by omega)]
  exact q4

/-! The reference's products: sums of products first, carries last. -/
def Bd (M : Int) (l : List Int) : Prop := ∀ d ∈ l, 0 ≤ d ∧ d ≤ M
theorem Bd.cons {M d : Int} {l : List Int} (h1 : 0 ≤ d) (h2 : d ≤ M) (h : Bd M l) : Bd M (d :: l) := by
  intro x hx
  rcases List.mem_cons.1 hx with rfl | hx
  · exact ⟨h1, h2⟩
  · exact h x hx
theorem Bd.tail {M d : Int} {l : List Int} (h : Bd M (d :: l)) : Bd M l := fun x hx => h x (List.mem_cons_of_mem _ hx)
theorem Bd.head {M d : Int} {l : List Int} (h : Bd M (d :: l)) : 0 ≤ d ∧ d ≤ M := h d List.mem_cons_self
theorem Bd.mono {M M' : Int} {l : List Int} (h : Bd M l) (hm : M ≤ M') : Bd M' l := fun x hx => by have := h x hx; omega
theorem Bd.app {M : Int} {l m : List Int} (h : Bd M l) (h' : Bd M m) : Bd M (l ++ m) := by
  intro x hx
  rcases List.mem_append.1 hx with hx | hx
  · exact h x hx
  · exact h' x hx
theorem inner115 (n : Nat) (G : FuncId → PV → Option PV) (oself : PV → Option PV) (a b : List Int) (hb : Dig b) (lb : b.length ≤ 45) (x : Int) (x0 : 0 ≤ x) (x9 : x ≤ 9) (i : Nat) (hi : i ≤ 45) (hx : a.getD i 0 = x) (o1 : PV) (M : Int) (M0 : 0 ≤ M) (M1 : M ≤ 100000) :
    ∀ (k j : Nat) (pre cur : List Int), pre.length = i + j → Bd M cur → b.length - j ≤ cur.length → b.length < k + j → pre.length + cur.length ≤ 200 → j ≤ b.length →
      ∃ l, Bd (M + 81) l ∧ l.length = cur.length ∧ nv l = nv cur + x * nv (b.drop j) ∧
        rounds (fun self v => St115b0.dn n G [oself, self] [.agg [dl a, dl b], .agg [.int .i64 i, o1], v]) k (.agg [.int .i64 j, dl (pre ++ cur)]) = oself (.agg [.int .i64 ((i : Int) + 1), dl (pre ++ l)]) := by
  intro k
  induction k with
  | zero =>
    intro j pre cur h1 h2 h3 h4 h5 h6
    omega
  | succ k ih =>
    intro j pre cur h1 h2 h3 h4 h5 h6
    simp only [rounds_s]
    have ecast : (i : Int) + (j : Int) = ((i + j : Nat) : Int) := by omega
    by_cases hj : j < b.length
    · cases cur with
      | nil => simp at h3; omega
      | cons u cur =>
        have gb := hb.get (i := j)
        have gu := h2.head
        have hxy := mul_dig x0 x9 gb.1 gb.2
        obtain ⟨l, q1, q2, q3, q6⟩ := ih (j + 1) (pre ++ [u + x * b.getD j 0]) cur (by rw [len_snoc]; omega) h2.tail (by simp at h3; omega) (by omega) (by rw [len_snoc]; simp at h5; omega) (by omega)
        clear ih
        refine ⟨(u + x * b.getD j 0) :: l, Bd.cons (by omega) (by omega) q1, by rw [List.length_cons, q2]; rfl, ?_, ?_⟩
        · rw [drop_cons hj, nv_cons, nv_cons, nv_cons, mul_nv, q3]; omega
        · generalize rounds _ k = self at q6 ⊢
          rw [List.append_assoc, List.append_assoc, Int.natCast_add, Int.natCast_one] at q6
          have e1 : (pre ++ u :: cur).getD (i + j) 0 = u := by rw [← h1]; exact pre_get pre cur u
          have e2 : ∀ y, (pre ++ u :: cur).set (i + j) y = pre ++ y :: cur := by intro y; rw [← h1]; exact pre_set pre cur u y
          have e3 := pre_len pre cur u
          simp only [List.length_cons] at h5
          simp (disch := omega) only [St115b0, dn_ret, dn_call, dn_loop, dn_cont0, ite_lss, ite_leq, ite_gtr, ite_geq, ite_eql, ite_neq, ite_not, ite_seql, ite_beql, ite_bneq, ite_fld, need_leq', need_lss', need_neq0, b_true, b_false, se_var, se_lit, se_o1, se_o2, se_o3, get0, getS, pc_agg, pi_int, pb_bool, ps_str, o_not, o_len, o_fld, o_slen, o_conv, o_add, o_sub, o_mul, o_quo, o_rem, o_lss, o_leq, o_gtr, o_geq, o_eql, o_neq, o_sadd, o_seql, o_bneq, o_beql, o_mx, o_mkS, o_idx, o_snoc, o_cat, o_subl, o_upd, o_ssub, o_sidx, w64, w8, List.nil_append, List.cons_append, dl_nil, dn_cont1, ecast, Int.toNat_natCast, e1, e2, hx]
          rw [lt_pos (by omega), le_pos (by omega), lt_pos (by omega), le_pos (by omega), le_pos (by omega)]
          exact q6
    · clear ih
      refine ⟨cur, h2.mono (by omega), rfl, by rw [drop_nil hj, nv_nil]; omega, ?_⟩
      generalize rounds _ k = self
      simp (disch := omega) only [St115b0, dn_ret, dn_call, dn_loop, dn_cont0, ite_lss, ite_leq, ite_gtr, ite_geq, ite_eql, ite_neq, ite_not, ite_seql, ite_beql, ite_bneq, ite_fld, need_leq', need_lss', need_neq0, b_true, b_false, se_var, se_lit, se_o1, se_o2, se_o3, get0, getS, pc_agg, pi_int, pb_bool, ps_str, o_not, o_len, o_fld, o_slen, o_conv, o_add, o_sub, o_mul, o_quo, o_rem, o_lss, o_leq, o_gtr, o_geq, o_eql, o_neq, o_sadd, o_seql, o_bneq, o_beql, o_mx, o_mkS, o_idx, o_snoc, o_cat, o_subl, o_upd, o_ssub, o_sidx, w64, w8, List.nil_append, List.cons_append, dl_nil]
      rw [lt_neg (by omega)]

theorem pass115 (n : Nat) (hn : 150 ≤ n) (oself : PV → Option PV) (e0 e1 : PV) :
    ∀ (k : Nat) (pre cur : List Int) (c : Int), Bd 10000 cur → 0 ≤ c → c ≤ 2000 → cur.length < k → pre.length + cur.length ≤ 94 →
      ∃ l e, Dig l ∧ l.length = cur.length ∧ 0 ≤ e ∧ nv l + e * (10 : Int) ^ cur.length = nv cur + c ∧
        rounds (fun self v => St115b1.dn (n + 1) (R n) [oself, self] [e0, e1, v]) k (.agg [.int .i64 c, .int .i64 pre.length, dl (pre ++ cur)]) = some (.agg [dl (trim (pre ++ l))]) := by
  intro k
  induction k with
  | zero => intro pre cur c h1 h2 h3 h4; omega
  | succ k ih =>
    intro pre cur c h1 h2 h3 h4 h5
    simp only [rounds_s]
    cases cur with
    | nil =>
      clear ih
      refine ⟨[], c, Dig.nil, rfl, h2, by simp [nv_nil], ?_⟩
      have ht := f155 (m := n) (by omega) pre (by simp at h5; omega)
      generalize rounds _ k = self
      simp (disch := omega) only [St115b1, dn_ret, dn_call, dn_loop, dn_cont0, ite_lss, ite_leq, ite_gtr, ite_geq, ite_eql, ite_neq, ite_not, ite_seql, ite_beql, ite_bneq, ite_fld, need_leq', need_lss', need_neq0, b_true, b_false, se_var, se_lit, se_o1, se_o2, se_o3, get0, getS, pc_agg, pi_int, pb_bool, ps_str, o_not, o_len, o_fld, o_slen, o_conv, o_add, o_sub, o_mul, o_quo, o_rem, o_lss, o_leq, o_gtr, o_geq, o_eql, o_neq, o_sadd, o_seql, o_bneq, o_beql, o_mx, o_mkS, o_idx, o_snoc, o_cat, o_subl, o_upd, o_ssub, o_sidx, w64, w8, List.nil_append, List.cons_append, dl_nil, List.append_nil]
      rw [lt_neg (by omega), ht]
      rfl
    | cons u cur =>
      have gu := h1.head
      obtain ⟨l, e, q1, q2, q3, q4, q6⟩ := ih (pre ++ [(u + c) % 10]) cur ((u + c) / 10) h1.tail (by omega) (by omega) (by simp at h4; omega) (by rw [len_snoc]; simp at h5; omega)
      clear ih
      refine ⟨(u + c) % 10 :: l, e, Dig.cons (by omega) (by omega) q1, by rw [List.length_cons, q2]; rfl, q3, ?_, ?_⟩
      · rw [nv_cons, nv_cons, List.length_cons, Int.pow_succ, ← Int.mul_assoc]
        generalize e * (10 : Int) ^ cur.length = P at q4 ⊢
        omega
      · generalize rounds _ k = self at q6 ⊢
        rw [List.append_assoc, List.append_assoc, len_snoc, Int.natCast_add, Int.natCast_one] at q6
        have e3 := pre_len pre cur u
        simp only [List.length_cons] at h5
        simp (disch := omega) only [St115b1, dn_ret, dn_call, dn_loop, dn_cont0, ite_lss, ite_leq, ite_gtr, ite_geq, ite_eql, ite_neq, ite_not, ite_seql, ite_beql, ite_bneq, ite_fld, need_leq', need_lss', need_neq0, b_true, b_false, se_var, se_lit, se_o1, se_o2, se_o3, get0, getS, pc_agg, pi_int, pb_bool, ps_str, o_not, o_len, o_fld, o_slen, o_conv, o_add, o_sub, o_mul, o_quo, o_rem, o_lss, o_leq, o_gtr, o_geq, o_eql, o_neq, o_sadd, o_seql, o_bneq, o_beql, o_mx, o_mkS, o_idx, o_snoc, o_cat, o_subl, o_upd, o_ssub, o_sidx, w64, w8, List.nil_append, List.cons_append, dl_nil, dn_cont1, Int.toNat_natCast, pre_get, pre_set, tdiv_nn, tmod_nn]
        rw [lt_pos (by omega), le_pos (by omega)]
        exact q6

theorem outer115 (n : Nat) (hn : 150 ≤ n) (a b : List Int) (ha : Dig a) (hb : Dig b) (la : a.length ≤ 45) (lb : b.length ≤ 45) :
    ∀ (k i : Nat) (pre cur : List Int), pre.length = i → i ≤ a.length → pre.length + cur.length = a.length + b.length + 1 → Bd (81 * i) (pre ++ cur) → a.length < k + i →
      ∃ X, X.length = cur.length ∧ nv X = nv cur + nv (a.drop i) * nv b ∧ ∃ l e, Dig l ∧ 0 ≤ e ∧ nv l + e * (10 : Int) ^ (a.length + b.length + 1) = nv (pre ++ X) ∧
        rounds (fun self v => St115b2.dn (n + 1) (R n) [self] [.agg [dl a, dl b], v]) k (.agg [.int .i64 i, dl (pre ++ cur)]) = some (.agg [dl (trim l)]) := by
  intro k
  induction k with
  | zero => intro i pre cur h1 h2 h3 h4 h6; omega
  | succ k ih =>
    intro i pre cur h1 h2 h3 h4 h6
    simp only [rounds_s]
    by_cases hi : i < a.length
    · have ga := ha.get (i := i)
      generalize hself : rounds (fun self v => St115b2.dn (n + 1) (R n) [self] [.agg [dl a, dl b], v]) k = self at ih ⊢
      obtain ⟨l, q1, q2, q3, q6⟩ := inner115 (n + 1) (R n) self a b hb lb (a.getD i 0) ga.1 ga.2 i (by omega) rfl (dl (pre ++ cur)) (81 * i) (by omega) (by omega) (n + 1) 0 pre cur (by omega) (fun x hx => h4 x (List.mem_append_right _ hx)) (by omega) (by omega) (by omega) (by omega)
      cases l with
      | nil => simp at q2; omega
      | cons d l =>
        have e81 : (81 * (i : Int) + 81) = 81 * ((i + 1 : Nat) : Int) := by omega
        rw [e81] at q1
        obtain ⟨X, p1, p2, l', e, p3, p4, p5, p6⟩ := ih (i + 1) (pre ++ [d]) l (by rw [len_snoc]; omega) (by omega) (by rw [len_snoc]; simp at q2; omega) (by
          rw [List.append_assoc]
          exact Bd.app (fun x hx => by have := h4 x (List.mem_append_left _ hx); omega) q1) (by omega)
        clear ih
        rw [List.append_assoc, Int.natCast_add, Int.natCast_one] at p6
        rw [List.append_assoc] at p5
        refine ⟨d :: X, by rw [← q2, List.length_cons, List.length_cons, p1], ?_, l', e, p3, p4, p5, ?_⟩
        · rw [List.drop_zero] at q3
          rw [drop_cons hi, nv_cons, nv_cons, mul_nv', p2]
          rw [nv_cons] at q3
          omega
        · simp (disch := omega) only [St115b2, dn_ret, dn_call, dn_loop, dn_cont0, ite_lss, ite_leq, ite_gtr, ite_geq, ite_eql, ite_neq, ite_not, ite_seql, ite_beql, ite_bneq, ite_fld, need_leq', need_lss', need_neq0, b_true, b_false, se_var, se_lit, se_o1, se_o2, se_o3, get0, getS, pc_agg, pi_int, pb_bool, ps_str, o_not, o_len, o_fld, o_slen, o_conv, o_add, o_sub, o_mul, o_quo, o_rem, o_lss, o_leq, o_gtr, o_geq, o_eql, o_neq, o_sadd, o_seql, o_bneq, o_beql, o_mx, o_mkS, o_idx, o_snoc, o_cat, o_subl, o_upd, o_ssub, o_sidx, w64, w8, List.nil_append, List.cons_append, dl_nil]
          rw [lt_pos (by omega)]
          rw [Int.natCast_zero] at q6
          exact q6.trans p6
    · clear ih
      generalize rounds _ k = self
      obtain ⟨l, e, q1, q2, q3, q4, q6⟩ := pass115 n hn self (.agg [dl a, dl b]) (.agg [.int .i64 i, dl (pre ++ cur)]) (n + 1) [] (pre ++ cur) 0 (h4.mono (by omega)) (by omega) (by omega) (by rw [List.length_append]; omega) (by rw [List.length_append, List.length_nil]; omega)
      have hlen : (pre ++ cur).length = a.length + b.length + 1 := by rw [List.length_append]; omega
      rw [hlen, Int.add_zero] at q4
      refine ⟨cur, rfl, by rw [drop_nil hi, nv_nil]; omega, l, e, q1, q3, q4, ?_⟩
      simp (disch := omega) only [St115b2, dn_ret, dn_call, dn_loop, dn_cont0, ite_lss, ite_leq, ite_gtr, ite_geq, ite_eql, ite_neq, ite_not, ite_seql, ite_beql, ite_bneq, ite_fld, need_leq', need_lss', need_neq0, b_true, b_false, se_var, se_lit, se_o1, se_o2, se_o3, get0, getS, pc_agg, pi_int, pb_bool, ps_str, o_not, o_len, o_fld, o_slen, o_conv, o_add, o_sub, o_mul, o_quo, o_rem, o_lss, o_leq, o_gtr, o_geq, o_eql, o_neq, o_sadd, o_seql, o_bneq, o_beql, o_mx, o_mkS, o_idx, o_snoc, o_cat, o_subl, o_upd, o_ssub, o_sidx, w64, w8, List.nil_append, List.cons_append, dl_nil]
      rw [lt_neg (by omega)]
      exact q6
theorem nv_lt : ∀ (l : List Int), Dig l → nv l < (10 : Int) ^ l.length
  | [], _ => by simp [nv_nil]
  | d :: l, h => by
    have := nv_lt l h.tail
    have := h.head
    rw [nv_cons, List.length_cons, Int.pow_succ]
    omega
theorem f115 {m : Nat} (hm : 160 ≤ m) (a b : List Int) (ha : Dig a) (hb : Dig b) (la : a.length ≤ 45) (lb : b.length ≤ 45) : R m 115 (.agg [dl a, dl b]) = some (.agg [dl (canon (nv a * nv b).toNat)]) := by
  obtain ⟨n, rfl⟩ : ∃ n, m = n + 1 := ⟨m - 1, by omega⟩
  obtain ⟨X, p1, p2, l, e, p3, p4, p5, p6⟩ := outer115 n (by omega) a b ha hb la lb (n + 1) 0 [] (List.replicate (a.length + b.length + 1) 0) rfl (by omega) (by simp) (by
    intro d hd
    rw [List.nil_append] at hd
    rw [List.eq_of_mem_replicate hd]
    omega) (by omega)
  rw [zeros_nv, List.drop_zero, Int.zero_add] at p2
  rw [List.nil_append, p2] at p5
  have hlt : nv a * nv b ≤ (10 : Int) ^ (a.length + b.length) := by
    rw [Int.pow_add]
    exact Int.mul_le_mul (Int.le_of_lt (nv_lt a ha)) (Int.le_of_lt (nv_lt b hb)) (nv_nonneg hb) (Int.le_of_lt (Int.lt_of_le_of_lt (nv_nonneg ha) (nv_lt a ha)))
  have hpos : 0 < (10 : Int) ^ (a.length + b.length) := Int.pow_pos (by omega)
  have he : e = 0 := by
    by_cases h : e = 0
    · exact h
    · have h1 : (1 : Int) ≤ e := by omega
      have := Int.mul_le_mul_of_nonneg_right h1 (Int.le_of_lt (Int.pow_pos (n := 10) (m := a.length + b.length + 1) (by omega)))
      have hl := nv_nonneg p3
      rw [Int.one_mul] at this
      rw [Int.pow_succ] at this p5
      omega
  subst he
  rw [Int.zero_mul, Int.add_zero] at p5
  rw [canon_trim p3, p5] at p6
  have ez : ((a.length : Int) + b.length + 1).toNat = a.length + b.length + 1 := by omega
  rw [R_succ n 115 _ rfl]
  simp (disch := omega) only [St115, dn_ret, dn_call, dn_loop, dn_cont0, ite_lss, ite_leq, ite_gtr, ite_geq, ite_eql, ite_neq, ite_not, ite_seql, ite_beql, ite_bneq, ite_fld, need_leq', need_lss', need_neq0, b_true, b_false, se_var, se_lit, se_o1, se_o2, se_o3, get0, getS, pc_agg, pi_int, pb_bool, ps_str, o_not, o_len, o_fld, o_slen, o_conv, o_add, o_sub, o_mul, o_quo, o_rem, o_lss, o_leq, o_gtr, o_geq, o_eql, o_neq, o_sadd, o_seql, o_bneq, o_beql, o_mx, o_mkS, o_idx, o_snoc, o_cat, o_subl, o_upd, o_ssub, o_sidx, w64, w8, List.nil_append, List.cons_append, dl_nil, o_zeros, ez]
  rw [le_pos (by omega), le_pos (by omega), le_pos (by omega)]
  exact p6

theorem sg_mul (x y : Int) : sg (!(decide (x < 0) == decide (y < 0))) ((x.natAbs : Int) * (y.natAbs : Int)) = x * y := by
  by_cases hx : x < 0 <;> by_cases hy : y < 0
  · have ex : (x.natAbs : Int) = -x := by omega
    have ey : (y.natAbs : Int) = -y := by omega
    simp [hx, hy, sg, ex, ey, Int.neg_mul, Int.mul_neg]
  · have ex : (x.natAbs : Int) = -x := by omega
    have ey : (y.natAbs : Int) = y := by omega
    simp [hx, hy, sg, ex, ey, Int.neg_mul, Int.mul_neg]
  · have ex : (x.natAbs : Int) = x := by omega
    have ey : (y.natAbs : Int) = -y := by omega
    simp [hx, hy, sg, ex, ey, Int.neg_mul, Int.mul_neg]
  · have ex : (x.natAbs : Int) = x := by omega
    have ey : (y.natAbs : Int) = y := by omega
    simp [hx, hy, sg, ex, ey, Int.neg_mul, Int.mul_neg]
theorem Sm_mul {x y : Int} (hx : Sm x 40) (hy : Sm y 40) : Sm (x * y) 80 := by
  refine Sm.of ?_
  rw [Int.natAbs_mul]
  have h1 := hx.lt
  have h2 := hy.lt
  calc x.natAbs * y.natAbs ≤ x.natAbs * 10 ^ 40 := Nat.mul_le_mul_left _ (Nat.le_of_lt h2)
    _ < 10 ^ 40 * 10 ^ 40 := Nat.mul_lt_mul_of_pos_right h1 (by decide)
    _ = 10 ^ 80 := by decide
theorem canon_mul (x y : Int) : (nv (canon x.natAbs) * nv (canon y.natAbs)).toNat = (x * y).natAbs := by
  rw [canon_nv, canon_nv, Int.natAbs_mul]
  omega
theorem f74 {m : Nat} (hm : 161 ≤ m) (x y : Int) (hx : Sm x 40) (hy : Sm y 40) : R m 74 (.agg [numV x, numV y]) = some (.agg [numV (x * y)]) := by
  obtain ⟨n, rfl⟩ : ∃ n, m = n + 1 := ⟨m - 1, by omega⟩
  have hxy := Sm_mul hx hy
  unfold Sm at hx hy hxy
  have e1 := f112 (m := n) (by omega) (canon x.natAbs) (canon y.natAbs) (canon_dig _) (canon_dig _) (by omega) (by omega)
  rw [canon_mul] at e1
  have e2 := f107 (m := n) (by omega) (!(decide (x < 0) == decide (y < 0))) (canon (x * y).natAbs) (by omega) (canon_dig _)
  rw [canon_nv, Int.natAbs_mul, Int.natCast_mul, sg_mul, ← Int.natAbs_mul] at e2
  rw [R_succ n 74 _ rfl]
  simp only [St74, dn_ret, dn_call, dn_loop, dn_cont0, ite_lss, ite_leq, ite_gtr, ite_geq, ite_eql, ite_neq, ite_not, ite_seql, ite_beql, ite_bneq, ite_fld, need_leq', need_lss', need_neq0, b_true, b_false, se_var, se_lit, se_o1, se_o2, se_o3, get0, getS, pc_agg, pi_int, pb_bool, ps_str, o_not, o_len, o_fld, o_slen, o_conv, o_add, o_sub, o_mul, o_quo, o_rem, o_lss, o_leq, o_gtr, o_geq, o_eql, o_neq, o_sadd, o_seql, o_bneq, o_beql, o_mx, o_mkS, o_idx, o_snoc, o_cat, o_subl, o_upd, o_ssub, o_sidx, w64, w8, List.nil_append, List.cons_append, dl_nil, numV, e1] at e2 ⊢
  rw [e2]
  rfl
theorem f76 {m : Nat} (hm : 161 ≤ m) {s t : List UInt8} {x y : Int} (hs : ∀ n, 101 ≤ n → R n 110 (.agg [.str s]) = some (digV x)) (ht : ∀ n, 101 ≤ n → R n 110 (.agg [.str t]) = some (digV y)) (hx : Sm x 40) (hy : Sm y 40) :
    R m 76 (.agg [.str s, .str t]) = some (fitV (x * y)) := by
  obtain ⟨n, rfl⟩ : ∃ n, m = n + 1 := ⟨m - 1, by omega⟩
  have hxy := Sm_mul hx hy
  unfold Sm at hx hy hxy
  have e1 := f115 (m := n) (by omega) (canon x.natAbs) (canon y.natAbs) (canon_dig _) (canon_dig _) (by omega) (by omega)
  rw [canon_mul] at e1
  have e2 := f114' (m := n) (by omega) (x * y).natAbs (!(decide (x < 0) == decide (y < 0))) (by omega)
  rw [Int.natAbs_mul, Int.natCast_mul, sg_mul, ← Int.natAbs_mul] at e2
  rw [R_succ n 76 _ rfl]
  simp (disch := omega) only [St76, dn_ret, dn_call, dn_loop, dn_cont0, ite_lss, ite_leq, ite_gtr, ite_geq, ite_eql, ite_neq, ite_not, ite_seql, ite_beql, ite_bneq, ite_fld, need_leq', need_lss', need_neq0, b_true, b_false, se_var, se_lit, se_o1, se_o2, se_o3, get0, getS, pc_agg, pi_int, pb_bool, ps_str, o_not, o_len, o_fld, o_slen, o_conv, o_add, o_sub, o_mul, o_quo, o_rem, o_lss, o_leq, o_gtr, o_geq, o_eql, o_neq, o_sadd, o_seql, o_bneq, o_beql, o_mx, o_mkS, o_idx, o_snoc, o_cat, o_subl, o_upd, o_ssub, o_sidx, w64, w8, List.nil_append, List.cons_append, dl_nil, hs n (by omega), ht n (by omega), digV, e1, e2, fitV_eta]
theorem f32 {m : Nat} (hm : 165 ≤ m) (a b : List UInt8) : R m 32 (.agg [.str a, .str b]) = some (if isIntL a = true ∧ isIntL b = true then fitV (Z a * Z b) else .agg [.str [], .bool false]) := by
  obtain ⟨n, rfl⟩ : ∃ n, m = n + 1 := ⟨m - 1, by omega⟩
  rw [R_succ n 32 _ rfl]
  by_cases h : isIntL a = true ∧ isIntL b = true
  · rw [if_pos h]
    have h74 := f74 (m := n) (by omega) (Z a) (Z b) (Z_Sm h.1) (Z_Sm h.2)
    have h75 := f75' (m := n) (by omega) (Z a * Z b) ((Sm_mul (Z_Sm h.1) (Z_Sm h.2)).mono (by omega))
    have eta : ∀ z, PV.agg [(O1.fld 0).dn (numV z), (O1.fld 1).dn (numV z)] = numV z := fun z => rfl
    simp (disch := omega) only [St32, dn_ret, dn_call, dn_loop, dn_cont0, ite_lss, ite_leq, ite_gtr, ite_geq, ite_eql, ite_neq, ite_not, ite_seql, ite_beql, ite_bneq, ite_fld, need_leq', need_lss', need_neq0, b_true, b_false, se_var, se_lit, se_o1, se_o2, se_o3, get0, getS, pc_agg, pi_int, pb_bool, ps_str, o_not, o_len, o_fld, o_slen, o_conv, o_add, o_sub, o_mul, o_quo, o_rem, o_lss, o_leq, o_gtr, o_geq, o_eql, o_neq, o_sadd, o_seql, o_bneq, o_beql, o_mx, o_mkS, o_idx, o_snoc, o_cat, o_subl, o_upd, o_ssub, o_sidx, w64, w8, List.nil_append, List.cons_append, dl_nil, f69 (m := n) (by omega) a b h.1 h.2, eta, h74, h75, fitV_eta]
  · rw [if_neg h]
    obtain ⟨p, q, e⟩ := f69' (m := n) (by omega) a b h
    simp only [St32, dn_ret, dn_call, dn_loop, dn_cont0, ite_lss, ite_leq, ite_gtr, ite_geq, ite_eql, ite_neq, ite_not, ite_seql, ite_beql, ite_bneq, ite_fld, need_leq', need_lss', need_neq0, b_true, b_false, se_var, se_lit, se_o1, se_o2, se_o3, get0, getS, pc_agg, pi_int, pb_bool, ps_str, o_not, o_len, o_fld, o_slen, o_conv, o_add, o_sub, o_mul, o_quo, o_rem, o_lss, o_leq, o_gtr, o_geq, o_eql, o_neq, o_sadd, o_seql, o_bneq, o_beql, o_mx, o_mkS, o_idx, o_snoc, o_cat, o_subl, o_upd, o_ssub, o_sidx, w64, w8, List.nil_append, List.cons_append, dl_nil, e]
theorem f33 {m : Nat} (a b : List UInt8) (hm : 165 ≤ m) (ha : a.length + 5 ≤ m) (hb : b.length + 5 ≤ m) (ha2 : a.length < 100000) (hb2 : b.length < 100000) : R m 33 (.agg [.str a, .str b]) = some (if isIntL a = true ∧ isIntL b = true then fitV (Z a * Z b) else .agg [.str [], .bool false]) := by
  obtain ⟨n, rfl⟩ : ∃ n, m = n + 1 := ⟨m - 1, by omega⟩
  rw [R_succ n 33 _ rfl]
  simp (disch := omega) only [St33, dn_ret, dn_call, dn_loop, dn_cont0, ite_lss, ite_leq, ite_gtr, ite_geq, ite_eql, ite_neq, ite_not, ite_seql, ite_beql, ite_bneq, ite_fld, need_leq', need_lss', need_neq0, b_true, b_false, se_var, se_lit, se_o1, se_o2, se_o3, get0, getS, pc_agg, pi_int, pb_bool, ps_str, o_not, o_len, o_fld, o_slen, o_conv, o_add, o_sub, o_mul, o_quo, o_rem, o_lss, o_leq, o_gtr, o_geq, o_eql, o_neq, o_sadd, o_seql, o_bneq, o_beql, o_mx, o_mkS, o_idx, o_snoc, o_cat, o_subl, o_upd, o_ssub, o_sidx, w64, w8, List.nil_append, List.cons_append, dl_nil, f72 (m := n) a (by omega) ha2, f72 (m := n) b (by omega) hb2]
  by_cases h1 : isIntL a = true
  · rw [h1]
    by_cases h2 : isIntL b = true
    · rw [h2, f76 (m := n) (by omega) (fun n hn => f110Z hn h1) (fun n hn => f110Z hn h2) (Z_Sm h1) (Z_Sm h2)]
      simp only [dn_ret, dn_call, dn_loop, dn_cont0, ite_lss, ite_leq, ite_gtr, ite_geq, ite_eql, ite_neq, ite_not, ite_seql, ite_beql, ite_bneq, ite_fld, need_leq', need_lss', need_neq0, b_true, b_false, se_var, se_lit, se_o1, se_o2, se_o3, get0, getS, pc_agg, pi_int, pb_bool, ps_str, o_not, o_len, o_fld, o_slen, o_conv, o_add, o_sub, o_mul, o_quo, o_rem, o_lss, o_leq, o_gtr, o_geq, o_eql, o_neq, o_sadd, o_seql, o_bneq, o_beql, o_mx, o_mkS, o_idx, o_snoc, o_cat, o_subl, o_upd, o_ssub, o_sidx, w64, w8, List.nil_append, List.cons_append, dl_nil, fitV_eta, and_self, if_true]
    · have h2 : isIntL b = false := by simpa using h2
      rw [h2]; simp; rfl
  · have h1 : isIntL a = false := by simpa using h1
    rw [h1]; simp; rfl
/-- The draw. -/
theorem fDraw {m : Nat} (hm : 200 ≤ m) (l : List UInt8) (hl : l.length ≤ 100000000) :
    ∃ x y, R m 31 (.agg [bl l]) = some (.agg [.str x, .str y]) ∧ x.length ≤ 301 ∧ y.length ≤ 301 := by
  obtain ⟨n, rfl⟩ : ∃ n, m = n + 1 := ⟨m - 1, by omega⟩
  have hl' : (l.take 4000).length ≤ 4000 := by rw [List.length_take]; omega
  have e0 := f48 (m := n) (by omega) l hl
  obtain ⟨s1, j1, e1, l1, j10, j11⟩ := f68 (m := n) (by omega) (l.take 4000) 0 hl' (by omega) (by omega)
  obtain ⟨x2, j2, e2, x20, x21, j20, j21⟩ := f62 (m := n) (by omega) (l.take 4000) j1 6 hl' (by omega) (by omega) (by omega) (by omega)
  obtain ⟨s3, j3, e3, l3, j30, j31⟩ := f68 (m := n) (by omega) (l.take 4000) j2 hl' (by omega) (by omega)
  simp only [rndV] at e0 e1 e2 e3
  rw [R_succ n 31 _ rfl]
  simp (disch := omega) only [St31, dn_ret, dn_call, dn_loop, dn_cont0, ite_lss, ite_leq, ite_gtr, ite_geq, ite_eql, ite_neq, ite_not, ite_seql, ite_beql, ite_bneq, ite_fld, need_leq', need_lss', need_neq0, b_true, b_false, se_var, se_lit, se_o1, se_o2, se_o3, get0, getS, pc_agg, pi_int, pb_bool, ps_str, o_not, o_len, o_fld, o_slen, o_conv, o_add, o_sub, o_mul, o_quo, o_rem, o_lss, o_leq, o_gtr, o_geq, o_eql, o_neq, o_sadd, o_seql, o_bneq, o_beql, o_mx, o_mkS, o_idx, o_snoc, o_cat, o_subl, o_upd, o_ssub, o_sidx, w64, w8, List.nil_append, List.cons_append, bl_nil, e0, e1, e2, e3]
  by_cases h : x2 = 0
  · rw [eq_pos h]; exact ⟨s1, s1, rfl, l1, l1⟩
  · rw [eq_neg h]; exact ⟨s1, s3, rfl, l1, l3⟩
end Go.Dv
