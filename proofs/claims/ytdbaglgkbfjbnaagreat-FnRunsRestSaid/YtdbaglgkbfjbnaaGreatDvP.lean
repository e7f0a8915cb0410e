/- Reasoning on trees: the rules. -/
import Derived.Test.YtdbaglgkbfjbnaaGreatDvS

set_option linter.unusedVariables false
set_option linter.unusedSimpArgs false
namespace Go.Dv
open Go.Proofs

def R (n : Nat) : FuncId → PV → Option PV := run (fun _ => none) Strees n
theorem R_ok (n : Nat) : GOk Tryz.prog Stab (R n) := run_ok Stab_ok (fun f g sg v r h => by simp at h) Strees_ok n
theorem R_succ (n f : Nat) (v : PV) {t : Tree} (h : Strees f = some t) : R (n + 1) f v = t.dn (n + 1) (R n) [] [v] := by
  show run (fun _ => none) Strees (n + 1) f v = _
  simp only [run, h]
  rfl

/-! Branches, by what is compared. -/
def ltE (a b : Int) (A B : Option PV) : Option PV := if a < b then A else B
def leE (a b : Int) (A B : Option PV) : Option PV := if a ≤ b then A else B
def eqE (a b : Int) (A B : Option PV) : Option PV := if a = b then A else B
def seqE (a b : List UInt8) (A B : Option PV) : Option PV := if a = b then A else B
def bE (b : Bool) (A B : Option PV) : Option PV := if b = true then A else B
theorem lt_pos {a b : Int} {A B : Option PV} (h : a < b) : ltE a b A B = A := if_pos h
theorem lt_neg {a b : Int} {A B : Option PV} (h : ¬ a < b) : ltE a b A B = B := if_neg h
theorem le_pos {a b : Int} {A B : Option PV} (h : a ≤ b) : leE a b A B = A := if_pos h
theorem le_neg {a b : Int} {A B : Option PV} (h : ¬ a ≤ b) : leE a b A B = B := if_neg h
theorem eq_pos {a b : Int} {A B : Option PV} (h : a = b) : eqE a b A B = A := if_pos h
theorem eq_neg {a b : Int} {A B : Option PV} (h : ¬ a = b) : eqE a b A B = B := if_neg h
theorem seq_pos {a b : List UInt8} {A B : Option PV} (h : a = b) : seqE a b A B = A := if_pos h
theorem seq_neg {a b : List UInt8} {A B : Option PV} (h : ¬ a = b) : seqE a b A B = B := if_neg h
theorem b_true {A B : Option PV} : bE true A B = A := rfl
theorem b_false {A B : Option PV} : bE false A B = B := rfl

section
variable {n : Nat} {G : FuncId → PV → Option PV} {L : List (PV → Option PV)} {env : List PV} {a b : Tree} {x y : SE} {k : IntKind}
theorem dn_ret : (Tree.ret x).dn n G L env = some (x.dn env) := (rfl)
theorem dn_call {f : FuncId} : (Tree.call f x a).dn n G L env = match G f (x.dn env) with | some r => a.dn n G L (env ++ [r]) | none => none := (rfl)
theorem dn_loop : (Tree.loop x a).dn n G L env = rounds (fun self v => a.dn n G (L ++ [self]) (env ++ [v])) n (x.dn env) := (rfl)
theorem dn_cont0 {f : PV → Option PV} : (Tree.cont 0 x).dn n G (f :: L) env = f (x.dn env) := (rfl)
theorem dn_cont1 {f g : PV → Option PV} : (Tree.cont 1 x).dn n G (f :: g :: L) env = g (x.dn env) := (rfl)
theorem dn_lab : (Tree.lab b a).dn n G L env = a.dn n G (L ++ [fun v => b.dn n G L (env ++ [v])]) env := (rfl)
theorem dn_ite {c : SE} {q : Bool} (h : c.dn env = .bool q) : (Tree.ite c a b).dn n G L env = if q = true then a.dn n G L env else b.dn n G L env := by
  simp only [Tree.dn, h]
  cases q <;> rfl
theorem dn_need {c : SE} {q : Bool} (h : c.dn env = .bool q) : (Tree.need c a).dn n G L env = if q = true then a.dn n G L env else none := by
  simp only [Tree.dn, h]
  cases q <;> rfl
theorem ite_lss : (Tree.ite (.o2 (.int .lss k) x y) a b).dn n G L env = ltE (x.dn env).i (y.dn env).i (a.dn n G L env) (b.dn n G L env) := by rw [dn_ite rfl]; unfold ltE; by_cases h : (x.dn env).i < (y.dn env).i <;> simp [h]
theorem ite_leq : (Tree.ite (.o2 (.int .leq k) x y) a b).dn n G L env = leE (x.dn env).i (y.dn env).i (a.dn n G L env) (b.dn n G L env) := by rw [dn_ite rfl]; unfold leE; by_cases h : (x.dn env).i ≤ (y.dn env).i <;> simp [h]
theorem ite_gtr : (Tree.ite (.o2 (.int .gtr k) x y) a b).dn n G L env = ltE (y.dn env).i (x.dn env).i (a.dn n G L env) (b.dn n G L env) := by rw [dn_ite rfl]; unfold ltE; by_cases h : (y.dn env).i < (x.dn env).i <;> simp [h]
theorem ite_geq : (Tree.ite (.o2 (.int .geq k) x y) a b).dn n G L env = leE (y.dn env).i (x.dn env).i (a.dn n G L env) (b.dn n G L env) := by rw [dn_ite rfl]; unfold leE; by_cases h : (y.dn env).i ≤ (x.dn env).i <;> simp [h]
theorem ite_eql : (Tree.ite (.o2 (.int .eql k) x y) a b).dn n G L env = eqE (x.dn env).i (y.dn env).i (a.dn n G L env) (b.dn n G L env) := by rw [dn_ite rfl]; unfold eqE; by_cases h : (x.dn env).i = (y.dn env).i <;> simp [h]
theorem ite_neq : (Tree.ite (.o2 (.int .neq k) x y) a b).dn n G L env = eqE (x.dn env).i (y.dn env).i (b.dn n G L env) (a.dn n G L env) := by rw [dn_ite rfl]; unfold eqE; by_cases h : (x.dn env).i = (y.dn env).i <;> simp [h]
theorem ite_not : (Tree.ite (.o1 .not x) a b).dn n G L env = bE (x.dn env).b (b.dn n G L env) (a.dn n G L env) := by rw [dn_ite rfl]; unfold bE; cases (x.dn env).b <;> simp
theorem ite_seql : (Tree.ite (.o2 (.str .eql) x y) a b).dn n G L env = seqE (x.dn env).s (y.dn env).s (a.dn n G L env) (b.dn n G L env) := by rw [dn_ite rfl]; unfold seqE; by_cases h : (x.dn env).s = (y.dn env).s <;> simp [h]
theorem ite_beql : (Tree.ite (.o2 (.bool .eql) x y) a b).dn n G L env = bE ((x.dn env).b == (y.dn env).b) (a.dn n G L env) (b.dn n G L env) := by rw [dn_ite rfl]; unfold bE; cases ((x.dn env).b == (y.dn env).b) <;> simp
theorem ite_bneq : (Tree.ite (.o2 (.bool .neq) x y) a b).dn n G L env = bE ((x.dn env).b == (y.dn env).b) (b.dn n G L env) (a.dn n G L env) := by rw [dn_ite rfl]; unfold bE; cases ((x.dn env).b == (y.dn env).b) <;> simp
theorem ite_fld {i : Nat} : (Tree.ite (.o1 (.fld i) x) a b).dn n G L env = match (x.dn env).cs.getD i (.bool false) with | .bool true => a.dn n G L env | .bool false => b.dn n G L env | _ => none := (rfl)
theorem need_lss' : (Tree.need (.o2 (.int .lss k) x y) a).dn n G L env = ltE (x.dn env).i (y.dn env).i (a.dn n G L env) none := by rw [dn_need rfl]; unfold ltE; by_cases h : (x.dn env).i < (y.dn env).i <;> simp [h]
theorem need_leq' : (Tree.need (.o2 (.int .leq k) x y) a).dn n G L env = leE (x.dn env).i (y.dn env).i (a.dn n G L env) none := by rw [dn_need rfl]; unfold leE; by_cases h : (x.dn env).i ≤ (y.dn env).i <;> simp [h]
theorem need_neq0 : (Tree.need (.o1 .not (.o2 (.int .eql k) x y)) a).dn n G L env = eqE (x.dn env).i (y.dn env).i none (a.dn n G L env) := by
  rw [dn_need (q := !decide ((x.dn env).i = (y.dn env).i)) rfl]
  unfold eqE
  by_cases h : (x.dn env).i = (y.dn env).i <;> simp [h]
end
theorem rounds_s (F : (PV → Option PV) → PV → Option PV) (k : Nat) (v : PV) : rounds F (k + 1) v = F (rounds F k) v := (rfl)

/-! Expressions. -/
section
variable {env : List PV}
theorem se_var (i : Nat) : (SE.var i).dn env = env.getD i (.bool false) := (rfl)
theorem se_lit (v : PV) : (SE.lit v).dn env = v := (rfl)
theorem se_o1 (o : O1) (a : SE) : (SE.o1 o a).dn env = o.dn (a.dn env) := (rfl)
theorem se_o2 (o : O2) (a b : SE) : (SE.o2 o a b).dn env = o.dn (a.dn env) (b.dn env) := (rfl)
theorem se_o3 (o : O3) (a b c : SE) : (SE.o3 o a b c).dn env = o.dn (a.dn env) (b.dn env) (c.dn env) := (rfl)
end
theorem get0 (a : PV) (l : List PV) : (a :: l).getD 0 (.bool false) = a := (rfl)
theorem getS (a : PV) (l : List PV) (n : Nat) : (a :: l).getD (n + 1) (.bool false) = l.getD n (.bool false) := (rfl)
theorem pi_int (k : IntKind) (n : Int) : (PV.int k n).i = n := (rfl)
theorem pb_bool (b : Bool) : (PV.bool b).b = b := (rfl)
theorem ps_str (l : List UInt8) : (PV.str l).s = l := (rfl)
theorem pl_list (n : Nat) (g : Bool) (l : List PV) : (PV.list n g l).l = l := (rfl)
theorem pc_agg (l : List PV) : (PV.agg l).cs = l := (rfl)

def dl (l : List Int) : PV := .list 1 false (l.map (PV.int .i64))
theorem dl_nil : PV.list 1 false [] = dl [] := rfl
theorem o_not (a : PV) : O1.not.dn a = .bool (!a.b) := (rfl)
theorem o_len (l : List Int) : O1.len.dn (dl l) = .int .i64 l.length := by simp [O1.dn, dl, PV.l]
theorem o_fld (i : Nat) (l : List PV) : (O1.fld i).dn (.agg l) = l.getD i (.bool false) := (rfl)
theorem o_slen (a : PV) : O1.slen.dn a = .int .i64 a.s.length := (rfl)
theorem o_conv (k : IntKind) (a : PV) : (O1.conv k).dn a = .int k (k.wrap a.i) := (rfl)
theorem o_neg (k : IntKind) (a : PV) : (O1.neg k).dn a = .int k (k.wrap (-a.i)) := (rfl)
theorem o_add (k : IntKind) (a b : PV) : (O2.int .add k).dn a b = .int k (k.wrap (a.i + b.i)) := (rfl)
theorem o_sub (k : IntKind) (a b : PV) : (O2.int .sub k).dn a b = .int k (k.wrap (a.i - b.i)) := (rfl)
theorem o_mul (k : IntKind) (a b : PV) : (O2.int .mul k).dn a b = .int k (k.wrap (a.i * b.i)) := (rfl)
theorem o_quo (k : IntKind) (a b : PV) : (O2.int .quo k).dn a b = .int k (k.wrap (a.i.tdiv b.i)) := (rfl)
theorem o_rem (k : IntKind) (a b : PV) : (O2.int .rem k).dn a b = .int k (a.i.tmod b.i) := (rfl)
theorem o_lss (k : IntKind) (a b : PV) : (O2.int .lss k).dn a b = .bool (decide (a.i < b.i)) := (rfl)
theorem o_leq (k : IntKind) (a b : PV) : (O2.int .leq k).dn a b = .bool (decide (a.i ≤ b.i)) := (rfl)
theorem o_gtr (k : IntKind) (a b : PV) : (O2.int .gtr k).dn a b = .bool (decide (b.i < a.i)) := (rfl)
theorem o_geq (k : IntKind) (a b : PV) : (O2.int .geq k).dn a b = .bool (decide (b.i ≤ a.i)) := (rfl)
theorem o_eql (k : IntKind) (a b : PV) : (O2.int .eql k).dn a b = .bool (decide (a.i = b.i)) := (rfl)
theorem o_neq (k : IntKind) (a b : PV) : (O2.int .neq k).dn a b = .bool (!decide (a.i = b.i)) := (rfl)
theorem o_sadd (a b : PV) : (O2.str .add).dn a b = .str (a.s ++ b.s) := (rfl)
theorem o_seql (a b : PV) : (O2.str .eql).dn a b = .bool (decide (a.s = b.s)) := (rfl)
theorem o_bneq (a b : PV) : (O2.bool .neq).dn a b = .bool (!(a.b == b.b)) := (rfl)
theorem o_beql (a b : PV) : (O2.bool .eql).dn a b = .bool (a.b == b.b) := (rfl)
theorem o_mx (k : IntKind) (a b : PV) : (O2.mx k).dn a b = .int k (if b.i > a.i then b.i else a.i) := (rfl)
theorem o_mkS (l : List PV) (x : PV) : O2.mkS.dn (.agg l) x = .agg (l ++ [x]) := (rfl)
theorem o_idx (l : List Int) (i : PV) : (O2.idx.dn (dl l) i).i = l.getD i.i.toNat 0 := by
  simp only [O2.dn, dl, PV.l, List.getD_eq_getElem?_getD, List.getElem?_map]
  cases l[i.i.toNat]? <;> rfl
theorem o_idx' (l : List Int) (i : PV) (h : i.i.toNat < l.length) : O2.idx.dn (dl l) i = .int .i64 (l.getD i.i.toNat 0) := by
  simp only [O2.dn, dl, PV.l, List.getD_eq_getElem?_getD, List.getElem?_map]
  rw [List.getElem?_eq_getElem h]
  rfl
theorem o_snoc (l : List Int) (x : Int) : O2.snoc.dn (dl l) (.int .i64 x) = dl (l ++ [x]) := by simp [O2.dn, dl]
theorem o_cat (l m : List Int) : O2.cat.dn (dl l) (dl m) = dl (l ++ m) := by simp [O2.dn, dl, PV.l]
theorem o_subl (l : List Int) (a b : PV) : O3.sub.dn (dl l) a b = dl ((l.take b.i.toNat).drop a.i.toNat) := by simp [O3.dn, dl, List.map_drop, List.map_take]
theorem o_upd (l : List Int) (k : IntKind) (j x : Int) (h : 0 ≤ j) : O3.upd.dn (dl l) (.int k j) (.int .i64 x) = dl (l.set j.toNat x) := by simp [O3.dn, dl, updL, PV.i, h, List.map_set]
theorem o_ssub (a lo hi : PV) : O3.ssub.dn a lo hi = .str ((a.s.take hi.i.toNat).drop lo.i.toNat) := (rfl)
theorem o_sidx (a i : PV) : O2.sidx.dn a i = .int .u8 (a.s.getD i.i.toNat 0).toNat := (rfl)
theorem o_zeros (n : PV) : (O1.zeros 1 false (.int .i64 0)).dn n = dl (List.replicate n.i.toNat 0) := by simp [O1.dn, dl]
theorem w64 {n : Int} (h1 : -9223372036854775808 ≤ n) (h2 : n < 9223372036854775808) : IntKind.i64.wrap n = n := by
  simp [IntKind.wrap, IntKind.bits, IntKind.signed]; omega
theorem w8 {n : Int} (h1 : 0 ≤ n) (h2 : n < 256) : IntKind.u8.wrap n = n := by
  simp [IntKind.wrap, IntKind.bits, IntKind.signed]; omega

/-! Digits. -/
def trim (l : List Int) : List Int := (l.reverse.dropWhile (· == 0)).reverse
theorem trim_nil : trim [] = [] := rfl
theorem trim_snoc (l : List Int) (d : Int) : trim (l ++ [d]) = if d = 0 then trim l else l ++ [d] := by
  unfold trim
  rw [List.reverse_append]
  simp only [List.reverse_cons, List.reverse_nil, List.nil_append, List.singleton_append, List.dropWhile_cons]
  by_cases h : d = 0
  · simp [h]
  · simp [h]
end Go.Dv

/- The functions on digits: trimmed, prefixes, what an integer is. -/
set_option linter.unusedVariables false
set_option linter.unusedSimpArgs false
namespace Go.Dv

theorem trim117 (n : Nat) (G : FuncId → PV → Option PV) (v0 : PV) : ∀ (m : Nat) (l : List Int), l.length = m → m < 1000000 → ∀ k, m < k → rounds (fun self v => St117b0.dn n G [self] [v0, v]) k (.agg [dl l]) = some (.agg [dl (trim l)]) := by
  intro m
  induction m with
  | zero =>
    intro l hl hm k hk
    obtain ⟨k, rfl⟩ : ∃ j, k = j + 1 := ⟨k - 1, by omega⟩
    have : l = [] := List.length_eq_zero_iff.1 hl
    subst this
    rw [rounds_s]
    generalize rounds _ k = self
    simp only [St117b0, dn_ret, dn_call, dn_loop, dn_cont0, ite_lss, ite_leq, ite_gtr, ite_geq, ite_eql, ite_neq, ite_not, ite_seql, ite_beql, ite_bneq, ite_fld, need_leq', need_lss', need_neq0, b_true, b_false, se_var, se_lit, se_o1, se_o2, se_o3, get0, getS, pc_agg, pi_int, pb_bool, ps_str, o_not, o_len, o_fld, o_slen, o_conv, o_add, o_sub, o_mul, o_quo, o_rem, o_lss, o_leq, o_gtr, o_geq, o_eql, o_neq, o_sadd, o_seql, o_bneq, o_beql, o_mx, o_mkS, o_idx, o_snoc, o_cat, o_subl, o_upd, o_ssub, o_sidx, w64, w8, List.nil_append, List.cons_append, dl_nil, List.length_nil]
    rfl
  | succ m ih =>
    intro l hl hm k hk
    obtain ⟨k, rfl⟩ : ∃ j, k = j + 1 := ⟨k - 1, by omega⟩
    obtain ⟨l, d, rfl⟩ : ∃ l' d, l = l' ++ [d] := by
      rcases List.eq_nil_or_concat l with rfl | ⟨l', d, rfl⟩
      · simp at hl
      · exact ⟨l', d, by simp⟩
    have hl' : l.length = m := by simpa using hl
    rw [rounds_s]
    have ih := ih l hl' (by omega) k (by omega)
    generalize rounds _ k = self at *
    have e : (l ++ [d]).getD m 0 = d := by simp [List.getD_eq_getElem?_getD, ← hl']
    have e2 : (l ++ [d]).take m = l := by rw [← hl']; simp
    simp (disch := omega) only [St117b0, dn_ret, dn_call, dn_loop, dn_cont0, ite_lss, ite_leq, ite_gtr, ite_geq, ite_eql, ite_neq, ite_not, ite_seql, ite_beql, ite_bneq, ite_fld, need_leq', need_lss', need_neq0, b_true, b_false, se_var, se_lit, se_o1, se_o2, se_o3, get0, getS, pc_agg, pi_int, pb_bool, ps_str, o_not, o_len, o_fld, o_slen, o_conv, o_add, o_sub, o_mul, o_quo, o_rem, o_lss, o_leq, o_gtr, o_geq, o_eql, o_neq, o_sadd, o_seql, o_bneq, o_beql, o_mx, o_mkS, o_idx, o_snoc, o_cat, o_subl, o_upd, o_ssub, o_sidx, w64, w8, List.nil_append, List.cons_append, dl_nil, hl, Int.add_sub_cancel, Int.natCast_add, Int.toNat_natCast, Int.natCast_one, e, e2, Int.toNat_zero, List.drop_zero]
    rw [lt_pos (by omega), le_pos (by omega), lt_pos (by omega), trim_snoc]
    by_cases hd : d = 0
    · rw [eq_pos hd, le_pos (by omega), if_pos hd]
      exact ih
    · rw [eq_neg hd, if_neg hd]

theorem trim155 (n : Nat) (G : FuncId → PV → Option PV) (l0 : List Int) (h0 : l0.length < 1000000) : ∀ (m : Nat), m ≤ l0.length → ∀ k, m < k → rounds (fun self v => St155b0.dn n G [self] [.agg [dl l0], v]) k (.agg [.int .i64 m]) = some (.agg [dl (trim (l0.take m))]) := by
  intro m
  induction m with
  | zero =>
    intro hl k hk
    obtain ⟨k, rfl⟩ : ∃ j, k = j + 1 := ⟨k - 1, by omega⟩
    rw [rounds_s]
    generalize rounds _ k = self
    simp (disch := omega) only [St155b0, dn_ret, dn_call, dn_loop, dn_cont0, ite_lss, ite_leq, ite_gtr, ite_geq, ite_eql, ite_neq, ite_not, ite_seql, ite_beql, ite_bneq, ite_fld, need_leq', need_lss', need_neq0, b_true, b_false, se_var, se_lit, se_o1, se_o2, se_o3, get0, getS, pc_agg, pi_int, pb_bool, ps_str, o_not, o_len, o_fld, o_slen, o_conv, o_add, o_sub, o_mul, o_quo, o_rem, o_lss, o_leq, o_gtr, o_geq, o_eql, o_neq, o_sadd, o_seql, o_bneq, o_beql, o_mx, o_mkS, o_idx, o_snoc, o_cat, o_subl, o_upd, o_ssub, o_sidx, w64, w8, List.nil_append, List.cons_append, dl_nil, Int.toNat_zero, List.drop_zero, Int.natCast_zero, List.take_zero]
    rw [lt_neg (by omega), le_pos (by omega), le_pos (by omega)]
    rfl
  | succ m ih =>
    intro hl k hk
    obtain ⟨k, rfl⟩ : ∃ j, k = j + 1 := ⟨k - 1, by omega⟩
    rw [rounds_s]
    have ih := ih (by omega) k (by omega)
    generalize rounds _ k = self at *
    have ht : l0.take (m + 1) = l0.take m ++ [l0.getD m 0] := by
      rw [List.take_add_one]
      simp [List.getD_eq_getElem?_getD, List.getElem?_eq_getElem (show m < l0.length by omega)]
    have e1 : ((m : Int) + 1).toNat = m + 1 := by omega
    simp (disch := omega) only [St155b0, dn_ret, dn_call, dn_loop, dn_cont0, ite_lss, ite_leq, ite_gtr, ite_geq, ite_eql, ite_neq, ite_not, ite_seql, ite_beql, ite_bneq, ite_fld, need_leq', need_lss', need_neq0, b_true, b_false, se_var, se_lit, se_o1, se_o2, se_o3, get0, getS, pc_agg, pi_int, pb_bool, ps_str, o_not, o_len, o_fld, o_slen, o_conv, o_add, o_sub, o_mul, o_quo, o_rem, o_lss, o_leq, o_gtr, o_geq, o_eql, o_neq, o_sadd, o_seql, o_bneq, o_beql, o_mx, o_mkS, o_idx, o_snoc, o_cat, o_subl, o_upd, o_ssub, o_sidx, w64, w8, List.nil_append, List.cons_append, dl_nil, Int.add_sub_cancel, Int.natCast_add, Int.toNat_natCast, Int.natCast_one, Int.toNat_zero, List.drop_zero, e1]
    rw [lt_pos (by omega), le_pos (by omega), lt_pos (by omega), ht, trim_snoc]
    by_cases hd : l0.getD m 0 = 0
    · rw [eq_pos hd, if_pos hd]
      exact ih
    · rw [eq_neg hd, if_neg hd, le_pos (by omega), le_pos (by omega)]

theorem f117 {m : Nat} (hm : 100 ≤ m) (l : List Int) (hl : l.length < 95) : R m 117 (.agg [dl l]) = some (.agg [dl (trim l)]) := by
  obtain ⟨n, rfl⟩ : ∃ n, m = n + 1 := ⟨m - 1, by omega⟩
  rw [R_succ n 117 _ rfl]
  simp only [St117, dn_ret, dn_call, dn_loop, dn_cont0, ite_lss, ite_leq, ite_gtr, ite_geq, ite_eql, ite_neq, ite_not, ite_seql, ite_beql, ite_bneq, ite_fld, need_leq', need_lss', need_neq0, b_true, b_false, se_var, se_lit, se_o1, se_o2, se_o3, get0, getS, pc_agg, pi_int, pb_bool, ps_str, o_not, o_len, o_fld, o_slen, o_conv, o_add, o_sub, o_mul, o_quo, o_rem, o_lss, o_leq, o_gtr, o_geq, o_eql, o_neq, o_sadd, o_seql, o_bneq, o_beql, o_mx, o_mkS, o_idx, o_snoc, o_cat, o_subl, o_upd, o_ssub, o_sidx, w64, w8, List.nil_append, List.cons_append, dl_nil]
  exact trim117 _ _ _ l.length l rfl (by omega) _ (by omega)
theorem f155 {m : Nat} (hm : 100 ≤ m) (l : List Int) (hl : l.length < 95) : R m 155 (.agg [dl l]) = some (.agg [dl (trim l)]) := by
  obtain ⟨n, rfl⟩ : ∃ n, m = n + 1 := ⟨m - 1, by omega⟩
  rw [R_succ n 155 _ rfl]
  simp only [St155, dn_ret, dn_call, dn_loop, dn_cont0, ite_lss, ite_leq, ite_gtr, ite_geq, ite_eql, ite_neq, ite_not, ite_seql, ite_beql, ite_bneq, ite_fld, need_leq', need_lss', need_neq0, b_true, b_false, se_var, se_lit, se_o1, se_o2, se_o3, get0, getS, pc_agg, pi_int, pb_bool, ps_str, o_not, o_len, o_fld, o_slen, o_conv, o_add, o_sub, o_mul, o_quo, o_rem, o_lss, o_leq, o_gtr, o_geq, o_eql, o_neq, o_sadd, o_seql, o_bneq, o_beql, o_mx, o_mkS, o_idx, o_snoc, o_cat, o_subl, o_upd, o_ssub, o_sidx, w64, w8, List.nil_append, List.cons_append, dl_nil]
  have := trim155 (n + 1) (R n) l (by omega) l.length (Nat.le_refl _) (n + 1) (by omega)
  rw [List.take_length] at this
  exact this

/-! Texts. -/
def negL (s : List UInt8) : Bool := decide (s.take 1 = [45])
def bodyL (s : List UInt8) : List UInt8 := if negL s then s.drop 1 else s
def isD (c : UInt8) : Bool := decide (48 ≤ c.toNat) && decide (c.toNat ≤ 57)
def digL (b : List UInt8) : List Int := b.reverse.map fun c => (c.toNat : Int) - 48
def isIntL (s : List UInt8) : Bool :=
  decide (1 ≤ (bodyL s).length) && decide ((bodyL s).length ≤ 40) && (bodyL s).all isD && !(decide ((bodyL s).getD 0 0 = 48) && (decide (1 < (bodyL s).length) || negL s))

theorem f152 {m : Nat} (hm : 1 ≤ m) (s : List UInt8) : R m 152 (.agg [.str s, .str [45]]) = some (.agg [.bool (negL s)]) := by
  obtain ⟨n, rfl⟩ : ∃ n, m = n + 1 := ⟨m - 1, by omega⟩
  rw [R_succ n 152 _ rfl]
  simp only [St152, dn_ret, dn_call, dn_loop, dn_cont0, ite_lss, ite_leq, ite_gtr, ite_geq, ite_eql, ite_neq, ite_not, ite_seql, ite_beql, ite_bneq, ite_fld, need_leq', need_lss', need_neq0, b_true, b_false, se_var, se_lit, se_o1, se_o2, se_o3, get0, getS, pc_agg, pi_int, pb_bool, ps_str, o_not, o_len, o_fld, o_slen, o_conv, o_add, o_sub, o_mul, o_quo, o_rem, o_lss, o_leq, o_gtr, o_geq, o_eql, o_neq, o_sadd, o_seql, o_bneq, o_beql, o_mx, o_mkS, o_idx, o_snoc, o_cat, o_subl, o_upd, o_ssub, o_sidx, w64, w8, List.nil_append, List.cons_append, dl_nil, List.length_cons, List.length_nil]
  by_cases h : 1 ≤ s.length
  · rw [le_pos (by omega), le_pos (by omega), le_pos (by omega)]
    rfl
  · rw [le_neg (by omega)]
    have : s = [] := List.length_eq_zero_iff.1 (by omega)
    subst this
    rfl
theorem f156 {m : Nat} (hm : 2 ≤ m) (s : List UInt8) : R m 156 (.agg [.str s, .str [45]]) = some (.agg [.str (bodyL s), .bool (negL s)]) := by
  obtain ⟨n, rfl⟩ : ∃ n, m = n + 1 := ⟨m - 1, by omega⟩
  rw [R_succ n 156 _ rfl]
  simp only [St156, dn_ret, dn_call, dn_loop, dn_cont0, ite_lss, ite_leq, ite_gtr, ite_geq, ite_eql, ite_neq, ite_not, ite_seql, ite_beql, ite_bneq, ite_fld, need_leq', need_lss', need_neq0, b_true, b_false, se_var, se_lit, se_o1, se_o2, se_o3, get0, getS, pc_agg, pi_int, pb_bool, ps_str, o_not, o_len, o_fld, o_slen, o_conv, o_add, o_sub, o_mul, o_quo, o_rem, o_lss, o_leq, o_gtr, o_geq, o_eql, o_neq, o_sadd, o_seql, o_bneq, o_beql, o_mx, o_mkS, o_idx, o_snoc, o_cat, o_subl, o_upd, o_ssub, o_sidx, w64, w8, List.nil_append, List.cons_append, dl_nil, f152 (m := n) (by omega), List.length_cons, List.length_nil]
  unfold bodyL
  cases hn : negL s with
  | false => rfl
  | true =>
    have h1 : 1 ≤ s.length := by
      unfold negL at hn
      cases s with
      | nil => simp at hn
      | cons a s => simp
    simp only [b_true]
    rw [le_pos (by omega), le_pos (by omega), le_pos (by omega)]
    have e : ((s.length : Int)).toNat = s.length := by omega
    have e2 : (((0 + 1 : Nat) : Int)).toNat = 1 := rfl
    rw [e, e2, List.take_length]
    rfl
theorem f116 {m : Nat} (hm : 3 ≤ m) (s : List UInt8) : R m 116 (.agg [.str s, .str [45]]) = some (.agg [.str (bodyL s), .bool (negL s)]) := by
  obtain ⟨n, rfl⟩ : ∃ n, m = n + 1 := ⟨m - 1, by omega⟩
  rw [R_succ n 116 _ rfl]
  simp only [St116, dn_ret, dn_call, dn_loop, dn_cont0, ite_lss, ite_leq, ite_gtr, ite_geq, ite_eql, ite_neq, ite_not, ite_seql, ite_beql, ite_bneq, ite_fld, need_leq', need_lss', need_neq0, b_true, b_false, se_var, se_lit, se_o1, se_o2, se_o3, get0, getS, pc_agg, pi_int, pb_bool, ps_str, o_not, o_len, o_fld, o_slen, o_conv, o_add, o_sub, o_mul, o_quo, o_rem, o_lss, o_leq, o_gtr, o_geq, o_eql, o_neq, o_sadd, o_seql, o_bneq, o_beql, o_mx, o_mkS, o_idx, o_snoc, o_cat, o_subl, o_upd, o_ssub, o_sidx, w64, w8, List.nil_append, List.cons_append, dl_nil, f156 (m := n) (by omega)]
end Go.Dv

/- What an integer is, to the program and to the reference; its digits. -/
set_option linter.unusedVariables false
set_option linter.unusedSimpArgs false
namespace Go.Dv

theorem u8_lt (c : UInt8) : c.toNat < 256 := UInt8.toNat_lt c
theorem isD_iff (c : UInt8) : isD c = true ↔ 48 ≤ c.toNat ∧ c.toNat ≤ 57 := by simp [isD]
theorem take_getD (b : List UInt8) (j : Nat) (h : j < b.length) : b.take (j + 1) = b.take j ++ [b.getD j 0] := by
  rw [List.take_add_one]
  simp [List.getD_eq_getElem?_getD, List.getElem?_eq_getElem h]
theorem digL_take (b : List UInt8) (j : Nat) (h : j < b.length) : digL (b.take (j + 1)) = ((b.getD j 0).toNat - 48 : Int) :: digL (b.take j) := by
  rw [take_getD b j h]
  simp [digL]
theorem digL_len (b : List UInt8) : (digL b).length = b.length := by simp [digL]

def failP : PV := .agg [.agg [.bool false, dl []], .bool false]
def numP (q : Bool) (l : List Int) : PV := .agg [.agg [.bool q, dl l], .bool true]

/-- The two loops of parseNumber. -/
theorem loop77 (n : Nat) (q : Bool) (b : List UInt8) (v0 : PV) (hb : b.length ≤ 40) (hn : 100 ≤ n) (B : Tree) (hB : B = St77b0 ∧ q = false ∨ B = St77b1) :
    ∀ (j : Nat), j ≤ b.length → ∀ (acc : List Int), acc.length + j ≤ 40 → ∀ k, j < k → rounds (fun self v => B.dn (n + 1) (R n) [self] [v0, .agg [.str b, .bool q], v]) k (.agg [.int .i64 ((j : Int) - 1), dl acc]) =
      some (if (b.take j).all isD then numP q (trim (acc ++ digL (b.take j))) else failP) := by
  intro j
  induction j with
  | zero =>
    intro hj acc ha k hk
    obtain ⟨k, rfl⟩ : ∃ i, k = i + 1 := ⟨k - 1, by omega⟩
    rw [rounds_s]
    generalize rounds _ k = self
    have hc : R n 117 (.agg [dl acc]) = some (.agg [dl (trim acc)]) := f117 hn acc (by omega)
    rcases hB with ⟨rfl, rfl⟩ | rfl
    · simp (disch := omega) only [St77b0, dn_ret, dn_call, dn_loop, dn_cont0, ite_lss, ite_leq, ite_gtr, ite_geq, ite_eql, ite_neq, ite_not, ite_seql, ite_beql, ite_bneq, ite_fld, need_leq', need_lss', need_neq0, b_true, b_false, se_var, se_lit, se_o1, se_o2, se_o3, get0, getS, pc_agg, pi_int, pb_bool, ps_str, o_not, o_len, o_fld, o_slen, o_conv, o_add, o_sub, o_mul, o_quo, o_rem, o_lss, o_leq, o_gtr, o_geq, o_eql, o_neq, o_sadd, o_seql, o_bneq, o_beql, o_mx, o_mkS, o_idx, o_snoc, o_cat, o_subl, o_upd, o_ssub, o_sidx, w64, w8, List.nil_append, List.cons_append, dl_nil, hc]
      rw [le_neg (by omega)]
      simp [digL, numP]
    · simp (disch := omega) only [St77b1, dn_ret, dn_call, dn_loop, dn_cont0, ite_lss, ite_leq, ite_gtr, ite_geq, ite_eql, ite_neq, ite_not, ite_seql, ite_beql, ite_bneq, ite_fld, need_leq', need_lss', need_neq0, b_true, b_false, se_var, se_lit, se_o1, se_o2, se_o3, get0, getS, pc_agg, pi_int, pb_bool, ps_str, o_not, o_len, o_fld, o_slen, o_conv, o_add, o_sub, o_mul, o_quo, o_rem, o_lss, o_leq, o_gtr, o_geq, o_eql, o_neq, o_sadd, o_seql, o_bneq, o_beql, o_mx, o_mkS, o_idx, o_snoc, o_cat, o_subl, o_upd, o_ssub, o_sidx, w64, w8, List.nil_append, List.cons_append, dl_nil, hc]
      rw [le_neg (by omega)]
      simp [digL, numP]
  | succ j ih =>
    intro hj acc ha k hk
    obtain ⟨k, rfl⟩ : ∃ i, k = i + 1 := ⟨k - 1, by omega⟩
    rw [rounds_s]
    have hu := u8_lt (b.getD j 0)
    have ih' := ih (by omega) (acc ++ [((b.getD j 0).toNat : Int) - 48]) (by simp; omega) k (by omega)
    clear ih
    have e1 : ((j + 1 : Nat) : Int) - 1 = (j : Int) := by omega
    have e2 : (j : Int).toNat = j := by omega
    have hall : (b.take (j + 1)).all isD = ((b.take j).all isD && isD (b.getD j 0)) := by rw [take_getD b j (by omega)]; simp
    rw [hall, digL_take b j (by omega)]
    generalize hself : rounds _ k = self at ih' ⊢
    have hlen : (acc ++ [((b.getD j 0).toNat : Int) - 48]).length = acc.length + 1 := by simp
    have hdd : isD (b.getD j 0) = (decide (48 ≤ (b.getD j 0).toNat) && decide ((b.getD j 0).toNat ≤ 57)) := rfl
    generalize hc : b.getD j 0 = c at ih' hu hlen hdd ⊢
    by_cases h1 : c.toNat < 48
    · have hd : isD c = false := by rw [hdd]; simp; omega
      rw [hd]
      rcases hB with ⟨rfl, rfl⟩ | rfl
      · simp (disch := omega) only [St77b0, dn_ret, dn_call, dn_loop, dn_cont0, ite_lss, ite_leq, ite_gtr, ite_geq, ite_eql, ite_neq, ite_not, ite_seql, ite_beql, ite_bneq, ite_fld, need_leq', need_lss', need_neq0, b_true, b_false, se_var, se_lit, se_o1, se_o2, se_o3, get0, getS, pc_agg, pi_int, pb_bool, ps_str, o_not, o_len, o_fld, o_slen, o_conv, o_add, o_sub, o_mul, o_quo, o_rem, o_lss, o_leq, o_gtr, o_geq, o_eql, o_neq, o_sadd, o_seql, o_bneq, o_beql, o_mx, o_mkS, o_idx, o_snoc, o_cat, o_subl, o_upd, o_ssub, o_sidx, w64, w8, List.nil_append, List.cons_append, dl_nil, e1, e2, hc]
        rw [le_pos (by omega), le_pos (by omega), lt_pos (by omega), lt_pos (by omega)]
        simp [failP]
      · simp (disch := omega) only [St77b1, dn_ret, dn_call, dn_loop, dn_cont0, ite_lss, ite_leq, ite_gtr, ite_geq, ite_eql, ite_neq, ite_not, ite_seql, ite_beql, ite_bneq, ite_fld, need_leq', need_lss', need_neq0, b_true, b_false, se_var, se_lit, se_o1, se_o2, se_o3, get0, getS, pc_agg, pi_int, pb_bool, ps_str, o_not, o_len, o_fld, o_slen, o_conv, o_add, o_sub, o_mul, o_quo, o_rem, o_lss, o_leq, o_gtr, o_geq, o_eql, o_neq, o_sadd, o_seql, o_bneq, o_beql, o_mx, o_mkS, o_idx, o_snoc, o_cat, o_subl, o_upd, o_ssub, o_sidx, w64, w8, List.nil_append, List.cons_append, dl_nil, e1, e2, hc]
        rw [le_pos (by omega), le_pos (by omega), lt_pos (by omega), lt_pos (by omega)]
        simp [failP]
    · by_cases h2 : 57 < c.toNat
      · have hd : isD c = false := by rw [hdd]; simp; omega
        rw [hd]
        rcases hB with ⟨rfl, rfl⟩ | rfl
        · simp (disch := omega) only [St77b0, dn_ret, dn_call, dn_loop, dn_cont0, ite_lss, ite_leq, ite_gtr, ite_geq, ite_eql, ite_neq, ite_not, ite_seql, ite_beql, ite_bneq, ite_fld, need_leq', need_lss', need_neq0, b_true, b_false, se_var, se_lit, se_o1, se_o2, se_o3, get0, getS, pc_agg, pi_int, pb_bool, ps_str, o_not, o_len, o_fld, o_slen, o_conv, o_add, o_sub, o_mul, o_quo, o_rem, o_lss, o_leq, o_gtr, o_geq, o_eql, o_neq, o_sadd, o_seql, o_bneq, o_beql, o_mx, o_mkS, o_idx, o_snoc, o_cat, o_subl, o_upd, o_ssub, o_sidx, w64, w8, List.nil_append, List.cons_append, dl_nil, e1, e2, hc]
          rw [le_pos (by omega), le_pos (by omega), lt_pos (by omega), lt_neg (by omega), lt_pos (by omega)]
          simp [failP]
        · simp (disch := omega) only [St77b1, dn_ret, dn_call, dn_loop, dn_cont0, ite_lss, ite_leq, ite_gtr, ite_geq, ite_eql, ite_neq, ite_not, ite_seql, ite_beql, ite_bneq, ite_fld, need_leq', need_lss', need_neq0, b_true, b_false, se_var, se_lit, se_o1, se_o2, se_o3, get0, getS, pc_agg, pi_int, pb_bool, ps_str, o_not, o_len, o_fld, o_slen, o_conv, o_add, o_sub, o_mul, o_quo, o_rem, o_lss, o_leq, o_gtr, o_geq, o_eql, o_neq, o_sadd, o_seql, o_bneq, o_beql, o_mx, o_mkS, o_idx, o_snoc, o_cat, o_subl, o_upd, o_ssub, o_sidx, w64, w8, List.nil_append, List.cons_append, dl_nil, e1, e2, hc]
          rw [le_pos (by omega), le_pos (by omega), lt_pos (by omega), lt_neg (by omega), lt_pos (by omega)]
          simp [failP]
      · have hd : isD c = true := by rw [hdd]; simp; omega
        rw [hd, Bool.and_true]
        have e3 : acc ++ ((c.toNat : Int) - 48) :: digL (b.take j) = acc ++ [(c.toNat : Int) - 48] ++ digL (b.take j) := by simp
        rw [e3]
        rcases hB with ⟨rfl, rfl⟩ | rfl
        · simp (disch := omega) only [St77b0, dn_ret, dn_call, dn_loop, dn_cont0, ite_lss, ite_leq, ite_gtr, ite_geq, ite_eql, ite_neq, ite_not, ite_seql, ite_beql, ite_bneq, ite_fld, need_leq', need_lss', need_neq0, b_true, b_false, se_var, se_lit, se_o1, se_o2, se_o3, get0, getS, pc_agg, pi_int, pb_bool, ps_str, o_not, o_len, o_fld, o_slen, o_conv, o_add, o_sub, o_mul, o_quo, o_rem, o_lss, o_leq, o_gtr, o_geq, o_eql, o_neq, o_sadd, o_seql, o_bneq, o_beql, o_mx, o_mkS, o_idx, o_snoc, o_cat, o_subl, o_upd, o_ssub, o_sidx, w64, w8, List.nil_append, List.cons_append, dl_nil, e1, e2, hc]
          rw [le_pos (by omega), le_pos (by omega), lt_pos (by omega), lt_neg (by omega), lt_neg (by omega), le_pos (by omega)]
          exact ih'
        · simp (disch := omega) only [St77b1, dn_ret, dn_call, dn_loop, dn_cont0, ite_lss, ite_leq, ite_gtr, ite_geq, ite_eql, ite_neq, ite_not, ite_seql, ite_beql, ite_bneq, ite_fld, need_leq', need_lss', need_neq0, b_true, b_false, se_var, se_lit, se_o1, se_o2, se_o3, get0, getS, pc_agg, pi_int, pb_bool, ps_str, o_not, o_len, o_fld, o_slen, o_conv, o_add, o_sub, o_mul, o_quo, o_rem, o_lss, o_leq, o_gtr, o_geq, o_eql, o_neq, o_sadd, o_seql, o_bneq, o_beql, o_mx, o_mkS, o_idx, o_snoc, o_cat, o_subl, o_upd, o_ssub, o_sidx, w64, w8, List.nil_append, List.cons_append, dl_nil, e1, e2, hc]
          rw [le_pos (by omega), le_pos (by omega), lt_pos (by omega), lt_neg (by omega), lt_neg (by omega), le_pos (by omega)]
          exact ih'

/-- parseNumber. -/
theorem f77 {m : Nat} (hm : 102 ≤ m) (s : List UInt8) : R m 77 (.agg [.str s]) = some (if isIntL s then numP (negL s) (trim (digL (bodyL s))) else failP) := by
  obtain ⟨n, rfl⟩ : ∃ n, m = n + 1 := ⟨m - 1, by omega⟩
  rw [R_succ n 77 _ rfl]
  simp only [St77, dn_ret, dn_call, dn_loop, dn_cont0, ite_lss, ite_leq, ite_gtr, ite_geq, ite_eql, ite_neq, ite_not, ite_seql, ite_beql, ite_bneq, ite_fld, need_leq', need_lss', need_neq0, b_true, b_false, se_var, se_lit, se_o1, se_o2, se_o3, get0, getS, pc_agg, pi_int, pb_bool, ps_str, o_not, o_len, o_fld, o_slen, o_conv, o_add, o_sub, o_mul, o_quo, o_rem, o_lss, o_leq, o_gtr, o_geq, o_eql, o_neq, o_sadd, o_seql, o_bneq, o_beql, o_mx, o_mkS, o_idx, o_snoc, o_cat, o_subl, o_upd, o_ssub, o_sidx, w64, w8, List.nil_append, List.cons_append, dl_nil, f116 (m := n) (by omega)]
  unfold isIntL
  generalize bodyL s = b
  generalize negL s = q
  have fin : ∀ r : Option PV, r = some failP → (decide (1 ≤ b.length) && decide (b.length ≤ 40) && b.all isD && !(decide (b.getD 0 0 = 48) && (decide (1 < b.length) || q))) = false → r = some (if (decide (1 ≤ b.length) && decide (b.length ≤ 40) && b.all isD && !(decide (b.getD 0 0 = 48) && (decide (1 < b.length) || q))) = true then numP q (trim (digL b)) else failP) := by
    intro r h1 h2
    rw [h2, h1]
    rfl
  by_cases h1 : b.length < 1
  · rw [lt_pos (by omega)]
    exact fin _ rfl (by have : ¬ 1 ≤ b.length := by omega
                        simp [this])
  · rw [lt_neg (by omega)]
    by_cases h2 : 40 < b.length
    · rw [lt_pos (by omega)]
      exact fin _ rfl (by have : ¬ b.length ≤ 40 := by omega
                          simp [this])
    · rw [lt_neg (by omega), lt_pos (by omega)]
      have l0 := loop77 n false b (.agg [.str s]) (by omega) (by omega) St77b0 (.inl ⟨rfl, rfl⟩) b.length (Nat.le_refl _) [] (by simp; omega) (n + 1) (by omega)
      have l1 := loop77 n q b (.agg [.str s]) (by omega) (by omega) St77b1 (.inr rfl) b.length (Nat.le_refl _) [] (by simp; omega) (n + 1) (by omega)
      rw [List.take_length, List.nil_append] at l0 l1
      have g1 : decide (1 ≤ b.length) = true := by simp; omega
      have g2 : decide (b.length ≤ 40) = true := by simp; omega
      have e0 : Int.toNat 0 = 0 := rfl
      rw [e0]
      have ew : IntKind.i64.wrap ((b.length : Int) - 1) = (b.length : Int) - 1 := w64 (by omega) (by omega)
      rw [ew]
      generalize hc : b.getD 0 0 = c at fin ⊢
      rw [g1, g2] at fin ⊢
      by_cases h3 : c = 48
      · rw [eq_pos (by rw [h3]; rfl)]
        have e3 : decide (c = 48) = true := by simp [h3]
        rw [e3] at fin ⊢
        by_cases h4 : 1 < b.length
        · rw [lt_pos (by omega)]
          exact fin _ rfl (by simp [h4])
        · rw [lt_neg (by omega)]
          have e4 : decide (1 < b.length) = false := by simp; omega
          rw [e4] at fin ⊢
          cases q with
          | true => exact fin _ rfl (by simp)
          | false =>
            show rounds _ _ _ = _
            rw [l0]
            simp
      · rw [eq_neg (by
          intro h
          have : c.toNat = 48 := by omega
          exact h3 (UInt8.toNat_inj.1 this))]
        rw [l1]
        simp [h3]

theorem f34 {m : Nat} (hm : 103 ≤ m) (s : List UInt8) : R m 34 (.agg [.str s]) = some (.agg [.bool (isIntL s)]) := by
  obtain ⟨n, rfl⟩ : ∃ n, m = n + 1 := ⟨m - 1, by omega⟩
  rw [R_succ n 34 _ rfl]
  simp only [St34, dn_ret, dn_call, dn_loop, dn_cont0, ite_lss, ite_leq, ite_gtr, ite_geq, ite_eql, ite_neq, ite_not, ite_seql, ite_beql, ite_bneq, ite_fld, need_leq', need_lss', need_neq0, b_true, b_false, se_var, se_lit, se_o1, se_o2, se_o3, get0, getS, pc_agg, pi_int, pb_bool, ps_str, o_not, o_len, o_fld, o_slen, o_conv, o_add, o_sub, o_mul, o_quo, o_rem, o_lss, o_leq, o_gtr, o_geq, o_eql, o_neq, o_sadd, o_seql, o_bneq, o_beql, o_mx, o_mkS, o_idx, o_snoc, o_cat, o_subl, o_upd, o_ssub, o_sidx, w64, w8, List.nil_append, List.cons_append, dl_nil, f77 (m := n) (by omega)]
  cases isIntL s <;> rfl

/-! The reference. -/
theorem f66 {m : Nat} (hm : 1 ≤ m) (x : Int) : R m 66 (.agg [.int .i64 x, .int .i64 1, .int .i64 40]) = some (.agg [.bool (decide (1 ≤ x) && decide (x ≤ 40))]) := by
  obtain ⟨n, rfl⟩ : ∃ n, m = n + 1 := ⟨m - 1, by omega⟩
  rw [R_succ n 66 _ rfl]
  simp only [St66, dn_ret, dn_call, dn_loop, dn_cont0, ite_lss, ite_leq, ite_gtr, ite_geq, ite_eql, ite_neq, ite_not, ite_seql, ite_beql, ite_bneq, ite_fld, need_leq', need_lss', need_neq0, b_true, b_false, se_var, se_lit, se_o1, se_o2, se_o3, get0, getS, pc_agg, pi_int, pb_bool, ps_str, o_not, o_len, o_fld, o_slen, o_conv, o_add, o_sub, o_mul, o_quo, o_rem, o_lss, o_leq, o_gtr, o_geq, o_eql, o_neq, o_sadd, o_seql, o_bneq, o_beql, o_mx, o_mkS, o_idx, o_snoc, o_cat, o_subl, o_upd, o_ssub, o_sidx, w64, w8, List.nil_append, List.cons_append, dl_nil]
  by_cases h : 1 ≤ x
  · rw [le_pos h]; simp only [h, decide_true, Bool.true_and]
  · rw [le_neg h]; simp [h]

end Go.Dv

/- Digits, least first, and what they are worth. -/
set_option linter.unusedVariables false
set_option linter.unusedSimpArgs false
namespace Go.Dv

def nv : List Int → Int
  | [] => 0
  | d :: l => d + 10 * nv l
def Dig (l : List Int) : Prop := ∀ d ∈ l, 0 ≤ d ∧ d ≤ 9
theorem Dig.nil : Dig [] := by intro d h; simp at h
theorem Dig.cons {d : Int} {l : List Int} (h1 : 0 ≤ d) (h2 : d ≤ 9) (h : Dig l) : Dig (d :: l) := by
  intro x hx
  rcases List.mem_cons.1 hx with rfl | hx
  · exact ⟨h1, h2⟩
  · exact h x hx
theorem Dig.tail {d : Int} {l : List Int} (h : Dig (d :: l)) : Dig l := fun x hx => h x (List.mem_cons_of_mem _ hx)
theorem Dig.head {d : Int} {l : List Int} (h : Dig (d :: l)) : 0 ≤ d ∧ d ≤ 9 := h d List.mem_cons_self
theorem Dig.app {l m : List Int} (h : Dig l) (h' : Dig m) : Dig (l ++ m) := by
  intro x hx
  rcases List.mem_append.1 hx with hx | hx
  · exact h x hx
  · exact h' x hx
theorem Dig.left {l m : List Int} (h : Dig (l ++ m)) : Dig l := fun x hx => h x (List.mem_append_left _ hx)
theorem Dig.right {l m : List Int} (h : Dig (l ++ m)) : Dig m := fun x hx => h x (List.mem_append_right _ hx)
theorem Dig.drop {l : List Int} (h : Dig l) (n : Nat) : Dig (l.drop n) := fun x hx => h x (List.mem_of_mem_drop hx)
theorem Dig.take {l : List Int} (h : Dig l) (n : Nat) : Dig (l.take n) := fun x hx => h x (List.mem_of_mem_take hx)
theorem Dig.get {l : List Int} (h : Dig l) {i : Nat} : 0 ≤ l.getD i 0 ∧ l.getD i 0 ≤ 9 := by
  rw [List.getD_eq_getElem?_getD]
  cases e : l[i]? with
  | none => simp
  | some d => exact h d (List.mem_of_getElem? e)
theorem nv_nil : nv [] = 0 := rfl
theorem nv_cons (d : Int) (l : List Int) : nv (d :: l) = d + 10 * nv l := rfl
theorem nv_nonneg {l : List Int} (h : Dig l) : 0 ≤ nv l := by
  induction l with
  | nil => exact Int.le_refl _
  | cons d l ih =>
    have := ih h.tail
    have := h.head
    rw [nv_cons]
    omega
theorem nv_app0 (l : List Int) : nv (l ++ [0]) = nv l := by
  induction l with
  | nil => rfl
  | cons d l ih => rw [List.cons_append, nv_cons, nv_cons, ih]
theorem trim_ind {P : List Int → List Int → Prop} (h0 : P [] []) (h1 : ∀ l, P l (trim l) → P (l ++ [0]) (trim l)) (h2 : ∀ l d, d ≠ 0 → P (l ++ [d]) (l ++ [d])) (l : List Int) : P l (trim l) := by
  generalize hm : l.length = m
  induction m generalizing l with
  | zero =>
    have : l = [] := List.length_eq_zero_iff.1 hm
    subst this
    exact h0
  | succ m ih =>
    obtain ⟨l, d, rfl⟩ : ∃ l' d, l = l' ++ [d] := by
      rcases List.eq_nil_or_concat l with rfl | ⟨l', d, rfl⟩
      · simp at hm
      · exact ⟨l', d, by simp⟩
    rw [trim_snoc]
    by_cases h : d = 0
    · rw [if_pos h, h]
      exact h1 l (ih l (by simpa using hm))
    · rw [if_neg h]
      exact h2 l d h
theorem nv_trim (l : List Int) : nv (trim l) = nv l :=
  trim_ind (P := fun l t => nv t = nv l) rfl (fun l h => by rw [nv_app0, h]) (fun _ _ _ => rfl) l
theorem Dig.trim {l : List Int} (h : Dig l) : Dig (trim l) := by
  have := trim_ind (P := fun l t => Dig l → Dig t) (fun h => h) (fun l ih h => ih h.left) (fun _ _ _ h => h) l
  exact this h
theorem trim_len (l : List Int) : (trim l).length ≤ l.length :=
  trim_ind (P := fun l t => t.length ≤ l.length) (Nat.le_refl _) (fun l h => by simp; omega) (fun _ _ _ => Nat.le_refl _) l
theorem nv_pos {l : List Int} {d : Int} (h : Dig (l ++ [d])) (hd : d ≠ 0) : 0 < nv (l ++ [d]) := by
  induction l with
  | nil =>
    have := h.head
    simp only [List.nil_append, nv_cons, nv_nil]
    omega
  | cons x l ih =>
    have := ih (by simpa using h.tail)
    have := h.head
    rw [List.cons_append, nv_cons]
    omega

/-- The digits of a number. -/
def canonF : Nat → Nat → List Int
  | 0, _ => []
  | k + 1, n => if n = 0 then [] else ((n % 10 : Nat) : Int) :: canonF k (n / 10)
def canon (n : Nat) : List Int := canonF n n
theorem canonF_eq : ∀ (k k' n : Nat), n ≤ k → n ≤ k' → canonF k n = canonF k' n := by
  intro k
  induction k with
  | zero =>
    intro k' n h _
    have : n = 0 := by omega
    subst this
    cases k' <;> rfl
  | succ k ih =>
    intro k' n h h'
    cases k' with
    | zero =>
      have : n = 0 := by omega
      subst this
      rfl
    | succ k' =>
      simp only [canonF]
      by_cases hn : n = 0
      · simp [hn]
      · rw [if_neg hn, if_neg hn, ih k' (n / 10) (by omega) (by omega)]
theorem canon_zero : canon 0 = [] := rfl
theorem canon_pos {n : Nat} (h : n ≠ 0) : canon n = ((n % 10 : Nat) : Int) :: canon (n / 10) := by
  obtain ⟨k, rfl⟩ : ∃ k, n = k + 1 := ⟨n - 1, by omega⟩
  show canonF (k + 1) (k + 1) = _
  rw [canonF, if_neg h, canonF_eq k ((k + 1) / 10) _ (by omega) (Nat.le_refl _)]
  rfl
theorem canon_dig (n : Nat) : Dig (canon n) := by
  induction n using Nat.strongRecOn with
  | ind n ih =>
    by_cases h : n = 0
    · subst h; exact Dig.nil
    · rw [canon_pos h]
      exact Dig.cons (by omega) (by omega) (ih _ (by omega))
theorem canon_nv (n : Nat) : nv (canon n) = n := by
  induction n using Nat.strongRecOn with
  | ind n ih =>
    by_cases h : n = 0
    · subst h; rfl
    · rw [canon_pos h, nv_cons, ih _ (by omega)]
      omega
theorem canon_len (k n : Nat) : (canon n).length ≤ k ↔ n < 10 ^ k := by
  induction k generalizing n with
  | zero =>
    by_cases h : n = 0
    · subst h; simp [canon_zero]
    · rw [canon_pos h]; simp [h]
  | succ k ih =>
    by_cases h : n = 0
    · subst h
      have : 0 < 10 ^ (k + 1) := Nat.pow_pos (by omega)
      simp [canon_zero]; exact this
    · rw [canon_pos h, List.length_cons, Nat.pow_succ]
      have := ih (n / 10)
      constructor
      · intro h'
        have := this.1 (by omega)
        omega
      · intro h'
        have := this.2 (by omega)
        omega
theorem canon_mono {a b : Nat} (h : a ≤ b) : (canon a).length ≤ (canon b).length := by
  rw [canon_len]
  have := (canon_len (canon b).length b).1 (Nat.le_refl _)
  omega
/-- Nothing to trim, and digits: the digits of its value. -/
theorem canon_uniq : ∀ (l : List Int), Dig l → (∀ l' , l ≠ l' ++ [0]) → l = canon (nv l).toNat := by
  intro l
  induction l with
  | nil => intro _ _; rfl
  | cons d l ih =>
    intro h h0
    have hh := h.head
    have hv := nv_nonneg h.tail
    have ih := ih h.tail (fun l' e => h0 (d :: l') (by rw [e]; rfl))
    have hne : (nv (d :: l)).toNat ≠ 0 := by
      rw [nv_cons]
      intro e
      have e1 : nv l = 0 := by omega
      have e2 : d = 0 := by omega
      rw [e1] at ih
      have : l = [] := ih
      exact h0 [] (by rw [this, e2]; rfl)
    rw [canon_pos hne]
    have e1 : (((nv (d :: l)).toNat % 10 : Nat) : Int) = d := by rw [nv_cons]; omega
    have e2 : (nv (d :: l)).toNat / 10 = (nv l).toNat := by rw [nv_cons]; omega
    rw [e1, e2, ← ih]
theorem trim_top (l : List Int) : ∀ l', trim l ≠ l' ++ [0] :=
  trim_ind (P := fun _ t => ∀ l', t ≠ l' ++ [0]) (fun l' h => by simp at h) (fun _ h => h) (fun l d hd l' h => hd (by
    have := (List.append_inj' h rfl).2
    simpa using this)) l
theorem canon_trim {l : List Int} (h : Dig l) : trim l = canon (nv l).toNat := by
  rw [canon_uniq _ h.trim (trim_top l), nv_trim]
theorem trim_canon (n : Nat) : trim (canon n) = canon n := by
  rw [canon_trim (canon_dig n), canon_nv]
  simp
theorem canon_nil {n : Nat} : canon n = [] ↔ n = 0 := by
  constructor
  · intro h
    have := canon_nv n
    rw [h, nv_nil] at this
    omega
  · rintro rfl; rfl
theorem drop_cons {l : List Int} {i : Nat} (h : i < l.length) : l.drop i = l.getD i 0 :: l.drop (i + 1) := by
  rw [List.drop_eq_getElem_cons h, List.getD_eq_getElem?_getD, List.getElem?_eq_getElem h]
  rfl
theorem drop_nil {l : List Int} {i : Nat} (h : ¬ i < l.length) : l.drop i = [] := List.drop_eq_nil_of_le (by omega)
theorem getD_out {l : List Int} {i : Nat} (h : ¬ i < l.length) : l.getD i 0 = 0 := by
  rw [List.getD_eq_getElem?_getD, List.getElem?_eq_none (by omega)]
  rfl
theorem nv_drop (l : List Int) (i : Nat) : nv (l.drop i) = l.getD i 0 + 10 * nv (l.drop (i + 1)) := by
  by_cases h : i < l.length
  · rw [drop_cons h, nv_cons]
  · rw [drop_nil h, drop_nil (by omega), getD_out h]; rfl
theorem takeI {l : List Int} {j : Nat} (h : j < l.length) : l.take (j + 1) = l.take j ++ [l.getD j 0] := by
  rw [List.take_add_one]
  simp [List.getD_eq_getElem?_getD, List.getElem?_eq_getElem h]
theorem nv_snoc_lt : ∀ (X Y : List Int), X.length = Y.length → Dig X → Dig Y → ∀ x y : Int, x < y → nv (X ++ [x]) < nv (Y ++ [y]) := by
  intro X
  induction X with
  | nil =>
    intro Y h _ _ x y hxy
    have : Y = [] := List.length_eq_zero_iff.1 (by simpa using h.symm)
    subst this
    simp only [List.nil_append, nv_cons, nv_nil]
    omega
  | cons a X ih =>
    intro Y h hX hY x y hxy
    cases Y with
    | nil => simp at h
    | cons b Y =>
      have := ih Y (by simpa using h) hX.tail hY.tail x y hxy
      have := hX.head
      have := hY.head
      simp only [List.cons_append, nv_cons]
      omega
theorem nv_snoc_eq : ∀ (X Y : List Int), X.length = Y.length → ∀ x : Int, nv (X ++ [x]) - nv (Y ++ [x]) = nv X - nv Y := by
  intro X
  induction X with
  | nil =>
    intro Y h x
    have : Y = [] := List.length_eq_zero_iff.1 (by simpa using h.symm)
    subst this
    simp
  | cons a X ih =>
    intro Y h x
    cases Y with
    | nil => simp at h
    | cons b Y =>
      have := ih Y (by simpa using h) x
      simp only [List.cons_append, nv_cons]
      omega
end Go.Dv

/- Sums and differences of digits. -/
set_option linter.unusedVariables false
set_option linter.unusedSimpArgs false
namespace Go.Dv

theorem tdiv_nn {a b : Int} (h : 0 ≤ a) : a.tdiv b = a / b := Int.tdiv_eq_ediv_of_nonneg h
theorem tmod_nn {a b : Int} (h : 0 ≤ a) : a.tmod b = a % b := Int.tmod_eq_emod_of_nonneg h
theorem len_snoc (l : List Int) (x : Int) : (l ++ [x]).length = l.length + 1 := by simp

theorem loop106 (n : Nat) (G : FuncId → PV → Option PV) (a b : List Int) (ha : Dig a) (hb : Dig b) (la : a.length ≤ 90) (lb : b.length ≤ 90) :
    ∀ (k i : Nat) (c : Int) (out : List Int), 0 ≤ c → c ≤ 1 → out.length = i → 93 ≤ k + i → (i : Int) + c ≤ 91 →
      ∃ l, Dig l ∧ nv l = c + nv (a.drop i) + nv (b.drop i) ∧ out.length + l.length ≤ 91 ∧
        rounds (fun self v => St106b0.dn n G [self] [.agg [dl a, dl b], v]) k (.agg [dl out, .int .i64 c, .int .i64 i]) = some (.agg [dl (out ++ l)]) := by
  intro k
  induction k with
  | zero => intro i c out h1 h2 h3 h4 h5; omega
  | succ k ih =>
    intro i c out h1 h2 h3 h4 h5
    have ga := ha.get (i := i)
    have gb := hb.get (i := i)
    have va := nv_drop a i
    have vb := nv_drop b i
    have step : ∀ s : Int, s = c + a.getD i 0 + b.getD i 0 → (i : Int) + 1 + s / 10 ≤ 91 → ∃ l, Dig l ∧ nv l = c + nv (a.drop i) + nv (b.drop i) ∧ out.length + l.length ≤ 91 ∧
        rounds (fun self v => St106b0.dn n G [self] [.agg [dl a, dl b], v]) k (.agg [dl (out ++ [s % 10]), .int .i64 (s / 10), .int .i64 ((i : Int) + 1)]) = some (.agg [dl (out ++ l)]) := by
      intro s hs hs2
      obtain ⟨l, q1, q2, q3, q4⟩ := ih (i + 1) (s / 10) (out ++ [s % 10]) (by omega) (by omega) (by simp; omega) (by omega) (by omega)
      rw [len_snoc] at q3
      rw [Int.natCast_add, Int.natCast_one] at q4
      exact ⟨s % 10 :: l, Dig.cons (by omega) (by omega) q1, by rw [nv_cons]; omega, by simp; omega, by rw [q4]; simp⟩
    simp only [rounds_s]
    clear ih
    by_cases hi : i < a.length
    · by_cases hj : i < b.length
      · have step := step (c + a.getD i 0 + b.getD i 0) rfl (by omega)
        generalize rounds _ k = self at step ⊢
        simp (disch := omega) only [St106b0, dn_ret, dn_call, dn_loop, dn_cont0, ite_lss, ite_leq, ite_gtr, ite_geq, ite_eql, ite_neq, ite_not, ite_seql, ite_beql, ite_bneq, ite_fld, need_leq', need_lss', need_neq0, b_true, b_false, se_var, se_lit, se_o1, se_o2, se_o3, get0, getS, pc_agg, pi_int, pb_bool, ps_str, o_not, o_len, o_fld, o_slen, o_conv, o_add, o_sub, o_mul, o_quo, o_rem, o_lss, o_leq, o_gtr, o_geq, o_eql, o_neq, o_sadd, o_seql, o_bneq, o_beql, o_mx, o_mkS, o_idx, o_snoc, o_cat, o_subl, o_upd, o_ssub, o_sidx, w64, w8, List.nil_append, List.cons_append, dl_nil, Int.toNat_natCast, tdiv_nn, tmod_nn, len_snoc]
        rw [lt_pos (by omega), le_pos (by omega), lt_pos (by omega), le_pos (by omega)]
        exact step
      · have step := step (c + a.getD i 0) (by rw [getD_out hj]; omega) (by omega)
        generalize rounds _ k = self at step ⊢
        simp (disch := omega) only [St106b0, dn_ret, dn_call, dn_loop, dn_cont0, ite_lss, ite_leq, ite_gtr, ite_geq, ite_eql, ite_neq, ite_not, ite_seql, ite_beql, ite_bneq, ite_fld, need_leq', need_lss', need_neq0, b_true, b_false, se_var, se_lit, se_o1, se_o2, se_o3, get0, getS, pc_agg, pi_int, pb_bool, ps_str, o_not, o_len, o_fld, o_slen, o_conv, o_add, o_sub, o_mul, o_quo, o_rem, o_lss, o_leq, o_gtr, o_geq, o_eql, o_neq, o_sadd, o_seql, o_bneq, o_beql, o_mx, o_mkS, o_idx, o_snoc, o_cat, o_subl, o_upd, o_ssub, o_sidx, w64, w8, List.nil_append, List.cons_append, dl_nil, Int.toNat_natCast, tdiv_nn, tmod_nn, len_snoc]
        rw [lt_pos (by omega), le_pos (by omega), lt_neg (by omega), le_pos (by omega)]
        exact step
    · by_cases hj : i < b.length
      · have step := step (c + b.getD i 0) (by rw [getD_out hi]; omega) (by omega)
        generalize rounds _ k = self at step ⊢
        simp (disch := omega) only [St106b0, dn_ret, dn_call, dn_loop, dn_cont0, ite_lss, ite_leq, ite_gtr, ite_geq, ite_eql, ite_neq, ite_not, ite_seql, ite_beql, ite_bneq, ite_fld, need_leq', need_lss', need_neq0, b_true, b_false, se_var, se_lit, se_o1, se_o2, se_o3, get0, getS, pc_agg, pi_int, pb_bool, ps_str, o_not, o_len, o_fld, o_slen, o_conv, o_add, o_sub, o_mul, o_quo, o_rem, o_lss, o_leq, o_gtr, o_geq, o_eql, o_neq, o_sadd, o_seql, o_bneq, o_beql, o_mx, o_mkS, o_idx, o_snoc, o_cat, o_subl, o_upd, o_ssub, o_sidx, w64, w8, List.nil_append, List.cons_append, dl_nil, Int.toNat_natCast, tdiv_nn, tmod_nn, len_snoc]
        rw [lt_neg (by omega), lt_pos (by omega), le_pos (by omega), le_pos (by omega)]
        exact step
      · by_cases hc : 0 < c
        · have step := step c (by rw [getD_out hi, getD_out hj]; omega) (by omega)
          generalize rounds _ k = self at step ⊢
          simp (disch := omega) only [St106b0, dn_ret, dn_call, dn_loop, dn_cont0, ite_lss, ite_leq, ite_gtr, ite_geq, ite_eql, ite_neq, ite_not, ite_seql, ite_beql, ite_bneq, ite_fld, need_leq', need_lss', need_neq0, b_true, b_false, se_var, se_lit, se_o1, se_o2, se_o3, get0, getS, pc_agg, pi_int, pb_bool, ps_str, o_not, o_len, o_fld, o_slen, o_conv, o_add, o_sub, o_mul, o_quo, o_rem, o_lss, o_leq, o_gtr, o_geq, o_eql, o_neq, o_sadd, o_seql, o_bneq, o_beql, o_mx, o_mkS, o_idx, o_snoc, o_cat, o_subl, o_upd, o_ssub, o_sidx, w64, w8, List.nil_append, List.cons_append, dl_nil, Int.toNat_natCast, tdiv_nn, tmod_nn, len_snoc]
          rw [lt_neg (by omega), lt_neg (by omega), lt_pos (by omega), le_pos (by omega)]
          exact step
        · refine ⟨[], Dig.nil, ?_, by simp; omega, ?_⟩
          · rw [drop_nil hi, drop_nil hj, nv_nil]; omega
          · generalize rounds _ k = self
            simp (disch := omega) only [St106b0, dn_ret, dn_call, dn_loop, dn_cont0, ite_lss, ite_leq, ite_gtr, ite_geq, ite_eql, ite_neq, ite_not, ite_seql, ite_beql, ite_bneq, ite_fld, need_leq', need_lss', need_neq0, b_true, b_false, se_var, se_lit, se_o1, se_o2, se_o3, get0, getS, pc_agg, pi_int, pb_bool, ps_str, o_not, o_len, o_fld, o_slen, o_conv, o_add, o_sub, o_mul, o_quo, o_rem, o_lss, o_leq, o_gtr, o_geq, o_eql, o_neq, o_sadd, o_seql, o_bneq, o_beql, o_mx, o_mkS, o_idx, o_snoc, o_cat, o_subl, o_upd, o_ssub, o_sidx, w64, w8, List.nil_append, List.cons_append, dl_nil, Int.toNat_natCast, tdiv_nn, tmod_nn, len_snoc]
            rw [lt_neg (by omega), lt_neg (by omega), lt_neg (by omega), List.append_nil]

theorem f106 {m : Nat} (hm : 100 ≤ m) (a b : List Int) (ha : Dig a) (hb : Dig b) (la : a.length ≤ 90) (lb : b.length ≤ 90) :
    ∃ l, Dig l ∧ nv l = nv a + nv b ∧ l.length ≤ 91 ∧ R m 106 (.agg [dl a, dl b]) = some (.agg [dl l]) := by
  obtain ⟨n, rfl⟩ : ∃ n, m = n + 1 := ⟨m - 1, by omega⟩
  obtain ⟨l, q1, q2, q3, q4⟩ := loop106 (n + 1) (R n) a b ha hb la lb (n + 1) 0 0 [] (by omega) (by omega) rfl (by omega) (by omega)
  refine ⟨l, q1, by simpa using q2, by simpa using q3, ?_⟩
  rw [R_succ n 106 _ rfl]
  simp only [St106, dn_ret, dn_call, dn_loop, dn_cont0, ite_lss, ite_leq, ite_gtr, ite_geq, ite_eql, ite_neq, ite_not, ite_seql, ite_beql, ite_bneq, ite_fld, need_leq', need_lss', need_neq0, b_true, b_false, se_var, se_lit, se_o1, se_o2, se_o3, get0, getS, pc_agg, pi_int, pb_bool, ps_str, o_not, o_len, o_fld, o_slen, o_conv, o_add, o_sub, o_mul, o_quo, o_rem, o_lss, o_leq, o_gtr, o_geq, o_eql, o_neq, o_sadd, o_seql, o_bneq, o_beql, o_mx, o_mkS, o_idx, o_snoc, o_cat, o_subl, o_upd, o_ssub, o_sidx, w64, w8, List.nil_append, List.cons_append, dl_nil]
  exact q4

theorem loop118 (n : Nat) (a b : List Int) (hn : 100 ≤ n) (ha : Dig a) (hb : Dig b) (la : a.length ≤ 90) (lb : b.length ≤ 90) :
    ∀ (k i : Nat) (c : Int) (out : List Int), 0 ≤ c → c ≤ 1 → out.length = i → 93 ≤ k + i → (i : Int) + c ≤ 91 →
      ∃ l, Dig l ∧ nv l = c + nv (a.drop i) + nv (b.drop i) ∧ out.length + l.length ≤ 91 ∧
        rounds (fun self v => St118b0.dn (n + 1) (R n) [self] [.agg [dl a, dl b], v]) k (.agg [.int .i64 c, .int .i64 i, dl out]) = some (.agg [dl (trim (out ++ l))]) := by
  intro k
  induction k with
  | zero => intro i c out h1 h2 h3 h4 h5; omega
  | succ k ih =>
    intro i c out h1 h2 h3 h4 h5
    have ga := ha.get (i := i)
    have gb := hb.get (i := i)
    have va := nv_drop a i
    have vb := nv_drop b i
    have step : ∀ s : Int, s = c + a.getD i 0 + b.getD i 0 → (i : Int) + 1 + s / 10 ≤ 91 → ∃ l, Dig l ∧ nv l = c + nv (a.drop i) + nv (b.drop i) ∧ out.length + l.length ≤ 91 ∧
        rounds (fun self v => St118b0.dn (n + 1) (R n) [self] [.agg [dl a, dl b], v]) k (.agg [.int .i64 (s / 10), .int .i64 ((i : Int) + 1), dl (out ++ [s % 10])]) = some (.agg [dl (trim (out ++ l))]) := by
      intro s hs hs2
      obtain ⟨l, q1, q2, q3, q4⟩ := ih (i + 1) (s / 10) (out ++ [s % 10]) (by omega) (by omega) (by simp; omega) (by omega) (by omega)
      rw [len_snoc] at q3
      rw [Int.natCast_add, Int.natCast_one] at q4
      exact ⟨s % 10 :: l, Dig.cons (by omega) (by omega) q1, by rw [nv_cons]; omega, by simp; omega, by rw [q4]; simp⟩
    simp only [rounds_s]
    clear ih
    by_cases hi : i < a.length
    · by_cases hj : i < b.length
      · have step := step (c + a.getD i 0 + b.getD i 0) rfl (by omega)
        generalize rounds _ k = self at step ⊢
        simp (disch := omega) only [St118b0, dn_ret, dn_call, dn_loop, dn_cont0, ite_lss, ite_leq, ite_gtr, ite_geq, ite_eql, ite_neq, ite_not, ite_seql, ite_beql, ite_bneq, ite_fld, need_leq', need_lss', need_neq0, b_true, b_false, se_var, se_lit, se_o1, se_o2, se_o3, get0, getS, pc_agg, pi_int, pb_bool, ps_str, o_not, o_len, o_fld, o_slen, o_conv, o_add, o_sub, o_mul, o_quo, o_rem, o_lss, o_leq, o_gtr, o_geq, o_eql, o_neq, o_sadd, o_seql, o_bneq, o_beql, o_mx, o_mkS, o_idx, o_snoc, o_cat, o_subl, o_upd, o_ssub, o_sidx, w64, w8, List.nil_append, List.cons_append, dl_nil, Int.toNat_natCast, tdiv_nn, tmod_nn, len_snoc]
        rw [lt_pos (by omega), le_pos (by omega), lt_pos (by omega), le_pos (by omega)]
        exact step
      · have step := step (c + a.getD i 0) (by rw [getD_out hj]; omega) (by omega)
        generalize rounds _ k = self at step ⊢
        simp (disch := omega) only [St118b0, dn_ret, dn_call, dn_loop, dn_cont0, ite_lss, ite_leq, ite_gtr, ite_geq, ite_eql, ite_neq, ite_not, ite_seql, ite_beql, ite_bneq, ite_fld, need_leq', need_lss', need_neq0, b_true, b_false, se_var, se_lit, se_o1, se_o2, se_o3, get0, getS, pc_agg, pi_int, pb_bool, ps_str, o_not, o_len, o_fld, o_slen, o_conv, o_add, o_sub, o_mul, o_quo, o_rem, o_lss, o_leq, o_gtr, o_geq, o_eql, o_neq, o_sadd, o_seql, o_bneq, o_beql, o_mx, o_mkS, o_idx, o_snoc, o_cat, o_subl, o_upd, o_ssub, o_sidx, w64, w8, List.nil_append, List.cons_append, dl_nil, Int.toNat_natCast, tdiv_nn, tmod_nn, len_snoc]
        rw [lt_pos (by omega), le_pos (by omega), lt_neg (by omega), le_pos (by omega)]
        exact step
    · by_cases hj : i < b.length
      · have step := step (c + b.getD i 0) (by rw [getD_out hi]; omega) (by omega)
        generalize rounds _ k = self at step ⊢
        simp (disch := omega) only [St118b0, dn_ret, dn_call, dn_loop, dn_cont0, ite_lss, ite_leq, ite_gtr, ite_geq, ite_eql, ite_neq, ite_not, ite_seql, ite_beql, ite_bneq, ite_fld, need_leq', need_lss', need_neq0, b_true, b_false, se_var, se_lit, se_o1, se_o2, se_o3, get0, getS, pc_agg, pi_int, pb_bool, ps_str, o_not, o_len, o_fld, o_slen, o_conv, o_add, o_sub, o_mul, o_quo, o_rem, o_lss, o_leq, o_gtr, o_geq, o_eql, o_neq, o_sadd, o_seql, o_bneq, o_beql, o_mx, o_mkS, o_idx, o_snoc, o_cat, o_subl, o_upd, o_ssub, o_sidx, w64, w8, List.nil_append, List.cons_append, dl_nil, Int.toNat_natCast, tdiv_nn, tmod_nn, len_snoc]
        rw [lt_neg (by omega), lt_pos (by omega), le_pos (by omega), le_pos (by omega)]
        exact step
      · by_cases hc : 0 < c
        · have step := step c (by rw [getD_out hi, getD_out hj]; omega) (by omega)
          generalize rounds _ k = self at step ⊢
          simp (disch := omega) only [St118b0, dn_ret, dn_call, dn_loop, dn_cont0, ite_lss, ite_leq, ite_gtr, ite_geq, ite_eql, ite_neq, ite_not, ite_seql, ite_beql, ite_bneq, ite_fld, need_leq', need_lss', need_neq0, b_true, b_false, se_var, se_lit, se_o1, se_o2, se_o3, get0, getS, pc_agg, pi_int, pb_bool, ps_str, o_not, o_len, o_fld, o_slen, o_conv, o_add, o_sub, o_mul, o_quo, o_rem, o_lss, o_leq, o_gtr, o_geq, o_eql, o_neq, o_sadd, o_seql, o_bneq, o_beql, o_mx, o_mkS, o_idx, o_snoc, o_cat, o_subl, o_upd, o_ssub, o_sidx, w64, w8, List.nil_append, List.cons_append, dl_nil, Int.toNat_natCast, tdiv_nn, tmod_nn, len_snoc]
          rw [lt_neg (by omega), lt_neg (by omega), lt_pos (by omega), le_pos (by omega)]
          exact step
        · refine ⟨[], Dig.nil, ?_, by simp; omega, ?_⟩
          · rw [drop_nil hi, drop_nil hj, nv_nil]; omega
          · have ht := f155 hn out (by omega)
            generalize rounds _ k = self
            simp (disch := omega) only [St118b0, dn_ret, dn_call, dn_loop, dn_cont0, ite_lss, ite_leq, ite_gtr, ite_geq, ite_eql, ite_neq, ite_not, ite_seql, ite_beql, ite_bneq, ite_fld, need_leq', need_lss', need_neq0, b_true, b_false, se_var, se_lit, se_o1, se_o2, se_o3, get0, getS, pc_agg, pi_int, pb_bool, ps_str, o_not, o_len, o_fld, o_slen, o_conv, o_add, o_sub, o_mul, o_quo, o_rem, o_lss, o_leq, o_gtr, o_geq, o_eql, o_neq, o_sadd, o_seql, o_bneq, o_beql, o_mx, o_mkS, o_idx, o_snoc, o_cat, o_subl, o_upd, o_ssub, o_sidx, w64, w8, List.nil_append, List.cons_append, dl_nil, Int.toNat_natCast, tdiv_nn, tmod_nn, len_snoc]
            rw [lt_neg (by omega), lt_neg (by omega), lt_neg (by omega), List.append_nil, ht]
            rfl

theorem f118 {m : Nat} (hm : 101 ≤ m) (a b : List Int) (ha : Dig a) (hb : Dig b) (la : a.length ≤ 90) (lb : b.length ≤ 90) :
    R m 118 (.agg [dl a, dl b]) = some (.agg [dl (canon (nv a + nv b).toNat)]) := by
  obtain ⟨n, rfl⟩ : ∃ n, m = n + 1 := ⟨m - 1, by omega⟩
  obtain ⟨l, q1, q2, q3, q4⟩ := loop118 n a b (by omega) ha hb la lb (n + 1) 0 0 [] (by omega) (by omega) rfl (by omega) (by omega)
  rw [R_succ n 118 _ rfl]
  simp only [St118, dn_ret, dn_call, dn_loop, dn_cont0, ite_lss, ite_leq, ite_gtr, ite_geq, ite_eql, ite_neq, ite_not, ite_seql, ite_beql, ite_bneq, ite_fld, need_leq', need_lss', need_neq0, b_true, b_false, se_var, se_lit, se_o1, se_o2, se_o3, get0, getS, pc_agg, pi_int, pb_bool, ps_str, o_not, o_len, o_fld, o_slen, o_conv, o_add, o_sub, o_mul, o_quo, o_rem, o_lss, o_leq, o_gtr, o_geq, o_eql, o_neq, o_sadd, o_seql, o_bneq, o_beql, o_mx, o_mkS, o_idx, o_snoc, o_cat, o_subl, o_upd, o_ssub, o_sidx, w64, w8, List.nil_append, List.cons_append, dl_nil]
  rw [List.nil_append, canon_trim q1] at q4
  have : nv l = nv a + nv b := by simpa using q2
  rw [this] at q4
  exact q4

/-! Which is greater. -/
def cmpI (a b : Int) : Int := if a < b then -1 else if a = b then 0 else 1
theorem cmp_loop (B : Tree) (hB : B = St108b0 ∨ B = St111b0) (n : Nat) (G : FuncId → PV → Option PV) (a b : List Int) (ha : Dig a) (hb : Dig b) (hl : a.length = b.length) (la : a.length ≤ 90) :
    ∀ (k j : Nat), j ≤ a.length → j < k →
        rounds (fun self v => B.dn n G [self] [.agg [dl a, dl b], v]) k (.agg [.int .i64 ((j : Int) - 1)]) = some (.agg [.int .i64 (cmpI (nv (a.take j)) (nv (b.take j)))]) := by
  intro k
  induction k with
  | zero => intro j h1 h2; omega
  | succ k ih =>
    intro j h1 h2
    simp only [rounds_s]
    cases j with
    | zero =>
      generalize rounds _ k = self
      rcases hB with rfl | rfl <;> (simp (disch := omega) only [St108b0, St111b0, dn_ret, dn_call, dn_loop, dn_cont0, ite_lss, ite_leq, ite_gtr, ite_geq, ite_eql, ite_neq, ite_not, ite_seql, ite_beql, ite_bneq, ite_fld, need_leq', need_lss', need_neq0, b_true, b_false, se_var, se_lit, se_o1, se_o2, se_o3, get0, getS, pc_agg, pi_int, pb_bool, ps_str, o_not, o_len, o_fld, o_slen, o_conv, o_add, o_sub, o_mul, o_quo, o_rem, o_lss, o_leq, o_gtr, o_geq, o_eql, o_neq, o_sadd, o_seql, o_bneq, o_beql, o_mx, o_mkS, o_idx, o_snoc, o_cat, o_subl, o_upd, o_ssub, o_sidx, w64, w8, List.nil_append, List.cons_append, dl_nil]; rw [le_neg (by omega)]; simp [cmpI, nv_nil])
    | succ j =>
      have ih2 := ih j (by omega) (by omega)
      clear ih
      have ga := ha.get (i := j)
      have gb := hb.get (i := j)
      have e1 : ((j + 1 : Nat) : Int) - 1 = j := by omega
      have ea := takeI (l := a) (j := j) (by omega)
      have eb := takeI (l := b) (j := j) (by omega)
      have hlen : (a.take j).length = (b.take j).length := by rw [List.length_take, List.length_take]; omega
      generalize rounds _ k = self at ih2 ⊢
      rw [ea, eb, e1]
      have key : cmpI (nv (a.take j ++ [a.getD j 0])) (nv (b.take j ++ [b.getD j 0])) = if a.getD j 0 = b.getD j 0 then cmpI (nv (a.take j)) (nv (b.take j)) else if a.getD j 0 < b.getD j 0 then -1 else 1 := by
        unfold cmpI
        by_cases h : a.getD j 0 = b.getD j 0
        · have := nv_snoc_eq (a.take j) (b.take j) hlen (b.getD j 0)
          rw [if_pos h, h]
          by_cases h3 : nv (a.take j) < nv (b.take j)
          · rw [if_pos h3, if_pos (by omega)]
          · rw [if_neg h3, if_neg (by omega)]
            by_cases h4 : nv (a.take j) = nv (b.take j)
            · rw [if_pos h4, if_pos (by omega)]
            · rw [if_neg h4, if_neg (by omega)]
        · rw [if_neg h]
          by_cases h3 : a.getD j 0 < b.getD j 0
          · have := nv_snoc_lt (a.take j) (b.take j) hlen (ha.take j) (hb.take j) _ _ h3
            rw [if_pos this, if_pos h3]
          · have := nv_snoc_lt (b.take j) (a.take j) hlen.symm (hb.take j) (ha.take j) _ _ (show b.getD j 0 < a.getD j 0 by omega)
            rw [if_neg (by omega), if_neg (by omega), if_neg h3]
      rw [key]
      rcases hB with rfl | rfl <;> (
        simp (disch := omega) only [St108b0, St111b0, dn_ret, dn_call, dn_loop, dn_cont0, ite_lss, ite_leq, ite_gtr, ite_geq, ite_eql, ite_neq, ite_not, ite_seql, ite_beql, ite_bneq, ite_fld, need_leq', need_lss', need_neq0, b_true, b_false, se_var, se_lit, se_o1, se_o2, se_o3, get0, getS, pc_agg, pi_int, pb_bool, ps_str, o_not, o_len, o_fld, o_slen, o_conv, o_add, o_sub, o_mul, o_quo, o_rem, o_lss, o_leq, o_gtr, o_geq, o_eql, o_neq, o_sadd, o_seql, o_bneq, o_beql, o_mx, o_mkS, o_idx, o_snoc, o_cat, o_subl, o_upd, o_ssub, o_sidx, w64, w8, List.nil_append, List.cons_append, dl_nil, Int.toNat_natCast]
        rw [le_pos (by omega), le_pos (by omega), lt_pos (by omega), lt_pos (by omega)]
        by_cases h : a.getD j 0 = b.getD j 0
        · rw [eq_pos h, if_pos h]; exact ih2
        · rw [eq_neg h, if_neg h]
          by_cases h3 : a.getD j 0 < b.getD j 0
          · rw [lt_pos h3, if_pos h3]
          · rw [lt_neg h3, if_neg h3])
theorem f108_111 {m : Nat} (hm : 100 ≤ m) (f : Nat) (hf : f = 108 ∨ f = 111) (x y : Nat) (lx : (canon x).length ≤ 90) (ly : (canon y).length ≤ 90) :
    R m f (.agg [dl (canon x), dl (canon y)]) = some (.agg [.int .i64 (cmpI x y)]) := by
  obtain ⟨n, rfl⟩ : ∃ n, m = n + 1 := ⟨m - 1, by omega⟩
  have hlt : ∀ {x y : Nat}, (canon x).length < (canon y).length → x < y := by
    intro x y h
    by_cases h' : y ≤ x
    · have := canon_mono h'
      omega
    · omega
  have hc : (canon x).length = (canon y).length → ∀ B, (B = St108b0 ∨ B = St111b0) → rounds (fun self v => B.dn (n + 1) (R n) [self] [.agg [dl (canon x), dl (canon y)], v]) (n + 1) (.agg [.int .i64 (((canon x).length : Int) - 1)]) = some (.agg [.int .i64 (cmpI x y)]) := by
    intro h B hB
    have := cmp_loop B hB (n + 1) (R n) (canon x) (canon y) (canon_dig x) (canon_dig y) h lx (n + 1) (canon x).length (Nat.le_refl _) (by omega)
    rw [List.take_length, canon_nv] at this
    rw [h] at this
    rw [List.take_length, canon_nv, ← h] at this
    exact this
  have lt1 : (canon x).length < (canon y).length → cmpI x y = -1 := by
    intro h
    have := hlt h
    unfold cmpI
    rw [if_pos (by omega)]
  have lt2 : (canon y).length < (canon x).length → cmpI x y = 1 := by
    intro h
    have := hlt h
    unfold cmpI
    rw [if_neg (by omega), if_neg (by omega)]
  rcases hf with rfl | rfl
  · rw [R_succ n 108 _ rfl]
    simp (disch := omega) only [St108, dn_ret, dn_call, dn_loop, dn_cont0, ite_lss, ite_leq, ite_gtr, ite_geq, ite_eql, ite_neq, ite_not, ite_seql, ite_beql, ite_bneq, ite_fld, need_leq', need_lss', need_neq0, b_true, b_false, se_var, se_lit, se_o1, se_o2, se_o3, get0, getS, pc_agg, pi_int, pb_bool, ps_str, o_not, o_len, o_fld, o_slen, o_conv, o_add, o_sub, o_mul, o_quo, o_rem, o_lss, o_leq, o_gtr, o_geq, o_eql, o_neq, o_sadd, o_seql, o_bneq, o_beql, o_mx, o_mkS, o_idx, o_snoc, o_cat, o_subl, o_upd, o_ssub, o_sidx, w64, w8, List.nil_append, List.cons_append, dl_nil]
    by_cases h : (canon x).length = (canon y).length
    · rw [eq_pos (by omega)]
      exact hc h St108b0 (.inl rfl)
    · rw [eq_neg (by omega)]
      by_cases h2 : (canon x).length < (canon y).length
      · rw [lt_pos (by omega), lt1 h2]
      · rw [lt_neg (by omega), lt2 (by omega)]
  · rw [R_succ n 111 _ rfl]
    simp (disch := omega) only [St111, dn_ret, dn_call, dn_loop, dn_cont0, ite_lss, ite_leq, ite_gtr, ite_geq, ite_eql, ite_neq, ite_not, ite_seql, ite_beql, ite_bneq, ite_fld, need_leq', need_lss', need_neq0, b_true, b_false, se_var, se_lit, se_o1, se_o2, se_o3, get0, getS, pc_agg, pi_int, pb_bool, ps_str, o_not, o_len, o_fld, o_slen, o_conv, o_add, o_sub, o_mul, o_quo, o_rem, o_lss, o_leq, o_gtr, o_geq, o_eql, o_neq, o_sadd, o_seql, o_bneq, o_beql, o_mx, o_mkS, o_idx, o_snoc, o_cat, o_subl, o_upd, o_ssub, o_sidx, w64, w8, List.nil_append, List.cons_append, dl_nil]
    by_cases h : (canon x).length = (canon y).length
    · rw [eq_pos (by omega)]
      exact hc h St111b0 (.inr rfl)
    · rw [eq_neg (by omega)]
      by_cases h2 : (canon x).length < (canon y).length
      · rw [lt_pos (by omega), lt1 h2]
      · rw [lt_neg (by omega), lt2 (by omega)]
end Go.Dv

/- Differences of digits. -/
set_option linter.unusedVariables false
set_option linter.unusedSimpArgs false
namespace Go.Dv

theorem loop119 (n : Nat) (a b : List Int) (hn : 100 ≤ n) (ha : Dig a) (hb : Dig b) (la : a.length ≤ 90) :
    ∀ (k i : Nat) (c : Int) (out : List Int), 0 ≤ c → c ≤ 1 → out.length = i → 92 ≤ k + i → i ≤ a.length → nv (b.drop i) + c ≤ nv (a.drop i) →
      ∃ l, Dig l ∧ nv l = nv (a.drop i) - c - nv (b.drop i) ∧ out.length + l.length = a.length ∧
        rounds (fun self v => St119b0.dn (n + 1) (R n) [self] [.agg [dl a, dl b], v]) k (.agg [.int .i64 c, .int .i64 i, dl out]) = some (.agg [dl (trim (out ++ l))]) := by
  intro k
  induction k with
  | zero => intro i c out h1 h2 h3 h4 h5 h6; omega
  | succ k ih =>
    intro i c out h1 h2 h3 h4 h5 h6
    have ga := ha.get (i := i)
    have gb := hb.get (i := i)
    have va := nv_drop a i
    have vb := nv_drop b i
    have step : i < a.length → ∀ x c' : Int, 0 ≤ x → x ≤ 9 → 0 ≤ c' → c' ≤ 1 → x = a.getD i 0 - c - b.getD i 0 + 10 * c' → ∃ l, Dig l ∧ nv l = nv (a.drop i) - c - nv (b.drop i) ∧ out.length + l.length = a.length ∧
        rounds (fun self v => St119b0.dn (n + 1) (R n) [self] [.agg [dl a, dl b], v]) k (.agg [.int .i64 c', .int .i64 ((i : Int) + 1), dl (out ++ [x])]) = some (.agg [dl (trim (out ++ l))]) := by
      intro hi x c' x0 x9 c0 c1 hx
      obtain ⟨l, q1, q2, q3, q4⟩ := ih (i + 1) c' (out ++ [x]) (by omega) (by omega) (by simp; omega) (by omega) (by omega) (by omega)
      rw [len_snoc] at q3
      rw [Int.natCast_add, Int.natCast_one] at q4
      exact ⟨x :: l, Dig.cons (by omega) (by omega) q1, by rw [nv_cons]; omega, by simp; omega, by rw [q4]; simp⟩
    simp only [rounds_s]
    clear ih
    by_cases hi : i < a.length
    · have step := step hi
      by_cases hj : i < b.length
      · by_cases hx : a.getD i 0 - c - b.getD i 0 < 0
        · have step := step (a.getD i 0 - c - b.getD i 0 + 10) 1 (by omega) (by omega) (by omega) (by omega) (by omega)
          generalize rounds _ k = self at step ⊢
          simp (disch := omega) only [St119b0, dn_ret, dn_call, dn_loop, dn_cont0, ite_lss, ite_leq, ite_gtr, ite_geq, ite_eql, ite_neq, ite_not, ite_seql, ite_beql, ite_bneq, ite_fld, need_leq', need_lss', need_neq0, b_true, b_false, se_var, se_lit, se_o1, se_o2, se_o3, get0, getS, pc_agg, pi_int, pb_bool, ps_str, o_not, o_len, o_fld, o_slen, o_conv, o_add, o_sub, o_mul, o_quo, o_rem, o_lss, o_leq, o_gtr, o_geq, o_eql, o_neq, o_sadd, o_seql, o_bneq, o_beql, o_mx, o_mkS, o_idx, o_snoc, o_cat, o_subl, o_upd, o_ssub, o_sidx, w64, w8, List.nil_append, List.cons_append, dl_nil, Int.toNat_natCast, len_snoc]
          rw [lt_pos (by omega), le_pos (by omega), lt_pos (by omega), lt_pos (by omega), le_pos (by omega)]
          exact step
        · have step := step (a.getD i 0 - c - b.getD i 0) 0 (by omega) (by omega) (by omega) (by omega) (by omega)
          generalize rounds _ k = self at step ⊢
          simp (disch := omega) only [St119b0, dn_ret, dn_call, dn_loop, dn_cont0, ite_lss, ite_leq, ite_gtr, ite_geq, ite_eql, ite_neq, ite_not, ite_seql, ite_beql, ite_bneq, ite_fld, need_leq', need_lss', need_neq0, b_true, b_false, se_var, se_lit, se_o1, se_o2, se_o3, get0, getS, pc_agg, pi_int, pb_bool, ps_str, o_not, o_len, o_fld, o_slen, o_conv, o_add, o_sub, o_mul, o_quo, o_rem, o_lss, o_leq, o_gtr, o_geq, o_eql, o_neq, o_sadd, o_seql, o_bneq, o_beql, o_mx, o_mkS, o_idx, o_snoc, o_cat, o_subl, o_upd, o_ssub, o_sidx, w64, w8, List.nil_append, List.cons_append, dl_nil, Int.toNat_natCast, len_snoc]
          rw [lt_pos (by omega), le_pos (by omega), lt_pos (by omega), lt_neg (by omega), le_pos (by omega)]
          exact step
      · have hb0 := getD_out hj
        by_cases hx : a.getD i 0 - c < 0
        · have step := step (a.getD i 0 - c + 10) 1 (by omega) (by omega) (by omega) (by omega) (by omega)
          generalize rounds _ k = self at step ⊢
          simp (disch := omega) only [St119b0, dn_ret, dn_call, dn_loop, dn_cont0, ite_lss, ite_leq, ite_gtr, ite_geq, ite_eql, ite_neq, ite_not, ite_seql, ite_beql, ite_bneq, ite_fld, need_leq', need_lss', need_neq0, b_true, b_false, se_var, se_lit, se_o1, se_o2, se_o3, get0, getS, pc_agg, pi_int, pb_bool, ps_str, o_not, o_len, o_fld, o_slen, o_conv, o_add, o_sub, o_mul, o_quo, o_rem, o_lss, o_leq, o_gtr, o_geq, o_eql, o_neq, o_sadd, o_seql, o_bneq, o_beql, o_mx, o_mkS, o_idx, o_snoc, o_cat, o_subl, o_upd, o_ssub, o_sidx, w64, w8, List.nil_append, List.cons_append, dl_nil, Int.toNat_natCast, len_snoc]
          rw [lt_pos (by omega), le_pos (by omega), lt_neg (by omega), lt_pos (by omega), le_pos (by omega)]
          exact step
        · have step := step (a.getD i 0 - c) 0 (by omega) (by omega) (by omega) (by omega) (by omega)
          generalize rounds _ k = self at step ⊢
          simp (disch := omega) only [St119b0, dn_ret, dn_call, dn_loop, dn_cont0, ite_lss, ite_leq, ite_gtr, ite_geq, ite_eql, ite_neq, ite_not, ite_seql, ite_beql, ite_bneq, ite_fld, need_leq', need_lss', need_neq0, b_true, b_false, se_var, se_lit, se_o1, se_o2, se_o3, get0, getS, pc_agg, pi_int, pb_bool, ps_str, o_not, o_len, o_fld, o_slen, o_conv, o_add, o_sub, o_mul, o_quo, o_rem, o_lss, o_leq, o_gtr, o_geq, o_eql, o_neq, o_sadd, o_seql, o_bneq, o_beql, o_mx, o_mkS, o_idx, o_snoc, o_cat, o_subl, o_upd, o_ssub, o_sidx, w64, w8, List.nil_append, List.cons_append, dl_nil, Int.toNat_natCast, len_snoc]
          rw [lt_pos (by omega), le_pos (by omega), lt_neg (by omega), lt_neg (by omega), le_pos (by omega)]
          exact step
    · have h0 := nv_nonneg (hb.drop i)
      rw [drop_nil hi, nv_nil] at h6
      refine ⟨[], Dig.nil, ?_, by simp; omega, ?_⟩
      · rw [drop_nil hi, nv_nil]; omega
      · have ht := f155 hn out (by omega)
        generalize rounds _ k = self
        simp (disch := omega) only [St119b0, dn_ret, dn_call, dn_loop, dn_cont0, ite_lss, ite_leq, ite_gtr, ite_geq, ite_eql, ite_neq, ite_not, ite_seql, ite_beql, ite_bneq, ite_fld, need_leq', need_lss', need_neq0, b_true, b_false, se_var, se_lit, se_o1, se_o2, se_o3, get0, getS, pc_agg, pi_int, pb_bool, ps_str, o_not, o_len, o_fld, o_slen, o_conv, o_add, o_sub, o_mul, o_quo, o_rem, o_lss, o_leq, o_gtr, o_geq, o_eql, o_neq, o_sadd, o_seql, o_bneq, o_beql, o_mx, o_mkS, o_idx, o_snoc, o_cat, o_subl, o_upd, o_ssub, o_sidx, w64, w8, List.nil_append, List.cons_append, dl_nil, Int.toNat_natCast, tdiv_nn, tmod_nn, len_snoc]
        rw [lt_neg (by omega), List.append_nil, ht]
        rfl

theorem f119 {m : Nat} (hm : 101 ≤ m) (a b : List Int) (ha : Dig a) (hb : Dig b) (la : a.length ≤ 90) (hab : nv b ≤ nv a) :
    R m 119 (.agg [dl a, dl b]) = some (.agg [dl (canon (nv a - nv b).toNat)]) := by
  obtain ⟨n, rfl⟩ : ∃ n, m = n + 1 := ⟨m - 1, by omega⟩
  obtain ⟨l, q1, q2, q3, q4⟩ := loop119 n a b (by omega) ha hb la (n + 1) 0 0 [] (by omega) (by omega) rfl (by omega) (by omega) (by simpa using hab)
  rw [R_succ n 119 _ rfl]
  simp only [St119, dn_ret, dn_call, dn_loop, dn_cont0, ite_lss, ite_leq, ite_gtr, ite_geq, ite_eql, ite_neq, ite_not, ite_seql, ite_beql, ite_bneq, ite_fld, need_leq', need_lss', need_neq0, b_true, b_false, se_var, se_lit, se_o1, se_o2, se_o3, get0, getS, pc_agg, pi_int, pb_bool, ps_str, o_not, o_len, o_fld, o_slen, o_conv, o_add, o_sub, o_mul, o_quo, o_rem, o_lss, o_leq, o_gtr, o_geq, o_eql, o_neq, o_sadd, o_seql, o_bneq, o_beql, o_mx, o_mkS, o_idx, o_snoc, o_cat, o_subl, o_upd, o_ssub, o_sidx, w64, w8, List.nil_append, List.cons_append, dl_nil]
  rw [List.nil_append, canon_trim q1] at q4
  have : nv l = nv a - nv b := by simpa using q2
  rw [this] at q4
  exact q4

theorem pre_get (pre rest : List Int) (c : Int) : (pre ++ c :: rest).getD pre.length 0 = c := by simp [List.getD_eq_getElem?_getD]
theorem pre_set (pre rest : List Int) (c x : Int) : (pre ++ c :: rest).set pre.length x = pre ++ x :: rest := by simp
theorem pre_get1 (pre rest : List Int) (c d : Int) : (pre ++ c :: d :: rest).getD (pre.length + 1) 0 = d := by
  simp
theorem pre_set1 (pre rest : List Int) (c d x : Int) : (pre ++ c :: d :: rest).set (pre.length + 1) x = pre ++ c :: x :: rest := by
  simp
theorem pre_len (pre rest : List Int) (c : Int) : (pre ++ c :: rest).length = pre.length + rest.length + 1 := by simp; omega

theorem loop109 (n : Nat) (a b : List Int) (hn : 100 ≤ n) (hb : Dig b) (la : a.length ≤ 90) :
    ∀ (k : Nat) (pre cur : List Int), pre.length + cur.length = a.length → 92 ≤ k + pre.length → (∀ c rest, cur = c :: rest → -1 ≤ c ∧ c ≤ 9 ∧ Dig rest) → nv (b.drop pre.length) ≤ nv cur →
      ∃ l, Dig l ∧ nv l = nv cur - nv (b.drop pre.length) ∧ l.length = cur.length ∧
        rounds (fun self v => St109b0.dn (n + 1) (R n) [self] [.agg [dl a, dl b], v]) k (.agg [.int .i64 pre.length, dl (pre ++ cur)]) = some (.agg [dl (trim (pre ++ l))]) := by
  intro k
  induction k with
  | zero => intro pre cur h1 h2 h3 h4; omega
  | succ k ih =>
    intro pre cur h1 h2 h3 h4
    have h0 := nv_nonneg (hb.drop (pre.length + 1))
    have gb := hb.get (i := pre.length)
    have vb := nv_drop b pre.length
    cases cur with
    | nil =>
      simp only [rounds_s]
      clear ih
      refine ⟨[], Dig.nil, ?_, rfl, ?_⟩
      · rw [nv_nil] at h4 ⊢; omega
      · rw [List.length_nil] at h1
        have ht := f117 hn pre (by omega)
        generalize rounds _ k = self
        simp (disch := omega) only [St109b0, dn_ret, dn_call, dn_loop, dn_cont0, ite_lss, ite_leq, ite_gtr, ite_geq, ite_eql, ite_neq, ite_not, ite_seql, ite_beql, ite_bneq, ite_fld, need_leq', need_lss', need_neq0, b_true, b_false, se_var, se_lit, se_o1, se_o2, se_o3, get0, getS, pc_agg, pi_int, pb_bool, ps_str, o_not, o_len, o_fld, o_slen, o_conv, o_add, o_sub, o_mul, o_quo, o_rem, o_lss, o_leq, o_gtr, o_geq, o_eql, o_neq, o_sadd, o_seql, o_bneq, o_beql, o_mx, o_mkS, o_idx, o_snoc, o_cat, o_subl, o_upd, o_ssub, o_sidx, w64, w8, List.nil_append, List.cons_append, dl_nil, Int.toNat_natCast, List.append_nil]
        rw [lt_neg (by omega), ht]
        rfl
    | cons c rest =>
      obtain ⟨c1, c2, hr⟩ := h3 c rest rfl
      rw [nv_cons] at h4
      rw [List.length_cons] at h1
      have e1 : ((pre.length : Int) + 1).toNat = pre.length + 1 := by omega
      have ecast : ((pre.length : Int) + 1) = ((pre.length + 1 : Nat) : Int) := by omega
      by_cases hx : c - b.getD pre.length 0 < 0
      · cases rest with
        | nil => rw [nv_nil] at h4; omega
        | cons d rest =>
          have hd := hr.head
          rw [nv_cons] at h4
          rw [List.length_cons] at h1
          obtain ⟨l, q1, q2, q3, q4⟩ := ih (pre ++ [c - b.getD pre.length 0 + 10]) ((d - 1) :: rest) (by simp; omega) (by simp; omega) (by
            intro c' r' e
            cases e
            exact ⟨by omega, by omega, hr.tail⟩) (by rw [len_snoc, nv_cons]; omega)
          clear ih
          rw [len_snoc] at q2 q4
          refine ⟨(c - b.getD pre.length 0 + 10) :: l, Dig.cons (by omega) (by omega) q1, ?_, by rw [List.length_cons, q3]; rfl, ?_⟩
          · rw [nv_cons, q2, nv_cons, nv_cons, nv_cons, vb]; omega
          · simp only [rounds_s]
            generalize rounds _ k = self at q4 ⊢
            rw [List.append_assoc, List.append_assoc, ← ecast] at q4
            by_cases hj : pre.length < b.length
            · generalize hbb : b.getD pre.length 0 = bb at q4 hx gb vb
              simp (disch := omega) only [St109b0, dn_ret, dn_call, dn_loop, dn_cont0, ite_lss, ite_leq, ite_gtr, ite_geq, ite_eql, ite_neq, ite_not, ite_seql, ite_beql, ite_bneq, ite_fld, need_leq', need_lss', need_neq0, b_true, b_false, se_var, se_lit, se_o1, se_o2, se_o3, get0, getS, pc_agg, pi_int, pb_bool, ps_str, o_not, o_len, o_fld, o_slen, o_conv, o_add, o_sub, o_mul, o_quo, o_rem, o_lss, o_leq, o_gtr, o_geq, o_eql, o_neq, o_sadd, o_seql, o_bneq, o_beql, o_mx, o_mkS, o_idx, o_snoc, o_cat, o_subl, o_upd, o_ssub, o_sidx, w64, w8, List.nil_append, List.cons_append, dl_nil, Int.toNat_natCast, e1, pre_get, pre_set, pre_get1, pre_set1, pre_len, hbb]
              rw [lt_pos (by omega), lt_pos (by omega), le_pos (by omega), lt_pos (by simp; omega), lt_pos (by omega), le_pos (by omega), lt_pos (by simp; omega)]
              exact q4
            · rw [getD_out hj] at q4 hx
              rw [getD_out hj]
              simp only [Int.sub_zero] at q4 hx ⊢
              simp (disch := omega) only [St109b0, dn_ret, dn_call, dn_loop, dn_cont0, ite_lss, ite_leq, ite_gtr, ite_geq, ite_eql, ite_neq, ite_not, ite_seql, ite_beql, ite_bneq, ite_fld, need_leq', need_lss', need_neq0, b_true, b_false, se_var, se_lit, se_o1, se_o2, se_o3, get0, getS, pc_agg, pi_int, pb_bool, ps_str, o_not, o_len, o_fld, o_slen, o_conv, o_add, o_sub, o_mul, o_quo, o_rem, o_lss, o_leq, o_gtr, o_geq, o_eql, o_neq, o_sadd, o_seql, o_bneq, o_beql, o_mx, o_mkS, o_idx, o_snoc, o_cat, o_subl, o_upd, o_ssub, o_sidx, w64, w8, List.nil_append, List.cons_append, dl_nil, Int.toNat_natCast, e1, pre_get, pre_set, pre_get1, pre_set1, pre_len]
              rw [lt_pos (by omega), lt_neg (by omega), le_pos (by omega), lt_pos (by simp; omega), lt_pos (by omega), le_pos (by omega), lt_pos (by simp; omega)]
              exact q4
      · obtain ⟨l, q1, q2, q3, q4⟩ := ih (pre ++ [c - b.getD pre.length 0]) rest (by simp; omega) (by simp; omega) (by
            intro c' r' e
            subst e
            have := hr.head
            exact ⟨by omega, by omega, hr.tail⟩) (by rw [len_snoc]; omega)
        clear ih
        rw [len_snoc] at q2 q4
        refine ⟨(c - b.getD pre.length 0) :: l, Dig.cons (by omega) (by omega) q1, ?_, by rw [List.length_cons, q3]; rfl, ?_⟩
        · rw [nv_cons, q2, nv_cons, vb]; omega
        · simp only [rounds_s]
          generalize rounds _ k = self at q4 ⊢
          rw [List.append_assoc, List.append_assoc, ← ecast] at q4
          by_cases hj : pre.length < b.length
          · generalize hbb : b.getD pre.length 0 = bb at q4 hx gb vb
            simp (disch := omega) only [St109b0, dn_ret, dn_call, dn_loop, dn_cont0, ite_lss, ite_leq, ite_gtr, ite_geq, ite_eql, ite_neq, ite_not, ite_seql, ite_beql, ite_bneq, ite_fld, need_leq', need_lss', need_neq0, b_true, b_false, se_var, se_lit, se_o1, se_o2, se_o3, get0, getS, pc_agg, pi_int, pb_bool, ps_str, o_not, o_len, o_fld, o_slen, o_conv, o_add, o_sub, o_mul, o_quo, o_rem, o_lss, o_leq, o_gtr, o_geq, o_eql, o_neq, o_sadd, o_seql, o_bneq, o_beql, o_mx, o_mkS, o_idx, o_snoc, o_cat, o_subl, o_upd, o_ssub, o_sidx, w64, w8, List.nil_append, List.cons_append, dl_nil, Int.toNat_natCast, e1, pre_get, pre_set, pre_get1, pre_set1, pre_len, hbb]
            rw [lt_pos (by omega), lt_pos (by omega), le_pos (by omega), lt_pos (by simp; omega), lt_neg (by omega)]
            exact q4
          · rw [getD_out hj] at q4 hx
            rw [getD_out hj]
            simp only [Int.sub_zero] at q4 hx ⊢
            simp (disch := omega) only [St109b0, dn_ret, dn_call, dn_loop, dn_cont0, ite_lss, ite_leq, ite_gtr, ite_geq, ite_eql, ite_neq, ite_not, ite_seql, ite_beql, ite_bneq, ite_fld, need_leq', need_lss', need_neq0, b_true, b_false, se_var, se_lit, se_o1, se_o2, se_o3, get0, getS, pc_agg, pi_int, pb_bool, ps_str, o_not, o_len, o_fld, o_slen, o_conv, o_add, o_sub, o_mul, o_quo, o_rem, o_lss, o_leq, o_gtr, o_geq, o_eql, o_neq, o_sadd, o_seql, o_bneq, o_beql, o_mx, o_mkS, o_idx, o_snoc, o_cat, o_subl, o_upd, o_ssub, o_sidx, w64, w8, List.nil_append, List.cons_append, dl_nil, Int.toNat_natCast, e1, pre_get, pre_set, pre_get1, pre_set1, pre_len]
            rw [lt_pos (by omega), lt_neg (by omega), le_pos (by omega), lt_pos (by simp; omega), lt_neg (by omega)]
            exact q4

theorem f109 {m : Nat} (hm : 101 ≤ m) (a b : List Int) (ha : Dig a) (hb : Dig b) (la : a.length ≤ 90) (hab : nv b ≤ nv a) :
    R m 109 (.agg [dl a, dl b]) = some (.agg [dl (canon (nv a - nv b).toNat)]) := by
  obtain ⟨n, rfl⟩ : ∃ n, m = n + 1 := ⟨m - 1, by omega⟩
  obtain ⟨l, q1, q2, q3, q4⟩ := loop109 n a b (by omega) hb la (n + 1) [] a (by simp) (by omega) (by
    intro c rest e
    subst e
    have := ha.head
    exact ⟨by omega, by omega, ha.tail⟩) (by simpa using hab)
  rw [R_succ n 109 _ rfl]
  simp (disch := omega) only [St109, dn_ret, dn_call, dn_loop, dn_cont0, ite_lss, ite_leq, ite_gtr, ite_geq, ite_eql, ite_neq, ite_not, ite_seql, ite_beql, ite_bneq, ite_fld, need_leq', need_lss', need_neq0, b_true, b_false, se_var, se_lit, se_o1, se_o2, se_o3, get0, getS, pc_agg, pi_int, pb_bool, ps_str, o_not, o_len, o_fld, o_slen, o_conv, o_add, o_sub, o_mul, o_quo, o_rem, o_lss, o_leq, o_gtr, o_geq, o_eql, o_neq, o_sadd, o_seql, o_bneq, o_beql, o_mx, o_mkS, o_idx, o_snoc, o_cat, o_subl, o_upd, o_ssub, o_sidx, w64, w8, List.nil_append, List.cons_append, dl_nil]
  rw [le_pos (by omega)]
  rw [List.nil_append, List.nil_append, canon_trim q1] at q4
  have : nv l = nv a - nv b := by simpa using q2
  rw [this] at q4
  exact q4
end Go.Dv
