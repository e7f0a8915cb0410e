/- Reasoning on trees: the rules. -/
import Derived.Test.YtbhkmhaapfbjhaaGreatDvU
import Derived.Lib.Index

set_option linter.unusedVariables false
set_option linter.unusedSimpArgs false
namespace Go.Dv
open Go.Proofs

/-- strings.Index. -/
def indexP (v : PV) : Option PV :=
  match v with
  | .agg [.str s, .str t] => if s.length < 4294967281 then some (.agg [.int .i64 (Lib.index s t)]) else none
  | _ => none
/-- slices.Grow of no texts: an empty row of one's own. -/
def growP (v : PV) : Option PV :=
  match v with
  | .agg [.list 1 false [], .int .i64 n] => if 0 ≤ n ∧ n ≤ 1000000 then some (.agg [.list 1 false []]) else none
  | _ => none
def Rleaf (f : FuncId) : Option (PV → Option PV) := if f = 102 then some indexP else if f = 89 then some growP else none
def R (n : Nat) : FuncId → PV → Option PV := run Rleaf Strees n
theorem R_succ (n f : Nat) (v : PV) {t : Tree} (h : Strees f = some t) : R (n + 1) f v = t.dn (n + 1) (R n) [] [v] := by
  have hf : f ≠ 102 := by
    rintro rfl
    have e : Strees 102 = none := rfl
    rw [e] at h
    cases h
  have hg : f ≠ 89 := by
    rintro rfl
    have e : Strees 89 = none := rfl
    rw [e] at h
    cases h
  have hl : Rleaf f = none := by unfold Rleaf; rw [if_neg hf, if_neg hg]
  show run Rleaf Strees (n + 1) f v = _
  simp only [run, h, hl]
  rfl
theorem R_index (n : Nat) (s t : List UInt8) (h : s.length < 4294967281) : R (n + 1) 102 (.agg [.str s, .str t]) = some (.agg [.int .i64 (Lib.index s t)]) := by
  show run Rleaf Strees (n + 1) 102 _ = _
  have hl : Rleaf 102 = some indexP := rfl
  simp only [run, hl, indexP, if_pos h]

theorem R_grow (n : Nat) (x : Int) (h0 : 0 ≤ x) (h1 : x ≤ 1000000) : R (n + 1) 89 (.agg [.list 1 false [], .int .i64 x]) = some (.agg [.list 1 false []]) := by
  show run Rleaf Strees (n + 1) 89 _ = _
  have hl : Rleaf 89 = some growP := rfl
  simp only [run, hl, growP, if_pos (And.intro h0 h1)]

/-! Branches, by what is compared. -/
def ltE (a b : Int) (A B : Option PV) : Option PV := if a < b then A else B
def leE (a b : Int) (A B : Option PV) : Option PV := if a ≤ b then A else B
def eqE (a b : Int) (A B : Option PV) : Option PV := if a = b then A else B
def seqE (a b : List UInt8) (A B : Option PV) : Option PV := if a = b then A else B
def bE (b : Bool) (A B : Option PV) : Option PV := if b = true then A else B
theorem lt_pos {a b : Int} {A B : Option PV} (h : a < b) : ltE a b A B = A := if_pos h
theorem lt_neg {a b : Int} {A B : Option PV} (h : ¬ a < b) : ltE a b A B = B := if_neg h
theorem le_pos {a b : Int} {A B : Option PV} (h : a ≤ b) : leE a b A B = A := if_pos h
theorem le_neg {a b : Int} {A B : Option PV} (h : ¬ a ≤ b) : leE a b A B = B := if_neg h
theorem eq_pos {a b : Int} {A B : Option PV} (h : a = b) : eqE a b A B = A := if_pos h
theorem eq_neg {a b : Int} {A B : Option PV} (h : ¬ a = b) : eqE a b A B = B := if_neg h
theorem seq_pos {a b : List UInt8} {A B : Option PV} (h : a = b) : seqE a b A B = A := if_pos h
theorem seq_neg {a b : List UInt8} {A B : Option PV} (h : ¬ a = b) : seqE a b A B = B := if_neg h
theorem yx {A B : Option PV} : bE true A B = A := rfl
theorem yy {A B : Option PV} : bE false A B = B := rfl

section
variable {n : Nat} {G : FuncId → PV → Option PV} {L : List (PV → Option PV)} {env : List PV} {a b : Tree} {x y : SE} {k : IntKind}
theorem ya : (Tree.ret x).dn n G L env = some (x.dn env) := (rfl)
theorem yb {f : FuncId} : (Tree.call f x a).dn n G L env = match G f (x.dn env) with | some r => a.dn n G L (env ++ [r]) | none => none := (rfl)
theorem yc : (Tree.loop x a).dn n G L env = rounds (fun self v => a.dn n G (L ++ [self]) (env ++ [v])) n (x.dn env) := (rfl)
theorem yd {f : PV → Option PV} : (Tree.cont 0 x).dn n G (f :: L) env = f (x.dn env) := (rfl)
theorem dn_cont1 {f g : PV → Option PV} : (Tree.cont 1 x).dn n G (f :: g :: L) env = g (x.dn env) := (rfl)
theorem dn_lab : (Tree.lab b a).dn n G L env = a.dn n G (L ++ [fun v => b.dn n G L (env ++ [v])]) env := (rfl)
theorem dn_ite {c : SE} {q : Bool} (h : c.dn env = .bool q) : (Tree.ite c a b).dn n G L env = if q = true then a.dn n G L env else b.dn n G L env := by
  simp only [Tree.dn, h]
  cases q <;> rfl
theorem dn_need {c : SE} {q : Bool} (h : c.dn env = .bool q) : (Tree.need c a).dn n G L env = if q = true then a.dn n G L env else none := by
  simp only [Tree.dn, h]
  cases q <;> rfl
theorem ye : (Tree.ite (.o2 (.int .lss k) x y) a b).dn n G L env = ltE (x.dn env).i (y.dn env).i (a.dn n G L env) (b.dn n G L env) := by rw [dn_ite rfl]; unfold ltE; by_cases h : (x.dn env).i < (y.dn env).i <;> simp [h]
theorem yf : (Tree.ite (.o2 (.int .leq k) x y) a b).dn n G L env = leE (x.dn env).i (y.dn env).i (a.dn n G L env) (b.dn n G L env) := by rw [dn_ite rfl]; unfold leE; by_cases h : (x.dn env).i ≤ (y.dn env).i <;> simp [h]
theorem yg : (Tree.ite (.o2 (.int .gtr k) x y) a b).dn n G L env = ltE (y.dn env).i (x.dn env).i (a.dn n G L env) (b.dn n G L env) := by rw [dn_ite rfl]; unfold ltE; by_cases h : (y.dn env).i < (x.dn env).i <;> simp [h]
theorem yh : (Tree.ite (.o2 (.int .geq k) x y) a b).dn n G L env = leE (y.dn env).i (x.dn env).i (a.dn n G L env) (b.dn n G L env) := by rw [dn_ite rfl]; unfold leE; by_cases h : (y.dn env).i ≤ (x.dn env).i <;> simp [h]
theorem yi : (Tree.ite (.o2 (.int .eql k) x y) a b).dn n G L env = eqE (x.dn env).i (y.dn env).i (a.dn n G L env) (b.dn n G L env) := by rw [dn_ite rfl]; unfold eqE; by_cases h : (x.dn env).i = (y.dn env).i <;> simp [h]
theorem yj : (Tree.ite (.o2 (.int .neq k) x y) a b).dn n G L env = eqE (x.dn env).i (y.dn env).i (b.dn n G L env) (a.dn n G L env) := by rw [dn_ite rfl]; unfold eqE; by_cases h : (x.dn env).i = (y.dn env).i <;> simp [h]
theorem yk : (Tree.ite (.o1 .not x) a b).dn n G L env = bE (x.dn env).b (b.dn n G L env) (a.dn n G L env) := by rw [dn_ite rfl]; unfold bE; cases (x.dn env).b <;> simp
theorem yl : (Tree.ite (.o2 (.str .eql) x y) a b).dn n G L env = seqE (x.dn env).s (y.dn env).s (a.dn n G L env) (b.dn n G L env) := by rw [dn_ite rfl]; unfold seqE; by_cases h : (x.dn env).s = (y.dn env).s <;> simp [h]
theorem yp : (Tree.ite (.o2 (.bool .eql) x y) a b).dn n G L env = bE ((x.dn env).b == (y.dn env).b) (a.dn n G L env) (b.dn n G L env) := by rw [dn_ite rfl]; unfold bE; cases ((x.dn env).b == (y.dn env).b) <;> simp
theorem yq : (Tree.ite (.o2 (.bool .neq) x y) a b).dn n G L env = bE ((x.dn env).b == (y.dn env).b) (b.dn n G L env) (a.dn n G L env) := by rw [dn_ite rfl]; unfold bE; cases ((x.dn env).b == (y.dn env).b) <;> simp
theorem ys {i : Nat} : (Tree.ite (.o1 (.fld i) x) a b).dn n G L env = match (x.dn env).cs.getD i (.bool false) with | .bool true => a.dn n G L env | .bool false => b.dn n G L env | _ => none := (rfl)
theorem yv : (Tree.need (.o2 (.int .lss k) x y) a).dn n G L env = ltE (x.dn env).i (y.dn env).i (a.dn n G L env) none := by rw [dn_need rfl]; unfold ltE; by_cases h : (x.dn env).i < (y.dn env).i <;> simp [h]
theorem yu : (Tree.need (.o2 (.int .leq k) x y) a).dn n G L env = leE (x.dn env).i (y.dn env).i (a.dn n G L env) none := by rw [dn_need rfl]; unfold leE; by_cases h : (x.dn env).i ≤ (y.dn env).i <;> simp [h]
theorem yw : (Tree.need (.o1 .not (.o2 (.int .eql k) x y)) a).dn n G L env = eqE (x.dn env).i (y.dn env).i none (a.dn n G L env) := by
  rw [dn_need (q := !decide ((x.dn env).i = (y.dn env).i)) rfl]
  unfold eqE
  by_cases h : (x.dn env).i = (y.dn env).i <;> simp [h]
end
theorem rounds_s (F : (PV → Option PV) → PV → Option PV) (k : Nat) (v : PV) : rounds F (k + 1) v = F (rounds F k) v := (rfl)

/-! Expressions. -/
section
variable {env : List PV}
theorem yz (i : Nat) : (SE.var i).dn env = env.getD i (.bool false) := (rfl)
theorem za (v : PV) : (SE.lit v).dn env = v := (rfl)
theorem zb (o : O1) (a : SE) : (SE.o1 o a).dn env = o.dn (a.dn env) := (rfl)
theorem zc (o : O2) (a b : SE) : (SE.o2 o a b).dn env = o.dn (a.dn env) (b.dn env) := (rfl)
theorem zd (o : O3) (a b c : SE) : (SE.o3 o a b c).dn env = o.dn (a.dn env) (b.dn env) (c.dn env) := (rfl)
end
theorem get0 (a : PV) (l : List PV) : (a :: l).getD 0 (.bool false) = a := (rfl)
theorem getS (a : PV) (l : List PV) (n : Nat) : (a :: l).getD (n + 1) (.bool false) = l.getD n (.bool false) := (rfl)
theorem zf (k : IntKind) (n : Int) : (PV.int k n).i = n := (rfl)
theorem zg (b : Bool) : (PV.bool b).b = b := (rfl)
theorem zh (l : List UInt8) : (PV.str l).s = l := (rfl)
theorem zi (n : Nat) (g : Bool) (l : List PV) : (PV.list n g l).l = l := (rfl)
theorem ze (l : List PV) : (PV.agg l).cs = l := (rfl)

def dl (l : List Int) : PV := .list 1 false (l.map (PV.int .i64))
theorem uv : PV.list 1 false [] = dl [] := rfl
theorem zj (a : PV) : O1.not.dn a = .bool (!a.b) := (rfl)
theorem uo (l : List Int) : O1.len.dn (dl l) = .int .i64 l.length := by simp [O1.dn, dl, PV.l]
theorem zk (i : Nat) (l : List PV) : (O1.fld i).dn (.agg l) = l.getD i (.bool false) := (rfl)
theorem zl (a : PV) : O1.slen.dn a = .int .i64 a.s.length := (rfl)
theorem zm (k : IntKind) (a : PV) : (O1.conv k).dn a = .int k (k.wrap a.i) := (rfl)
theorem o_neg (k : IntKind) (a : PV) : (O1.neg k).dn a = .int k (k.wrap (-a.i)) := (rfl)
theorem zn (k : IntKind) (a b : PV) : (O2.int .add k).dn a b = .int k (k.wrap (a.i + b.i)) := (rfl)
theorem zo (k : IntKind) (a b : PV) : (O2.int .sub k).dn a b = .int k (k.wrap (a.i - b.i)) := (rfl)
theorem zp (k : IntKind) (a b : PV) : (O2.int .mul k).dn a b = .int k (k.wrap (a.i * b.i)) := (rfl)
theorem zq (k : IntKind) (a b : PV) : (O2.int .quo k).dn a b = .int k (k.wrap (a.i.tdiv b.i)) := (rfl)
theorem zr (k : IntKind) (a b : PV) : (O2.int .rem k).dn a b = .int k (a.i.tmod b.i) := (rfl)
theorem zs (k : IntKind) (a b : PV) : (O2.int .lss k).dn a b = .bool (decide (a.i < b.i)) := (rfl)
theorem zt (k : IntKind) (a b : PV) : (O2.int .leq k).dn a b = .bool (decide (a.i ≤ b.i)) := (rfl)
theorem zu (k : IntKind) (a b : PV) : (O2.int .gtr k).dn a b = .bool (decide (b.i < a.i)) := (rfl)
theorem zv (k : IntKind) (a b : PV) : (O2.int .geq k).dn a b = .bool (decide (b.i ≤ a.i)) := (rfl)
theorem zw (k : IntKind) (a b : PV) : (O2.int .eql k).dn a b = .bool (decide (a.i = b.i)) := (rfl)
theorem zx (k : IntKind) (a b : PV) : (O2.int .neq k).dn a b = .bool (!decide (a.i = b.i)) := (rfl)
theorem zy (a b : PV) : (O2.str .add).dn a b = .str (a.s ++ b.s) := (rfl)
theorem zz (a b : PV) : (O2.str .eql).dn a b = .bool (decide (a.s = b.s)) := (rfl)
theorem ub (a b : PV) : (O2.bool .neq).dn a b = .bool (!(a.b == b.b)) := (rfl)
theorem uc (a b : PV) : (O2.bool .eql).dn a b = .bool (a.b == b.b) := (rfl)
theorem ud (k : IntKind) (a b : PV) : (O2.mx k).dn a b = .int k (if b.i > a.i then b.i else a.i) := (rfl)
theorem ue (l : List PV) (x : PV) : O2.mkS.dn (.agg l) x = .agg (l ++ [x]) := (rfl)
theorem up (l : List Int) (i : PV) : (O2.idx.dn (dl l) i).i = l.getD i.i.toNat 0 := by
  simp only [O2.dn, dl, PV.l, List.getD_eq_getElem?_getD, List.getElem?_map]
  cases l[i.i.toNat]? <;> rfl
theorem o_idx' (l : List Int) (i : PV) (h : i.i.toNat < l.length) : O2.idx.dn (dl l) i = .int .i64 (l.getD i.i.toNat 0) := by
  simp only [O2.dn, dl, PV.l, List.getD_eq_getElem?_getD, List.getElem?_map]
  rw [List.getElem?_eq_getElem h]
  rfl
theorem uq (l : List Int) (x : Int) : O2.snoc.dn (dl l) (.int .i64 x) = dl (l ++ [x]) := by simp [O2.dn, dl]
theorem ur (l m : List Int) : O2.cat.dn (dl l) (dl m) = dl (l ++ m) := by simp [O2.dn, dl, PV.l]
theorem ut (l : List Int) (a b : PV) : O3.sub.dn (dl l) a b = dl ((l.take b.i.toNat).drop a.i.toNat) := by simp [O3.dn, dl, List.map_drop, List.map_take]
theorem uu (l : List Int) (k : IntKind) (j x : Int) (h : 0 ≤ j) : O3.upd.dn (dl l) (.int k j) (.int .i64 x) = dl (l.set j.toNat x) := by simp [O3.dn, dl, updL, PV.i, h, List.map_set]
theorem ul (a lo hi : PV) : O3.ssub.dn a lo hi = .str ((a.s.take hi.i.toNat).drop lo.i.toNat) := (rfl)
theorem um (a i : PV) : O2.sidx.dn a i = .int .u8 (a.s.getD i.i.toNat 0).toNat := (rfl)
theorem o_zeros (n : PV) : (O1.zeros 1 false (.int .i64 0)).dn n = dl (List.replicate n.i.toNat 0) := by simp [O1.dn, dl]
theorem w64 {n : Int} (h1 : -9223372036854775808 ≤ n) (h2 : n < 9223372036854775808) : IntKind.i64.wrap n = n := by
  simp [IntKind.wrap, IntKind.bits, IntKind.signed]; omega
theorem w8 {n : Int} (h1 : 0 ≤ n) (h2 : n < 256) : IntKind.u8.wrap n = n := by
  simp [IntKind.wrap, IntKind.bits, IntKind.signed]; omega

/-! Digits. -/
def trim (l : List Int) : List Int := (l.reverse.dropWhile (· == 0)).reverse
theorem trim_nil : trim [] = [] := rfl
theorem trim_snoc (l : List Int) (d : Int) : trim (l ++ [d]) = if d = 0 then trim l else l ++ [d] := by
  unfold trim
  rw [List.reverse_append]
  simp only [List.reverse_cons, List.reverse_nil, List.nil_append, List.singleton_append, List.dropWhile_cons]
  by_cases h : d = 0
  · simp [h]
  · simp [h]
end Go.Dv

/- The functions on digits: trimmed, prefixes, what an integer is. -/
set_option linter.unusedVariables false
set_option linter.unusedSimpArgs false
namespace Go.Dv

theorem trim117 (n : Nat) (G : FuncId → PV → Option PV) (v0 : PV) : ∀ (m : Nat) (l : List Int), l.length = m → m < 1000000 → ∀ k, m < k → rounds (fun self v => St125b0.dn n G [self] [v0, v]) k (.agg [dl l]) = some (.agg [dl (trim l)]) := by
  intro m
  induction m with
  | zero =>
    intro l hl hm k hk
    obtain ⟨k, rfl⟩ : ∃ j, k = j + 1 := ⟨k - 1, by omega⟩
    have : l = [] := List.length_eq_zero_iff.1 hl
    subst this
    rw [rounds_s]
    generalize rounds _ k = self
    simp only [St125b0, ya, yb, yc, yd, ye, yf, yg, yh, yi, yj, yk, yl, yp, yq, ys, yu, yv, yw, yx, yy, yz, za, zb, zc, zd, get0, getS, ze, zf, zg, zh, zj, uo, zk, zl, zm, zn, zo, zp, zq, zr, zs, zt, zu, zv, zw, zx, zy, zz, ub, uc, ud, ue, up, uq, ur, ut, uu, ul, um, w64, w8, List.nil_append, List.cons_append, uv, List.length_nil]
    rfl
  | succ m ih =>
    intro l hl hm k hk
    obtain ⟨k, rfl⟩ : ∃ j, k = j + 1 := ⟨k - 1, by omega⟩
    obtain ⟨l, d, rfl⟩ : ∃ l' d, l = l' ++ [d] := by
      rcases List.eq_nil_or_concat l with rfl | ⟨l', d, rfl⟩
      · simp at hl
      · exact ⟨l', d, by simp⟩
    have hl' : l.length = m := by simpa using hl
    rw [rounds_s]
    have ih := ih l hl' (by omega) k (by omega)
    generalize rounds _ k = self at *
    have e : (l ++ [d]).getD m 0 = d := by simp [List.getD_eq_getElem?_getD, ← hl']
    have e2 : (l ++ [d]).take m = l := by rw [← hl']; simp
    simp (disch := omega) only [St125b0, ya, yb, yc, yd, ye, yf, yg, yh, yi, yj, yk, yl, yp, yq, ys, yu, yv, yw, yx, yy, yz, za, zb, zc, zd, get0, getS, ze, zf, zg, zh, zj, uo, zk, zl, zm, zn, zo, zp, zq, zr, zs, zt, zu, zv, zw, zx, zy, zz, ub, uc, ud, ue, up, uq, ur, ut, uu, ul, um, w64, w8, List.nil_append, List.cons_append, uv, hl, Int.add_sub_cancel, Int.natCast_add, Int.toNat_natCast, Int.natCast_one, e, e2, Int.toNat_zero, List.drop_zero]
    rw [lt_pos (by omega), le_pos (by omega), lt_pos (by omega), trim_snoc]
    by_cases hd : d = 0
    · rw [eq_pos hd, le_pos (by omega), if_pos hd]
      exact ih
    · rw [eq_neg hd, if_neg hd]

theorem trim155 (n : Nat) (G : FuncId → PV → Option PV) (l0 : List Int) (h0 : l0.length < 1000000) : ∀ (m : Nat), m ≤ l0.length → ∀ k, m < k → rounds (fun self v => St128b0.dn n G [self] [.agg [dl l0], v]) k (.agg [.int .i64 m]) = some (.agg [dl (trim (l0.take m))]) := by
  intro m
  induction m with
  | zero =>
    intro hl k hk
    obtain ⟨k, rfl⟩ : ∃ j, k = j + 1 := ⟨k - 1, by omega⟩
    rw [rounds_s]
    generalize rounds _ k = self
    simp (disch := omega) only [St128b0, ya, yb, yc, yd, ye, yf, yg, yh, yi, yj, yk, yl, yp, yq, ys, yu, yv, yw, yx, yy, yz, za, zb, zc, zd, get0, getS, ze, zf, zg, zh, zj, uo, zk, zl, zm, zn, zo, zp, zq, zr, zs, zt, zu, zv, zw, zx, zy, zz, ub, uc, ud, ue, up, uq, ur, ut, uu, ul, um, w64, w8, List.nil_append, List.cons_append, uv, Int.toNat_zero, List.drop_zero, Int.natCast_zero, List.take_zero]
    rw [lt_neg (by omega), le_pos (by omega), le_pos (by omega)]
    rfl
  | succ m ih =>
    intro hl k hk
    obtain ⟨k, rfl⟩ : ∃ j, k = j + 1 := ⟨k - 1, by omega⟩
    rw [rounds_s]
    have ih := ih (by omega) k (by omega)
    generalize rounds _ k = self at *
    have ht : l0.take (m + 1) = l0.take m ++ [l0.getD m 0] := by
      rw [List.take_add_one]
      simp [List.getD_eq_getElem?_getD, List.getElem?_eq_getElem (show m < l0.length by omega)]
    have e1 : ((m : Int) + 1).toNat = m + 1 := by omega
    simp (disch := omega) only [St128b0, ya, yb, yc, yd, ye, yf, yg, yh, yi, yj, yk, yl, yp, yq, ys, yu, yv, yw, yx, yy, yz, za, zb, zc, zd, get0, getS, ze, zf, zg, zh, zj, uo, zk, zl, zm, zn, zo, zp, zq, zr, zs, zt, zu, zv, zw, zx, zy, zz, ub, uc, ud, ue, up, uq, ur, ut, uu, ul, um, w64, w8, List.nil_append, List.cons_append, uv, Int.add_sub_cancel, Int.natCast_add, Int.toNat_natCast, Int.natCast_one, Int.toNat_zero, List.drop_zero, e1]
    rw [lt_pos (by omega), le_pos (by omega), lt_pos (by omega), ht, trim_snoc]
    by_cases hd : l0.getD m 0 = 0
    · rw [eq_pos hd, if_pos hd]
      exact ih
    · rw [eq_neg hd, if_neg hd, le_pos (by omega), le_pos (by omega)]

theorem f117 {m : Nat} (hm : 100 ≤ m) (l : List Int) (hl : l.length < 95) : R m 125 (.agg [dl l]) = some (.agg [dl (trim l)]) := by
  obtain ⟨n, rfl⟩ : ∃ n, m = n + 1 := ⟨m - 1, by omega⟩
  rw [R_succ n 125 _ rfl]
  simp only [St125, ya, yb, yc, yd, ye, yf, yg, yh, yi, yj, yk, yl, yp, yq, ys, yu, yv, yw, yx, yy, yz, za, zb, zc, zd, get0, getS, ze, zf, zg, zh, zj, uo, zk, zl, zm, zn, zo, zp, zq, zr, zs, zt, zu, zv, zw, zx, zy, zz, ub, uc, ud, ue, up, uq, ur, ut, uu, ul, um, w64, w8, List.nil_append, List.cons_append, uv]
  exact trim117 _ _ _ l.length l rfl (by omega) _ (by omega)
theorem f155 {m : Nat} (hm : 100 ≤ m) (l : List Int) (hl : l.length < 95) : R m 128 (.agg [dl l]) = some (.agg [dl (trim l)]) := by
  obtain ⟨n, rfl⟩ : ∃ n, m = n + 1 := ⟨m - 1, by omega⟩
  rw [R_succ n 128 _ rfl]
  simp only [St128, ya, yb, yc, yd, ye, yf, yg, yh, yi, yj, yk, yl, yp, yq, ys, yu, yv, yw, yx, yy, yz, za, zb, zc, zd, get0, getS, ze, zf, zg, zh, zj, uo, zk, zl, zm, zn, zo, zp, zq, zr, zs, zt, zu, zv, zw, zx, zy, zz, ub, uc, ud, ue, up, uq, ur, ut, uu, ul, um, w64, w8, List.nil_append, List.cons_append, uv]
  have := trim155 (n + 1) (R n) l (by omega) l.length (Nat.le_refl _) (n + 1) (by omega)
  rw [List.take_length] at this
  exact this

/-! Texts. -/
def negL (s : List UInt8) : Bool := decide (s.take 1 = [45])
def bodyL (s : List UInt8) : List UInt8 := if negL s then s.drop 1 else s
def isD (c : UInt8) : Bool := decide (48 ≤ c.toNat) && decide (c.toNat ≤ 57)
def digL (b : List UInt8) : List Int := b.reverse.map fun c => (c.toNat : Int) - 48
def isIntL (s : List UInt8) : Bool :=
  decide (1 ≤ (bodyL s).length) && decide ((bodyL s).length ≤ 40) && (bodyL s).all isD && !(decide ((bodyL s).getD 0 0 = 48) && (decide (1 < (bodyL s).length) || negL s))

theorem f152 {m : Nat} (hm : 1 ≤ m) (s : List UInt8) : R m 151 (.agg [.str s, .str [45]]) = some (.agg [.bool (negL s)]) := by
  obtain ⟨n, rfl⟩ : ∃ n, m = n + 1 := ⟨m - 1, by omega⟩
  rw [R_succ n 151 _ rfl]
  simp only [St151, ya, yb, yc, yd, ye, yf, yg, yh, yi, yj, yk, yl, yp, yq, ys, yu, yv, yw, yx, yy, yz, za, zb, zc, zd, get0, getS, ze, zf, zg, zh, zj, uo, zk, zl, zm, zn, zo, zp, zq, zr, zs, zt, zu, zv, zw, zx, zy, zz, ub, uc, ud, ue, up, uq, ur, ut, uu, ul, um, w64, w8, List.nil_append, List.cons_append, uv, List.length_cons, List.length_nil]
  by_cases h : 1 ≤ s.length
  · rw [le_pos (by omega), le_pos (by omega), le_pos (by omega)]
    rfl
  · rw [le_neg (by omega)]
    have : s = [] := List.length_eq_zero_iff.1 (by omega)
    subst this
    rfl
theorem f156 {m : Nat} (hm : 2 ≤ m) (s : List UInt8) : R m 142 (.agg [.str s, .str [45]]) = some (.agg [.str (bodyL s), .bool (negL s)]) := by
  obtain ⟨n, rfl⟩ : ∃ n, m = n + 1 := ⟨m - 1, by omega⟩
  rw [R_succ n 142 _ rfl]
  simp only [St142, ya, yb, yc, yd, ye, yf, yg, yh, yi, yj, yk, yl, yp, yq, ys, yu, yv, yw, yx, yy, yz, za, zb, zc, zd, get0, getS, ze, zf, zg, zh, zj, uo, zk, zl, zm, zn, zo, zp, zq, zr, zs, zt, zu, zv, zw, zx, zy, zz, ub, uc, ud, ue, up, uq, ur, ut, uu, ul, um, w64, w8, List.nil_append, List.cons_append, uv, f152 (m := n) (by omega), List.length_cons, List.length_nil]
  unfold bodyL
  cases hn : negL s with
  | false => rfl
  | true =>
    have h1 : 1 ≤ s.length := by
      unfold negL at hn
      cases s with
      | nil => simp at hn
      | cons a s => simp
    simp only [yx]
    rw [le_pos (by omega), le_pos (by omega), le_pos (by omega)]
    have e : ((s.length : Int)).toNat = s.length := by omega
    have e2 : (((0 + 1 : Nat) : Int)).toNat = 1 := rfl
    rw [e, e2, List.take_length]
    rfl
theorem f116 {m : Nat} (hm : 3 ≤ m) (s : List UInt8) : R m 124 (.agg [.str s, .str [45]]) = some (.agg [.str (bodyL s), .bool (negL s)]) := by
  obtain ⟨n, rfl⟩ : ∃ n, m = n + 1 := ⟨m - 1, by omega⟩
  rw [R_succ n 124 _ rfl]
  simp only [St124, ya, yb, yc, yd, ye, yf, yg, yh, yi, yj, yk, yl, yp, yq, ys, yu, yv, yw, yx, yy, yz, za, zb, zc, zd, get0, getS, ze, zf, zg, zh, zj, uo, zk, zl, zm, zn, zo, zp, zq, zr, zs, zt, zu, zv, zw, zx, zy, zz, ub, uc, ud, ue, up, uq, ur, ut, uu, ul, um, w64, w8, List.nil_append, List.cons_append, uv, f156 (m := n) (by omega)]
end Go.Dv

/- What an integer is, to the program and to the reference; its digits. -/
set_option linter.unusedVariables false
set_option linter.unusedSimpArgs false
namespace Go.Dv

theorem u8_lt (c : UInt8) : c.toNat < 256 := UInt8.toNat_lt c
theorem isD_iff (c : UInt8) : isD c = true ↔ 48 ≤ c.toNat ∧ c.toNat ≤ 57 := by simp [isD]
theorem take_getD (b : List UInt8) (j : Nat) (h : j < b.length) : b.take (j + 1) = b.take j ++ [b.getD j 0] := by
  rw [List.take_add_one]
  simp [List.getD_eq_getElem?_getD, List.getElem?_eq_getElem h]
theorem digL_take (b : List UInt8) (j : Nat) (h : j < b.length) : digL (b.take (j + 1)) = ((b.getD j 0).toNat - 48 : Int) :: digL (b.take j) := by
  rw [take_getD b j h]
  simp [digL]
theorem digL_len (b : List UInt8) : (digL b).length = b.length := by simp [digL]

def failP : PV := .agg [.agg [.bool false, dl []], .bool false]
def numP (q : Bool) (l : List Int) : PV := .agg [.agg [.bool q, dl l], .bool true]

/-- The two loops of parseNumber. -/
theorem loop77 (n : Nat) (q : Bool) (b : List UInt8) (v0 : PV) (hb : b.length ≤ 40) (hn : 100 ≤ n) (B : Tree) (hB : B = St103b0 ∧ q = false ∨ B = St103b1) :
    ∀ (j : Nat), j ≤ b.length → ∀ (acc : List Int), acc.length + j ≤ 40 → ∀ k, j < k → rounds (fun self v => B.dn (n + 1) (R n) [self] [v0, .agg [.str b, .bool q], v]) k (.agg [.int .i64 ((j : Int) - 1), dl acc]) =
      some (if (b.take j).all isD then numP q (trim (acc ++ digL (b.take j))) else failP) := by
  intro j
  induction j with
  | zero =>
    intro hj acc ha k hk
    obtain ⟨k, rfl⟩ : ∃ i, k = i + 1 := ⟨k - 1, by omega⟩
    rw [rounds_s]
    generalize rounds _ k = self
    have hc : R n 125 (.agg [dl acc]) = some (.agg [dl (trim acc)]) := f117 hn acc (by omega)
    rcases hB with ⟨rfl, rfl⟩ | rfl
    · simp (disch := omega) only [St103b0, ya, yb, yc, yd, ye, yf, yg, yh, yi, yj, yk, yl, yp, yq, ys, yu, yv, yw, yx, yy, yz, za, zb, zc, zd, get0, getS, ze, zf, zg, zh, zj, uo, zk, zl, zm, zn, zo, zp, zq, zr, zs, zt, zu, zv, zw, zx, zy, zz, ub, uc, ud, ue, up, uq, ur, ut, uu, ul, um, w64, w8, List.nil_append, List.cons_append, uv, hc]
      rw [le_neg (by omega)]
      simp [digL, numP]
    · simp (disch := omega) only [St103b1, ya, yb, yc, yd, ye, yf, yg, yh, yi, yj, yk, yl, yp, yq, ys, yu, yv, yw, yx, yy, yz, za, zb, zc, zd, get0, getS, ze, zf, zg, zh, zj, uo, zk, zl, zm, zn, zo, zp, zq, zr, zs, zt, zu, zv, zw, zx, zy, zz, ub, uc, ud, ue, up, uq, ur, ut, uu, ul, um, w64, w8, List.nil_append, List.cons_append, uv, hc]
      rw [le_neg (by omega)]
      simp [digL, numP]
  | succ j ih =>
    intro hj acc ha k hk
    obtain ⟨k, rfl⟩ : ∃ i, k = i + 1 := ⟨k - 1, by omega⟩
    rw [rounds_s]
    have hu := u8_lt (b.getD j 0)
    have ih' := ih (by omega) (acc ++ [((b.getD j 0).toNat : Int) - 48]) (by simp; omega) k (by omega)
    clear ih
    have e1 : ((j + 1 : Nat) : Int) - 1 = (j : Int) := by omega
    have e2 : (j : Int).toNat = j := by omega
    have hall : (b.take (j + 1)).all isD = ((b.take j).all isD && isD (b.getD j 0)) := by rw [take_getD b j (by omega)]; simp
    rw [hall, digL_take b j (by omega)]
    generalize hself : rounds _ k = self at ih' ⊢
    have hlen : (acc ++ [((b.getD j 0).toNat : Int) - 48]).length = acc.length + 1 := by simp
    have hdd : isD (b.getD j 0) = (decide (48 ≤ (b.getD j 0).toNat) && decide ((b.getD j 0).toNat ≤ 57)) := rfl
    generalize hc : b.getD j 0 = c at ih' hu hlen hdd ⊢
    by_cases h1 : c.toNat < 48
    · have hd : isD c = false := by rw [hdd]; simp; omega
      rw [hd]
      rcases hB with ⟨rfl, rfl⟩ | rfl
      · simp (disch := omega) only [St103b0, ya, yb, yc, yd, ye, yf, yg, yh, yi, yj, yk, yl, yp, yq, ys, yu, yv, yw, yx, yy, yz, za, zb, zc, zd, get0, getS, ze, zf, zg, zh, zj, uo, zk, zl, zm, zn, zo, zp, zq, zr, zs, zt, zu, zv, zw, zx, zy, zz, ub, uc, ud, ue, up, uq, ur, ut, uu, ul, um, w64, w8, List.nil_append, List.cons_append, uv, e1, e2, hc]
        rw [le_pos (by omega), le_pos (by omega), lt_pos (by omega), lt_pos (by omega)]
        simp [failP]
      · simp (disch := omega) only [St103b1, ya, yb, yc, yd, ye, yf, yg, yh, yi, yj, yk, yl, yp, yq, ys, yu, yv, yw, yx, yy, yz, za, zb, zc, zd, get0, getS, ze, zf, zg, zh, zj, uo, zk, zl, zm, zn, zo, zp, zq, zr, zs, zt, zu, zv, zw, zx, zy, zz, ub, uc, ud, ue, up, uq, ur, ut, uu, ul, um, w64, w8, List.nil_append, List.cons_append, uv, e1, e2, hc]
        rw [le_pos (by omega), le_pos (by omega), lt_pos (by omega), lt_pos (by omega)]
        simp [failP]
    · by_cases h2 : 57 < c.toNat
      · have hd : isD c = false := by rw [hdd]; simp; omega
        rw [hd]
        rcases hB with ⟨rfl, rfl⟩ | rfl
        · simp (disch := omega) only [St103b0, ya, yb, yc, yd, ye, yf, yg, yh, yi, yj, yk, yl, yp, yq, ys, yu, yv, yw, yx, yy, yz, za, zb, zc, zd, get0, getS, ze, zf, zg, zh, zj, uo, zk, zl, zm, zn, zo, zp, zq, zr, zs, zt, zu, zv, zw, zx, zy, zz, ub, uc, ud, ue, up, uq, ur, ut, uu, ul, um, w64, w8, List.nil_append, List.cons_append, uv, e1, e2, hc]
          rw [le_pos (by omega), le_pos (by omega), lt_pos (by omega), lt_neg (by omega), lt_pos (by omega)]
          simp [failP]
        · simp (disch := omega) only [St103b1, ya, yb, yc, yd, ye, yf, yg, yh, yi, yj, yk, yl, yp, yq, ys, yu, yv, yw, yx, yy, yz, za, zb, zc, zd, get0, getS, ze, zf, zg, zh, zj, uo, zk, zl, zm, zn, zo, zp, zq, zr, zs, zt, zu, zv, zw, zx, zy, zz, ub, uc, ud, ue, up, uq, ur, ut, uu, ul, um, w64, w8, List.nil_append, List.cons_append, uv, e1, e2, hc]
          rw [le_pos (by omega), le_pos (by omega), lt_pos (by omega), lt_neg (by omega), lt_pos (by omega)]
          simp [failP]
      · have hd : isD c = true := by rw [hdd]; simp; omega
        rw [hd, Bool.and_true]
        have e3 : acc ++ ((c.toNat : Int) - 48) :: digL (b.take j) = acc ++ [(c.toNat : Int) - 48] ++ digL (b.take j) := by simp
        rw [e3]
        rcases hB with ⟨rfl, rfl⟩ | rfl
        · simp (disch := omega) only [St103b0, ya, yb, yc, yd, ye, yf, yg, yh, yi, yj, yk, yl, yp, yq, ys, yu, yv, yw, yx, yy, yz, za, zb, zc, zd, get0, getS, ze, zf, zg, zh, zj, uo, zk, zl, zm, zn, zo, zp, zq, zr, zs, zt, zu, zv, zw, zx, zy, zz, ub, uc, ud, ue, up, uq, ur, ut, uu, ul, um, w64, w8, List.nil_append, List.cons_append, uv, e1, e2, hc]
          rw [le_pos (by omega), le_pos (by omega), lt_pos (by omega), lt_neg (by omega), lt_neg (by omega), le_pos (by omega)]
          exact ih'
        · simp (disch := omega) only [St103b1, ya, yb, yc, yd, ye, yf, yg, yh, yi, yj, yk, yl, yp, yq, ys, yu, yv, yw, yx, yy, yz, za, zb, zc, zd, get0, getS, ze, zf, zg, zh, zj, uo, zk, zl, zm, zn, zo, zp, zq, zr, zs, zt, zu, zv, zw, zx, zy, zz, ub, uc, ud, ue, up, uq, ur, ut, uu, ul, um, w64, w8, List.nil_append, List.cons_append, uv, e1, e2, hc]
          rw [le_pos (by omega), le_pos (by omega), lt_pos (by omega), lt_neg (by omega), lt_neg (by omega), le_pos (by omega)]
          exact ih'

/-- parseNumber. -/
theorem f77 {m : Nat} (hm : 102 ≤ m) (s : List UInt8) : R m 103 (.agg [.str s]) = some (if isIntL s then numP (negL s) (trim (digL (bodyL s))) else failP) := by
  obtain ⟨n, rfl⟩ : ∃ n, m = n + 1 := ⟨m - 1, by omega⟩
  rw [R_succ n 103 _ rfl]
  simp only [St103, ya, yb, yc, yd, ye, yf, yg, yh, yi, yj, yk, yl, yp, yq, ys, yu, yv, yw, yx, yy, yz, za, zb, zc, zd, get0, getS, ze, zf, zg, zh, zj, uo, zk, zl, zm, zn, zo, zp, zq, zr, zs, zt, zu, zv, zw, zx, zy, zz, ub, uc, ud, ue, up, uq, ur, ut, uu, ul, um, w64, w8, List.nil_append, List.cons_append, uv, f116 (m := n) (by omega)]
  unfold isIntL
  generalize bodyL s = b
  generalize negL s = q
  have fin : ∀ r : Option PV, r = some failP → (decide (1 ≤ b.length) && decide (b.length ≤ 40) && b.all isD && !(decide (b.getD 0 0 = 48) && (decide (1 < b.length) || q))) = false → r = some (if (decide (1 ≤ b.length) && decide (b.length ≤ 40) && b.all isD && !(decide (b.getD 0 0 = 48) && (decide (1 < b.length) || q))) = true then numP q (trim (digL b)) else failP) := by
    intro r h1 h2
    rw [h2, h1]
    rfl
  by_cases h1 : b.length < 1
  · rw [lt_pos (by omega)]
    exact fin _ rfl (by have : ¬ 1 ≤ b.length := by omega
                        simp [this])
  · rw [lt_neg (by omega)]
    by_cases h2 : 40 < b.length
    · rw [lt_pos (by omega)]
      exact fin _ rfl (by have : ¬ b.length ≤ 40 := by omega
                          simp [this])
    · rw [lt_neg (by omega), lt_pos (by omega)]
      have l0 := loop77 n false b (.agg [.str s]) (by omega) (by omega) St103b0 (.inl ⟨rfl, rfl⟩) b.length (Nat.le_refl _) [] (by simp; omega) (n + 1) (by omega)
      have l1 := loop77 n q b (.agg [.str s]) (by omega) (by omega) St103b1 (.inr rfl) b.length (Nat.le_refl _) [] (by simp; omega) (n + 1) (by omega)
      rw [List.take_length, List.nil_append] at l0 l1
      have g1 : decide (1 ≤ b.length) = true := by simp; omega
      have g2 : decide (b.length ≤ 40) = true := by simp; omega
      have e0 : Int.toNat 0 = 0 := rfl
      rw [e0]
      have ew : IntKind.i64.wrap ((b.length : Int) - 1) = (b.length : Int) - 1 := w64 (by omega) (by omega)
      rw [ew]
      generalize hc : b.getD 0 0 = c at fin ⊢
      rw [g1, g2] at fin ⊢
      by_cases h3 : c = 48
      · rw [eq_pos (by rw [h3]; rfl)]
        have e3 : decide (c = 48) = true := by simp [h3]
        rw [e3] at fin ⊢
        by_cases h4 : 1 < b.length
        · rw [lt_pos (by omega)]
          exact fin _ rfl (by simp [h4])
        · rw [lt_neg (by omega)]
          have e4 : decide (1 < b.length) = false := by simp; omega
          rw [e4] at fin ⊢
          cases q with
          | true => exact fin _ rfl (by simp)
          | false =>
            show rounds _ _ _ = _
            rw [l0]
            simp
      · rw [eq_neg (by
          intro h
          have : c.toNat = 48 := by omega
          exact h3 (UInt8.toNat_inj.1 this))]
        rw [l1]
        simp [h3]

theorem f34 {m : Nat} (hm : 103 ≤ m) (s : List UInt8) : R m 91 (.agg [.str s]) = some (.agg [.bool (isIntL s)]) := by
  obtain ⟨n, rfl⟩ : ∃ n, m = n + 1 := ⟨m - 1, by omega⟩
  rw [R_succ n 91 _ rfl]
  simp only [St91, ya, yb, yc, yd, ye, yf, yg, yh, yi, yj, yk, yl, yp, yq, ys, yu, yv, yw, yx, yy, yz, za, zb, zc, zd, get0, getS, ze, zf, zg, zh, zj, uo, zk, zl, zm, zn, zo, zp, zq, zr, zs, zt, zu, zv, zw, zx, zy, zz, ub, uc, ud, ue, up, uq, ur, ut, uu, ul, um, w64, w8, List.nil_append, List.cons_append, uv, f77 (m := n) (by omega)]
  cases isIntL s <;> rfl

/-! The reference. -/
theorem f66 {m : Nat} (hm : 1 ≤ m) (x : Int) : R m 79 (.agg [.int .i64 x, .int .i64 1, .int .i64 40]) = some (.agg [.bool (decide (1 ≤ x) && decide (x ≤ 40))]) := by
  obtain ⟨n, rfl⟩ : ∃ n, m = n + 1 := ⟨m - 1, by omega⟩
  rw [R_succ n 79 _ rfl]
  simp only [St79, ya, yb, yc, yd, ye, yf, yg, yh, yi, yj, yk, yl, yp, yq, ys, yu, yv, yw, yx, yy, yz, za, zb, zc, zd, get0, getS, ze, zf, zg, zh, zj, uo, zk, zl, zm, zn, zo, zp, zq, zr, zs, zt, zu, zv, zw, zx, zy, zz, ub, uc, ud, ue, up, uq, ur, ut, uu, ul, um, w64, w8, List.nil_append, List.cons_append, uv]
  by_cases h : 1 ≤ x
  · rw [le_pos h]; simp only [h, decide_true, Bool.true_and]
  · rw [le_neg h]; simp [h]

end Go.Dv

/- Digits, least first, and what they are worth. -/
set_option linter.unusedVariables false
set_option linter.unusedSimpArgs false
namespace Go.Dv

def nv : List Int → Int
  | [] => 0
  | d :: l => d + 10 * nv l
def Dig (l : List Int) : Prop := ∀ d ∈ l, 0 ≤ d ∧ d ≤ 9
theorem Dig.nil : Dig [] := by intro d h; simp at h
theorem Dig.cons {d : Int} {l : List Int} (h1 : 0 ≤ d) (h2 : d ≤ 9) (h : Dig l) : Dig (d :: l) := by
  intro x hx
  rcases List.mem_cons.1 hx with rfl | hx
  · exact ⟨h1, h2⟩
  · exact h x hx
theorem Dig.tail {d : Int} {l : List Int} (h : Dig (d :: l)) : Dig l := fun x hx => h x (List.mem_cons_of_mem _ hx)
theorem Dig.head {d : Int} {l : List Int} (h : Dig (d :: l)) : 0 ≤ d ∧ d ≤ 9 := h d List.mem_cons_self
theorem Dig.app {l m : List Int} (h : Dig l) (h' : Dig m) : Dig (l ++ m) := by
  intro x hx
  rcases List.mem_append.1 hx with hx | hx
  · exact h x hx
  · exact h' x hx
theorem Dig.left {l m : List Int} (h : Dig (l ++ m)) : Dig l := fun x hx => h x (List.mem_append_left _ hx)
theorem Dig.right {l m : List Int} (h : Dig (l ++ m)) : Dig m := fun x hx => h x (List.mem_append_right _ hx)
theorem Dig.drop {l : List Int} (h : Dig l) (n : Nat) : Dig (l.drop n) := fun x hx => h x (List.mem_of_mem_drop hx)
theorem Dig.take {l : List Int} (h : Dig l) (n : Nat) : Dig (l.take n) := fun x hx => h x (List.mem_of_mem_take hx)
theorem Dig.get {l : List Int} (h : Dig l) {i : Nat} : 0 ≤ l.getD i 0 ∧ l.getD i 0 ≤ 9 := by
  rw [List.getD_eq_getElem?_getD]
  cases e : l[i]? with
  | none => simp
  | some d => exact h d (List.mem_of_getElem? e)
theorem nv_nil : nv [] = 0 := rfl
theorem nv_cons (d : Int) (l : List Int) : nv (d :: l) = d + 10 * nv l := rfl
theorem nv_nonneg {l : List Int} (h : Dig l) : 0 ≤ nv l := by
  induction l with
  | nil => exact Int.le_refl _
  | cons d l ih =>
    have := ih h.tail
    have := h.head
    rw [nv_cons]
    omega
theorem nv_app0 (l : List Int) : nv (l ++ [0]) = nv l := by
  induction l with
  | nil => rfl
  | cons d l ih => rw [List.cons_append, nv_cons, nv_cons, ih]
theorem trim_ind {P : List Int → List Int → Prop} (h0 : P [] []) (h1 : ∀ l, P l (trim l) → P (l ++ [0]) (trim l)) (h2 : ∀ l d, d ≠ 0 → P (l ++ [d]) (l ++ [d])) (l : List Int) : P l (trim l) := by
  generalize hm : l.length = m
  induction m generalizing l with
  | zero =>
    have : l = [] := List.length_eq_zero_iff.1 hm
    subst this
    exact h0
  | succ m ih =>
    obtain ⟨l, d, rfl⟩ : ∃ l' d, l = l' ++ [d] := by
      rcases List.eq_nil_or_concat l with rfl | ⟨l', d, rfl⟩
      · simp at hm
      · exact ⟨l', d, by simp⟩
    rw [trim_snoc]
    by_cases h : d = 0
    · rw [if_pos h, h]
      exact h1 l (ih l (by simpa using hm))
    · rw [if_neg h]
      exact h2 l d h
theorem nv_trim (l : List Int) : nv (trim l) = nv l :=
  trim_ind (P := fun l t => nv t = nv l) rfl (fun l h => by rw [nv_app0, h]) (fun _ _ _ => rfl) l
theorem Dig.trim {l : List Int} (h : Dig l) : Dig (trim l) := by
  have := trim_ind (P := fun l t => Dig l → Dig t) (fun h => h) (fun l ih h => ih h.left) (fun _ _ _ h => h) l
  exact this h
theorem trim_len (l : List Int) : (trim l).length ≤ l.length :=
  trim_ind (P := fun l t => t.length ≤ l.length) (Nat.le_refl _) (fun l h => by simp; omega) (fun _ _ _ => Nat.le_refl _) l
theorem nv_pos {l : List Int} {d : Int} (h : Dig (l ++ [d])) (hd : d ≠ 0) : 0 < nv (l ++ [d]) := by
  induction l with
  | nil =>
    have := h.head
    simp only [List.nil_append, nv_cons, nv_nil]
    omega
  | cons x l ih =>
    have := ih (by simpa using h.tail)
    have := h.head
    rw [List.cons_append, nv_cons]
    omega

/-- The digits of a number. -/
def canonF : Nat → Nat → List Int
  | 0, _ => []
  | k + 1, n => if n = 0 then [] else ((n % 10 : Nat) : Int) :: canonF k (n / 10)
def canon (n : Nat) : List Int := canonF n n
theorem canonF_eq : ∀ (k k' n : Nat), n ≤ k → n ≤ k' → canonF k n = canonF k' n := by
  intro k
  induction k with
  | zero =>
    intro k' n h _
    have : n = 0 := by omega
    subst this
    cases k' <;> rfl
  | succ k ih =>
    intro k' n h h'
    cases k' with
    | zero =>
      have : n = 0 := by omega
      subst this
      rfl
    | succ k' =>
      simp only [canonF]
      by_cases hn : n = 0
      · simp [hn]
      · rw [if_neg hn, if_neg hn, ih k' (n / 10) (by omega) (by omega)]
theorem canon_zero : canon 0 = [] := rfl
theorem canon_pos {n : Nat} (h : n ≠ 0) : canon n = ((n % 10 : Nat) : Int) :: canon (n / 10) := by
  obtain ⟨k, rfl⟩ : ∃ k, n = k + 1 := ⟨n - 1, by omega⟩
  show canonF (k + 1) (k + 1) = _
  rw [canonF, if_neg h, canonF_eq k ((k + 1) / 10) _ (by omega) (Nat.le_refl _)]
  rfl
theorem canon_dig (n : Nat) : Dig (canon n) := by
  induction n using Nat.strongRecOn with
  | ind n ih =>
    by_cases h : n = 0
    · subst h; exact Dig.nil
    · rw [canon_pos h]
      exact Dig.cons (by omega) (by omega) (ih _ (by omega))
theorem canon_nv (n : Nat) : nv (canon n) = n := by
  induction n using Nat.strongRecOn with
  | ind n ih =>
    by_cases h : n = 0
    · subst h; rfl
    · rw [canon_pos h, nv_cons, ih _ (by omega)]
      omega
theorem canon_len (k n : Nat) : (canon n).length ≤ k ↔ n < 10 ^ k := by
  induction k generalizing n with
  | zero =>
    by_cases h : n = 0
    · subst h; simp [canon_zero]
    · rw [canon_pos h]; simp [h]
  | succ k ih =>
    by_cases h : n = 0
    · subst h
      have : 0 < 10 ^ (k + 1) := Nat.pow_pos (by omega)
      simp [canon_zero]; exact this
    · rw [canon_pos h, List.length_cons, Nat.pow_succ]
      have := ih (n / 10)
      constructor
      · intro h'
        have := this.1 (by omega)
        omega
      · intro h'
        have := this.2 (by omega)
        omega
theorem canon_mono {a b : Nat} (h : a ≤ b) : (canon a).length ≤ (canon b).length := by
  rw [canon_len]
  have := (canon_len (canon b).length b).1 (Nat.le_refl _)
  omega
/-- Nothing to trim, and digits: the digits of its value. -/
theorem canon_uniq : ∀ (l : List Int), Dig l → (∀ l' , l ≠ l' ++ [0]) → l = canon (nv l).toNat := by
  intro l
  induction l with
  | nil => intro _ _; rfl
  | cons d l ih =>
    intro h h0
    have hh := h.head
    have hv := nv_nonneg h.tail
    have ih := ih h.tail (fun l' e => h0 (d :: l') (by rw [e]; rfl))
    have hne : (nv (d :: l)).toNat ≠ 0 := by
      rw [nv_cons]
      intro e
      have e1 : nv l = 0 := by omega
      have e2 : d = 0 := by omega
      rw [e1] at ih
      have : l = [] := ih
      exact h0 [] (by rw [this, e2]; rfl)
    rw [canon_pos hne]
    have e1 : (((nv (d :: l)).toNat % 10 : Nat) : Int) = d := by rw [nv_cons]; omega
    have e2 : (nv (d :: l)).toNat / 10 = (nv l).toNat := by rw [nv_cons]; omega
    rw [e1, e2, ← ih]
theorem trim_top (l : List Int) : ∀ l', trim l ≠ l' ++ [0] :=
  trim_ind (P := fun _ t => ∀ l', t ≠ l' ++ [0]) (fun l' h => by simp at h) (fun _ h => h) (fun l d hd l' h => hd (by
    have := (List.append_inj' h rfl).2
    simpa using this)) l
theorem canon_trim {l : List Int} (h : Dig l) : trim l = canon (nv l).toNat := by
  rw [canon_uniq _ h.trim (trim_top l), nv_trim]
theorem trim_canon (n : Nat) : trim (canon n) = canon n := by
  rw [canon_trim (canon_dig n), canon_nv]
  simp
theorem canon_nil {n : Nat} : canon n = [] ↔ n = 0 := by
  constructor
  · intro h
    have := canon_nv n
    rw [h, nv_nil] at this
    omega
  · rintro rfl; rfl
theorem drop_cons {l : List Int} {i : Nat} (h : i < l.length) : l.drop i = l.getD i 0 :: l.drop (i + 1) := by
  rw [List.drop_eq_getElem_cons h, List.getD_eq_getElem?_getD, List.getElem?_eq_getElem h]
  rfl
theorem drop_nil {l : List Int} {i : Nat} (h : ¬ i < l.length) : l.drop i = [] := List.drop_eq_nil_of_le (by omega)
theorem getD_out {l : List Int} {i : Nat} (h : ¬ i < l.length) : l.getD i 0 = 0 := by
  rw [List.getD_eq_getElem?_getD, List.getElem?_eq_none (by omega)]
  rfl
theorem nv_drop (l : List Int) (i : Nat) : nv (l.drop i) = l.getD i 0 + 10 * nv (l.drop (i + 1)) := by
  by_cases h : i < l.length
  · rw [drop_cons h, nv_cons]
  · rw [drop_nil h, drop_nil (by omega), getD_out h]; rfl
theorem takeI {l : List Int} {j : Nat} (h : j < l.length) : l.take (j + 1) = l.take j ++ [l.getD j 0] := by
  rw [List.take_add_one]
  simp [List.getD_eq_getElem?_getD, List.getElem?_eq_getElem h]
theorem nv_snoc_lt : ∀ (X Y : List Int), X.length = Y.length → Dig X → Dig Y → ∀ x y : Int, x < y → nv (X ++ [x]) < nv (Y ++ [y]) := by
  intro X
  induction X with
  | nil =>
    intro Y h _ _ x y hxy
    have : Y = [] := List.length_eq_zero_iff.1 (by simpa using h.symm)
    subst this
    simp only [List.nil_append, nv_cons, nv_nil]
    omega
  | cons a X ih =>
    intro Y h hX hY x y hxy
    cases Y with
    | nil => simp at h
    | cons b Y =>
      have := ih Y (by simpa using h) hX.tail hY.tail x y hxy
      have := hX.head
      have := hY.head
      simp only [List.cons_append, nv_cons]
      omega
theorem nv_snoc_eq : ∀ (X Y : List Int), X.length = Y.length → ∀ x : Int, nv (X ++ [x]) - nv (Y ++ [x]) = nv X - nv Y := by
  intro X
  induction X with
  | nil =>
    intro Y h x
    have : Y = [] := List.length_eq_zero_iff.1 (by simpa using h.symm)
    subst this
    simp
  | cons a X ih =>
    intro Y h x
    cases Y with
    | nil => simp at h
    | cons b Y =>
      have := ih Y (by simpa using h) x
      simp only [List.cons_append, nv_cons]
      omega
end Go.Dv

/- Sums and differences of digits. -/
set_option linter.unusedVariables false
set_option linter.unusedSimpArgs false
namespace Go.Dv

theorem tdiv_nn {a b : Int} (h : 0 ≤ a) : a.tdiv b = a / b := Int.tdiv_eq_ediv_of_nonneg h
theorem tmod_nn {a b : Int} (h : 0 ≤ a) : a.tmod b = a % b := Int.tmod_eq_emod_of_nonneg h
theorem len_snoc (l : List Int) (x : Int) : (l ++ [x]).length = l.length + 1 := by simp

theorem loop106 (n : Nat) (G : FuncId → PV → Option PV) (a b : List Int) (ha : Dig a) (hb : Dig b) (la : a.length ≤ 90) (lb : b.length ≤ 90) :
    ∀ (k i : Nat) (c : Int) (out : List Int), 0 ≤ c → c ≤ 1 → out.length = i → 93 ≤ k + i → (i : Int) + c ≤ 91 →
      ∃ l, Dig l ∧ nv l = c + nv (a.drop i) + nv (b.drop i) ∧ out.length + l.length ≤ 91 ∧
        rounds (fun self v => St104b0.dn n G [self] [.agg [dl a, dl b], v]) k (.agg [dl out, .int .i64 c, .int .i64 i]) = some (.agg [dl (out ++ l)]) := by
  intro k
  induction k with
  | zero => intro i c out h1 h2 h3 h4 h5; omega
  | succ k ih =>
    intro i c out h1 h2 h3 h4 h5
    have ga := ha.get (i := i)
    have gb := hb.get (i := i)
    have va := nv_drop a i
    have vb := nv_drop b i
    have step : ∀ s : Int, s = c + a.getD i 0 + b.getD i 0 → (i : Int) + 1 + s / 10 ≤ 91 → ∃ l, Dig l ∧ nv l = c + nv (a.drop i) + nv (b.drop i) ∧ out.length + l.length ≤ 91 ∧
        rounds (fun self v => St104b0.dn n G [self] [.agg [dl a, dl b], v]) k (.agg [dl (out ++ [s % 10]), .int .i64 (s / 10), .int .i64 ((i : Int) + 1)]) = some (.agg [dl (out ++ l)]) := by
      intro s hs hs2
      obtain ⟨l, q1, q2, q3, q4⟩ := ih (i + 1) (s / 10) (out ++ [s % 10]) (by omega) (by omega) (by simp; omega) (by omega) (by omega)
      rw [len_snoc] at q3
      rw [Int.natCast_add, Int.natCast_one] at q4
      exact ⟨s % 10 :: l, Dig.cons (by omega) (by omega) q1, by rw [nv_cons]; omega, by simp; omega, by rw [q4]; simp⟩
    simp only [rounds_s]
    clear ih
    by_cases hi : i < a.length
    · by_cases hj : i < b.length
      · have step := step (c + a.getD i 0 + b.getD i 0) rfl (by omega)
        generalize rounds _ k = self at step ⊢
        simp (disch := omega) only [St104b0, ya, yb, yc, yd, ye, yf, yg, yh, yi, yj, yk, yl, yp, yq, ys, yu, yv, yw, yx, yy, yz, za, zb, zc, zd, get0, getS, ze, zf, zg, zh, zj, uo, zk, zl, zm, zn, zo, zp, zq, zr, zs, zt, zu, zv, zw, zx, zy, zz, ub, uc, ud, ue, up, uq, ur, ut, uu, ul, um, w64, w8, List.nil_append, List.cons_append, uv, Int.toNat_natCast, tdiv_nn, tmod_nn, len_snoc]
        rw [lt_pos (by omega), le_pos (by omega), lt_pos (by omega), le_pos (by omega)]
        exact step
      · have step := step (c + a.getD i 0) (by rw [getD_out hj]; omega) (by omega)
        generalize rounds _ k = self at step ⊢
        simp (disch := omega) only [St104b0, ya, yb, yc, yd, ye, yf, yg, yh, yi, yj, yk, yl, yp, yq, ys, yu, yv, yw, yx, yy, yz, za, zb, zc, zd, get0, getS, ze, zf, zg, zh, zj, uo, zk, zl, zm, zn, zo, zp, zq, zr, zs, zt, zu, zv, zw, zx, zy, zz, ub, uc, ud, ue, up, uq, ur, ut, uu, ul, um, w64, w8, List.nil_append, List.cons_append, uv, Int.toNat_natCast, tdiv_nn, tmod_nn, len_snoc]
        rw [lt_pos (by omega), le_pos (by omega), lt_neg (by omega), le_pos (by omega)]
        exact step
    · by_cases hj : i < b.length
      · have step := step (c + b.getD i 0) (by rw [getD_out hi]; omega) (by omega)
        generalize rounds _ k = self at step ⊢
        simp (disch := omega) only [St104b0, ya, yb, yc, yd, ye, yf, yg, yh, yi, yj, yk, yl, yp, yq, ys, yu, yv, yw, yx, yy, yz, za, zb, zc, zd, get0, getS, ze, zf, zg, zh, zj, uo, zk, zl, zm, zn, zo, zp, zq, zr, zs, zt, zu, zv, zw, zx, zy, zz, ub, uc, ud, ue, up, uq, ur, ut, uu, ul, um, w64, w8, List.nil_append, List.cons_append, uv, Int.toNat_natCast, tdiv_nn, tmod_nn, len_snoc]
        rw [lt_neg (by omega), lt_pos (by omega), le_pos (by omega), le_pos (by omega)]
        exact step
      · by_cases hc : 0 < c
        · have step := step c (by rw [getD_out hi, getD_out hj]; omega) (by omega)
          generalize rounds _ k = self at step ⊢
          simp (disch := omega) only [St104b0, ya, yb, yc, yd, ye, yf, yg, yh, yi, yj, yk, yl, yp, yq, ys, yu, yv, yw, yx, yy, yz, za, zb, zc, zd, get0, getS, ze, zf, zg, zh, zj, uo, zk, zl, zm, zn, zo, zp, zq, zr, zs, zt, zu, zv, zw, zx, zy, zz, ub, uc, ud, ue, up, uq, ur, ut, uu, ul, um, w64, w8, List.nil_append, List.cons_append, uv, Int.toNat_natCast, tdiv_nn, tmod_nn, len_snoc]
          rw [lt_neg (by omega), lt_neg (by omega), lt_pos (by omega), le_pos (by omega)]
          exact step
        · refine ⟨[], Dig.nil, ?_, by simp; omega, ?_⟩
          · rw [drop_nil hi, drop_nil hj, nv_nil]; omega
          · generalize rounds _ k = self
            simp (disch := omega) only [St104b0, ya, yb, yc, yd, ye, yf, yg, yh, yi, yj, yk, yl, yp, yq, ys, yu, yv, yw, yx, yy, yz, za, zb, zc, zd, get0, getS, ze, zf, zg, zh, zj, uo, zk, zl, zm, zn, zo, zp, zq, zr, zs, zt, zu, zv, zw, zx, zy, zz, ub, uc, ud, ue, up, uq, ur, ut, uu, ul, um, w64, w8, List.nil_append, List.cons_append, uv, Int.toNat_natCast, tdiv_nn, tmod_nn, len_snoc]
            rw [lt_neg (by omega), lt_neg (by omega), lt_neg (by omega), List.append_nil]

theorem f106 {m : Nat} (hm : 100 ≤ m) (a b : List Int) (ha : Dig a) (hb : Dig b) (la : a.length ≤ 90) (lb : b.length ≤ 90) :
    ∃ l, Dig l ∧ nv l = nv a + nv b ∧ l.length ≤ 91 ∧ R m 104 (.agg [dl a, dl b]) = some (.agg [dl l]) := by
  obtain ⟨n, rfl⟩ : ∃ n, m = n + 1 := ⟨m - 1, by omega⟩
  obtain ⟨l, q1, q2, q3, q4⟩ := loop106 (n + 1) (R n) a b ha hb la lb (n + 1) 0 0 [] (by omega) (by omega) rfl (by omega) (by omega)
  refine ⟨l, q1, by simpa using q2, by simpa using q3, ?_⟩
  rw [R_succ n 104 _ rfl]
  simp only [St104, ya, yb, yc, yd, ye, yf, yg, yh, yi, yj, yk, yl, yp, yq, ys, yu, yv, yw, yx, yy, yz, za, zb, zc, zd, get0, getS, ze, zf, zg, zh, zj, uo, zk, zl, zm, zn, zo, zp, zq, zr, zs, zt, zu, zv, zw, zx, zy, zz, ub, uc, ud, ue, up, uq, ur, ut, uu, ul, um, w64, w8, List.nil_append, List.cons_append, uv]
  exact q4

theorem loop118 (n : Nat) (a b : List Int) (hn : 100 ≤ n) (ha : Dig a) (hb : Dig b) (la : a.length ≤ 90) (lb : b.length ≤ 90) :
    ∀ (k i : Nat) (c : Int) (out : List Int), 0 ≤ c → c ≤ 1 → out.length = i → 93 ≤ k + i → (i : Int) + c ≤ 91 →
      ∃ l, Dig l ∧ nv l = c + nv (a.drop i) + nv (b.drop i) ∧ out.length + l.length ≤ 91 ∧
        rounds (fun self v => St145b0.dn (n + 1) (R n) [self] [.agg [dl a, dl b], v]) k (.agg [.int .i64 c, .int .i64 i, dl out]) = some (.agg [dl (trim (out ++ l))]) := by
  intro k
  induction k with
  | zero => intro i c out h1 h2 h3 h4 h5; omega
  | succ k ih =>
    intro i c out h1 h2 h3 h4 h5
    have ga := ha.get (i := i)
    have gb := hb.get (i := i)
    have va := nv_drop a i
    have vb := nv_drop b i
    have step : ∀ s : Int, s = c + a.getD i 0 + b.getD i 0 → (i : Int) + 1 + s / 10 ≤ 91 → ∃ l, Dig l ∧ nv l = c + nv (a.drop i) + nv (b.drop i) ∧ out.length + l.length ≤ 91 ∧
        rounds (fun self v => St145b0.dn (n + 1) (R n) [self] [.agg [dl a, dl b], v]) k (.agg [.int .i64 (s / 10), .int .i64 ((i : Int) + 1), dl (out ++ [s % 10])]) = some (.agg [dl (trim (out ++ l))]) := by
      intro s hs hs2
      obtain ⟨l, q1, q2, q3, q4⟩ := ih (i + 1) (s / 10) (out ++ [s % 10]) (by omega) (by omega) (by simp; omega) (by omega) (by omega)
      rw [len_snoc] at q3
      rw [Int.natCast_add, Int.natCast_one] at q4
      exact ⟨s % 10 :: l, Dig.cons (by omega) (by omega) q1, by rw [nv_cons]; omega, by simp; omega, by rw [q4]; simp⟩
    simp only [rounds_s]
    clear ih
    by_cases hi : i < a.length
    · by_cases hj : i < b.length
      · have step := step (c + a.getD i 0 + b.getD i 0) rfl (by omega)
        generalize rounds _ k = self at step ⊢
        simp (disch := omega) only [St145b0, ya, yb, yc, yd, ye, yf, yg, yh, yi, yj, yk, yl, yp, yq, ys, yu, yv, yw, yx, yy, yz, za, zb, zc, zd, get0, getS, ze, zf, zg, zh, zj, uo, zk, zl, zm, zn, zo, zp, zq, zr, zs, zt, zu, zv, zw, zx, zy, zz, ub, uc, ud, ue, up, uq, ur, ut, uu, ul, um, w64, w8, List.nil_append, List.cons_append, uv, Int.toNat_natCast, tdiv_nn, tmod_nn, len_snoc]
        rw [lt_pos (by omega), le_pos (by omega), lt_pos (by omega), le_pos (by omega)]
        exact step
      · have step := step (c + a.getD i 0) (by rw [getD_out hj]; omega) (by omega)
        generalize rounds _ k = self at step ⊢
        simp (disch := omega) only [St145b0, ya, yb, yc, yd, ye, yf, yg, yh, yi, yj, yk, yl, yp, yq, ys, yu, yv, yw, yx, yy, yz, za, zb, zc, zd, get0, getS, ze, zf, zg, zh, zj, uo, zk, zl, zm, zn, zo, zp, zq, zr, zs, zt, zu, zv, zw, zx, zy, zz, ub, uc, ud, ue, up, uq, ur, ut, uu, ul, um, w64, w8, List.nil_append, List.cons_append, uv, Int.toNat_natCast, tdiv_nn, tmod_nn, len_snoc]
        rw [lt_pos (by omega), le_pos (by omega), lt_neg (by omega), le_pos (by omega)]
        exact step
    · by_cases hj : i < b.length
      · have step := step (c + b.getD i 0) (by rw [getD_out hi]; omega) (by omega)
        generalize rounds _ k = self at step ⊢
        simp (disch := omega) only [St145b0, ya, yb, yc, yd, ye, yf, yg, yh, yi, yj, yk, yl, yp, yq, ys, yu, yv, yw, yx, yy, yz, za, zb, zc, zd, get0, getS, ze, zf, zg, zh, zj, uo, zk, zl, zm, zn, zo, zp, zq, zr, zs, zt, zu, zv, zw, zx, zy, zz, ub, uc, ud, ue, up, uq, ur, ut, uu, ul, um, w64, w8, List.nil_append, List.cons_append, uv, Int.toNat_natCast, tdiv_nn, tmod_nn, len_snoc]
        rw [lt_neg (by omega), lt_pos (by omega), le_pos (by omega), le_pos (by omega)]
        exact step
      · by_cases hc : 0 < c
        · have step := step c (by rw [getD_out hi, getD_out hj]; omega) (by omega)
          generalize rounds _ k = self at step ⊢
          simp (disch := omega) only [St145b0, ya, yb, yc, yd, ye, yf, yg, yh, yi, yj, yk, yl, yp, yq, ys, yu, yv, yw, yx, yy, yz, za, zb, zc, zd, get0, getS, ze, zf, zg, zh, zj, uo, zk, zl, zm, zn, zo, zp, zq, zr, zs, zt, zu, zv, zw, zx, zy, zz, ub, uc, ud, ue, up, uq, ur, ut, uu, ul, um, w64, w8, List.nil_append, List.cons_append, uv, Int.toNat_natCast, tdiv_nn, tmod_nn, len_snoc]
          rw [lt_neg (by omega), lt_neg (by omega), lt_pos (by omega), le_pos (by omega)]
          exact step
        · refine ⟨[], Dig.nil, ?_, by simp; omega, ?_⟩
          · rw [drop_nil hi, drop_nil hj, nv_nil]; omega
          · have ht := f155 hn out (by omega)
            generalize rounds _ k = self
            simp (disch := omega) only [St145b0, ya, yb, yc, yd, ye, yf, yg, yh, yi, yj, yk, yl, yp, yq, ys, yu, yv, yw, yx, yy, yz, za, zb, zc, zd, get0, getS, ze, zf, zg, zh, zj, uo, zk, zl, zm, zn, zo, zp, zq, zr, zs, zt, zu, zv, zw, zx, zy, zz, ub, uc, ud, ue, up, uq, ur, ut, uu, ul, um, w64, w8, List.nil_append, List.cons_append, uv, Int.toNat_natCast, tdiv_nn, tmod_nn, len_snoc]
            rw [lt_neg (by omega), lt_neg (by omega), lt_neg (by omega), List.append_nil, ht]
            rfl

theorem f118 {m : Nat} (hm : 101 ≤ m) (a b : List Int) (ha : Dig a) (hb : Dig b) (la : a.length ≤ 90) (lb : b.length ≤ 90) :
    R m 145 (.agg [dl a, dl b]) = some (.agg [dl (canon (nv a + nv b).toNat)]) := by
  obtain ⟨n, rfl⟩ : ∃ n, m = n + 1 := ⟨m - 1, by omega⟩
  obtain ⟨l, q1, q2, q3, q4⟩ := loop118 n a b (by omega) ha hb la lb (n + 1) 0 0 [] (by omega) (by omega) rfl (by omega) (by omega)
  rw [R_succ n 145 _ rfl]
  simp only [St145, ya, yb, yc, yd, ye, yf, yg, yh, yi, yj, yk, yl, yp, yq, ys, yu, yv, yw, yx, yy, yz, za, zb, zc, zd, get0, getS, ze, zf, zg, zh, zj, uo, zk, zl, zm, zn, zo, zp, zq, zr, zs, zt, zu, zv, zw, zx, zy, zz, ub, uc, ud, ue, up, uq, ur, ut, uu, ul, um, w64, w8, List.nil_append, List.cons_append, uv]
  rw [List.nil_append, canon_trim q1] at q4
  have : nv l = nv a + nv b := by simpa using q2
  rw [this] at q4
  exact q4

/-! Which is greater. -/
def cmpI (a b : Int) : Int := if a < b then -1 else if a = b then 0 else 1
theorem cmp_loop (B : Tree) (hB : B = St106b0 ∨ B = St129b0) (n : Nat) (G : FuncId → PV → Option PV) (a b : List Int) (ha : Dig a) (hb : Dig b) (hl : a.length = b.length) (la : a.length ≤ 90) :
    ∀ (k j : Nat), j ≤ a.length → j < k →
        rounds (fun self v => B.dn n G [self] [.agg [dl a, dl b], v]) k (.agg [.int .i64 ((j : Int) - 1)]) = some (.agg [.int .i64 (cmpI (nv (a.take j)) (nv (b.take j)))]) := by
  intro k
  induction k with
  | zero => intro j h1 h2; omega
  | succ k ih =>
    intro j h1 h2
    simp only [rounds_s]
    cases j with
    | zero =>
      generalize rounds _ k = self
      rcases hB with rfl | rfl <;> (simp (disch := omega) only [St106b0, St129b0, ya, yb, yc, yd, ye, yf, yg, yh, yi, yj, yk, yl, yp, yq, ys, yu, yv, yw, yx, yy, yz, za, zb, zc, zd, get0, getS, ze, zf, zg, zh, zj, uo, zk, zl, zm, zn, zo, zp, zq, zr, zs, zt, zu, zv, zw, zx, zy, zz, ub, uc, ud, ue, up, uq, ur, ut, uu, ul, um, w64, w8, List.nil_append, List.cons_append, uv]; rw [le_neg (by omega)]; simp [cmpI, nv_nil])
    | succ j =>
      have ih2 := ih j (by omega) (by omega)
      clear ih
      have ga := ha.get (i := j)
      have gb := hb.get (i := j)
      have e1 : ((j + 1 : Nat) : Int) - 1 = j := by omega
      have ea := takeI (l := a) (j := j) (by omega)
      have eb := takeI (l := b) (j := j) (by omega)
      have hlen : (a.take j).length = (b.take j).length := by rw [List.length_take, List.length_take]; omega
      generalize rounds _ k = self at ih2 ⊢
      rw [ea, eb, e1]
      have key : cmpI (nv (a.take j ++ [a.getD j 0])) (nv (b.take j ++ [b.getD j 0])) = if a.getD j 0 = b.getD j 0 then cmpI (nv (a.take j)) (nv (b.take j)) else if a.getD j 0 < b.getD j 0 then -1 else 1 := by
        unfold cmpI
        by_cases h : a.getD j 0 = b.getD j 0
        · have := nv_snoc_eq (a.take j) (b.take j) hlen (b.getD j 0)
          rw [if_pos h, h]
          by_cases h3 : nv (a.take j) < nv (b.take j)
          · rw [if_pos h3, if_pos (by omega)]
          · rw [if_neg h3, if_neg (by omega)]
            by_cases h4 : nv (a.take j) = nv (b.take j)
            · rw [if_pos h4, if_pos (by omega)]
            · rw [if_neg h4, if_neg (by omega)]
        · rw [if_neg h]
          by_cases h3 : a.getD j 0 < b.getD j 0
          · have := nv_snoc_lt (a.take j) (b.take j) hlen (ha.take j) (hb.take j) _ _ h3
            rw [if_pos this, if_pos h3]
          · have := nv_snoc_lt (b.take j) (a.take j) hlen.symm (hb.take j) (ha.take j) _ _ (show b.getD j 0 < a.getD j 0 by omega)
            rw [if_neg (by omega), if_neg (by omega), if_neg h3]
      rw [key]
      rcases hB with rfl | rfl <;> (
        simp (disch := omega) only [St106b0, St129b0, ya, yb, yc, yd, ye, yf, yg, yh, yi, yj, yk, yl, yp, yq, ys, yu, yv, yw, yx, yy, yz, za, zb, zc, zd, get0, getS, ze, zf, zg, zh, zj, uo, zk, zl, zm, zn, zo, zp, zq, zr, zs, zt, zu, zv, zw, zx, zy, zz, ub, uc, ud, ue, up, uq, ur, ut, uu, ul, um, w64, w8, List.nil_append, List.cons_append, uv, Int.toNat_natCast]
        rw [le_pos (by omega), le_pos (by omega), lt_pos (by omega), lt_pos (by omega)]
        by_cases h : a.getD j 0 = b.getD j 0
        · rw [eq_pos h, if_pos h]; exact ih2
        · rw [eq_neg h, if_neg h]
          by_cases h3 : a.getD j 0 < b.getD j 0
          · rw [lt_pos h3, if_pos h3]
          · rw [lt_neg h3, if_neg h3])
theorem f108_111 {m : Nat} (hm : 100 ≤ m) (f : Nat) (hf : f = 106 ∨ f = 129) (x y : Nat) (lx : (canon x).length ≤ 90) (ly : (canon y).length ≤ 90) :
    R m f (.agg [dl (canon x), dl (canon y)]) = some (.agg [.int .i64 (cmpI x y)]) := by
  obtain ⟨n, rfl⟩ : ∃ n, m = n + 1 := ⟨m - 1, by omega⟩
  have hlt : ∀ {x y : Nat}, (canon x).length < (canon y).length → x < y := by
    intro x y h
    by_cases h' : y ≤ x
    · have := canon_mono h'
      omega
    · omega
  have hc : (canon x).length = (canon y).length → ∀ B, (B = St106b0 ∨ B = St129b0) → rounds (fun self v => B.dn (n + 1) (R n) [self] [.agg [dl (canon x), dl (canon y)], v]) (n + 1) (.agg [.int .i64 (((canon x).length : Int) - 1)]) = some (.agg [.int .i64 (cmpI x y)]) := by
    intro h B hB
    have := cmp_loop B hB (n + 1) (R n) (canon x) (canon y) (canon_dig x) (canon_dig y) h lx (n + 1) (canon x).length (Nat.le_refl _) (by omega)
    rw [List.take_length, canon_nv] at this
    rw [h] at this
    rw [List.take_length, canon_nv, ← h] at this
    exact this
  have lt1 : (canon x).length < (canon y).length → cmpI x y = -1 := by
    intro h
    have := hlt h
    unfold cmpI
    rw [if_pos (by omega)]
  have lt2 : (canon y).length < (canon x).length → cmpI x y = 1 := by
    intro h
    have := hlt h
    unfold cmpI
    rw [if_neg (by omega), if_neg (by omega)]
  rcases hf with rfl | rfl
  · rw [R_succ n 106 _ rfl]
    simp (disch := omega) only [St106, ya, yb, yc, yd, ye, yf, yg, yh, yi, yj, yk, yl, yp, yq, ys, yu, yv, yw, yx, yy, yz, za, zb, zc, zd, get0, getS, ze, zf, zg, zh, zj, uo, zk, zl, zm, zn, zo, zp, zq, zr, zs, zt, zu, zv, zw, zx, zy, zz, ub, uc, ud, ue, up, uq, ur, ut, uu, ul, um, w64, w8, List.nil_append, List.cons_append, uv]
    by_cases h : (canon x).length = (canon y).length
    · rw [eq_pos (by omega)]
      exact hc h St106b0 (.inl rfl)
    · rw [eq_neg (by omega)]
      by_cases h2 : (canon x).length < (canon y).length
      · rw [lt_pos (by omega), lt1 h2]
      · rw [lt_neg (by omega), lt2 (by omega)]
  · rw [R_succ n 129 _ rfl]
    simp (disch := omega) only [St129, ya, yb, yc, yd, ye, yf, yg, yh, yi, yj, yk, yl, yp, yq, ys, yu, yv, yw, yx, yy, yz, za, zb, zc, zd, get0, getS, ze, zf, zg, zh, zj, uo, zk, zl, zm, zn, zo, zp, zq, zr, zs, zt, zu, zv, zw, zx, zy, zz, ub, uc, ud, ue, up, uq, ur, ut, uu, ul, um, w64, w8, List.nil_append, List.cons_append, uv]
    by_cases h : (canon x).length = (canon y).length
    · rw [eq_pos (by omega)]
      exact hc h St129b0 (.inr rfl)
    · rw [eq_neg (by omega)]
      by_cases h2 : (canon x).length < (canon y).length
      · rw [lt_pos (by omega), lt1 h2]
      · rw [lt_neg (by omega), lt2 (by omega)]
end Go.Dv

/- Differences of digits. -/
set_option linter.unusedVariables false
set_option linter.unusedSimpArgs false
namespace Go.Dv

theorem loop119 (n : Nat) (a b : List Int) (hn : 100 ≤ n) (ha : Dig a) (hb : Dig b) (la : a.length ≤ 90) :
    ∀ (k i : Nat) (c : Int) (out : List Int), 0 ≤ c → c ≤ 1 → out.length = i → 92 ≤ k + i → i ≤ a.length → nv (b.drop i) + c ≤ nv (a.drop i) →
      ∃ l, Dig l ∧ nv l = nv (a.drop i) - c - nv (b.drop i) ∧ out.length + l.length = a.length ∧
        rounds (fun self v => St146b0.dn (n + 1) (R n) [self] [.agg [dl a, dl b], v]) k (.agg [.int .i64 c, .int .i64 i, dl out]) = some (.agg [dl (trim (out ++ l))]) := by
  intro k
  induction k with
  | zero => intro i c out h1 h2 h3 h4 h5 h6; omega
  | succ k ih =>
    intro i c out h1 h2 h3 h4 h5 h6
    have ga := ha.get (i := i)
    have gb := hb.get (i := i)
    have va := nv_drop a i
    have vb := nv_drop b i
    have step : i < a.length → ∀ x c' : Int, 0 ≤ x → x ≤ 9 → 0 ≤ c' → c' ≤ 1 → x = a.getD i 0 - c - b.getD i 0 + 10 * c' → ∃ l, Dig l ∧ nv l = nv (a.drop i) - c - nv (b.drop i) ∧ out.length + l.length = a.length ∧
        rounds (fun self v => St146b0.dn (n + 1) (R n) [self] [.agg [dl a, dl b], v]) k (.agg [.int .i64 c', .int .i64 ((i : Int) + 1), dl (out ++ [x])]) = some (.agg [dl (trim (out ++ l))]) := by
      intro hi x c' x0 x9 c0 c1 hx
      obtain ⟨l, q1, q2, q3, q4⟩ := ih (i + 1) c' (out ++ [x]) (by omega) (by omega) (by simp; omega) (by omega) (by omega) (by omega)
      rw [len_snoc] at q3
      rw [Int.natCast_add, Int.natCast_one] at q4
      exact ⟨x :: l, Dig.cons (by omega) (by omega) q1, by rw [nv_cons]; omega, by simp; omega, by rw [q4]; simp⟩
    simp only [rounds_s]
    clear ih
    by_cases hi : i < a.length
    · have step := step hi
      by_cases hj : i < b.length
      · by_cases hx : a.getD i 0 - c - b.getD i 0 < 0
        · have step := step (a.getD i 0 - c - b.getD i 0 + 10) 1 (by omega) (by omega) (by omega) (by omega) (by omega)
          generalize rounds _ k = self at step ⊢
          simp (disch := omega) only [St146b0, ya, yb, yc, yd, ye, yf, yg, yh, yi, yj, yk, yl, yp, yq, ys, yu, yv, yw, yx, yy, yz, za, zb, zc, zd, get0, getS, ze, zf, zg, zh, zj, uo, zk, zl, zm, zn, zo, zp, zq, zr, zs, zt, zu, zv, zw, zx, zy, zz, ub, uc, ud, ue, up, uq, ur, ut, uu, ul, um, w64, w8, List.nil_append, List.cons_append, uv, Int.toNat_natCast, len_snoc]
          rw [lt_pos (by omega), le_pos (by omega), lt_pos (by omega), lt_pos (by omega), le_pos (by omega)]
          exact step
        · have step := step (a.getD i 0 - c - b.getD i 0) 0 (by omega) (by omega) (by omega) (by omega) (by omega)
          generalize rounds _ k = self at step ⊢
          simp (disch := omega) only [St146b0, ya, yb, yc, yd, ye, yf, yg, yh, yi, yj, yk, yl, yp, yq, ys, yu, yv, yw, yx, yy, yz, za, zb, zc, zd, get0, getS, ze, zf, zg, zh, zj, uo, zk, zl, zm, zn, zo, zp, zq, zr, zs, zt, zu, zv, zw, zx, zy, zz, ub, uc, ud, ue, up, uq, ur, ut, uu, ul, um, w64, w8, List.nil_append, List.cons_append, uv, Int.toNat_natCast, len_snoc]
          rw [lt_pos (by omega), le_pos (by omega), lt_pos (by omega), lt_neg (by omega), le_pos (by omega)]
          exact step
      · have hb0 := getD_out hj
        by_cases hx : a.getD i 0 - c < 0
        · have step := step (a.getD i 0 - c + 10) 1 (by omega) (by omega) (by omega) (by omega) (by omega)
          generalize rounds _ k = self at step ⊢
          simp (disch := omega) only [St146b0, ya, yb, yc, yd, ye, yf, yg, yh, yi, yj, yk, yl, yp, yq, ys, yu, yv, yw, yx, yy, yz, za, zb, zc, zd, get0, getS, ze, zf, zg, zh, zj, uo, zk, zl, zm, zn, zo, zp, zq, zr, zs, zt, zu, zv, zw, zx, zy, zz, ub, uc, ud, ue, up, uq, ur, ut, uu, ul, um, w64, w8, List.nil_append, List.cons_append, uv, Int.toNat_natCast, len_snoc]
          rw [lt_pos (by omega), le_pos (by omega), lt_neg (by omega), lt_pos (by omega), le_pos (by omega)]
          exact step
        · have step := step (a.getD i 0 - c) 0 (by omega) (by omega) (by omega) (by omega) (by omega)
          generalize rounds _ k = self at step ⊢
          simp (disch := omega) only [St146b0, ya, yb, yc, yd, ye, yf, yg, yh, yi, yj, yk, yl, yp, yq, ys, yu, yv, yw, yx, yy, yz, za, zb, zc, zd, get0, getS, ze, zf, zg, zh, zj, uo, zk, zl, zm, zn, zo, zp, zq, zr, zs, zt, zu, zv, zw, zx, zy, zz, ub, uc, ud, ue, up, uq, ur, ut, uu, ul, um, w64, w8, List.nil_append, List.cons_append, uv, Int.toNat_natCast, len_snoc]
          rw [lt_pos (by omega), le_pos (by omega), lt_neg (by omega), lt_neg (by omega), le_pos (by omega)]
          exact step
    · have h0 := nv_nonneg (hb.drop i)
      rw [drop_nil hi, nv_nil] at h6
      refine ⟨[], Dig.nil, ?_, by simp; omega, ?_⟩
      · rw [drop_nil hi, nv_nil]; omega
      · have ht := f155 hn out (by omega)
        generalize rounds _ k = self
        simp (disch := omega) only [St146b0, ya, yb, yc, yd, ye, yf, yg, yh, yi, yj, yk, yl, yp, yq, ys, yu, yv, yw, yx, yy, yz, za, zb, zc, zd, get0, getS, ze, zf, zg, zh, zj, uo, zk, zl, zm, zn, zo, zp, zq, zr, zs, zt, zu, zv, zw, zx, zy, zz, ub, uc, ud, ue, up, uq, ur, ut, uu, ul, um, w64, w8, List.nil_append, List.cons_append, uv, Int.toNat_natCast, tdiv_nn, tmod_nn, len_snoc]
        rw [lt_neg (by omega), List.append_nil, ht]
        rfl

theorem f119 {m : Nat} (hm : 101 ≤ m) (a b : List Int) (ha : Dig a) (hb : Dig b) (la : a.length ≤ 90) (hab : nv b ≤ nv a) :
    R m 146 (.agg [dl a, dl b]) = some (.agg [dl (canon (nv a - nv b).toNat)]) := by
  obtain ⟨n, rfl⟩ : ∃ n, m = n + 1 := ⟨m - 1, by omega⟩
  obtain ⟨l, q1, q2, q3, q4⟩ := loop119 n a b (by omega) ha hb la (n + 1) 0 0 [] (by omega) (by omega) rfl (by omega) (by omega) (by simpa using hab)
  rw [R_succ n 146 _ rfl]
  simp only [St146, ya, yb, yc, yd, ye, yf, yg, yh, yi, yj, yk, yl, yp, yq, ys, yu, yv, yw, yx, yy, yz, za, zb, zc, zd, get0, getS, ze, zf, zg, zh, zj, uo, zk, zl, zm, zn, zo, zp, zq, zr, zs, zt, zu, zv, zw, zx, zy, zz, ub, uc, ud, ue, up, uq, ur, ut, uu, ul, um, w64, w8, List.nil_append, List.cons_append, uv]
  rw [List.nil_append, canon_trim q1] at q4
  have : nv l = nv a - nv b := by simpa using q2
  rw [this] at q4
  exact q4

theorem pre_get (pre rest : List Int) (c : Int) : (pre ++ c :: rest).getD pre.length 0 = c := by simp [List.getD_eq_getElem?_getD]
theorem pre_set (pre rest : List Int) (c x : Int) : (pre ++ c :: rest).set pre.length x = pre ++ x :: rest := by simp
theorem pre_get1 (pre rest : List Int) (c d : Int) : (pre ++ c :: d :: rest).getD (pre.length + 1) 0 = d := by
  simp
theorem pre_set1 (pre rest : List Int) (c d x : Int) : (pre ++ c :: d :: rest).set (pre.length + 1) x = pre ++ c :: x :: rest := by
  simp
theorem pre_len (pre rest : List Int) (c : Int) : (pre ++ c :: rest).length = pre.length + rest.length + 1 := by simp; omega

theorem loop109 (n : Nat) (a b : List Int) (hn : 100 ≤ n) (hb : Dig b) (la : a.length ≤ 90) :
    ∀ (k : Nat) (pre cur : List Int), pre.length + cur.length = a.length → 92 ≤ k + pre.length → (∀ c rest, cur = c :: rest → -1 ≤ c ∧ c ≤ 9 ∧ Dig rest) → nv (b.drop pre.length) ≤ nv cur →
      ∃ l, Dig l ∧ nv l = nv cur - nv (b.drop pre.length) ∧ l.length = cur.length ∧
        rounds (fun self v => St107b0.dn (n + 1) (R n) [self] [.agg [dl a, dl b], v]) k (.agg [.int .i64 pre.length, dl (pre ++ cur)]) = some (.agg [dl (trim (pre ++ l))]) := by
  intro k
  induction k with
  | zero => intro pre cur h1 h2 h3 h4; omega
  | succ k ih =>
    intro pre cur h1 h2 h3 h4
    have h0 := nv_nonneg (hb.drop (pre.length + 1))
    have gb := hb.get (i := pre.length)
    have vb := nv_drop b pre.length
    cases cur with
    | nil =>
      simp only [rounds_s]
      clear ih
      refine ⟨[], Dig.nil, ?_, rfl, ?_⟩
      · rw [nv_nil] at h4 ⊢; omega
      · rw [List.length_nil] at h1
        have ht := f117 hn pre (by omega)
        generalize rounds _ k = self
        simp (disch := omega) only [St107b0, ya, yb, yc, yd, ye, yf, yg, yh, yi, yj, yk, yl, yp, yq, ys, yu, yv, yw, yx, yy, yz, za, zb, zc, zd, get0, getS, ze, zf, zg, zh, zj, uo, zk, zl, zm, zn, zo, zp, zq, zr, zs, zt, zu, zv, zw, zx, zy, zz, ub, uc, ud, ue, up, uq, ur, ut, uu, ul, um, w64, w8, List.nil_append, List.cons_append, uv, Int.toNat_natCast, List.append_nil]
        rw [lt_neg (by omega), ht]
        rfl
    | cons c rest =>
      obtain ⟨c1, c2, hr⟩ := h3 c rest rfl
      rw [nv_cons] at h4
      rw [List.length_cons] at h1
      have e1 : ((pre.length : Int) + 1).toNat = pre.length + 1 := by omega
      have ecast : ((pre.length : Int) + 1) = ((pre.length + 1 : Nat) : Int) := by omega
      by_cases hx : c - b.getD pre.length 0 < 0
      · cases rest with
        | nil => rw [nv_nil] at h4; omega
        | cons d rest =>
          have hd := hr.head
          rw [nv_cons] at h4
          rw [List.length_cons] at h1
          obtain ⟨l, q1, q2, q3, q4⟩ := ih (pre ++ [c - b.getD pre.length 0 + 10]) ((d - 1) :: rest) (by simp; omega) (by simp; omega) (by
            intro c' r' e
            cases e
            exact ⟨by omega, by omega, hr.tail⟩) (by rw [len_snoc, nv_cons]; omega)
          clear ih
          rw [len_snoc] at q2 q4
          refine ⟨(c - b.getD pre.length 0 + 10) :: l, Dig.cons (by omega) (by omega) q1, ?_, by rw [List.length_cons, q3]; rfl, ?_⟩
          · rw [nv_cons, q2, nv_cons, nv_cons, nv_cons, vb]; omega
          · simp only [rounds_s]
            generalize rounds _ k = self at q4 ⊢
            rw [List.append_assoc, List.append_assoc, ← ecast] at q4
            by_cases hj : pre.length < b.length
            · generalize hbb : b.getD pre.length 0 = bb at q4 hx gb vb
              simp (disch := omega) only [St107b0, ya, yb, yc, yd, ye, yf, yg, yh, yi, yj, yk, yl, yp, yq, ys, yu, yv, yw, yx, yy, yz, za, zb, zc, zd, get0, getS, ze, zf, zg, zh, zj, uo, zk, zl, zm, zn, zo, zp, zq, zr, zs, zt, zu, zv, zw, zx, zy, zz, ub, uc, ud, ue, up, uq, ur, ut, uu, ul, um, w64, w8, List.nil_append, List.cons_append, uv, Int.toNat_natCast, e1, pre_get, pre_set, pre_get1, pre_set1, pre_len, hbb]
              rw [lt_pos (by omega), lt_pos (by omega), le_pos (by omega), lt_pos (by simp; omega), lt_pos (by omega), le_pos (by omega), lt_pos (by simp; omega)]
              exact q4
            · rw [getD_out hj] at q4 hx
              rw [getD_out hj]
              simp only [Int.sub_zero] at q4 hx ⊢
              simp (disch := omega) only [St107b0, ya, yb, yc, yd, ye, yf, yg, yh, yi, yj, yk, yl, yp, yq, ys, yu, yv, yw, yx, yy, yz, za, zb, zc, zd, get0, getS, ze, zf, zg, zh, zj, uo, zk, zl, zm, zn, zo, zp, zq, zr, zs, zt, zu, zv, zw, zx, zy, zz, ub, uc, ud, ue, up, uq, ur, ut, uu, ul, um, w64, w8, List.nil_append, List.cons_append, uv, Int.toNat_natCast, e1, pre_get, pre_set, pre_get1, pre_set1, pre_len]
              rw [lt_pos (by omega), lt_neg (by omega), le_pos (by omega), lt_pos (by simp; omega), lt_pos (by omega), le_pos (by omega), lt_pos (by simp; omega)]
              exact q4
      · obtain ⟨l, q1, q2, q3, q4⟩ := ih (pre ++ [c - b.getD pre.length 0]) rest (by simp; omega) (by simp; omega) (by
            intro c' r' e
            subst e
            have := hr.head
            exact ⟨by omega, by omega, hr.tail⟩) (by rw [len_snoc]; omega)
        clear ih
        rw [len_snoc] at q2 q4
        refine ⟨(c - b.getD pre.length 0) :: l, Dig.cons (by omega) (by omega) q1, ?_, by rw [List.length_cons, q3]; rfl, ?_⟩
        · rw [nv_cons, q2, nv_cons, vb]; omega
        · simp only [rounds_s]
          generalize rounds _ k = self at q4 ⊢
          rw [List.append_assoc, List.append_assoc, ← ecast] at q4
          by_cases hj : pre.length < b.length
          · generalize hbb : b.getD pre.length 0 = bb at q4 hx gb vb
            simp (disch := omega) only [St107b0, ya, yb, yc, yd, ye, yf, yg, yh, yi, yj, yk, yl, yp, yq, ys, yu, yv, yw, yx, yy, yz, za, zb, zc, zd, get0, getS, ze, zf, zg, zh, zj, uo, zk, zl, zm, zn, zo, zp, zq, zr, zs, zt, zu, zv, zw, zx, zy, zz, ub, uc, ud, ue, up, uq, ur, ut, uu, ul, um, w64, w8, List.nil_append, List.cons_append, uv, Int.toNat_natCast, e1, pre_get, pre_set, pre_get1, pre_set1, pre_len, hbb]
            rw [lt_pos (by omega), lt_pos (by omega), le_pos (by omega), lt_pos (by simp; omega), lt_neg (by omega)]
            exact q4
          · rw [getD_out hj] at q4 hx
            rw [getD_out hj]
            simp only [Int.sub_zero] at q4 hx ⊢
            simp (disch := omega) only [St107b0, ya, yb, yc, yd, ye, yf, yg, yh, yi, yj, yk, yl, yp, yq, ys, yu, yv, yw, yx, yy, yz, za, zb, zc, zd, get0, getS, ze, zf, zg, zh, zj, uo, zk, zl, zm, zn, zo, zp, zq, zr, zs, zt, zu, zv, zw, zx, zy, zz, ub, uc, ud, ue, up, uq, ur, ut, uu, ul, um, w64, w8, List.nil_append, List.cons_append, uv, Int.toNat_natCast, e1, pre_get, pre_set, pre_get1, pre_set1, pre_len]
            rw [lt_pos (by omega), lt_neg (by omega), le_pos (by omega), lt_pos (by simp; omega), lt_neg (by omega)]
            exact q4

theorem f109 {m : Nat} (hm : 101 ≤ m) (a b : List Int) (ha : Dig a) (hb : Dig b) (la : a.length ≤ 90) (hab : nv b ≤ nv a) :
    R m 107 (.agg [dl a, dl b]) = some (.agg [dl (canon (nv a - nv b).toNat)]) := by
  obtain ⟨n, rfl⟩ : ∃ n, m = n + 1 := ⟨m - 1, by omega⟩
  obtain ⟨l, q1, q2, q3, q4⟩ := loop109 n a b (by omega) hb la (n + 1) [] a (by simp) (by omega) (by
    intro c rest e
    subst e
    have := ha.head
    exact ⟨by omega, by omega, ha.tail⟩) (by simpa using hab)
  rw [R_succ n 107 _ rfl]
  simp (disch := omega) only [St107, ya, yb, yc, yd, ye, yf, yg, yh, yi, yj, yk, yl, yp, yq, ys, yu, yv, yw, yx, yy, yz, za, zb, zc, zd, get0, getS, ze, zf, zg, zh, zj, uo, zk, zl, zm, zn, zo, zp, zq, zr, zs, zt, zu, zv, zw, zx, zy, zz, ub, uc, ud, ue, up, uq, ur, ut, uu, ul, um, w64, w8, List.nil_append, List.cons_append, uv]
  rw [le_pos (by omega)]
  rw [List.nil_append, List.nil_append, canon_trim q1] at q4
  have : nv l = nv a - nv b := by simpa using q2
  rw [this] at q4
  exact q4
end Go.Dv

/- Numbers with their sign. -/
set_option linter.unusedVariables false
set_option linter.unusedSimpArgs false
namespace Go.Dv

theorem bneq_tt {A B : Option PV} : bE (true == true) A B = A := rfl
theorem bneq_ff {A B : Option PV} : bE (false == false) A B = A := rfl
theorem bneq_tf {A B : Option PV} : bE (true == false) A B = B := rfl
theorem bneq_ft {A B : Option PV} : bE (false == true) A B = B := rfl
def numV (z : Int) : PV := .agg [.bool (decide (z < 0)), dl (canon z.natAbs)]
def sg (q : Bool) (n : Int) : Int := if q then -n else n
def Sm (z : Int) (k : Nat) : Prop := (canon z.natAbs).length ≤ k
theorem Sm.mono {z : Int} {k k' : Nat} (h : Sm z k) (hk : k ≤ k') : Sm z k' := Nat.le_trans h hk
theorem Sm.neg {z : Int} {k : Nat} (h : Sm z k) : Sm (-z) k := by unfold Sm; rw [Int.natAbs_neg]; exact h
theorem Sm.of {z : Int} {k : Nat} (h : z.natAbs < 10 ^ k) : Sm z k := (canon_len _ _).2 h
theorem Sm.lt {z : Int} {k : Nat} (h : Sm z k) : z.natAbs < 10 ^ k := (canon_len _ _).1 h
theorem Sm.add {x y : Int} {k : Nat} (h : Sm x k) (h' : Sm y k) : Sm (x + y) (k + 1) := by
  have := h.lt
  have := h'.lt
  refine Sm.of ?_
  rw [Nat.pow_succ]
  omega

theorem f107 {m : Nat} (hm : 101 ≤ m) (q : Bool) (l : List Int) (hl : l.length < 95) (hd : Dig l) : R m 105 (.agg [.agg [.bool q, dl l]]) = some (.agg [numV (sg q (nv l))]) := by
  obtain ⟨n, rfl⟩ : ∃ n, m = n + 1 := ⟨m - 1, by omega⟩
  have hv := nv_nonneg hd
  rw [R_succ n 105 _ rfl]
  simp (disch := omega) only [St105, ya, yb, yc, yd, ye, yf, yg, yh, yi, yj, yk, yl, yp, yq, ys, yu, yv, yw, yx, yy, yz, za, zb, zc, zd, get0, getS, ze, zf, zg, zh, zj, uo, zk, zl, zm, zn, zo, zp, zq, zr, zs, zt, zu, zv, zw, zx, zy, zz, ub, uc, ud, ue, up, uq, ur, ut, uu, ul, um, w64, w8, List.nil_append, List.cons_append, uv, f117 (m := n) (by omega) l hl, canon_trim hd]
  by_cases h : (nv l).toNat = 0
  · have e : nv l = 0 := by omega
    rw [h, canon_zero, eq_pos (by rfl), e]
    cases q <;> rfl
  · rw [eq_neg (by
      intro h'
      have : canon (nv l).toNat = [] := List.length_eq_zero_iff.1 (by omega)
      exact h (canon_nil.1 this))]
    have e1 : (sg q (nv l)).natAbs = (nv l).toNat := by cases q <;> simp [sg] <;> omega
    have e2 : decide (sg q (nv l) < 0) = q := by cases q <;> simp [sg] <;> omega
    rw [numV, e1, e2]

theorem f71 {m : Nat} (hm : 102 ≤ m) (z : Int) (hz : Sm z 90) : R m 72 (.agg [numV z]) = some (.agg [numV (-z)]) := by
  obtain ⟨n, rfl⟩ : ∃ n, m = n + 1 := ⟨m - 1, by omega⟩
  unfold Sm at hz
  have h := f107 (m := n) (by omega) (!decide (z < 0)) (canon z.natAbs) (by omega) (canon_dig _)
  have e : sg (!decide (z < 0)) (nv (canon z.natAbs)) = -z := by
    rw [canon_nv]
    by_cases hz : z < 0
    · simp [sg, hz]; omega
    · simp [sg, hz]; omega
  rw [e] at h
  rw [R_succ n 72 _ rfl]
  simp (disch := omega) only [St72, ya, yb, yc, yd, ye, yf, yg, yh, yi, yj, yk, yl, yp, yq, ys, yu, yv, yw, yx, yy, yz, za, zb, zc, zd, get0, getS, ze, zf, zg, zh, zj, uo, zk, zl, zm, zn, zo, zp, zq, zr, zs, zt, zu, zv, zw, zx, zy, zz, ub, uc, ud, ue, up, uq, ur, ut, uu, ul, um, w64, w8, List.nil_append, List.cons_append, uv, numV] at h ⊢
  rw [h]
  rfl

theorem f70 {m : Nat} (hm : 103 ≤ m) (x y : Int) (hx : Sm x 89) (hy : Sm y 89) : R m 71 (.agg [numV x, numV y]) = some (.agg [numV (x + y)]) := by
  obtain ⟨n, rfl⟩ : ∃ n, m = n + 1 := ⟨m - 1, by omega⟩
  unfold Sm at hx hy
  rw [R_succ n 71 _ rfl]
  simp (disch := omega) only [St71, ya, yb, yc, yd, ye, yf, yg, yh, yi, yj, yk, yl, yp, yq, ys, yu, yv, yw, yx, yy, yz, za, zb, zc, zd, get0, getS, ze, zf, zg, zh, zj, uo, zk, zl, zm, zn, zo, zp, zq, zr, zs, zt, zu, zv, zw, zx, zy, zz, ub, uc, ud, ue, up, uq, ur, ut, uu, ul, um, w64, w8, List.nil_append, List.cons_append, uv, numV]
  have same : ∀ q : Bool, decide (x < 0) = q → decide (y < 0) = q → R n 104 (.agg [dl (canon x.natAbs), dl (canon y.natAbs)]) = R n 104 (.agg [dl (canon x.natAbs), dl (canon y.natAbs)]) → ∃ l, R n 104 (.agg [dl (canon x.natAbs), dl (canon y.natAbs)]) = some (.agg [dl l]) ∧ R n 105 (.agg [.agg [.bool q, dl l]]) = some (.agg [numV (x + y)]) := by
    intro q hqx hqy _
    obtain ⟨l, q1, q2, q3, q4⟩ := f106 (m := n) (by omega) (canon x.natAbs) (canon y.natAbs) (canon_dig _) (canon_dig _) (by omega) (by omega)
    refine ⟨l, q4, ?_⟩
    rw [f107 (m := n) (by omega) q l (by omega) q1, q2, canon_nv, canon_nv]
    have : sg q ((x.natAbs : Int) + (y.natAbs : Int)) = x + y := by
      cases q
      · simp at hqx hqy; simp [sg]; omega
      · simp at hqx hqy; simp [sg]; omega
    rw [this]
  have cmp := f108_111 (m := n) (by omega) 106 (.inl rfl) x.natAbs y.natAbs (by omega) (by omega)
  have sub1 : y.natAbs ≤ x.natAbs → R n 107 (.agg [dl (canon x.natAbs), dl (canon y.natAbs)]) = some (.agg [dl (canon (x.natAbs - y.natAbs))]) := by
    intro h
    rw [f109 (m := n) (by omega) _ _ (canon_dig _) (canon_dig _) (by omega) (by rw [canon_nv, canon_nv]; omega), canon_nv, canon_nv]
    have : ((x.natAbs : Int) - (y.natAbs : Int)).toNat = x.natAbs - y.natAbs := by omega
    rw [this]
  have sub2 : x.natAbs ≤ y.natAbs → R n 107 (.agg [dl (canon y.natAbs), dl (canon x.natAbs)]) = some (.agg [dl (canon (y.natAbs - x.natAbs))]) := by
    intro h
    rw [f109 (m := n) (by omega) _ _ (canon_dig _) (canon_dig _) (by omega) (by rw [canon_nv, canon_nv]; omega), canon_nv, canon_nv]
    have : ((y.natAbs : Int) - (x.natAbs : Int)).toNat = y.natAbs - x.natAbs := by omega
    rw [this]
  have tidy : ∀ (q : Bool) (k : Nat), k ≤ x.natAbs ∨ k ≤ y.natAbs → sg q k = x + y → R n 105 (.agg [.agg [.bool q, dl (canon k)]]) = some (.agg [numV (x + y)]) := by
    intro q k hk h
    have : (canon k).length ≤ 90 := by
      rcases hk with hk | hk
      · have := canon_mono hk; omega
      · have := canon_mono hk; omega
    rw [f107 (m := n) (by omega) q (canon k) (by omega) (canon_dig _), canon_nv, h]
  have same := fun q h1 h2 => same q h1 h2 rfl
  have lt1 : x.natAbs < y.natAbs → cmpI (x.natAbs : Int) (y.natAbs : Int) = -1 := by
    intro h; unfold cmpI; rw [if_pos (by omega)]
  have lt2 : ¬ x.natAbs < y.natAbs → 0 ≤ cmpI (x.natAbs : Int) (y.natAbs : Int) := by
    intro h; unfold cmpI; rw [if_neg (by omega)]
    by_cases h2 : (x.natAbs : Int) = (y.natAbs : Int)
    · rw [if_pos h2]; omega
    · rw [if_neg h2]; omega
  have fin : ∀ r : PV, (some r = some (PV.agg [numV (x + y)])) → (match some r with | some r => some (PV.agg [PV.agg [(O1.fld 0).dn ((O1.fld 0).dn r), (O1.fld 1).dn ((O1.fld 0).dn r)]]) | none => none) = some (PV.agg [PV.agg [PV.bool (decide (x + y < 0)), dl (canon (x + y).natAbs)]]) := by
    intro r h
    cases h
    rfl
  by_cases hx0 : x < 0 <;> by_cases hy0 : y < 0
  · obtain ⟨l, e1, e2⟩ := same true (by simp [hx0]) (by simp [hy0])
    simp only [hx0, hy0, decide_true, decide_false, bneq_tt, e1, ya, yb, yc, yd, ye, yf, yg, yh, yi, yj, yk, yl, yp, yq, ys, yu, yv, yw, yx, yy, yz, za, zb, zc, zd, get0, getS, ze, zf, zg, zh, zj, uo, zk, zl, zm, zn, zo, zp, zq, zr, zs, zt, zu, zv, zw, zx, zy, zz, ub, uc, ud, ue, up, uq, ur, ut, uu, ul, um, w64, w8, List.nil_append, List.cons_append, uv, e2]
    exact fin _ rfl
  · simp only [hx0, hy0, decide_true, decide_false, bneq_tf, cmp, ya, yb, yc, yd, ye, yf, yg, yh, yi, yj, yk, yl, yp, yq, ys, yu, yv, yw, yx, yy, yz, za, zb, zc, zd, get0, getS, ze, zf, zg, zh, zj, uo, zk, zl, zm, zn, zo, zp, zq, zr, zs, zt, zu, zv, zw, zx, zy, zz, ub, uc, ud, ue, up, uq, ur, ut, uu, ul, um, w64, w8, List.nil_append, List.cons_append, uv]
    by_cases h : x.natAbs < y.natAbs
    · rw [lt1 h, le_neg (by omega), sub2 (by omega)]
      simp only [ya, yb, yc, yd, ye, yf, yg, yh, yi, yj, yk, yl, yp, yq, ys, yu, yv, yw, yx, yy, yz, za, zb, zc, zd, get0, getS, ze, zf, zg, zh, zj, uo, zk, zl, zm, zn, zo, zp, zq, zr, zs, zt, zu, zv, zw, zx, zy, zz, ub, uc, ud, ue, up, uq, ur, ut, uu, ul, um, w64, w8, List.nil_append, List.cons_append, uv]
      rw [tidy false _ (.inr (by omega)) (by simp [sg]; omega)]
      exact fin _ rfl
    · rw [le_pos (lt2 h), sub1 (by omega)]
      simp only [ya, yb, yc, yd, ye, yf, yg, yh, yi, yj, yk, yl, yp, yq, ys, yu, yv, yw, yx, yy, yz, za, zb, zc, zd, get0, getS, ze, zf, zg, zh, zj, uo, zk, zl, zm, zn, zo, zp, zq, zr, zs, zt, zu, zv, zw, zx, zy, zz, ub, uc, ud, ue, up, uq, ur, ut, uu, ul, um, w64, w8, List.nil_append, List.cons_append, uv]
      rw [tidy true _ (.inl (by omega)) (by simp [sg]; omega)]
      exact fin _ rfl
  · simp only [hx0, hy0, decide_true, decide_false, bneq_ft, cmp, ya, yb, yc, yd, ye, yf, yg, yh, yi, yj, yk, yl, yp, yq, ys, yu, yv, yw, yx, yy, yz, za, zb, zc, zd, get0, getS, ze, zf, zg, zh, zj, uo, zk, zl, zm, zn, zo, zp, zq, zr, zs, zt, zu, zv, zw, zx, zy, zz, ub, uc, ud, ue, up, uq, ur, ut, uu, ul, um, w64, w8, List.nil_append, List.cons_append, uv]
    by_cases h : x.natAbs < y.natAbs
    · rw [lt1 h, le_neg (by omega), sub2 (by omega)]
      simp only [ya, yb, yc, yd, ye, yf, yg, yh, yi, yj, yk, yl, yp, yq, ys, yu, yv, yw, yx, yy, yz, za, zb, zc, zd, get0, getS, ze, zf, zg, zh, zj, uo, zk, zl, zm, zn, zo, zp, zq, zr, zs, zt, zu, zv, zw, zx, zy, zz, ub, uc, ud, ue, up, uq, ur, ut, uu, ul, um, w64, w8, List.nil_append, List.cons_append, uv]
      rw [tidy true _ (.inr (by omega)) (by simp [sg]; omega)]
      exact fin _ rfl
    · rw [le_pos (lt2 h), sub1 (by omega)]
      simp only [ya, yb, yc, yd, ye, yf, yg, yh, yi, yj, yk, yl, yp, yq, ys, yu, yv, yw, yx, yy, yz, za, zb, zc, zd, get0, getS, ze, zf, zg, zh, zj, uo, zk, zl, zm, zn, zo, zp, zq, zr, zs, zt, zu, zv, zw, zx, zy, zz, ub, uc, ud, ue, up, uq, ur, ut, uu, ul, um, w64, w8, List.nil_append, List.cons_append, uv]
      rw [tidy false _ (.inl (by omega)) (by simp [sg]; omega)]
      exact fin _ rfl
  · obtain ⟨l, e1, e2⟩ := same false (by simp [hx0]) (by simp [hy0])
    simp only [hx0, hy0, decide_true, decide_false, bneq_ff, e1, ya, yb, yc, yd, ye, yf, yg, yh, yi, yj, yk, yl, yp, yq, ys, yu, yv, yw, yx, yy, yz, za, zb, zc, zd, get0, getS, ze, zf, zg, zh, zj, uo, zk, zl, zm, zn, zo, zp, zq, zr, zs, zt, zu, zv, zw, zx, zy, zz, ub, uc, ud, ue, up, uq, ur, ut, uu, ul, um, w64, w8, List.nil_append, List.cons_append, uv, e2]
    exact fin _ rfl

/-! An integer's text is worth a number. -/
theorem digL_dig {b : List UInt8} (h : b.all isD = true) : Dig (digL b) := by
  intro d hd
  obtain ⟨c, hc, rfl⟩ := List.mem_map.1 hd
  have := (isD_iff c).1 (List.all_eq_true.1 h c (List.mem_reverse.1 hc))
  omega
def Z (s : List UInt8) : Int := sg (negL s) (nv (digL (bodyL s)))
theorem isInt_parts {s : List UInt8} (h : isIntL s = true) : 1 ≤ (bodyL s).length ∧ (bodyL s).length ≤ 40 ∧ (bodyL s).all isD = true ∧ ((bodyL s).getD 0 0 = 48 → (bodyL s).length = 1 ∧ negL s = false) := by
  unfold isIntL at h
  simp only [Bool.and_eq_true, decide_eq_true_eq, Bool.not_eq_true', Bool.and_eq_false_iff, decide_eq_false_iff_not, Bool.or_eq_false_iff] at h
  obtain ⟨⟨⟨h1, h2⟩, h3⟩, h4⟩ := h
  refine ⟨h1, h2, h3, fun h5 => ?_⟩
  rcases h4 with h4 | ⟨h4, h6⟩
  · exact absurd h5 h4
  · exact ⟨by omega, h6⟩
theorem nv_lt_pow {l : List Int} (h : Dig l) : (canon (nv l).toNat).length ≤ l.length := by
  rw [← canon_trim h]; exact trim_len l
/-- The value is not nought unless the text is "0". -/
theorem body_pos {s : List UInt8} (h : isIntL s = true) (h0 : (bodyL s).getD 0 0 ≠ 48) : 0 < nv (digL (bodyL s)) := by
  obtain ⟨h1, h2, h3, h4⟩ := isInt_parts h
  cases e : bodyL s with
  | nil => rw [e] at h1; simp at h1
  | cons c b =>
    rw [e] at h0 h3
    have hd := digL_dig h3
    have : digL (c :: b) = digL b ++ [((c.toNat : Int) - 48)] := by simp [digL]
    rw [this] at hd ⊢
    have hc := (isD_iff c).1 (by simp at h3; exact h3.1)
    refine nv_pos hd ?_
    intro e
    exact h0 (UInt8.toNat_inj.1 (show c.toNat = 48 by omega))
theorem body_zero {s : List UInt8} (h : isIntL s = true) (h0 : (bodyL s).getD 0 0 = 48) : bodyL s = [48] ∧ negL s = false := by
  obtain ⟨h1, h2, h3, h4⟩ := isInt_parts h
  obtain ⟨h5, h6⟩ := h4 h0
  cases e : bodyL s with
  | nil => rw [e] at h1; simp at h1
  | cons c b =>
    rw [e] at h0 h5
    have : b = [] := List.length_eq_zero_iff.1 (by simpa using h5)
    subst this
    have : c = 48 := h0
    exact ⟨by rw [this], h6⟩
theorem Z_neg {s : List UInt8} (h : isIntL s = true) : decide (Z s < 0) = negL s := by
  unfold Z sg
  by_cases h0 : (bodyL s).getD 0 0 = 48
  · obtain ⟨e1, e2⟩ := body_zero h h0
    rw [e1, e2]; rfl
  · have := body_pos h h0
    cases negL s <;> simp <;> omega
theorem Z_abs {s : List UInt8} (h : isIntL s = true) : (Z s).natAbs = (nv (digL (bodyL s))).toNat := by
  have := nv_nonneg (digL_dig (isInt_parts h).2.2.1)
  unfold Z sg
  cases negL s <;> simp <;> omega
theorem Z_dig {s : List UInt8} (h : isIntL s = true) : trim (digL (bodyL s)) = canon (Z s).natAbs := by
  rw [canon_trim (digL_dig (isInt_parts h).2.2.1), Z_abs h]
theorem Z_Sm {s : List UInt8} (h : isIntL s = true) : Sm (Z s) 40 := by
  unfold Sm
  rw [Z_abs h]
  have := nv_lt_pow (digL_dig (isInt_parts h).2.2.1)
  rw [digL_len] at this
  have := (isInt_parts h).2.1
  omega
theorem numP_Z {s : List UInt8} (h : isIntL s = true) : numP (negL s) (trim (digL (bodyL s))) = .agg [numV (Z s), .bool true] := by
  rw [Z_dig h, ← Z_neg h]; rfl

theorem f69 {m : Nat} (hm : 103 ≤ m) (a b : List UInt8) (ha : isIntL a = true) (hb : isIntL b = true) : R m 70 (.agg [.str a, .str b]) = some (.agg [numV (Z a), numV (Z b), .bool true]) := by
  obtain ⟨n, rfl⟩ : ∃ n, m = n + 1 := ⟨m - 1, by omega⟩
  rw [R_succ n 70 _ rfl]
  simp only [St70, ya, yb, yc, yd, ye, yf, yg, yh, yi, yj, yk, yl, yp, yq, ys, yu, yv, yw, yx, yy, yz, za, zb, zc, zd, get0, getS, ze, zf, zg, zh, zj, uo, zk, zl, zm, zn, zo, zp, zq, zr, zs, zt, zu, zv, zw, zx, zy, zz, ub, uc, ud, ue, up, uq, ur, ut, uu, ul, um, w64, w8, List.nil_append, List.cons_append, uv, f77 (m := n) (by omega), if_pos ha, if_pos hb, numP_Z ha, numP_Z hb]
  rfl
theorem f69' {m : Nat} (hm : 103 ≤ m) (a b : List UInt8) (h : ¬ (isIntL a = true ∧ isIntL b = true)) : ∃ p q, R m 70 (.agg [.str a, .str b]) = some (.agg [p, q, .bool false]) := by
  obtain ⟨n, rfl⟩ : ∃ n, m = n + 1 := ⟨m - 1, by omega⟩
  rw [R_succ n 70 _ rfl]
  simp only [St70, ya, yb, yc, yd, ye, yf, yg, yh, yi, yj, yk, yl, yp, yq, ys, yu, yv, yw, yx, yy, yz, za, zb, zc, zd, get0, getS, ze, zf, zg, zh, zj, uo, zk, zl, zm, zn, zo, zp, zq, zr, zs, zt, zu, zv, zw, zx, zy, zz, ub, uc, ud, ue, up, uq, ur, ut, uu, ul, um, w64, w8, List.nil_append, List.cons_append, uv, f77 (m := n) (by omega)]
  cases ha : isIntL a with
  | false =>
    rw [if_neg (by simp)]
    refine ⟨PV.agg [(O1.fld 0).dn ((O1.fld 0).dn failP), (O1.fld 1).dn ((O1.fld 0).dn failP)], (fun t : PV => PV.agg [(O1.fld 0).dn ((O1.fld 0).dn t), (O1.fld 1).dn ((O1.fld 0).dn t)]) (if isIntL b = true then numP (negL b) (trim (digL (bodyL b))) else failP), ?_⟩
    rfl
  | true =>
    rw [if_pos rfl]
    cases hb : isIntL b with
    | true => exact absurd ⟨ha, hb⟩ h
    | false =>
      rw [if_neg (by simp)]
      refine ⟨PV.agg [(O1.fld 0).dn ((O1.fld 0).dn (numP (negL a) (trim (digL (bodyL a))))), (O1.fld 1).dn ((O1.fld 0).dn (numP (negL a) (trim (digL (bodyL a)))))], (fun t : PV => PV.agg [(O1.fld 0).dn ((O1.fld 0).dn t), (O1.fld 1).dn ((O1.fld 0).dn t)]) failP, ?_⟩
      rfl
end Go.Dv

/- A number's text. -/
set_option linter.unusedVariables false
set_option linter.unusedSimpArgs false
namespace Go.Dv

def bl (l : List UInt8) : PV := .list 1 false (l.map fun c => .int .u8 c.toNat)
theorem uw : PV.list 1 false [] = bl [] := rfl
theorem ob_len (l : List UInt8) : O1.len.dn (bl l) = .int .i64 l.length := by simp [O1.dn, bl, PV.l]
theorem u8_of {x : Int} (h1 : 0 ≤ x) (h2 : x < 256) : ((UInt8.ofNat x.toNat).toNat : Int) = x := by
  rw [UInt8.toNat_ofNat', Nat.mod_eq_of_lt (by omega)]
  omega
theorem ob_snoc (l : List UInt8) (x : Int) (h1 : 0 ≤ x) (h2 : x < 256) : O2.snoc.dn (bl l) (.int .u8 x) = bl (l ++ [UInt8.ofNat x.toNat]) := by
  simp only [O2.dn, bl, List.map_append, List.map_cons, List.map_nil, u8_of h1 h2]
theorem ob_toS (l : List UInt8) : O1.toS.dn (bl l) = .str l := by
  simp only [O1.dn, bl, PV.l, bytesOfL, List.map_map]
  congr 1
  conv => rhs; rw [← List.map_id l]
  apply List.map_congr_left
  intro c _
  show UInt8.ofNat ((c.toNat : Int)).toNat = c
  rw [Int.toNat_natCast]
  exact UInt8.ofNat_toNat
theorem ob_okB {n : Nat} {G : FuncId → PV → Option PV} {L : List (PV → Option PV)} {env : List PV} {x : SE} {a : Tree} (l : List UInt8) (h : x.dn env = bl l) : (Tree.need (.o1 .okB x) a).dn n G L env = a.dn n G L env := by
  rw [dn_need (q := true)]
  · rfl
  · rw [zb, h]
    simp only [O1.dn, bl, PV.l]
    congr 1
    rw [List.all_eq_true]
    intro x hx
    obtain ⟨c, _, rfl⟩ := List.mem_map.1 hx
    have := u8_lt c
    show (decide (0 ≤ (c.toNat : Int)) && decide ((c.toNat : Int) < 256)) = true
    rw [decide_eq_true (by omega), decide_eq_true (by omega)]
    rfl
def chr (d : Int) : UInt8 := UInt8.ofNat (48 + d).toNat
def digT (n : Nat) : List UInt8 := if n = 0 then [48] else (canon n).reverse.map chr
def textZ (z : Int) : List UInt8 := (if z < 0 then [45] else []) ++ digT z.natAbs

theorem loop75 (B : Tree) (hB : B = St73b0 ∨ B = St73b1) (n : Nat) (G : FuncId → PV → Option PV) (q : PV) (l : List Int) (hl : l.length ≤ 40) (hd : Dig l) :
    ∀ (k j : Nat) (acc : List UInt8), j ≤ l.length → j < k → acc.length + j ≤ 41 → 0 < acc.length + j →
        rounds (fun self v => B.dn n G [self] [.agg [.agg [q, dl l]], v]) k (.agg [.int .i64 ((j : Int) - 1), bl acc]) = some (.agg [.str (acc ++ (l.take j).reverse.map chr), .bool true]) := by
  intro k
  induction k with
  | zero => intro j acc h1 h2; omega
  | succ k ih =>
    intro j acc h1 h2 h3 h4
    simp only [rounds_s]
    cases j with
    | zero =>
      generalize rounds _ k = self
      have h5 : (0 : Int) < acc.length := by omega
      rcases hB with rfl | rfl <;> (
        simp (disch := omega) only [St73b0, St73b1, ya, yb, yc, yd, ye, yf, yg, yh, yi, yj, yk, yl, yp, yq, ys, yu, yv, yw, yx, yy, yz, za, zb, zc, zd, get0, getS, ze, zf, zg, zh, zj, uo, zk, zl, zm, zn, zo, zp, zq, zr, zs, zt, zu, zv, zw, zx, zy, zz, ub, uc, ud, ue, up, uq, ur, ut, uu, ul, um, w64, w8, List.nil_append, List.cons_append, uw, ob_len, ob_toS]
        rw [le_neg (by omega), le_pos (by omega), lt_pos h5, ob_okB acc rfl]
        simp only [ya, yb, yc, yd, ye, yf, yg, yh, yi, yj, yk, yl, yp, yq, ys, yu, yv, yw, yx, yy, yz, za, zb, zc, zd, get0, getS, ze, zf, zg, zh, zj, uo, zk, zl, zm, zn, zo, zp, zq, zr, zs, zt, zu, zv, zw, zx, zy, zz, ub, uc, ud, ue, up, uq, ur, ut, uu, ul, um, w64, w8, List.nil_append, List.cons_append, uw, ob_toS]
        simp)
    | succ j =>
      have gd := hd.get (i := j)
      have ih2 := ih j (acc ++ [chr (l.getD j 0)]) (by omega) (by omega) (by simp; omega) (by simp; omega)
      clear ih
      have e1 : ((j + 1 : Nat) : Int) - 1 = j := by omega
      have e2 := takeI (l := l) (j := j) (by omega)
      have e3 : acc ++ (l.take (j + 1)).reverse.map chr = acc ++ [chr (l.getD j 0)] ++ (l.take j).reverse.map chr := by rw [e2]; simp
      rw [e1, e3]
      have hlen : (acc ++ [chr (l.getD j 0)]).length = acc.length + 1 := by simp
      have hch : UInt8.ofNat (48 + l.getD j 0).toNat = chr (l.getD j 0) := rfl
      generalize rounds _ k = self at ih2 ⊢
      rcases hB with rfl | rfl <;> (
        simp (disch := omega) only [St73b0, St73b1, ya, yb, yc, yd, ye, yf, yg, yh, yi, yj, yk, yl, yp, yq, ys, yu, yv, yw, yx, yy, yz, za, zb, zc, zd, get0, getS, ze, zf, zg, zh, zj, uo, zk, zl, zm, zn, zo, zp, zq, zr, zs, zt, zu, zv, zw, zx, zy, zz, ub, uc, ud, ue, up, uq, ur, ut, uu, ul, um, w64, w8, List.nil_append, List.cons_append, uw, ob_len, ob_toS, ob_snoc, Int.toNat_natCast, hch]
        rw [le_pos (by omega), le_pos (by omega), lt_pos (by omega), le_pos (by omega)]
        exact ih2)

theorem f75 {m : Nat} (hm : 100 ≤ m) (z : Int) (hz : Sm z 90) : R m 73 (.agg [numV z]) = some (if (canon z.natAbs).length ≤ 40 then .agg [.str (textZ z), .bool true] else .agg [.str [], .bool false]) := by
  obtain ⟨n, rfl⟩ : ∃ n, m = n + 1 := ⟨m - 1, by omega⟩
  unfold Sm at hz
  rw [R_succ n 73 _ rfl]
  by_cases h1 : (canon z.natAbs).length ≤ 40
  · rw [if_pos h1]
    have l0 := fun acc hl => loop75 St73b0 (.inl rfl) (n + 1) (R n) (.bool (decide (z < 0))) (canon z.natAbs) h1 (canon_dig _) (n + 1) (canon z.natAbs).length acc (Nat.le_refl _) (by omega) hl
    have l1 := fun acc hl => loop75 St73b1 (.inr rfl) (n + 1) (R n) (.bool (decide (z < 0))) (canon z.natAbs) h1 (canon_dig _) (n + 1) (canon z.natAbs).length acc (Nat.le_refl _) (by omega) hl
    simp (disch := omega) only [St73, ya, yb, yc, yd, ye, yf, yg, yh, yi, yj, yk, yl, yp, yq, ys, yu, yv, yw, yx, yy, yz, za, zb, zc, zd, get0, getS, ze, zf, zg, zh, zj, uo, zk, zl, zm, zn, zo, zp, zq, zr, zs, zt, zu, zv, zw, zx, zy, zz, ub, uc, ud, ue, up, uq, ur, ut, uu, ul, um, w64, w8, List.nil_append, List.cons_append, uw, numV]
    rw [lt_neg (by omega)]
    have e45 : O2.snoc.dn (bl []) (.int .u8 45) = bl [45] := rfl
    rw [e45]
    simp only [ob_len]
    by_cases h2 : z.natAbs = 0
    · rw [h2, canon_zero, eq_pos (by rfl)]
      have : z = 0 := by omega
      subst this
      rfl
    · rw [eq_neg (by
        intro h
        have : canon z.natAbs = [] := List.length_eq_zero_iff.1 (by omega)
        exact h2 (canon_nil.1 this))]
      have hp : 0 < (canon z.natAbs).length := by
        cases e : canon z.natAbs with
        | nil => exact absurd (canon_nil.1 e) h2
        | cons a l => simp
      have hT : textZ z = (if z < 0 then [45] else []) ++ (canon z.natAbs).reverse.map chr := by unfold textZ digT; rw [if_neg h2]
      rw [hT]
      by_cases h3 : z < 0
      · have e := l0 [45] (by rw [List.length_singleton]; omega) (by rw [List.length_singleton]; omega)
        rw [List.take_length] at e
        simp only [h3, decide_true, if_true] at e ⊢
        rw [le_pos (by simp [PV.i])]
        exact e
      · have e := l1 [] (by rw [List.length_nil]; omega) (by rw [List.length_nil]; omega)
        rw [List.take_length] at e
        simp only [h3, decide_false, if_false] at e ⊢
        exact e
  · rw [if_neg h1]
    simp (disch := omega) only [St73, ya, yb, yc, yd, ye, yf, yg, yh, yi, yj, yk, yl, yp, yq, ys, yu, yv, yw, yx, yy, yz, za, zb, zc, zd, get0, getS, ze, zf, zg, zh, zj, uo, zk, zl, zm, zn, zo, zp, zq, zr, zs, zt, zu, zv, zw, zx, zy, zz, ub, uc, ud, ue, up, uq, ur, ut, uu, ul, um, w64, w8, List.nil_append, List.cons_append, uw, numV]
    rw [lt_pos (by omega)]

/-! The reference's. -/
theorem le_len {l : List UInt8} (h : l.length ≤ 91) : (l.length : Int) ≤ 16777216 := by omega
theorem loop120 (n : Nat) (G : FuncId → PV → Option PV) (a : PV) (q : Bool) (l : List Int) (hl : l.length ≤ 90) (hd : Dig l) :
    ∀ (k j : Nat), j ≤ l.length → 91 ≤ k + j →
        rounds (fun self v => St115b0.dn n G [self] [.agg [a, .bool q], .agg [dl l], v]) k (.agg [.str ((l.take j).reverse.map chr), .int .i64 j]) = some (.agg [.str ((if q then [45] else []) ++ l.reverse.map chr)]) := by
  intro k
  induction k with
  | zero => intro j h1 h2; omega
  | succ k ih =>
    intro j h1 h2
    simp only [rounds_s]
    by_cases h : j < l.length
    · have gd := hd.get (i := j)
      have ih2 := ih (j + 1) (by omega) (by omega)
      clear ih
      have e2 := takeI (l := l) (j := j) (by omega)
      have e3 : (l.take (j + 1)).reverse.map chr = [chr (l.getD j 0)] ++ (l.take j).reverse.map chr := by rw [e2]; simp
      have hch : UInt8.ofNat (48 + l.getD j 0).toNat = chr (l.getD j 0) := rfl
      rw [List.singleton_append] at e3
      have hlen : (chr (l.getD j 0) :: (l.take j).reverse.map chr).length ≤ 91 := by
        rw [List.length_cons, List.length_map, List.length_reverse, List.length_take]; omega
      rw [e3, Int.natCast_add, Int.natCast_one] at ih2
      generalize rounds _ k = self at ih2 ⊢
      simp (disch := omega) only [St115b0, ya, yb, yc, yd, ye, yf, yg, yh, yi, yj, yk, yl, yp, yq, ys, yu, yv, yw, yx, yy, yz, za, zb, zc, zd, get0, getS, ze, zf, zg, zh, zj, uo, zk, zl, zm, zn, zo, zp, zq, zr, zs, zt, zu, zv, zw, zx, zy, zz, ub, uc, ud, ue, up, uq, ur, ut, uu, ul, um, w64, w8, List.nil_append, List.cons_append, uw, ob_len, ob_toS, ob_snoc, Int.toNat_natCast, hch]
      rw [lt_pos (by omega), le_pos (by omega), le_pos (le_len hlen)]
      exact ih2
    · clear ih
      have e : l.take j = l := List.take_of_length_le (by omega)
      rw [e]
      generalize rounds _ k = self
      simp (disch := omega) only [St115b0, ya, yb, yc, yd, ye, yf, yg, yh, yi, yj, yk, yl, yp, yq, ys, yu, yv, yw, yx, yy, yz, za, zb, zc, zd, get0, getS, ze, zf, zg, zh, zj, uo, zk, zl, zm, zn, zo, zp, zq, zr, zs, zt, zu, zv, zw, zx, zy, zz, ub, uc, ud, ue, up, uq, ur, ut, uu, ul, um, w64, w8, List.nil_append, List.cons_append, uw]
      rw [lt_neg (by omega)]
      cases q
      · rfl
      · simp only [yx]
        have hlen : (45 :: l.reverse.map chr).length ≤ 91 := by
          rw [List.length_cons, List.length_map, List.length_reverse]; omega
        rw [le_pos (le_len hlen)]
        rfl

theorem f120 {m : Nat} (hm : 101 ≤ m) (x : Nat) (q : Bool) (hx : (canon x).length ≤ 90) : R m 115 (.agg [dl (canon x), .bool q]) = some (.agg [.str (if x = 0 then [48] else (if q then [45] else []) ++ digT x)]) := by
  obtain ⟨n, rfl⟩ : ∃ n, m = n + 1 := ⟨m - 1, by omega⟩
  rw [R_succ n 115 _ rfl]
  simp (disch := omega) only [St115, ya, yb, yc, yd, ye, yf, yg, yh, yi, yj, yk, yl, yp, yq, ys, yu, yv, yw, yx, yy, yz, za, zb, zc, zd, get0, getS, ze, zf, zg, zh, zj, uo, zk, zl, zm, zn, zo, zp, zq, zr, zs, zt, zu, zv, zw, zx, zy, zz, ub, uc, ud, ue, up, uq, ur, ut, uu, ul, um, w64, w8, List.nil_append, List.cons_append, uv, f155 (m := n) (by omega) (canon x) (by omega), trim_canon]
  by_cases h : x = 0
  · rw [if_pos h, h, canon_zero, eq_pos (by rfl)]
  · rw [if_neg h, eq_neg (by
      intro h'
      have : canon x = [] := List.length_eq_zero_iff.1 (by omega)
      exact h (canon_nil.1 this))]
    have e := loop120 (n + 1) (R n) (dl (canon x)) q (canon x) hx (canon_dig _) (n + 1) 0 (by omega) (by omega)
    rw [List.take_zero, List.reverse_nil, List.map_nil, Int.natCast_zero] at e
    unfold digT
    rw [if_neg h]
    exact e
theorem f114 {m : Nat} (hm : 102 ≤ m) (x : Nat) (q : Bool) (hx : (canon x).length ≤ 90) : R m 144 (.agg [dl (canon x), .bool q]) = some (if (canon x).length ≤ 40 then .agg [.str (if x = 0 then [48] else (if q then [45] else []) ++ digT x), .bool true] else .agg [.str [], .bool false]) := by
  obtain ⟨n, rfl⟩ : ∃ n, m = n + 1 := ⟨m - 1, by omega⟩
  rw [R_succ n 144 _ rfl]
  simp (disch := omega) only [St144, ya, yb, yc, yd, ye, yf, yg, yh, yi, yj, yk, yl, yp, yq, ys, yu, yv, yw, yx, yy, yz, za, zb, zc, zd, get0, getS, ze, zf, zg, zh, zj, uo, zk, zl, zm, zn, zo, zp, zq, zr, zs, zt, zu, zv, zw, zx, zy, zz, ub, uc, ud, ue, up, uq, ur, ut, uu, ul, um, w64, w8, List.nil_append, List.cons_append, uv, f155 (m := n) (by omega) (canon x) (by omega), trim_canon, f120 (m := n) (by omega) x q hx]
  by_cases h : (canon x).length ≤ 40
  · rw [lt_neg (by omega), if_pos h]
  · rw [lt_pos (by omega), if_neg h]
end Go.Dv

/- The reference's integers: digits of a text, sums, comparisons. -/
set_option linter.unusedVariables false
set_option linter.unusedSimpArgs false
namespace Go.Dv

def digV (z : Int) : PV := .agg [dl (canon z.natAbs), .bool (decide (z < 0))]

theorem loop110 (n : Nat) (hn : 100 ≤ n) (q : Bool) (s b : List UInt8) (hs : s = (if q then [45] else []) ++ b) (hb : b.length ≤ 90) (hd : b.all isD = true) (hb1 : 1 ≤ b.length) :
    ∀ (k j : Nat) (acc : List Int), j ≤ b.length → j < k → acc.length + j ≤ 90 → rounds (fun self v => St114b0.dn (n + 1) (R n) [self] [.agg [.str s], v]) k (.agg [.int .i64 ((j : Int) - 1 + (if q then 1 else 0)), dl acc]) =
      some (.agg [dl (trim (acc ++ digL (b.take j))), .bool q]) := by
  have h0 : decide (((s.getD 0 0).toNat : Int) = 45) = q := by
    cases q
    · have : s = b := by simpa using hs
      rw [this]
      cases b with
      | nil => simp at hb1
      | cons c b =>
        have := (isD_iff c).1 (by simp at hd; exact hd.1)
        simp
        omega
    · have : s = 45 :: b := by simpa using hs
      rw [this]
      rfl
  have hg : ∀ j : Nat, s.getD (j + (if q then 1 else 0)) 0 = b.getD j 0 := by
    intro j
    cases q
    · have : s = b := by simpa using hs
      rw [this]; rfl
    · have : s = 45 :: b := by simpa using hs
      rw [this]
      simp [List.getD_eq_getElem?_getD]
  have hsl : s.length = b.length + (if q then 1 else 0) := by
    rw [hs]; cases q <;> simp [Nat.add_comm]
  intro k
  induction k with
  | zero => intro j acc h1 h2; omega
  | succ k ih =>
    intro j acc h1 h2 h3
    simp only [rounds_s]
    have ht := f155 hn acc (by omega)
    cases j with
    | zero =>
      clear ih
      generalize rounds _ k = self
      cases q
      · simp (disch := omega) only [St114b0, ya, yb, yc, yd, ye, yf, yg, yh, yi, yj, yk, yl, yp, yq, ys, yu, yv, yw, yx, yy, yz, za, zb, zc, zd, get0, getS, ze, zf, zg, zh, zj, uo, zk, zl, zm, zn, zo, zp, zq, zr, zs, zt, zu, zv, zw, zx, zy, zz, ub, uc, ud, ue, up, uq, ur, ut, uu, ul, um, w64, w8, List.nil_append, List.cons_append, uv, ht, if_false, Int.add_zero, Int.toNat_zero, h0]
        rw [le_neg (by simp)]
        simp [digL, trim]
      · have hq := hg 0
        have : s = 45 :: b := by simpa using hs
        simp (disch := omega) only [St114b0, ya, yb, yc, yd, ye, yf, yg, yh, yi, yj, yk, yl, yp, yq, ys, yu, yv, yw, yx, yy, yz, za, zb, zc, zd, get0, getS, ze, zf, zg, zh, zj, uo, zk, zl, zm, zn, zo, zp, zq, zr, zs, zt, zu, zv, zw, zx, zy, zz, ub, uc, ud, ue, up, uq, ur, ut, uu, ul, um, w64, w8, List.nil_append, List.cons_append, uv, ht, if_true, Int.toNat_zero, h0]
        rw [le_pos (by simp), le_pos (by simp), lt_pos (by simp at hsl ⊢; omega), eq_pos (by rw [this]; rfl)]
        simp [digL, trim]
    | succ j =>
      have hj := hg j
      have hc : isD (b.getD j 0) = true := by
        rw [List.getD_eq_getElem?_getD, List.getElem?_eq_getElem (show j < b.length by omega)]
        exact List.all_eq_true.1 hd _ (List.getElem_mem _)
      have hcc := (isD_iff _).1 hc
      have ih2 := ih j (acc ++ [((b.getD j 0).toNat : Int) - 48]) (by omega) (by omega) (by simp; omega)
      clear ih
      rw [digL_take b j (by omega)]
      have e1 : acc ++ (((b.getD j 0).toNat : Int) - 48) :: digL (b.take j) = acc ++ [((b.getD j 0).toNat : Int) - 48] ++ digL (b.take j) := by simp
      rw [e1]
      obtain ⟨o, ho⟩ : ∃ o : Nat, o = if q then 1 else 0 := ⟨_, rfl⟩
      have ho' : (if q = true then 1 else 0 : Int) = o := by rw [ho]; cases q <;> rfl
      have e2 : ((j + 1 : Nat) : Int) - 1 + (if q then 1 else 0) = ((j + o : Nat) : Int) := by rw [ho']; omega
      have e3 : ((j + o : Nat) : Int) - 1 = (j : Int) - 1 + (if q then 1 else 0) := by rw [ho']; omega
      rw [e2]
      rw [← ho] at hj hsl
      rw [← e3] at ih2
      generalize rounds _ k = self at ih2 ⊢
      generalize b.getD j 0 = c at hj hcc ih2
      simp (disch := omega) only [St114b0, ya, yb, yc, yd, ye, yf, yg, yh, yi, yj, yk, yl, yp, yq, ys, yu, yv, yw, yx, yy, yz, za, zb, zc, zd, get0, getS, ze, zf, zg, zh, zj, uo, zk, zl, zm, zn, zo, zp, zq, zr, zs, zt, zu, zv, zw, zx, zy, zz, ub, uc, ud, ue, up, uq, ur, ut, uu, ul, um, w64, w8, List.nil_append, List.cons_append, uv, Int.toNat_natCast, hj, len_snoc]
      rw [le_pos (by omega), le_pos (by omega), lt_pos (by omega), eq_neg (by omega), le_pos (by omega)]
      exact ih2

theorem f110 {m : Nat} (hm : 101 ≤ m) (q : Bool) (s b : List UInt8) (hs : s = (if q then [45] else []) ++ b) (hb : b.length ≤ 90) (hd : b.all isD = true) (hb1 : 1 ≤ b.length) :
    R m 114 (.agg [.str s]) = some (.agg [dl (canon (nv (digL b)).toNat), .bool q]) := by
  obtain ⟨n, rfl⟩ : ∃ n, m = n + 1 := ⟨m - 1, by omega⟩
  have hsl : (s.length : Int) - 1 = (b.length : Int) - 1 + (if q then 1 else 0) := by
    rw [hs]; cases q <;> simp <;> omega
  have hs1 : s.length ≤ 91 ∧ 0 < s.length := by
    rw [hs]; cases q <;> simp <;> omega
  have e := loop110 n (by omega) q s b hs hb hd hb1 (n + 1) b.length [] (Nat.le_refl _) (by omega) (by simp; omega)
  rw [List.take_length, List.nil_append, canon_trim (digL_dig hd), ← hsl] at e
  rw [R_succ n 114 _ rfl]
  simp (disch := omega) only [St114, ya, yb, yc, yd, ye, yf, yg, yh, yi, yj, yk, yl, yp, yq, ys, yu, yv, yw, yx, yy, yz, za, zb, zc, zd, get0, getS, ze, zf, zg, zh, zj, uo, zk, zl, zm, zn, zo, zp, zq, zr, zs, zt, zu, zv, zw, zx, zy, zz, ub, uc, ud, ue, up, uq, ur, ut, uu, ul, um, w64, w8, List.nil_append, List.cons_append, uv]
  rw [lt_pos (by omega), lt_pos (by omega)]
  exact e

theorem body_eq (s : List UInt8) : s = (if negL s then [45] else []) ++ bodyL s := by
  unfold bodyL
  cases h : negL s with
  | false => simp
  | true =>
    unfold negL at h
    cases s with
    | nil => simp at h
    | cons c s =>
      simp at h
      simp [h]
theorem f110Z {m : Nat} (hm : 101 ≤ m) {s : List UInt8} (h : isIntL s = true) : R m 114 (.agg [.str s]) = some (digV (Z s)) := by
  obtain ⟨h1, h2, h3, h4⟩ := isInt_parts h
  rw [f110 hm (negL s) s (bodyL s) (body_eq s) (by omega) h3 h1, digV, Z_neg h, Z_abs h]
theorem chr_toNat {d : Int} (h1 : 0 ≤ d) (h2 : d ≤ 9) : ((chr d).toNat : Int) = 48 + d := u8_of (by omega) (by omega)
theorem digT_ok (x : Nat) : (digT x).all isD = true ∧ nv (digL (digT x)) = x ∧ 1 ≤ (digT x).length ∧ (digT x).length ≤ (canon x).length + 1 := by
  unfold digT
  by_cases h : x = 0
  · subst h; exact ⟨rfl, rfl, by simp, by simp⟩
  · rw [if_neg h]
    have hd := canon_dig x
    have hne : 0 < (canon x).length := by
      cases e : canon x with
      | nil => exact absurd (canon_nil.1 e) h
      | cons a l => simp
    refine ⟨?_, ?_, by simp; omega, by simp⟩
    · rw [List.all_eq_true]
      intro c hc
      obtain ⟨d, hd', rfl⟩ := List.mem_map.1 hc
      have := hd d (List.mem_reverse.1 hd')
      have := chr_toNat this.1 this.2
      rw [isD_iff]
      omega
    · have : digL ((canon x).reverse.map chr) = canon x := by
        unfold digL
        rw [← List.map_reverse, List.reverse_reverse, List.map_map]
        conv => rhs; rw [← List.map_id (canon x)]
        apply List.map_congr_left
        intro d hd'
        have := hd d hd'
        have := chr_toNat this.1 this.2
        show ((chr d).toNat : Int) - 48 = d
        omega
      rw [this, canon_nv]
theorem f110T {m : Nat} (hm : 101 ≤ m) (z : Int) (h : Sm z 80) : R m 114 (.agg [.str (textZ z)]) = some (digV z) := by
  unfold Sm at h
  obtain ⟨h1, h2, h3, h4⟩ := digT_ok z.natAbs
  rw [f110 hm (decide (z < 0)) (textZ z) (digT z.natAbs) (by unfold textZ; by_cases hz : z < 0 <;> simp [hz]) (by omega) h1 h3, h2]
  rfl

theorem textZ_sg (x : Nat) (q : Bool) : (if x = 0 then [48] else (if q then [45] else []) ++ digT x) = textZ (sg q x) := by
  unfold textZ
  by_cases h : x = 0
  · subst h
    cases q <;> rfl
  · rw [if_neg h]
    have e1 : (sg q x).natAbs = x := by cases q <;> simp [sg]
    rw [e1]
    cases q
    · have : ¬ sg false x < 0 := by simp [sg]
      simp [this]
    · have : sg true x < 0 := by simp [sg]; omega
      simp [this]
/-- fitting. -/
def fitV (z : Int) : PV := if (canon z.natAbs).length ≤ 40 then .agg [.str (textZ z), .bool true] else .agg [.str [], .bool false]
theorem f114' {m : Nat} (hm : 102 ≤ m) (x : Nat) (q : Bool) (hx : (canon x).length ≤ 90) : R m 144 (.agg [dl (canon x), .bool q]) = some (fitV (sg q x)) := by
  have e1 : (sg q x).natAbs = x := by cases q <;> simp [sg]
  rw [f114 hm x q hx, textZ_sg, fitV, e1]
theorem fitV_eta (z : Int) : PV.agg [(O1.fld 0).dn (fitV z), (O1.fld 1).dn (fitV z)] = fitV z := by
  unfold fitV
  by_cases h : (canon z.natAbs).length ≤ 40
  · rw [if_pos h]; rfl
  · rw [if_neg h]; rfl
theorem f75' {m : Nat} (hm : 100 ≤ m) (z : Int) (hz : Sm z 90) : R m 73 (.agg [numV z]) = some (fitV z) := f75 hm z hz
/-- addInts. -/
theorem f78 {m : Nat} (hm : 103 ≤ m) {s t : List UInt8} {x y : Int} (hs : ∀ n, 101 ≤ n → R n 114 (.agg [.str s]) = some (digV x)) (ht : ∀ n, 101 ≤ n → R n 114 (.agg [.str t]) = some (digV y)) (hx : Sm x 80) (hy : Sm y 80) :
    R m 130 (.agg [.str s, .str t]) = some (fitV (x + y)) := by
  obtain ⟨n, rfl⟩ : ∃ n, m = n + 1 := ⟨m - 1, by omega⟩
  have hxy := (Sm.add hx hy).mono (show 81 ≤ 90 by omega)
  unfold Sm at hx hy hxy
  have e118 := f118 (m := n) (by omega) (canon x.natAbs) (canon y.natAbs) (canon_dig _) (canon_dig _) (by omega) (by omega)
  have cmp := f108_111 (m := n) (by omega) 129 (.inr rfl) x.natAbs y.natAbs (by omega) (by omega)
  have sub1 : y.natAbs ≤ x.natAbs → R n 146 (.agg [dl (canon x.natAbs), dl (canon y.natAbs)]) = some (.agg [dl (canon (x.natAbs - y.natAbs))]) := by
    intro h
    rw [f119 (m := n) (by omega) _ _ (canon_dig _) (canon_dig _) (by omega) (by rw [canon_nv, canon_nv]; omega), canon_nv, canon_nv]
    have : ((x.natAbs : Int) - (y.natAbs : Int)).toNat = x.natAbs - y.natAbs := by omega
    rw [this]
  have sub2 : x.natAbs ≤ y.natAbs → R n 146 (.agg [dl (canon y.natAbs), dl (canon x.natAbs)]) = some (.agg [dl (canon (y.natAbs - x.natAbs))]) := by
    intro h
    rw [f119 (m := n) (by omega) _ _ (canon_dig _) (canon_dig _) (by omega) (by rw [canon_nv, canon_nv]; omega), canon_nv, canon_nv]
    have : ((y.natAbs : Int) - (x.natAbs : Int)).toNat = y.natAbs - x.natAbs := by omega
    rw [this]
  have fit : ∀ (q : Bool) (k : Nat), sg q k = x + y → R n 144 (.agg [dl (canon k), .bool q]) = some (fitV (x + y)) := by
    intro q k h
    have : k = (x + y).natAbs := by rw [← h]; cases q <;> simp [sg]
    rw [f114' (m := n) (by omega) k q (by rw [this]; omega), h]
  rw [canon_nv, canon_nv] at e118
  have e3 : ((x.natAbs : Int) + (y.natAbs : Int)).toNat = x.natAbs + y.natAbs := by omega
  rw [e3] at e118
  have lt1 : x.natAbs < y.natAbs → cmpI (x.natAbs : Int) (y.natAbs : Int) < 0 := by
    intro h; unfold cmpI; rw [if_pos (by omega)]; omega
  have lt2 : ¬ x.natAbs < y.natAbs → ¬ cmpI (x.natAbs : Int) (y.natAbs : Int) < 0 := by
    intro h; unfold cmpI; rw [if_neg (by omega)]
    by_cases h2 : (x.natAbs : Int) = (y.natAbs : Int)
    · rw [if_pos h2]; omega
    · rw [if_neg h2]; omega
  rw [R_succ n 130 _ rfl]
  simp (disch := omega) only [St130, ya, yb, yc, yd, ye, yf, yg, yh, yi, yj, yk, yl, yp, yq, ys, yu, yv, yw, yx, yy, yz, za, zb, zc, zd, get0, getS, ze, zf, zg, zh, zj, uo, zk, zl, zm, zn, zo, zp, zq, zr, zs, zt, zu, zv, zw, zx, zy, zz, ub, uc, ud, ue, up, uq, ur, ut, uu, ul, um, w64, w8, List.nil_append, List.cons_append, uv, hs n (by omega), ht n (by omega), digV]
  by_cases hx0 : x < 0 <;> by_cases hy0 : y < 0
  · simp only [hx0, hy0, decide_true, decide_false, bneq_tt, e118, ya, yb, yc, yd, ye, yf, yg, yh, yi, yj, yk, yl, yp, yq, ys, yu, yv, yw, yx, yy, yz, za, zb, zc, zd, get0, getS, ze, zf, zg, zh, zj, uo, zk, zl, zm, zn, zo, zp, zq, zr, zs, zt, zu, zv, zw, zx, zy, zz, ub, uc, ud, ue, up, uq, ur, ut, uu, ul, um, w64, w8, List.nil_append, List.cons_append, uv]
    rw [fit true _ (by simp [sg]; omega)]
    simp only [fitV_eta]
  · simp only [hx0, hy0, decide_true, decide_false, bneq_tf, cmp, ya, yb, yc, yd, ye, yf, yg, yh, yi, yj, yk, yl, yp, yq, ys, yu, yv, yw, yx, yy, yz, za, zb, zc, zd, get0, getS, ze, zf, zg, zh, zj, uo, zk, zl, zm, zn, zo, zp, zq, zr, zs, zt, zu, zv, zw, zx, zy, zz, ub, uc, ud, ue, up, uq, ur, ut, uu, ul, um, w64, w8, List.nil_append, List.cons_append, uv]
    by_cases h : x.natAbs < y.natAbs
    · rw [lt_pos (lt1 h), sub2 (by omega)]
      simp only [ya, yb, yc, yd, ye, yf, yg, yh, yi, yj, yk, yl, yp, yq, ys, yu, yv, yw, yx, yy, yz, za, zb, zc, zd, get0, getS, ze, zf, zg, zh, zj, uo, zk, zl, zm, zn, zo, zp, zq, zr, zs, zt, zu, zv, zw, zx, zy, zz, ub, uc, ud, ue, up, uq, ur, ut, uu, ul, um, w64, w8, List.nil_append, List.cons_append, uv]
      rw [fit false _ (by simp [sg]; omega)]
      simp only [fitV_eta]
    · rw [lt_neg (lt2 h), sub1 (by omega)]
      simp only [ya, yb, yc, yd, ye, yf, yg, yh, yi, yj, yk, yl, yp, yq, ys, yu, yv, yw, yx, yy, yz, za, zb, zc, zd, get0, getS, ze, zf, zg, zh, zj, uo, zk, zl, zm, zn, zo, zp, zq, zr, zs, zt, zu, zv, zw, zx, zy, zz, ub, uc, ud, ue, up, uq, ur, ut, uu, ul, um, w64, w8, List.nil_append, List.cons_append, uv]
      rw [fit true _ (by simp [sg]; omega)]
      simp only [fitV_eta]
  · simp only [hx0, hy0, decide_true, decide_false, bneq_ft, cmp, ya, yb, yc, yd, ye, yf, yg, yh, yi, yj, yk, yl, yp, yq, ys, yu, yv, yw, yx, yy, yz, za, zb, zc, zd, get0, getS, ze, zf, zg, zh, zj, uo, zk, zl, zm, zn, zo, zp, zq, zr, zs, zt, zu, zv, zw, zx, zy, zz, ub, uc, ud, ue, up, uq, ur, ut, uu, ul, um, w64, w8, List.nil_append, List.cons_append, uv]
    by_cases h : x.natAbs < y.natAbs
    · rw [lt_pos (lt1 h), sub2 (by omega)]
      simp only [ya, yb, yc, yd, ye, yf, yg, yh, yi, yj, yk, yl, yp, yq, ys, yu, yv, yw, yx, yy, yz, za, zb, zc, zd, get0, getS, ze, zf, zg, zh, zj, uo, zk, zl, zm, zn, zo, zp, zq, zr, zs, zt, zu, zv, zw, zx, zy, zz, ub, uc, ud, ue, up, uq, ur, ut, uu, ul, um, w64, w8, List.nil_append, List.cons_append, uv]
      rw [fit true _ (by simp [sg]; omega)]
      simp only [fitV_eta]
    · rw [lt_neg (lt2 h), sub1 (by omega)]
      simp only [ya, yb, yc, yd, ye, yf, yg, yh, yi, yj, yk, yl, yp, yq, ys, yu, yv, yw, yx, yy, yz, za, zb, zc, zd, get0, getS, ze, zf, zg, zh, zj, uo, zk, zl, zm, zn, zo, zp, zq, zr, zs, zt, zu, zv, zw, zx, zy, zz, ub, uc, ud, ue, up, uq, ur, ut, uu, ul, um, w64, w8, List.nil_append, List.cons_append, uv]
      rw [fit false _ (by simp [sg]; omega)]
      simp only [fitV_eta]
  · simp only [hx0, hy0, decide_true, decide_false, bneq_ff, e118, ya, yb, yc, yd, ye, yf, yg, yh, yi, yj, yk, yl, yp, yq, ys, yu, yv, yw, yx, yy, yz, za, zb, zc, zd, get0, getS, ze, zf, zg, zh, zj, uo, zk, zl, zm, zn, zo, zp, zq, zr, zs, zt, zu, zv, zw, zx, zy, zz, ub, uc, ud, ue, up, uq, ur, ut, uu, ul, um, w64, w8, List.nil_append, List.cons_append, uv]
    rw [fit false _ (by simp [sg]; omega)]
    simp only [fitV_eta]
end Go.Dv

/- What an integer is, to the reference; comparing, sums and differences. -/
set_option linter.unusedVariables false
set_option linter.unusedSimpArgs false
namespace Go.Dv

def okTail (s b : List UInt8) : Bool := decide (1 ≤ (b.length : Int)) && decide ((b.length : Int) ≤ 40) && (if ((b.getD 0 0).toNat : Int) = 48 then decide (s = [48]) else true)
theorem loop72 (B : Tree) (n : Nat) (hn : 1 ≤ n) (s b : List UInt8) (hB : B = St75b0 ∧ b = (s.take s.length).drop 1 ∨ (B = St75b1 ∨ B = St75b2) ∧ b = s) :
    ∀ (k i : Nat), i ≤ b.length → b.length < k + i → b.length < 1000000 → rounds (fun self v => B.dn (n + 1) (R n) [self] [.agg [.str s], v]) k (.agg [.int .i64 i]) =
      some (.agg [.bool ((b.drop i).all isD && okTail s b)]) := by
  intro k
  induction k with
  | zero => intro i h1 h2; omega
  | succ k ih =>
    intro i h1 h2 h3
    simp only [rounds_s]
    by_cases hi : i < b.length
    · have ih2 := ih (i + 1) (by omega) (by omega) h3
      clear ih
      have e1 : b.drop i = b.getD i 0 :: b.drop (i + 1) := by
        rw [List.drop_eq_getElem_cons hi, List.getD_eq_getElem?_getD, List.getElem?_eq_getElem hi]
        rfl
      rw [e1, List.all_cons]
      rw [Int.natCast_add, Int.natCast_one] at ih2
      have hu := u8_lt (b.getD i 0)
      have hdd : isD (b.getD i 0) = (decide (48 ≤ (b.getD i 0).toNat) && decide ((b.getD i 0).toNat ≤ 57)) := rfl
      generalize rounds _ k = self at ih2 ⊢
      have h1' : Int.toNat 1 = 1 := rfl
      have body : ∀ r : Option PV, r = (ltE ((b.getD i 0).toNat : Int) 48 (some (.agg [.bool false])) (ltE 57 ((b.getD i 0).toNat : Int) (some (.agg [.bool false])) (self (.agg [.int .i64 ((i : Int) + 1)])))) → r = some (.agg [.bool (isD (b.getD i 0) && (b.drop (i + 1)).all isD && okTail s b)]) := by
        intro r hr
        rw [hr]
        by_cases c1 : (b.getD i 0).toNat < 48
        · rw [lt_pos (by omega), hdd]
          have : ¬ 48 ≤ (b.getD i 0).toNat := by omega
          rw [decide_eq_false this]; simp only [Bool.false_and, Bool.and_false]
        · rw [lt_neg (by omega)]
          by_cases c2 : 57 < (b.getD i 0).toNat
          · rw [lt_pos (by omega), hdd]
            have : ¬ (b.getD i 0).toNat ≤ 57 := by omega
            rw [decide_eq_false this]; simp only [Bool.false_and, Bool.and_false]
          · rw [lt_neg (by omega), ih2, hdd, decide_eq_true (by omega), decide_eq_true (by omega)]
            rfl
      refine body _ ?_
      rcases hB with ⟨rfl, hb⟩ | ⟨rfl | rfl, hb⟩
      · simp (disch := omega) only [St75b0, ya, yb, yc, yd, ye, yf, yg, yh, yi, yj, yk, yl, yp, yq, ys, yu, yv, yw, yx, yy, yz, za, zb, zc, zd, get0, getS, ze, zf, zg, zh, zj, uo, zk, zl, zm, zn, zo, zp, zq, zr, zs, zt, zu, zv, zw, zx, zy, zz, ub, uc, ud, ue, up, uq, ur, ut, uu, ul, um, w64, w8, List.nil_append, List.cons_append, uv, Int.toNat_natCast, h1', ← hb]
        rw [lt_pos (by omega), le_pos (by omega)]
      · subst hb
        simp (disch := omega) only [St75b1, ya, yb, yc, yd, ye, yf, yg, yh, yi, yj, yk, yl, yp, yq, ys, yu, yv, yw, yx, yy, yz, za, zb, zc, zd, get0, getS, ze, zf, zg, zh, zj, uo, zk, zl, zm, zn, zo, zp, zq, zr, zs, zt, zu, zv, zw, zx, zy, zz, ub, uc, ud, ue, up, uq, ur, ut, uu, ul, um, w64, w8, List.nil_append, List.cons_append, uv, Int.toNat_natCast]
        rw [lt_pos (by omega), le_pos (by omega)]
      · subst hb
        simp (disch := omega) only [St75b2, ya, yb, yc, yd, ye, yf, yg, yh, yi, yj, yk, yl, yp, yq, ys, yu, yv, yw, yx, yy, yz, za, zb, zc, zd, get0, getS, ze, zf, zg, zh, zj, uo, zk, zl, zm, zn, zo, zp, zq, zr, zs, zt, zu, zv, zw, zx, zy, zz, ub, uc, ud, ue, up, uq, ur, ut, uu, ul, um, w64, w8, List.nil_append, List.cons_append, uv, Int.toNat_natCast]
        rw [lt_pos (by omega), le_pos (by omega)]
    · clear ih
      have e1 : b.drop i = [] := List.drop_eq_nil_of_le (by omega)
      rw [e1, List.all_nil, Bool.true_and]
      generalize rounds _ k = self
      have h1' : Int.toNat 1 = 1 := rfl
      have e66 := f66 (m := n) hn (b.length : Int)
      have tail : ∀ r : Option PV, ((decide (1 ≤ (b.length : Int)) && decide ((b.length : Int) ≤ 40)) = false → r = some (.agg [.bool false])) →
          ((decide (1 ≤ (b.length : Int)) && decide ((b.length : Int) ≤ 40)) = true → r = eqE ((b.getD 0 0).toNat : Int) 48 (some (.agg [.bool (decide (s = [48]))])) (some (.agg [.bool true]))) → r = some (.agg [.bool (okTail s b)]) := by
        intro r h1 h2
        unfold okTail
        cases hq : decide (1 ≤ (b.length : Int)) && decide ((b.length : Int) ≤ 40) with
        | false => rw [h1 hq]; rfl
        | true =>
          rw [h2 hq, Bool.true_and]
          by_cases h : ((b.getD 0 0).toNat : Int) = 48
          · rw [eq_pos h, if_pos h]
          · rw [eq_neg h, if_neg h]
      refine tail _ ?_ ?_
      · intro hq
        rcases hB with ⟨rfl, hb⟩ | ⟨rfl | rfl, hb⟩
        · simp (disch := omega) only [St75b0, ya, yb, yc, yd, ye, yf, yg, yh, yi, yj, yk, yl, yp, yq, ys, yu, yv, yw, yx, yy, yz, za, zb, zc, zd, get0, getS, ze, zf, zg, zh, zj, uo, zk, zl, zm, zn, zo, zp, zq, zr, zs, zt, zu, zv, zw, zx, zy, zz, ub, uc, ud, ue, up, uq, ur, ut, uu, ul, um, w64, w8, List.nil_append, List.cons_append, uv, Int.toNat_natCast, h1', ← hb, e66]
          rw [lt_neg (by omega), hq]
        · subst hb
          simp (disch := omega) only [St75b1, ya, yb, yc, yd, ye, yf, yg, yh, yi, yj, yk, yl, yp, yq, ys, yu, yv, yw, yx, yy, yz, za, zb, zc, zd, get0, getS, ze, zf, zg, zh, zj, uo, zk, zl, zm, zn, zo, zp, zq, zr, zs, zt, zu, zv, zw, zx, zy, zz, ub, uc, ud, ue, up, uq, ur, ut, uu, ul, um, w64, w8, List.nil_append, List.cons_append, uv, Int.toNat_natCast, e66]
          rw [lt_neg (by omega), hq]
        · subst hb
          simp (disch := omega) only [St75b2, ya, yb, yc, yd, ye, yf, yg, yh, yi, yj, yk, yl, yp, yq, ys, yu, yv, yw, yx, yy, yz, za, zb, zc, zd, get0, getS, ze, zf, zg, zh, zj, uo, zk, zl, zm, zn, zo, zp, zq, zr, zs, zt, zu, zv, zw, zx, zy, zz, ub, uc, ud, ue, up, uq, ur, ut, uu, ul, um, w64, w8, List.nil_append, List.cons_append, uv, Int.toNat_natCast, e66]
          rw [lt_neg (by omega), hq]
      · intro hq
        have hl : 0 < b.length := by
          simp only [Bool.and_eq_true, decide_eq_true_eq] at hq
          omega
        rcases hB with ⟨rfl, hb⟩ | ⟨rfl | rfl, hb⟩
        · simp (disch := omega) only [St75b0, ya, yb, yc, yd, ye, yf, yg, yh, yi, yj, yk, yl, yp, yq, ys, yu, yv, yw, yx, yy, yz, za, zb, zc, zd, get0, getS, ze, zf, zg, zh, zj, uo, zk, zl, zm, zn, zo, zp, zq, zr, zs, zt, zu, zv, zw, zx, zy, zz, ub, uc, ud, ue, up, uq, ur, ut, uu, ul, um, w64, w8, List.nil_append, List.cons_append, uv, Int.toNat_natCast, h1', ← hb, e66, Int.toNat_zero]
          rw [lt_neg (by omega), hq]
          simp only []
          rw [lt_pos (by omega)]
        · subst hb
          simp (disch := omega) only [St75b1, ya, yb, yc, yd, ye, yf, yg, yh, yi, yj, yk, yl, yp, yq, ys, yu, yv, yw, yx, yy, yz, za, zb, zc, zd, get0, getS, ze, zf, zg, zh, zj, uo, zk, zl, zm, zn, zo, zp, zq, zr, zs, zt, zu, zv, zw, zx, zy, zz, ub, uc, ud, ue, up, uq, ur, ut, uu, ul, um, w64, w8, List.nil_append, List.cons_append, uv, Int.toNat_natCast, e66, Int.toNat_zero]
          rw [lt_neg (by omega), hq]
        · subst hb
          simp (disch := omega) only [St75b2, ya, yb, yc, yd, ye, yf, yg, yh, yi, yj, yk, yl, yp, yq, ys, yu, yv, yw, yx, yy, yz, za, zb, zc, zd, get0, getS, ze, zf, zg, zh, zj, uo, zk, zl, zm, zn, zo, zp, zq, zr, zs, zt, zu, zv, zw, zx, zy, zz, ub, uc, ud, ue, up, uq, ur, ut, uu, ul, um, w64, w8, List.nil_append, List.cons_append, uv, Int.toNat_natCast, e66, Int.toNat_zero]
          rw [lt_neg (by omega), hq]
          simp only []
          rw [lt_pos (by omega)]

theorem okTail_isInt (s : List UInt8) : ((bodyL s).all isD && okTail s (bodyL s)) = isIntL s := by
  unfold okTail isIntL
  have e1 : decide (1 ≤ ((bodyL s).length : Int)) = decide (1 ≤ (bodyL s).length) := by congr 1; apply propext; omega
  have e2 : decide (((bodyL s).length : Int) ≤ 40) = decide ((bodyL s).length ≤ 40) := by congr 1; apply propext; omega
  rw [e1, e2]
  have e3 : ((((bodyL s).getD 0 0).toNat : Int) = 48) ↔ (bodyL s).getD 0 0 = 48 := by
    constructor
    · intro h; exact UInt8.toNat_inj.1 (show _ = 48 by omega)
    · intro h; rw [h]; rfl
  have e4 : decide (1 ≤ (bodyL s).length) = true → (if (((bodyL s).getD 0 0).toNat : Int) = 48 then decide (s = [48]) else true) = !(decide ((bodyL s).getD 0 0 = 48) && (decide (1 < (bodyL s).length) || negL s)) := by
    intro hl
    have hl := of_decide_eq_true hl
    by_cases h : (bodyL s).getD 0 0 = 48
    · rw [if_pos (e3.2 h), decide_eq_true h, Bool.true_and]
      have hb := body_eq s
      cases hn : negL s with
      | true =>
        rw [hn] at hb
        rw [Bool.or_true]
        have : ¬ s = [48] := by
          intro h2
          rw [h2] at hn
          exact absurd hn (by decide)
        rw [decide_eq_false this]; rfl
      | false =>
        rw [hn] at hb
        have hb : s = bodyL s := by simpa using hb
        rw [← hb] at h hl ⊢
        rw [Bool.or_false]
        cases s with
        | nil => simp at hl
        | cons c s =>
          have : c = 48 := h
          subst this
          cases s with
          | nil => rfl
          | cons d s => simp
    · rw [if_neg (fun h' => h (e3.1 h')), decide_eq_false h]; rfl
  cases hl : decide (1 ≤ (bodyL s).length) with
  | false => simp
  | true =>
    rw [e4 hl]
    cases (bodyL s).all isD <;> simp

theorem f72 {m : Nat} (s : List UInt8) (hs : s.length + 4 ≤ m) (hs2 : s.length < 100000) : R m 75 (.agg [.str s]) = some (.agg [.bool (isIntL s)]) := by
  obtain ⟨n, rfl⟩ : ∃ n, m = n + 1 := ⟨m - 1, by omega⟩
  rw [R_succ n 75 _ rfl, ← okTail_isInt]
  have fin : ∀ (B : Tree) (b : List UInt8), b = bodyL s → (B = St75b0 ∧ b = (s.take s.length).drop 1 ∨ (B = St75b1 ∨ B = St75b2) ∧ b = s) → b.length ≤ s.length → rounds (fun self v => B.dn (n + 1) (R n) [self] [.agg [.str s], v]) (n + 1) (.agg [.int .i64 0]) = some (.agg [.bool ((bodyL s).all isD && okTail s (bodyL s))]) := by
    intro B b hb hB hl
    have := loop72 B n (by omega) s b hB (n + 1) 0 (by omega) (by omega) (by omega)
    rw [List.drop_zero, hb] at this
    exact this
  by_cases h1 : 0 < s.length
  · by_cases h2 : ((s.getD 0 0).toNat : Int) = 45
    · simp (disch := omega) only [St75, ya, yb, yc, yd, ye, yf, yg, yh, yi, yj, yk, yl, yp, yq, ys, yu, yv, yw, yx, yy, yz, za, zb, zc, zd, get0, getS, ze, zf, zg, zh, zj, uo, zk, zl, zm, zn, zo, zp, zq, zr, zs, zt, zu, zv, zw, zx, zy, zz, ub, uc, ud, ue, up, uq, ur, ut, uu, ul, um, w64, w8, List.nil_append, List.cons_append, uv, Int.toNat_zero]
      rw [lt_pos (by omega), lt_pos (by omega), eq_pos h2, le_pos (by omega), le_pos (by omega)]
      have hn : negL s = true := by
        cases s with
        | nil => simp at h1
        | cons c s =>
          have : c = 45 := UInt8.toNat_inj.1 (show c.toNat = 45 by simp at h2; omega)
          subst this
          rfl
      refine fin St75b0 ((s.take s.length).drop 1) (by rw [List.take_length]; unfold bodyL; rw [hn]; rfl) (.inl ⟨rfl, rfl⟩) (by simp)
    · simp (disch := omega) only [St75, ya, yb, yc, yd, ye, yf, yg, yh, yi, yj, yk, yl, yp, yq, ys, yu, yv, yw, yx, yy, yz, za, zb, zc, zd, get0, getS, ze, zf, zg, zh, zj, uo, zk, zl, zm, zn, zo, zp, zq, zr, zs, zt, zu, zv, zw, zx, zy, zz, ub, uc, ud, ue, up, uq, ur, ut, uu, ul, um, w64, w8, List.nil_append, List.cons_append, uv, Int.toNat_zero]
      rw [lt_pos (by omega), lt_pos (by omega), eq_neg h2]
      have hn : negL s = false := by
        cases s with
        | nil => simp at h1
        | cons c s =>
          unfold negL
          rw [decide_eq_false_iff_not]
          intro h
          have : c = 45 := by simpa using h
          subst this
          exact h2 rfl
      refine fin St75b1 s (by unfold bodyL; rw [hn]; rfl) (.inr ⟨.inl rfl, rfl⟩) (Nat.le_refl _)
  · simp (disch := omega) only [St75, ya, yb, yc, yd, ye, yf, yg, yh, yi, yj, yk, yl, yp, yq, ys, yu, yv, yw, yx, yy, yz, za, zb, zc, zd, get0, getS, ze, zf, zg, zh, zj, uo, zk, zl, zm, zn, zo, zp, zq, zr, zs, zt, zu, zv, zw, zx, zy, zz, ub, uc, ud, ue, up, uq, ur, ut, uu, ul, um, w64, w8, List.nil_append, List.cons_append, uv, Int.toNat_zero]
    rw [lt_neg (by omega)]
    have : s = [] := List.length_eq_zero_iff.1 (by omega)
    refine fin St75b2 s (by rw [this]; rfl) (.inr ⟨.inr rfl, rfl⟩) (Nat.le_refl _)

/-! The laws' functions. -/
theorem f39 {m : Nat} (hm : 105 ≤ m) (a b : List UInt8) : R m 44 (.agg [.str a, .str b]) = some (if isIntL a = true ∧ isIntL b = true then fitV (Z a - Z b) else .agg [.str [], .bool false]) := by
  obtain ⟨n, rfl⟩ : ∃ n, m = n + 1 := ⟨m - 1, by omega⟩
  rw [R_succ n 44 _ rfl]
  by_cases h : isIntL a = true ∧ isIntL b = true
  · rw [if_pos h]
    have h71 := f71 (m := n) (by omega) (Z b) ((Z_Sm h.2).mono (by omega))
    have h70 := f70 (m := n) (by omega) (Z a) (-(Z b)) ((Z_Sm h.1).mono (by omega)) ((Z_Sm h.2).neg.mono (by omega))
    have h75 := f75' (m := n) (by omega) (Z a + -Z b) ((Sm.add (Z_Sm h.1) (Z_Sm h.2).neg).mono (by omega))
    have eta : ∀ z, PV.agg [(O1.fld 0).dn (numV z), (O1.fld 1).dn (numV z)] = numV z := fun z => rfl
    simp (disch := omega) only [St44, ya, yb, yc, yd, ye, yf, yg, yh, yi, yj, yk, yl, yp, yq, ys, yu, yv, yw, yx, yy, yz, za, zb, zc, zd, get0, getS, ze, zf, zg, zh, zj, uo, zk, zl, zm, zn, zo, zp, zq, zr, zs, zt, zu, zv, zw, zx, zy, zz, ub, uc, ud, ue, up, uq, ur, ut, uu, ul, um, w64, w8, List.nil_append, List.cons_append, uv, f69 (m := n) (by omega) a b h.1 h.2, eta, h71, h70, h75, fitV_eta]
    rfl
  · rw [if_neg h]
    obtain ⟨p, q, e⟩ := f69' (m := n) (by omega) a b h
    simp only [St44, ya, yb, yc, yd, ye, yf, yg, yh, yi, yj, yk, yl, yp, yq, ys, yu, yv, yw, yx, yy, yz, za, zb, zc, zd, get0, getS, ze, zf, zg, zh, zj, uo, zk, zl, zm, zn, zo, zp, zq, zr, zs, zt, zu, zv, zw, zx, zy, zz, ub, uc, ud, ue, up, uq, ur, ut, uu, ul, um, w64, w8, List.nil_append, List.cons_append, uv, e]
end Go.Dv

/- The draws end. -/
set_option linter.unusedVariables false
set_option linter.unusedSimpArgs false
namespace Go.Dv

theorem xor_nn {a b : Int} (ha : 0 ≤ a) (ha' : a < 4611686018427387904) (hb : 0 ≤ b) (hb' : b < 4611686018427387904) : 0 ≤ bitsI .xor .i64 a b := by
  obtain ⟨m, rfl⟩ : ∃ m : Nat, a = m := ⟨a.toNat, by omega⟩
  obtain ⟨n, rfl⟩ : ∃ n : Nat, b = n := ⟨b.toNat, by omega⟩
  show 0 ≤ IntKind.i64.wrap ((((BitVec.ofInt 64 (m : Int)) ^^^ (BitVec.ofInt 64 (n : Int)) : BitVec 64).toNat : Nat) : Int)
  have e1 : (BitVec.ofInt 64 (m : Int)) = BitVec.ofNat 64 m := by
    apply BitVec.eq_of_toNat_eq
    simp
  have e2 : (BitVec.ofInt 64 (n : Int)) = BitVec.ofNat 64 n := by
    apply BitVec.eq_of_toNat_eq
    simp
  rw [e1, e2]
  have hx : (BitVec.ofNat 64 m ^^^ BitVec.ofNat 64 n).toNat = m ^^^ n := by
    rw [BitVec.toNat_xor, BitVec.toNat_ofNat, BitVec.toNat_ofNat, Nat.mod_eq_of_lt (by omega), Nat.mod_eq_of_lt (by omega)]
  have hlt : m ^^^ n < 2 ^ 62 := Nat.xor_lt_two_pow (by omega) (by omega)
  rw [hx, w64 (by omega) (by omega)]
  omega
theorem o_xor (k : IntKind) (a b : PV) : (O2.int .xor k).dn a b = .int k (bitsI .xor k a.i b.i) := (rfl)
theorem o_mn (k : IntKind) (a b : PV) : (O2.mn k).dn a b = .int k (if b.i < a.i then b.i else a.i) := (rfl)
theorem ob_idx (l : List UInt8) (p : PV) : (O2.idx.dn (bl l) p).i = ((l.getD p.i.toNat 0).toNat : Int) := by
  simp only [O2.dn, bl, PV.l, List.getD_eq_getElem?_getD, List.getElem?_map]
  cases l[p.i.toNat]? <;> rfl
theorem ob_sub (l : List UInt8) (a b : PV) : O3.sub.dn (bl l) a b = bl ((l.take b.i.toNat).drop a.i.toNat) := by simp [O3.dn, bl, List.map_drop, List.map_take]
def rndV (l : List UInt8) (i : Int) : PV := .agg [bl l, .int .i64 i]

theorem f62 {m : Nat} (hm : 1 ≤ m) (l : List UInt8) (i n : Int) (hl : l.length ≤ 4000) (i0 : 0 ≤ i) (i1 : i ≤ 1000000) (n1 : 1 ≤ n) (n2 : n ≤ 1000000) :
    ∃ x j, R m 17 (.agg [rndV l i, .int .i64 n]) = some (.agg [.int .i64 x, rndV l j]) ∧ 0 ≤ x ∧ x < n ∧ i ≤ j ∧ j ≤ i + 1 := by
  obtain ⟨k, rfl⟩ : ∃ k, m = k + 1 := ⟨m - 1, by omega⟩
  rw [R_succ k 17 _ rfl]
  by_cases h1 : n < 2
  · refine ⟨0, i, ?_, by omega, by omega, by omega, by omega⟩
    simp only [St17, ya, yb, yc, yd, ye, yf, yg, yh, yi, yj, yk, yl, yp, yq, ys, yu, yv, yw, yx, yy, yz, za, zb, zc, zd, get0, getS, ze, zf, zg, zh, zj, uo, zk, zl, zm, zn, zo, zp, zq, zr, zs, zt, zu, zv, zw, zx, zy, zz, ub, uc, ud, ue, up, uq, ur, ut, uu, ul, um, w64, w8, List.nil_append, List.cons_append, uw, rndV]
    rw [lt_pos (by omega)]
  · by_cases h2 : 0 < l.length
    · have ha := u8_lt (l.getD (i.tmod l.length).toNat 0)
      have hb := u8_lt (l.getD ((i * 7 + 3).tmod l.length).toNat 0)
      have a0 := Int.tmod_nonneg (l.length : Int) i0
      have a1 := Int.tmod_lt_of_pos i (show 0 < (l.length : Int) by omega)
      have b0 := Int.tmod_nonneg (l.length : Int) (show 0 ≤ i * 7 + 3 by omega)
      have b1 := Int.tmod_lt_of_pos (i * 7 + 3) (show 0 < (l.length : Int) by omega)
      have q0 := Int.tdiv_nonneg i0 (show 0 ≤ (l.length : Int) by omega)
      have q1 : i.tdiv l.length ≤ i := Int.tdiv_le_self _ i0
      have big : ∃ x j, (some (PV.agg [.int .i64 ((bitsI .xor .i64 (((l.getD (i.tmod l.length).toNat 0).toNat : Int) * 131 + ((l.getD ((i * 7 + 3).tmod l.length).toNat 0).toNat : Int) * 1117 + i * 29 + i.tdiv l.length * 53) ((((l.getD (i.tmod l.length).toNat 0).toNat : Int) * 131 + ((l.getD ((i * 7 + 3).tmod l.length).toNat 0).toNat : Int) * 1117 + i * 29 + i.tdiv l.length * 53) / 64)).tmod n), .agg [bl l, .int .i64 (i + 1)]])) = some (PV.agg [.int .i64 x, rndV l j]) ∧ 0 ≤ x ∧ x < n ∧ i ≤ j ∧ j ≤ i + 1 := by
        refine ⟨_, i + 1, rfl, Int.tmod_nonneg _ (xor_nn (by omega) (by omega) (by omega) (by omega)), Int.tmod_lt_of_pos _ (by omega), by omega, by omega⟩
      by_cases h3 : 256 < n
      · simp (disch := omega) only [St17, ya, yb, yc, yd, ye, yf, yg, yh, yi, yj, yk, yl, yp, yq, ys, yu, yv, yw, yx, yy, yz, za, zb, zc, zd, get0, getS, ze, zf, zg, zh, zj, uo, zk, zl, zm, zn, zo, zp, zq, zr, zs, zt, zu, zv, zw, zx, zy, zz, ub, uc, ud, ue, up, uq, ur, ut, uu, ul, um, w64, w8, List.nil_append, List.cons_append, uw, rndV, ob_len, ob_idx, o_xor, tdiv_nn (b := 64)]
        rw [lt_neg (by omega), lt_pos (by omega), eq_neg (by omega), le_pos (by omega), lt_pos (by omega), lt_pos (by omega), le_pos (by omega), lt_pos (by omega), eq_neg (by omega)]
        exact big
      · by_cases h4 : (l.length : Int) ≤ i
        · simp (disch := omega) only [St17, ya, yb, yc, yd, ye, yf, yg, yh, yi, yj, yk, yl, yp, yq, ys, yu, yv, yw, yx, yy, yz, za, zb, zc, zd, get0, getS, ze, zf, zg, zh, zj, uo, zk, zl, zm, zn, zo, zp, zq, zr, zs, zt, zu, zv, zw, zx, zy, zz, ub, uc, ud, ue, up, uq, ur, ut, uu, ul, um, w64, w8, List.nil_append, List.cons_append, uw, rndV, ob_len, ob_idx, o_xor, tdiv_nn (b := 64)]
          rw [lt_neg (by omega), lt_pos (by omega), eq_neg (by omega), le_pos (by omega), lt_pos (by omega), lt_neg (by omega), le_pos (by omega), le_pos (by omega), lt_pos (by omega), eq_neg (by omega)]
          exact big
        · refine ⟨((l.getD (i.tmod l.length).toNat 0).toNat : Int).tmod n, i + 1, ?_, Int.tmod_nonneg _ (by omega), Int.tmod_lt_of_pos _ (by omega), by omega, by omega⟩
          simp (disch := omega) only [St17, ya, yb, yc, yd, ye, yf, yg, yh, yi, yj, yk, yl, yp, yq, ys, yu, yv, yw, yx, yy, yz, za, zb, zc, zd, get0, getS, ze, zf, zg, zh, zj, uo, zk, zl, zm, zn, zo, zp, zq, zr, zs, zt, zu, zv, zw, zx, zy, zz, ub, uc, ud, ue, up, uq, ur, ut, uu, ul, um, w64, w8, List.nil_append, List.cons_append, uw, rndV, ob_len, ob_idx, o_xor, tdiv_nn (b := 64)]
          rw [lt_neg (by omega), lt_pos (by omega), eq_neg (by omega), le_pos (by omega), lt_pos (by omega), lt_neg (by omega), le_neg (by omega), eq_neg (by omega)]
    · refine ⟨(0 : Int).tmod n, i + 1, ?_, Int.tmod_nonneg _ (by omega), Int.tmod_lt_of_pos _ (by omega), by omega, by omega⟩
      simp (disch := omega) only [St17, ya, yb, yc, yd, ye, yf, yg, yh, yi, yj, yk, yl, yp, yq, ys, yu, yv, yw, yx, yy, yz, za, zb, zc, zd, get0, getS, ze, zf, zg, zh, zj, uo, zk, zl, zm, zn, zo, zp, zq, zr, zs, zt, zu, zv, zw, zx, zy, zz, ub, uc, ud, ue, up, uq, ur, ut, uu, ul, um, w64, w8, List.nil_append, List.cons_append, uw, rndV, ob_len, ob_idx, o_xor]
      rw [lt_neg (by omega), lt_neg (by omega), eq_neg (by omega)]

/-! Numbers' texts. -/
theorem tdiv10 (v : Int) : (v.tdiv 10).natAbs = v.natAbs / 10 := by rw [Int.natAbs_tdiv]; rfl
theorem tmod10 (v : Int) : (v.tmod 10).natAbs = v.natAbs % 10 := by rw [Int.natAbs_tmod]; rfl
theorem loop104 (n : Nat) (G : FuncId → PV → Option PV) (a : PV) :
    ∀ (d k : Nat) (v : Int) (acc : List UInt8), v.natAbs < 10 ^ d → d < 19 → d < k → acc.length + d ≤ 1000 → ∃ s : List UInt8, s.length ≤ acc.length + max d 1 ∧ rounds (fun self v => St95b0.dn n G [self] [a, v]) k (.agg [.int .i64 v, .str acc]) = some (.agg [.str s]) := by
  intro d
  induction d with
  | zero =>
    intro k v acc h1 h2 h3 h4
    obtain ⟨k, rfl⟩ : ∃ j, k = j + 1 := ⟨k - 1, by omega⟩
    have : v = 0 := by simp at h1; omega
    subst this
    refine ⟨[48] ++ acc, by simp, ?_⟩
    simp only [rounds_s]
    generalize rounds _ k = self
    have e1 : Int.tmod 0 10 = 0 := rfl
    have e2 : Int.tdiv 0 10 = 0 := rfl
    have hlen : (([48] : List UInt8) ++ acc).length ≤ 1001 := by simp; omega
    have e3 : UInt8.ofNat (48 + 0 : Int).toNat = 48 := rfl
    simp (disch := omega) only [St95b0, ya, yb, yc, yd, ye, yf, yg, yh, yi, yj, yk, yl, yp, yq, ys, yu, yv, yw, yx, yy, yz, za, zb, zc, zd, get0, getS, ze, zf, zg, zh, zj, uo, zk, zl, zm, zn, zo, zp, zq, zr, zs, zt, zu, zv, zw, zx, zy, zz, ub, uc, ud, ue, up, uq, ur, ut, uu, ul, um, w64, w8, List.nil_append, List.cons_append, uw, e1, e2, ob_snoc, ob_toS, e3]
    rw [lt_neg (by omega), le_pos (by simp at hlen ⊢; omega), eq_pos rfl]
  | succ d ih =>
    intro k v acc h1 h2 h3 h4
    obtain ⟨k, rfl⟩ : ∃ j, k = j + 1 := ⟨k - 1, by omega⟩
    have hd := tdiv10 v
    have hm := tmod10 v
    have hp : (10 : Nat) ^ (d + 1) = 10 ^ d * 10 := Nat.pow_succ 10 d
    have hq : (v.tdiv 10).natAbs < 10 ^ d := by omega
    have hbig : (10 : Nat) ^ (d + 1) ≤ 10 ^ 18 := Nat.pow_le_pow_right (by omega) (by omega)
    have key : ∀ c : UInt8, ∃ s : List UInt8, s.length ≤ acc.length + max (d + 1) 1 ∧ leE ((c :: acc).length : Int) 16777216 (eqE (v.tdiv 10) 0 (some (.agg [.str (c :: acc)])) (rounds (fun self v => St95b0.dn n G [self] [a, v]) k (.agg [.int .i64 (v.tdiv 10), .str (c :: acc)]))) none = some (.agg [.str s]) := by
      intro c
      have hlen : (c :: acc).length ≤ 1001 := by simp; omega
      rw [le_pos (by omega)]
      by_cases h0 : v.tdiv 10 = 0
      · exact ⟨c :: acc, by simp, by rw [eq_pos h0]⟩
      · cases d with
        | zero => exact absurd (show v.tdiv 10 = 0 by simp at hq; omega) h0
        | succ d =>
          obtain ⟨s, q1, q2⟩ := ih k (v.tdiv 10) (c :: acc) hq (by omega) (by omega) (by simp; omega)
          exact ⟨s, by rw [List.length_cons] at q1; omega, by rw [eq_neg h0]; exact q2⟩
    simp only [rounds_s]
    clear ih
    generalize rounds _ k = self at key ⊢
    by_cases hneg : v.tmod 10 < 0
    · obtain ⟨s, q1, q2⟩ := key (UInt8.ofNat (48 + -(v.tmod 10)).toNat)
      refine ⟨s, q1, ?_⟩
      simp (disch := omega) only [St95b0, ya, yb, yc, yd, ye, yf, yg, yh, yi, yj, yk, yl, yp, yq, ys, yu, yv, yw, yx, yy, yz, za, zb, zc, zd, get0, getS, ze, zf, zg, zh, zj, uo, zk, zl, zm, zn, zo, zp, zq, zr, zs, zt, zu, zv, zw, zx, zy, zz, ub, uc, ud, ue, up, uq, ur, ut, uu, ul, um, w64, w8, List.nil_append, List.cons_append, uw, o_neg, ob_snoc, ob_toS]
      rw [lt_pos hneg]
      exact q2
    · obtain ⟨s, q1, q2⟩ := key (UInt8.ofNat (48 + (v.tmod 10)).toNat)
      refine ⟨s, q1, ?_⟩
      simp (disch := omega) only [St95b0, ya, yb, yc, yd, ye, yf, yg, yh, yi, yj, yk, yl, yp, yq, ys, yu, yv, yw, yx, yy, yz, za, zb, zc, zd, get0, getS, ze, zf, zg, zh, zj, uo, zk, zl, zm, zn, zo, zp, zq, zr, zs, zt, zu, zv, zw, zx, zy, zz, ub, uc, ud, ue, up, uq, ur, ut, uu, ul, um, w64, w8, List.nil_append, List.cons_append, uw, o_neg, ob_snoc, ob_toS]
      rw [lt_neg hneg]
      exact q2

theorem f104 {m : Nat} (hm : 20 ≤ m) (v : Int) (hv : v.natAbs < 10 ^ 6) : ∃ s : List UInt8, s.length ≤ 6 ∧ R m 95 (.agg [.int .i64 v]) = some (.agg [.str s]) := by
  obtain ⟨n, rfl⟩ : ∃ n, m = n + 1 := ⟨m - 1, by omega⟩
  obtain ⟨s, h1, h2⟩ := loop104 (n + 1) (R n) (.agg [.int .i64 v]) 6 (n + 1) v [] hv (by omega) (by omega) (by simp)
  refine ⟨s, by simpa using h1, ?_⟩
  rw [R_succ n 95 _ rfl]
  simp only [St95, ya, yb, yc, yd, ye, yf, yg, yh, yi, yj, yk, yl, yp, yq, ys, yu, yv, yw, yx, yy, yz, za, zb, zc, zd, get0, getS, ze, zf, zg, zh, zj, uo, zk, zl, zm, zn, zo, zp, zq, zr, zs, zt, zu, zv, zw, zx, zy, zz, ub, uc, ud, ue, up, uq, ur, ut, uu, ul, um, w64, w8, List.nil_append, List.cons_append, uw]
  exact h2
theorem f65 {m : Nat} (hm : 21 ≤ m) (v : Int) (hv : v.natAbs < 10 ^ 6) : ∃ s : List UInt8, s.length ≤ 7 ∧ R m 64 (.agg [.int .i64 v]) = some (.agg [.str s]) := by
  obtain ⟨n, rfl⟩ : ∃ n, m = n + 1 := ⟨m - 1, by omega⟩
  obtain ⟨s, h1, h2⟩ := f104 (m := n) (by omega) v hv
  rw [R_succ n 64 _ rfl]
  by_cases h : v < 0
  · refine ⟨45 :: s, by simp; omega, ?_⟩
    have hlen : (45 :: s).length ≤ 91 := by simp; omega
    simp only [St64, ya, yb, yc, yd, ye, yf, yg, yh, yi, yj, yk, yl, yp, yq, ys, yu, yv, yw, yx, yy, yz, za, zb, zc, zd, get0, getS, ze, zf, zg, zh, zj, uo, zk, zl, zm, zn, zo, zp, zq, zr, zs, zt, zu, zv, zw, zx, zy, zz, ub, uc, ud, ue, up, uq, ur, ut, uu, ul, um, w64, w8, List.nil_append, List.cons_append, uw, h2]
    rw [lt_pos h, le_pos (le_len hlen)]
  · refine ⟨s, by omega, ?_⟩
    simp only [St64, ya, yb, yc, yd, ye, yf, yg, yh, yi, yj, yk, yl, yp, yq, ys, yu, yv, yw, yx, yy, yz, za, zb, zc, zd, get0, getS, ze, zf, zg, zh, zj, uo, zk, zl, zm, zn, zo, zp, zq, zr, zs, zt, zu, zv, zw, zx, zy, zz, ub, uc, ud, ue, up, uq, ur, ut, uu, ul, um, w64, w8, List.nil_append, List.cons_append, uw, h2]
    rw [lt_neg h]

theorem uh (n : Nat) (g : Bool) (l : List PV) (p : PV) : O2.idx.dn (.list n g l) p = l.getD p.i.toNat (.bool false) := (rfl)
theorem ug (n : Nat) (g : Bool) (l : List PV) : O1.len.dn (.list n g l) = .int .i64 l.length := (rfl)
theorem ui (n : Nat) (g : Bool) (l : List PV) (x : PV) : O2.snoc.dn (.list n g l) x = .list n g (l ++ [x]) := (rfl)
theorem f50 {m : Nat} (hm : 2 ≤ m) (f : Nat) (hf : f = 35 ∨ f = 20) (g : Bool) (l : List UInt8) (i : Int) (q : List PV) (hl : l.length ≤ 4000) (i0 : 0 ≤ i) (i1 : i ≤ 1000000) (q1 : 1 ≤ q.length) (q2 : q.length ≤ 1000000) :
    ∃ x j, R m f (.agg [rndV l i, .list 1 g q]) = some (.agg [x, rndV l j]) ∧ x ∈ q ∧ i ≤ j ∧ j ≤ i + 1 := by
  obtain ⟨n, rfl⟩ : ∃ n, m = n + 1 := ⟨m - 1, by omega⟩
  obtain ⟨x, j, e, x0, x1, j0, j1⟩ := f62 (m := n) (by omega) l i q.length hl i0 i1 (by omega) (by omega)
  have hx : q.getD x.toNat (.bool false) ∈ q := by
    rw [List.getD_eq_getElem?_getD, List.getElem?_eq_getElem (show x.toNat < q.length by omega)]
    exact List.getElem_mem _
  refine ⟨q.getD x.toNat (.bool false), j, ?_, hx, j0, j1⟩
  simp only [rndV] at e
  rcases hf with rfl | rfl
  · rw [R_succ n 35 _ rfl]
    simp only [St35, ya, yb, yc, yd, ye, yf, yg, yh, yi, yj, yk, yl, yp, yq, ys, yu, yv, yw, yx, yy, yz, za, zb, zc, zd, get0, getS, ze, zf, zg, zh, zj, uo, zk, zl, zm, zn, zo, zp, zq, zr, zs, zt, zu, zv, zw, zx, zy, zz, ub, uc, ud, ue, up, uq, ur, ut, uu, ul, um, w64, w8, List.nil_append, List.cons_append, uw, rndV, ug, uh, e]
    rw [le_pos (by omega), lt_pos (by omega)]
  · rw [R_succ n 20 _ rfl]
    simp only [St20, ya, yb, yc, yd, ye, yf, yg, yh, yi, yj, yk, yl, yp, yq, ys, yu, yv, yw, yx, yy, yz, za, zb, zc, zd, get0, getS, ze, zf, zg, zh, zj, uo, zk, zl, zm, zn, zo, zp, zq, zr, zs, zt, zu, zv, zw, zx, zy, zz, ub, uc, ud, ue, up, uq, ur, ut, uu, ul, um, w64, w8, List.nil_append, List.cons_append, uw, rndV, ug, uh, e]
    rw [le_pos (by omega), lt_pos (by omega)]

theorem f48 {m : Nat} (hm : 1 ≤ m) (l : List UInt8) (hl : l.length ≤ 100000000) : R m 16 (.agg [bl l]) = some (.agg [rndV (l.take 4000) 0]) := by
  obtain ⟨n, rfl⟩ : ∃ n, m = n + 1 := ⟨m - 1, by omega⟩
  rw [R_succ n 16 _ rfl]
  simp (disch := omega) only [St16, ya, yb, yc, yd, ye, yf, yg, yh, yi, yj, yk, yl, yp, yq, ys, yu, yv, yw, yx, yy, yz, za, zb, zc, zd, get0, getS, ze, zf, zg, zh, zj, uo, zk, zl, zm, zn, zo, zp, zq, zr, zs, zt, zu, zv, zw, zx, zy, zz, ub, uc, ud, ue, up, uq, ur, ut, uu, ul, um, w64, w8, List.nil_append, List.cons_append, uw, o_mn, ob_len, ob_sub, Int.toNat_zero, List.drop_zero]
  by_cases h : (4000 : Int) < l.length
  · rw [if_pos h, le_pos (by omega), le_pos (by omega)]
    rfl
  · rw [if_neg h, le_pos (by omega), le_pos (by omega), Int.toNat_natCast, List.take_length, List.take_of_length_le (by omega)]
    rfl
end Go.Dv

/- An integer's text is its value's text; the magnitude of a negative one. -/
set_option linter.unusedVariables false
set_option linter.unusedSimpArgs false
namespace Go.Dv

theorem digT_body {s : List UInt8} (h : isIntL s = true) : digT (Z s).natAbs = bodyL s := by
  obtain ⟨h1, h2, h3, h4⟩ := isInt_parts h
  by_cases h0 : (bodyL s).getD 0 0 = 48
  · obtain ⟨e1, e2⟩ := body_zero h h0
    have : Z s = 0 := by unfold Z; rw [e1, e2]; rfl
    rw [this, e1]; rfl
  · have hp := body_pos h h0
    have hz : (Z s).natAbs ≠ 0 := by rw [Z_abs h]; omega
    unfold digT
    rw [if_neg hz, ← Z_dig h]
    cases e : bodyL s with
    | nil => rw [e] at h1; simp at h1
    | cons c b =>
      rw [e] at h0 h3
      have hc := (isD_iff c).1 (by simp at h3; exact h3.1)
      have e1 : digL (c :: b) = digL b ++ [((c.toNat : Int) - 48)] := by simp [digL]
      have e2 : trim (digL (c :: b)) = digL (c :: b) := by
        rw [e1, trim_snoc, if_neg]
        intro e
        exact h0 (UInt8.toNat_inj.1 (show c.toNat = 48 by omega))
      rw [e2]
      unfold digL
      rw [← List.map_reverse, List.reverse_reverse, List.map_map]
      conv => rhs; rw [← List.map_id (c :: b)]
      apply List.map_congr_left
      intro x hx
      have := (isD_iff x).1 (List.all_eq_true.1 h3 x hx)
      show UInt8.ofNat (48 + ((x.toNat : Int) - 48)).toNat = x
      have : (48 + ((x.toNat : Int) - 48)).toNat = x.toNat := by omega
      rw [this]
      exact UInt8.ofNat_toNat
theorem textZ_Z {s : List UInt8} (h : isIntL s = true) : textZ (Z s) = s := by
  unfold textZ
  rw [digT_body h]
  have := Z_neg h
  have hb := body_eq s
  by_cases hz : Z s < 0
  · rw [decide_eq_true hz] at this
    rw [if_pos hz]
    rw [← this] at hb
    exact hb.symm
  · rw [decide_eq_false hz] at this
    rw [if_neg hz]
    rw [← this] at hb
    exact hb.symm
/-- The magnitude of a negative integer is an integer. -/
theorem body_int {s : List UInt8} (h : isIntL s = true) (hn : negL s = true) : isIntL (bodyL s) = true ∧ negL (bodyL s) = false ∧ Z (bodyL s) = -(Z s) ∧ (bodyL s).getD 0 0 ≠ 48 := by
  obtain ⟨h1, h2, h3, h4⟩ := isInt_parts h
  have h0 : (bodyL s).getD 0 0 ≠ 48 := by
    intro e
    have := (h4 e).2
    rw [hn] at this
    simp at this
  have hnb : negL (bodyL s) = false := by
    cases e : bodyL s with
    | nil => rfl
    | cons c b =>
      rw [e] at h3
      have hc := (isD_iff c).1 (by simp at h3; exact h3.1)
      unfold negL
      rw [decide_eq_false_iff_not]
      intro h
      have : c = 45 := by simpa using h
      subst this
      have : (48 : Nat) ≤ 45 := hc.1
      omega
  have hbb : bodyL (bodyL s) = bodyL s := by
    have := body_eq (bodyL s)
    rw [hnb] at this
    exact this.symm
  refine ⟨?_, hnb, ?_, h0⟩
  · unfold isIntL
    rw [hbb, hnb, h3, decide_eq_true h1, decide_eq_true h2, decide_eq_false h0]
    rfl
  · unfold Z
    rw [hbb, hnb, hn]
    simp [sg]
theorem fit_Z {s : List UInt8} (h : isIntL s = true) : fitV (Z s) = .agg [.str s, .bool true] := by
  unfold fitV
  rw [if_pos (show (canon (Z s).natAbs).length ≤ 40 from Z_Sm h), textZ_Z h]
theorem sub0 {m : Nat} (hm : 105 ≤ m) {s : List UInt8} (h : isIntL s = true) (hn : negL s = true) : R m 44 (.agg [.str [48], .str (bodyL s)]) = some (.agg [.str s, .bool true]) := by
  obtain ⟨b1, b2, b3, b4⟩ := body_int h hn
  rw [f39 hm, if_pos ⟨rfl, b1⟩, b3]
  have : Z [48] - -(Z s) = Z s := by
    have : Z [48] = 0 := rfl
    omega
  rw [this, fit_Z h]
theorem fit_len {z : Int} (h : (canon z.natAbs).length ≤ 40) : (textZ z).length ≤ 42 := by
  have := (digT_ok z.natAbs).2.2.2
  unfold textZ
  rw [List.length_append]
  split <;> simp <;> omega

/-- What an operation answers. -/
def opOk (z : Option Int) : Bool := match z with | some z => decide ((canon z.natAbs).length ≤ 40) | none => false
def opOut (z : Option Int) : List UInt8 := match z with | some z => if (canon z.natAbs).length ≤ 40 then textZ z else [] | none => []
def opV (z : Option Int) : PV := .agg [.str (opOut z), .bool (opOk z)]
theorem fit_op (z : Int) : fitV z = opV (some z) := by
  unfold fitV opV opOut opOk
  by_cases h : (canon z.natAbs).length ≤ 40
  · simp [h]
  · simp [h]
theorem opOut_len (z : Option Int) : (opOut z).length ≤ 42 := by
  unfold opOut
  cases z with
  | none => simp
  | some z =>
    by_cases h : (canon z.natAbs).length ≤ 40
    · simp only [h, if_true]; exact fit_len h
    · simp [h]
theorem opOut_bad {z : Option Int} (h : opOk z = false) : opOut z = [] := by
  unfold opOut
  unfold opOk at h
  cases z with
  | none => rfl
  | some z =>
    simp only [decide_eq_false_iff_not] at h
    simp [h]
end Go.Dv
