/- Regions in any order: what a checked plan says; the paths of quiet operations. -/
import Derived.Test.YtbhkmhaapfbjhaaGreatDvB
import Derived.LoopN
import Derived.Scope

set_option linter.unusedVariables false
set_option linter.unusedSimpArgs false
namespace Go.Dv

section
theorem mem_looks_op {ops : Array Oper} {o : Oper} {t : Tmp} (h : Operand.tmp t ∈ o.op.operands) : t ∈ looks ops o := by
  unfold looks
  refine List.mem_append_left _ (List.mem_filterMap.2 ⟨.tmp t, by simpa using h, rfl⟩)
theorem mem_looks_guard {ops : Array Oper} {o : Oper} {j : Nat} {b : Bool} {d : Tmp} (hg : o.guard = some (j, b)) (hd : (ops[j]?).bind (·.dst) = some d) : d ∈ looks ops o := by
  unfold looks
  simp [hg, hd]

theorem env_get (T0 : List AV) : ∀ (own : List Tmp) (ts : List AV), ts.length = T0.length → ∀ t, (envOf T0 ts own)[t]? = if t ∈ own then T0[t]? else ts[t]?
  | [], ts, hl, t => by simp [envOf]
  | u :: r, ts, hl, t => by
    simp only [envOf]
    cases hu : T0[u]? with
    | none =>
      simp only
      rw [env_get T0 r ts hl t]
      by_cases e : t = u
      · subst e
        simp only [List.mem_cons, true_or, if_true]
        split
        · rfl
        · rw [hu]
          rw [List.getElem?_eq_none_iff] at hu ⊢
          omega
      · simp [e]
    | some x =>
      simp only
      rw [env_get T0 r _ (by simpa using hl) t]
      by_cases e : t = u
      · subst e
        simp only [List.mem_cons, true_or, if_true]
        split
        · rfl
        · rw [hu]
          have : t < T0.length := (List.getElem?_eq_some_iff.1 hu).1
          have hlt : t < ts.length := by rw [hl]; exact this
          rw [List.getElem?_set_self hlt]
      · have e' : ¬ u = t := fun h => e h.symm
        simp [e, List.getElem?_set_ne e']

theorem env_length (T0 : List AV) : ∀ (own : List Tmp) (ts : List AV), (envOf T0 ts own).length = ts.length
  | [], ts => rfl
  | u :: r, ts => by
    simp only [envOf]
    rw [env_length T0 r]
    split <;> simp

/-! ### The plan -/
theorem writerGo_some {t : Tmp} : ∀ (l : List Oper) (i j : Nat), writerGo t l i = some j → i ≤ j ∧ ∃ o, l[j - i]? = some o ∧ o.dst = some t
  | [], i, j, h => by simp [writerGo] at h
  | o :: r, i, j, h => by
    simp only [writerGo] at h
    split at h
    · rename_i hd
      simp only [Option.some.injEq] at h
      subst h
      exact ⟨Nat.le_refl _, o, by simp, hd⟩
    · obtain ⟨h1, o', h2, h3⟩ := writerGo_some r (i + 1) j h
      have e : j - i = (j - (i + 1)) + 1 := by omega
      exact ⟨by omega, o', by rw [e]; simpa using h2, h3⟩
theorem writerGo_none {t : Tmp} : ∀ (l : List Oper) (i : Nat), writerGo t l i = none → ∀ o ∈ l, o.dst ≠ some t
  | [], i, h => by simp
  | o :: r, i, h => by
    simp only [writerGo] at h
    split at h
    · simp at h
    · rename_i hd
      intro o' ho'
      rcases List.mem_cons.1 ho' with rfl | ho'
      · exact hd
      · exact writerGo_none r (i + 1) h o' ho'

theorem stepPre_bit {pre : List Nat} {j : Nat} : ∀ (l : List Edge) (s : Nat),
    bitOf (l.foldl (fun s e => if Region.binds .any e then s ||| (1 <<< e.on) ||| pre.getD e.on 0 else s) s) j = true →
    bitOf s j = true ∨ ∃ e ∈ l, Region.binds .any e = true ∧ (e.on = j ∨ bitOf (pre.getD e.on 0) j = true)
  | [], s, h => .inl h
  | e :: l, s, h => by
    simp only [List.foldl_cons] at h
    rcases stepPre_bit l _ h with h | ⟨e', he, hb, hh⟩
    · split at h
      · rename_i hb
        simp only [bitOf, Nat.testBit_or, Bool.or_eq_true, Nat.one_shiftLeft, Nat.testBit_two_pow, decide_eq_true_eq] at h
        rcases h with (h | h) | h
        · exact .inl h
        · exact .inr ⟨e, by simp, hb, .inl h⟩
        · exact .inr ⟨e, by simp, hb, .inr h⟩
      · exact .inl h
    · exact .inr ⟨e', by simp [he], hb, hh⟩

/-- What a checked plan says. -/
structure Plan (ops : Array Oper) (st : Stat) : Prop where
  back : ∀ i o, ops[i]? = some o → ∀ e ∈ o.after, Region.binds .any e = true → e.on < i
  pre : ∀ i o, ops[i]? = some o → ∀ j, bitOf (st.pre.getD i 0) j = true → ∃ e ∈ o.after, Region.binds .any e = true ∧ (e.on = j ∨ bitOf (st.pre.getD e.on 0) j = true)
  one : ∀ (i j : Nat) (o p : Oper) (t : Tmp), ops[i]? = some o → ops[j]? = some p → o.dst = some t → p.dst = some t → i = j
  read : ∀ i o, ops[i]? = some o → ∀ t ∈ looks ops o, ∀ j p, ops[j]? = some p → p.dst = some t → bitOf (st.pre.getD i 0) j = true ∨ t ∈ st.own.getD i []
  own : ∀ i o, ops[i]? = some o → ∀ t ∈ st.own.getD i [], ∀ j p, ops[j]? = some p → p.dst = some t → j = i ∨ bitOf (st.pre.getD j 0) i = true
  lo : ∀ i o, ops[i]? = some o → st.lo.getD i 0 = 0 ∨ ∃ l, st.louds[st.lo.getD i 0 - 1]? = some l ∧ bitOf (st.pre.getD i 0) l = true
  hi : ∀ i o, ops[i]? = some o → ∀ l, st.louds[st.hi.getD i 0]? = some l → bitOf (st.pre.getD l 0) i = true
  loud : ∀ p l, st.louds[p]? = some l → l < ops.size ∧ st.lo.getD l 0 = p

theorem plan_of {ops : Array Oper} {st : Stat} (h : statOk ops st = true) : Plan ops st := by
  unfold statOk at h
  simp only [Bool.and_eq_true, List.all_eq_true, List.mem_range] at h
  obtain ⟨h1, h2⟩ := h
  have lt : ∀ {i o}, ops[i]? = some o → i < ops.size := fun hi => (Array.getElem?_eq_some_iff.1 hi).1
  have g : ∀ i o, ops[i]? = some o → _ := fun i o hi => by
    have := h1 i (lt hi)
    rw [hi] at this
    simp only [Bool.and_eq_true, List.all_eq_true] at this
    exact this
  have wr : ∀ i o t, ops[i]? = some o → o.dst = some t → writer ops t = some i := fun i o t hi ht => by
    have := (g i o hi).1.1.1.1.2
    rw [ht] at this
    simpa using this
  refine ⟨?_, ?_, ?_, ?_, ?_, ?_, ?_, ?_⟩
  · intro i o hi e he hb
    have := (g i o hi).1.1.1.1.1.1 e (by simpa using he)
    simpa [hb] using this
  · intro i o hi j hj
    have := (g i o hi).1.1.1.1.1.2
    simp only [beq_iff_eq] at this
    rw [← this] at hj
    rcases stepPre_bit _ _ hj with h | ⟨e, he, hh⟩
    · simp [bitOf] at h
    · exact ⟨e, by simpa using he, hh⟩
  · intro i j o p t hi hj ho hp
    have e1 := wr i o t hi ho
    have e2 := wr j p t hj hp
    rw [e1] at e2
    simpa using e2
  · intro i o hi t ht j p hj hp
    have := (g i o hi).1.1.1.2 t ht
    rw [wr j p t hj hp] at this
    simp only [Bool.or_eq_true, List.contains_eq_mem, decide_eq_true_eq] at this
    exact this
  · intro i o hi t ht j p hj hp
    have := (g i o hi).1.1.2 t ht
    rw [wr j p t hj hp] at this
    simpa using this
  · intro i o hi
    have := (g i o hi).1.2
    simp only [Bool.or_eq_true, beq_iff_eq] at this
    rcases this with h | h
    · exact .inl h
    · right
      split at h
      · rename_i l hl; exact ⟨l, hl, h⟩
      · simp at h
  · intro i o hi l hl
    have := (g i o hi).2
    rw [hl] at this
    exact this
  · intro p l hl
    have hp : p < st.louds.length := (List.getElem?_eq_some_iff.1 hl).1
    have := h2 p hp
    rw [hl] at this
    simpa using this

end

section
variable {P : Program} {fuel : Nat} {G : FuncId → PV → Option PV} {call : CallK} {env : List PV} {L : List (PV → Option PV)} {p : Pins} {ρ : Rho} {w : World} {res : PV}
variable {ops : Array Oper} {st : Stat} {T0 : List AV}

theorem put_get (ts : List AV) (dst : Option Tmp) (x : AV) (t : Tmp) (h : dst ≠ some t) : (put ts dst x)[t]? = ts[t]? := by
  cases dst with
  | none => rfl
  | some d =>
    have : d ≠ t := fun e => h (by rw [e])
    simp [put, List.getElem?_set_ne this]
theorem put_len (ts : List AV) (dst : Option Tmp) (x : AV) : (put ts dst x).length = ts.length := by
  cases dst <;> simp [put]

/-- What the quiet operations js make of a state. -/
structure Puts (P : Program) (env : List PV) (ops : Array Oper) (js : List Nat) (s s' : St) (ids ids' : List (Nat × Nat)) : Prop where
  len : s'.ts.length = s.ts.length
  keep : ∀ (t : Tmp) (x : AV), (∀ j ∈ js, ∀ p, ops[j]? = some p → p.dst ≠ some t) → s.ts[t]? = some x → ∃ x', s'.ts[t]? = some x' ∧ LeA P env x env x'
  next : s.H.length ≤ s'.H.length
  ids : ∀ q ∈ ids', q ∈ ids ∨ (s.H.length ≤ q.2 ∧ q.2 < s'.H.length)
  rel : ∀ (p : Pins) (ρ : Rho) (w : World), Rel P env p ρ s.H w → Rel P env p ρ s'.H w ∧ Step p ρ s.H w p ρ s'.H w
  nv : s'.nv = s.nv
  lv : s'.lv = s.lv
  stk : s'.stk = s.stk
  asm : AsmOk env s'.asm

theorem Puts.refl {s : St} {ids : List (Nat × Nat)} {js : List Nat} (h : AsmOk env s.asm) : Puts P env ops js s s ids ids :=
  ⟨rfl, fun t x _ hx => ⟨x, hx, LeA.refl x⟩, Nat.le_refl _, fun q hq => .inl hq, fun p ρ w hr => ⟨hr, Step.refl p ρ s.H w⟩, rfl, rfl, rfl, h⟩
theorem Puts.trans {s s1 s2 : St} {i1 i2 i3 : List (Nat × Nat)} {js ks ls : List Nat} (h1 : Puts P env ops js s s1 i1 i2) (h2 : Puts P env ops ks s1 s2 i2 i3) (hj : ∀ j, j ∈ js ∨ j ∈ ks → j ∈ ls) : Puts P env ops ls s s2 i1 i3 := by
  refine ⟨h2.len.trans h1.len, fun t x ht hx => ?_, Nat.le_trans h1.next h2.next, fun q hq => ?_, fun p ρ w hr => ?_, h2.nv.trans h1.nv, h2.lv.trans h1.lv, h2.stk.trans h1.stk, h2.asm⟩
  · obtain ⟨y, hy, l1⟩ := h1.keep t x (fun j hjj => ht j (hj j (.inl hjj))) hx
    obtain ⟨z, hz, l2⟩ := h2.keep t y (fun j hjj => ht j (hj j (.inr hjj))) hy
    exact ⟨z, hz, l1.trans l2⟩
  · have n1 := h1.next
    have n2 := h2.next
    rcases h2.ids q hq with hq | ⟨hq1, hq2⟩
    · rcases h1.ids q hq with hq | ⟨hq1, hq2⟩
      · exact .inl hq
      · exact .inr ⟨hq1, by omega⟩
    · exact .inr ⟨by omega, hq2⟩
  · obtain ⟨r1, s1'⟩ := h1.rel p ρ w hr
    obtain ⟨r2, s2'⟩ := h2.rel p ρ w r1
    exact ⟨r2, s1'.trans s2'⟩

theorem setG_puts {s : St} {o : Oper} {c : SE} {b : Bool} {ids : List (Nat × Nat)} (hb : c.dn env = .bool b) (h : AsmOk env s.asm) : Puts P env ops [] s { s with asm := (c, b) :: s.asm, ts := setG ops o c s.ts b } ids ids :=
  ⟨(setG_le (P := P) (env := env) hb).1, fun t x _ hx => (setG_le (P := P) (env := env) hb).2 t x hx, Nat.le_refl _, fun q hq => .inl hq, fun p ρ w hr => ⟨hr, Step.refl p ρ s.H w⟩, rfl, rfl, rfl, h.cons hb⟩

theorem put_puts {s : St} {asm : List (SE × Bool)} {i : Nat} {o : Oper} {x : AV} {ids : List (Nat × Nat)} (ho : ops[i]? = some o) (h : AsmOk env asm) : Puts P env ops [i] s { s with asm := asm, ts := put s.ts o.dst x } ids ids :=
  ⟨put_len _ _ _, fun t y ht hy => ⟨y, by
    show (put s.ts o.dst x)[t]? = some y
    rw [put_get _ _ _ _ (ht i (by simp) o ho)]
    exact hy, LeA.refl y⟩, Nat.le_refl _, fun q hq => .inl hq, fun p ρ w hr => ⟨hr, Step.refl p ρ s.H w⟩, rfl, rfl, rfl, h⟩
theorem new_puts {s : St} {asm : List (SE × Bool)} {i : Nat} {o : Oper} {x : AV} {B : Blk} {ids : List (Nat × Nat)} (ho : ops[i]? = some o) (h : AsmOk env asm) : Puts P env ops [i] s { s with asm := asm, ts := put s.ts o.dst x, H := s.H ++ [B] } ids ((i, s.H.length) :: ids) :=
  ⟨put_len _ _ _, fun t y ht hy => ⟨y, by
    show (put s.ts o.dst x)[t]? = some y
    rw [put_get _ _ _ _ (ht i (by simp) o ho)]
    exact hy, LeA.refl y⟩, by simp, fun q hq => by
    rcases List.mem_cons.1 hq with rfl | hq
    · exact .inr ⟨Nat.le_refl _, by simp⟩
    · exact .inl hq, fun p ρ w hr => hr.pend B, rfl, rfl, rfl, h⟩

theorem putQ_path {i : Nat} {s : St} {ids : List (Nat × Nat)} {k : K2} (h : AsmOk env s.asm) (ht : (putQ P ops st T0 i s ids k).dn fuel G L env = some res) :
    ∃ s' ids', Puts P env ops [i] s s' ids ids' ∧ (k s' ids').dn fuel G L env = some res := by
  unfold putQ at ht
  split at ht
  · simp [Tree.dn] at ht
  · rename_i o ho
    have go : ∀ (s : St), AsmOk env s.asm → (match opA P (evA (envOf T0 s.ts (st.own.getD i []))) o s.H with
      | some (ns, .val a) => let asm := know s.asm ns; needsK s.asm ns (k { s with asm := asm, ts := put s.ts o.dst (normA asm a) } ids)
      | some (ns, .new mk B) => needsK s.asm ns (k { s with asm := know s.asm ns, ts := put s.ts o.dst (mk s.H.length), H := s.H ++ [B] } ((i, s.H.length) :: ids))
      | _ => Tree.fail o.pos).dn fuel G L env = some res → ∃ s' ids', Puts P env ops [i] s s' ids ids' ∧ (k s' ids').dn fuel G L env = some res := by
      intro s h ht
      split at ht
      · obtain ⟨hn, ht⟩ := needsK_ok h ht
        exact ⟨_, _, put_puts ho (h.know hn), ht⟩
      · obtain ⟨hn, ht⟩ := needsK_ok h ht
        exact ⟨_, _, new_puts ho (h.know hn), ht⟩
      · simp [Tree.dn] at ht
    simp only at ht
    split at ht
    · exact go s h ht
    · exact ⟨_, _, put_puts ho h, ht⟩
    · simp [Tree.dn] at ht
    · rename_i c hw
      obtain ⟨b, hb, ht⟩ := ite_ok (f := fun b => if b == guardOf o then (match opA P (evA (envOf T0 (setG ops o c s.ts b) (st.own.getD i []))) o s.H with
      | some (ns, .val a) => let asm := know ((c, b) :: s.asm) ns; needsK ((c, b) :: s.asm) ns (k { s with asm := asm, ts := put (setG ops o c s.ts b) o.dst (normA asm a) } ids)
      | some (ns, .new mk B) => needsK ((c, b) :: s.asm) ns (k { s with asm := know ((c, b) :: s.asm) ns, ts := put (setG ops o c s.ts b) o.dst (mk s.H.length), H := s.H ++ [B] } ((i, s.H.length) :: ids))
      | _ => Tree.fail o.pos) else k { s with asm := (c, b) :: s.asm, ts := put (setG ops o c s.ts b) o.dst undefA } ids) ht
      have g := setG_puts (P := P) (ops := ops) (s := s) (o := o) (ids := ids) hb h
      cases hbg : b == guardOf o with
      | true =>
        rw [hbg] at ht
        simp only [if_true] at ht
        obtain ⟨s', ids', g1, g2⟩ := go { s with asm := (c, b) :: s.asm, ts := setG ops o c s.ts b } (h.cons hb) ht
        exact ⟨s', ids', g.trans g1 (by simp), g2⟩
      | false =>
        rw [hbg] at ht
        simp only [Bool.false_eq_true, if_false] at ht
        exact ⟨_, _, g.trans (put_puts (s := { s with asm := (c, b) :: s.asm, ts := setG ops o c s.ts b }) ho (h.cons hb)) (by simp), ht⟩

theorem putsQ_path : ∀ (js : List Nat) {s : St} {ids : List (Nat × Nat)} {k : K2}, AsmOk env s.asm → (putsQ P ops st T0 js s ids k).dn fuel G L env = some res →
    ∃ s' ids', Puts P env ops js s s' ids ids' ∧ (k s' ids').dn fuel G L env = some res
  | [], s, ids, k, h, ht => ⟨s, ids, Puts.refl h, ht⟩
  | i :: js, s, ids, k, h, ht => by
    simp only [putsQ] at ht
    obtain ⟨s1, ids1, g1, ht⟩ := putQ_path h ht
    obtain ⟨s2, ids2, g2, ht⟩ := putsQ_path js g1.asm ht
    exact ⟨s2, ids2, g1.trans g2 (by simp), ht⟩

theorem headQ_path {k : Nat} {s : St} {ids : List (Nat × Nat)} {kk : K2} (h : AsmOk env s.asm) (ht : (headQ P ops st T0 k s ids kk).dn fuel G L env = some res) :
    ∃ s' ids', Puts P env ops (quietsAt ops st k) s s' ids ids' ∧ checksAt P ops st T0 k s' ids' = true ∧ (kk s' ids').dn fuel G L env = some res := by
  unfold headQ at ht
  obtain ⟨s', ids', g, ht⟩ := putsQ_path _ h ht
  split at ht
  · rename_i hc
    exact ⟨s', ids', g, hc, ht⟩
  · simp [Tree.dn] at ht

theorem hasAt_ok {asm : List (SE × Bool)} {ts : List AV} {dst : Option Tmp} {a : AV} (ha : AsmOk env asm) (h : hasAt asm ts dst a = true) {v : Value} (hv : val P env p ρ a v) {t : Tmp} (ht : dst = some t) : ∃ x, ts[t]? = some x ∧ val P env p ρ x v := by
  subst ht
  unfold hasAt at h
  simp only at h
  split at h
  · rename_i x hx
    refine ⟨x, hx, ?_⟩
    have := AV.beq_eq h
    rw [← normA_iff ha, this, normA_iff ha]
    exact hv
  · simp at h

theorem needs_known {asm : List (SE × Bool)} {ns : List SE} (ha : AsmOk env asm) (h : ns.all (fun c => decide (c = .lit (.bool true)) || decide (asmOf asm c = some true)) = true) : Needs env ns := by
  intro e he
  rw [List.all_eq_true] at h
  have := h e he
  simp only [Bool.or_eq_true, decide_eq_true_eq] at this
  rcases this with rfl | h
  · rfl
  · exact asmOf_ok ha h
end
end Go.Dv

/- Regions in any order: sound. -/
set_option linter.unusedVariables false
set_option linter.unusedSimpArgs false
namespace Go.Dv

/-- Where a region begins. -/
structure Start where
  env : List PV
  L : List (PV → Option PV)
  p : Pins
  ρ : Rho
  w : World
  s : St

structure RInv (P : Program) (S : Start) (ops : Array Oper) (st : Stat) (T0 : List AV) (env : List PV) (L : List (PV → Option PV)) (p : Pins) (ρ : Rho) (w : World) (k : Nat) (s : St) (ids : List (Nat × Nat)) (listed : Array Bool) (a : Act) : Prop where
  core : Core P env L p ρ w s
  mv : Moves P S.env S.L S.s env L s
  len : a.tmps.size = T0.length
  old : ∀ i t x, t ∈ st.own.getD i [] → (∀ (j : Nat) (o : Oper), listed[j]? = some true → ops[j]? = some o → o.dst ≠ some t) → T0[t]? = some x → ∃ v, a.tmps[t]? = some v ∧ val P env p ρ x v
  new : ∀ t x, (∀ (j : Nat) (o : Oper), ops[j]? = some o → o.dst = some t → listed[j]? = some true) → s.ts[t]? = some x → ∃ v, a.tmps[t]? = some v ∧ val P env p ρ x v
  step : Step S.p S.ρ S.s.H S.w p ρ s.H w
  ds : a.defers = []
  wait : ∀ q ∈ ids, listed[q.1]? ≠ some true → ρ q.2 = none
  near : ∀ q ∈ ids, q.2 < s.H.length
  far : ∀ q ∈ ids, S.s.H.length ≤ q.2
  size : listed.size = ops.size
  closed : ∀ j o, ops[j]? = some o → listed[j]? = some true → ∀ i, bitOf (st.pre.getD j 0) i = true → listed[i]? = some true
  cut : ∀ p l, st.louds[p]? = some l → (listed[l]? = some true ↔ p < k)
structure RCan (P : Program) (ops : Array Oper) (st : Stat) (T0 : List AV) (k : Nat) (s : St) (ids : List (Nat × Nat)) : Prop where
  len : s.ts.length = T0.length
  ok : ∀ i o, ops[i]? = some o → i ∉ st.louds → st.lo.getD i 0 ≤ k → k ≤ st.hi.getD i 0 → chkQ P ops st T0 i s ids = true

section
variable {P : Program} {fuel : Nat} {G : FuncId → PV → Option PV} {call : CallK} {env : List PV} {L : List (PV → Option PV)} {p : Pins} {ρ : Rho} {w : World} {res : PV}
variable {S : Start} {ops : Array Oper} {st : Stat} {T0 : List AV} {k : Nat} {s : St} {ids : List (Nat × Nat)} {listed : Array Bool} {a : Act}

theorem look (hp : Plan ops st) (hlen : s.ts.length = T0.length) (hi : RInv P S ops st T0 env L p ρ w k s ids listed a) {i : Nat} {o : Oper} (ho : ops[i]? = some o)
    (hpre : ∀ j, bitOf (st.pre.getD i 0) j = true → listed[j]? = some true) (hun : listed[i]? ≠ some true) : ∀ t ∈ looks ops o, ∀ x, (envOf T0 s.ts (st.own.getD i []))[t]? = some x → ∃ v, a.tmps[t]? = some v ∧ val P env p ρ x v := by
  intro t ht x hx
  rw [env_get T0 _ _ hlen] at hx
  split at hx
  · rename_i hown
    refine hi.old i t x hown (fun j q hj hq hd => ?_) hx
    rcases hp.own i o ho t hown j q hq hd with rfl | hb
    · exact hun hj
    · exact hun (hi.closed j q hq hj i hb)
  · rename_i hown
    refine hi.new t x (fun j q hq hd => ?_) hx
    rcases hp.read i o ho t ht j q hq hd with hb | hb
    · exact hpre j hb
    · exact absurd hb hown
theorem opnds (hp : Plan ops st) (hlen : s.ts.length = T0.length) (hi : RInv P S ops st T0 env L p ρ w k s ids listed a) {i : Nat} {o : Oper} (ho : ops[i]? = some o)
    (hpre : ∀ j, bitOf (st.pre.getD i 0) j = true → listed[j]? = some true) (hun : listed[i]? ≠ some true) : ∀ x ∈ o.op.operands, val P env p ρ (evA (envOf T0 s.ts (st.own.getD i [])) x) (a.eval x) := by
  intro x hx
  cases x with
  | tmp t =>
    have hlk := look hp hlen hi ho hpre hun t (mem_looks_op hx)
    simp only [evA, Act.eval]
    generalize envOf T0 s.ts (st.own.getD i []) = E at *
    cases ht : E[t]? with
    | none => simp [List.getD, ht, val]
    | some b =>
      obtain ⟨v, hv, hr⟩ := hlk b ht
      simp [List.getD, ht, hv, hr]
  | const v =>
    simp only [evA, Act.eval]
    cases hv : ofV v with
    | none => simp [val]
    | some b => exact ofV_val v b hv
  | global g => simp [evA, val]
  | func f => simp [evA, Act.eval, val, vals]
theorem wants (hp : Plan ops st) (hlen : s.ts.length = T0.length) (hi : RInv P S ops st T0 env L p ρ w k s ids listed a) {i : Nat} {o : Oper} (ho : ops[i]? = some o)
    (hpre : ∀ j, bitOf (st.pre.getD i 0) j = true → listed[j]? = some true) (hun : listed[i]? ≠ some true) {r : Want} (hw : wantedA ops (envOf T0 s.ts (st.own.getD i [])) o = r) :
    (r = .yes → Region.wanted o (yielded ops a.tmps) = true) ∧ (r = .no → Region.wanted o (yielded ops a.tmps) = false) ∧ (∀ c b, r = .ask c → c.dn env = .bool b → Region.wanted o (yielded ops a.tmps) = (b == guardOf o)) :=
  wanted_ok (p := p) (ρ := ρ) (by rw [hi.len, env_length, hlen]) (fun j b d hg hd x hx => look hp hlen hi ho hpre hun d (mem_looks_guard hg hd) x hx) hw

theorem listed_set {i j : Nat} (hi : i < listed.size) : (listed.setIfInBounds i true)[j]? = some true ↔ j = i ∨ listed[j]? = some true := by
  rw [Array.getElem?_setIfInBounds]
  by_cases e : i = j
  · subst e
    simp [hi]
  · have e' : ¬ j = i := fun h => e h.symm
    simp [e, e']

theorem lo_le (hp : Plan ops st) (hi : RInv P S ops st T0 env L p ρ w k s ids listed a) {i : Nat} {o : Oper} (ho : ops[i]? = some o)
    (hpre : ∀ j, bitOf (st.pre.getD i 0) j = true → listed[j]? = some true) : st.lo.getD i 0 ≤ k := by
  rcases hp.lo i o ho with h | ⟨l, hl, hb⟩
  · omega
  · have := (hi.cut _ l hl).1 (hpre l hb)
    omega

theorem tmps_put {a : Act} {dst : Option Tmp} {v : Value} {t : Tmp} (h : dst ≠ some t) : (a.put dst v).tmps[t]? = a.tmps[t]? := by
  cases dst with
  | none => rfl
  | some d =>
    have : d ≠ t := fun e => h (by rw [e])
    simp [Act.put, Array.getElem?_setIfInBounds, this]
theorem tmps_put_self {a : Act} {v : Value} {t : Tmp} (h : t < a.tmps.size) : (a.put (some t) v).tmps[t]? = some v := by
  simp [Act.put, Array.getElem?_setIfInBounds, h]
theorem tmps_size {a : Act} {dst : Option Tmp} {v : Value} : (a.put dst v).tmps.size = a.tmps.size := by
  cases dst <;> simp [Act.put]

/-- An operation that is not loud has run. -/
theorem inv_put (hp : Plan ops st) (hlen : s.ts.length = T0.length) (hi : RInv P S ops st T0 env L p ρ w k s ids listed a) {i : Nat} {o : Oper} (ho : ops[i]? = some o) (hq : i ∉ st.louds)
    (hpre : ∀ j, bitOf (st.pre.getD i 0) j = true → listed[j]? = some true) {x : AV} {v : Value} (hx : hasAt s.asm s.ts o.dst x = true) {ρ' : Rho} {w' : World}
    (hv : val P env p ρ' x v) (hle : ρ.le ρ') (hr : Rel P env p ρ' s.H w') (hs : Step S.p S.ρ S.s.H S.w p ρ' s.H w') (hwait : ∀ q ∈ ids, q.1 ≠ i → listed[q.1]? ≠ some true → ρ' q.2 = none) :
    RInv P S ops st T0 env L p ρ' w' k s ids (listed.setIfInBounds i true) (a.put o.dst v) := by
  have hlt : i < listed.size := by rw [hi.size]; exact (Array.getElem?_eq_some_iff.1 ho).1
  have hl := fun j => listed_set (listed := listed) (j := j) hlt
  refine ⟨⟨hr, hi.core.nv, hi.core.lv, hi.core.asm⟩, hi.mv, by rw [tmps_size, hi.len], ?_, ?_, hs, by rw [put_defers]; exact hi.ds, ?_, hi.near, hi.far, by simpa using hi.size, ?_, ?_⟩
  · intro i' t y hown ht hy
    have hne : o.dst ≠ some t := ht i o ((hl i).2 (.inl rfl)) ho
    obtain ⟨u, hu, hru⟩ := hi.old i' t y hown (fun j q hj => ht j q ((hl j).2 (.inr hj))) hy
    exact ⟨u, by rw [tmps_put hne]; exact hu, val_mono (Pins.le_refl p) hle _ _ hru⟩
  · intro t y ht hy
    by_cases hd : o.dst = some t
    · obtain ⟨y', hy', hvy⟩ := hasAt_ok hi.core.asm hx hv hd
      rw [hy] at hy'
      simp only [Option.some.injEq] at hy'
      subst hy'
      have hlt' : t < a.tmps.size := by rw [hi.len, ← hlen]; exact (List.getElem?_eq_some_iff.1 hy).1
      exact ⟨v, by rw [hd]; exact tmps_put_self hlt', hvy⟩
    · obtain ⟨u, hu, hru⟩ := hi.new t y (fun j q hjq hdq => by
        rcases (hl j).1 (ht j q hjq hdq) with e | h
        · rw [e, ho] at hjq
          simp only [Option.some.injEq] at hjq
          subst hjq
          exact absurd hdq hd
        · exact h) hy
      exact ⟨u, by rw [tmps_put hd]; exact hu, val_mono (Pins.le_refl p) hle _ _ hru⟩
  · intro q hq1 hq2
    exact hwait q hq1 (fun e => hq2 ((hl _).2 (.inl e))) (fun h => hq2 ((hl _).2 (.inr h)))
  · intro j o' hj hjl i' hb
    rcases (hl j).1 hjl with rfl | hjl
    · exact (hl i').2 (.inr (hpre i' hb))
    · exact (hl i').2 (.inr (hi.closed j o' hj hjl i' hb))
  · intro q l hpl
    have hne : l ≠ i := fun e => hq (e ▸ List.mem_of_getElem? hpl)
    rw [hl l]
    simp only [hne, false_or]
    exact hi.cut q l hpl

theorem ready_iff {i : Nat} : i ∈ Region.ready .any ops listed ↔ i < ops.size ∧ listed.getD i true = false ∧ ∃ o, ops[i]? = some o ∧ ∀ e ∈ o.after, Region.binds .any e = true → listed.getD e.on false = true := by
  unfold Region.ready
  simp only [List.mem_filter, List.mem_range, Bool.and_eq_true, Bool.not_eq_true']
  constructor
  · rintro ⟨h1, h2, h3⟩
    refine ⟨h1, h2, ?_⟩
    cases ho : ops[i]? with
    | none => simp [ho] at h3
    | some o =>
      rw [ho] at h3
      simp only [Option.map_some, Option.getD_some, Array.all_eq_true', Bool.or_eq_true, Bool.not_eq_true'] at h3
      refine ⟨o, rfl, fun e he hb => ?_⟩
      rcases h3 e he with h | h
      · rw [hb] at h; simp at h
      · exact h
  · rintro ⟨h1, h2, o, ho, h3⟩
    refine ⟨h1, h2, ?_⟩
    rw [ho]
    simp only [Option.map_some, Option.getD_some, Array.all_eq_true', Bool.or_eq_true, Bool.not_eq_true']
    intro e he
    cases hb : Region.binds .any e with
    | false => exact .inl rfl
    | true => exact .inr (h3 e he hb)

theorem getD_listed {i : Nat} : listed.getD i false = true ↔ listed[i]? = some true := by
  rw [Array.getD_eq_getD_getElem?]
  cases listed[i]? <;> simp

theorem ready_spec (hp : Plan ops st) (hi : RInv P S ops st T0 env L p ρ w k s ids listed a) {i : Nat} (hr : i ∈ Region.ready .any ops listed) :
    ∃ o, ops[i]? = some o ∧ listed[i]? ≠ some true ∧ ∀ j, bitOf (st.pre.getD i 0) j = true → listed[j]? = some true := by
  obtain ⟨h1, h2, o, ho, h3⟩ := ready_iff.1 hr
  refine ⟨o, ho, ?_, fun j hb => ?_⟩
  · intro h
    rw [Array.getD_eq_getD_getElem?, h] at h2
    simp at h2
  · obtain ⟨e, he, hbe, hj⟩ := hp.pre i o ho j hb
    have hl := getD_listed.1 (h3 e he hbe)
    rcases hj with rfl | hj
    · exact hl
    · have hlt := hp.back i o ho e he hbe
      have hlt' : i < ops.size := (Array.getElem?_eq_some_iff.1 ho).1
      have hon : ops[e.on]? = some ops[e.on] := Array.getElem?_eq_getElem (by omega)
      exact hi.closed e.on _ hon hl j hj

theorem ready_nil (hp : Plan ops st) (hi : RInv P S ops st T0 env L p ρ w k s ids listed a) (hr : Region.ready .any ops listed = []) : ∀ i, i < ops.size → listed[i]? = some true := by
  intro i
  induction i using Nat.strongRecOn with
  | _ i ih =>
    intro hlt
    have ho : ops[i]? = some ops[i] := Array.getElem?_eq_getElem hlt
    cases hl : listed[i]? with
    | none =>
      rw [Array.getElem?_eq_none_iff, hi.size] at hl
      omega
    | some b =>
      cases b with
      | true => rfl
      | false =>
        have : i ∈ Region.ready .any ops listed := ready_iff.2 ⟨hlt, by rw [Array.getD_eq_getD_getElem?, hl]; rfl, _, ho, fun e he hb => by
          have := hp.back i _ ho e he hb
          exact getD_listed.2 (ih e.on this (by omega))⟩
        rw [hr] at this
        simp at this

theorem idOf_mem {i id : Nat} : ∀ {l : List (Nat × Nat)}, idOf i l = some id → (i, id) ∈ l
  | [], h => by simp [idOf] at h
  | (j, d) :: l, h => by
    simp only [idOf] at h
    split at h
    · rename_i e
      simp only [Option.some.injEq] at h
      simp [e, h]
    · exact List.mem_cons_of_mem _ (idOf_mem h)

theorem quiet_step (hp : Plan ops st) (hc : RCan P ops st T0 k s ids) (hi : RInv P S ops st T0 env L p ρ w k s ids listed a) {i : Nat} (hr : i ∈ Region.ready .any ops listed) (hq : i ∉ st.louds)
    (hk : k ≤ st.louds.length) {Q : Exit → Act → World → Prop} {K : Act → World → Prop}
    (hK : ∀ a' w' ρ', RInv P S ops st T0 env L p ρ' w' k s ids (listed.setIfInBounds i true) a' → K a' w') : wpOp P ops Q i K a w := by
  obtain ⟨o, ho, hun, hpre⟩ := ready_spec hp hi hr
  have hlo := lo_le hp hi ho hpre
  have hhi : k ≤ st.hi.getD i 0 := by
    cases hl : st.louds[st.hi.getD i 0]? with
    | none =>
      rw [List.getElem?_eq_none_iff] at hl
      omega
    | some l =>
      have hb := hp.hi i o ho l hl
      have hll := hp.loud _ l hl
      have hnl : ¬ listed[l]? = some true := fun h => hun (hi.closed l _ (Array.getElem?_eq_getElem hll.1) h i hb)
      have := hi.cut _ l hl
      have : ¬ (st.hi.getD i 0 < k) := fun h => hnl (this.2 h)
      omega
  have hok := hc.ok i o ho hq hlo hhi
  unfold chkQ at hok
  rw [ho] at hok
  simp only at hok
  unfold wpOp
  rw [ho]
  simp only
  have hop := opnds hp hc.len hi ho hpre hun
  cases hw : wantedA ops (envOf T0 s.ts (st.own.getD i [])) o with
  | bad => rw [hw] at hok; simp at hok
  | ask c => rw [hw] at hok; simp at hok
  | no =>
    rw [hw] at hok
    rw [(wants hp hc.len hi ho hpre hun hw).2.1 rfl]
    simp only [Bool.false_eq_true, if_false]
    exact hK _ _ ρ (inv_put hp hc.len hi ho hq hpre hok undef_val (Rho.le_refl ρ) hi.core.rel hi.step fun q hq1 _ hq2 => hi.wait q hq1 hq2)
  | yes =>
    rw [hw] at hok
    rw [(wants hp hc.len hi ho hpre hun hw).1 rfl]
    simp only [if_true]
    left
    simp only at hok
    unfold Oper.wp
    split at hok
    · rename_i ns x hr'
      simp only [Bool.and_eq_true] at hok
      have hn := needs_known hi.core.asm hok.1
      obtain ⟨v, h1, h2⟩ := op_ok hi.core.rel hop hr' hn
      rw [h1, Oper.upon_value]
      exact hK _ _ ρ (inv_put hp hc.len hi ho hq hpre hok.2 h2 (Rho.le_refl ρ) hi.core.rel hi.step fun q hq1 _ hq2 => hi.wait q hq1 hq2)
    · rename_i ns mk B hr'
      simp only [Bool.and_eq_true] at hok
      have hn := needs_known hi.core.asm hok.1
      obtain ⟨ob, m, v, h1, h2⟩ := op_ok hi.core.rel hop hr' hn
      rw [h1, Oper.upon_value]
      obtain ⟨_, hok⟩ := hok
      cases hid : idOf i ids with
      | none => simp [hid] at hok
      | some id =>
        rw [hid] at hok
        simp only [Bool.and_eq_true] at hok
        obtain ⟨⟨k1, k2⟩, k3⟩ := hok
        have hmem := idOf_mem hid
        have hnone := hi.wait _ hmem hun
        have hget : s.H[id]? = some B := by
          cases hg : s.H[id]? with
          | none => simp [hg] at k2
          | some C => simp only [hg] at k2; rw [Blk.beq_eq k2]
        have hle := upd_le (x := (some w.heap.size, m)) hnone
        obtain ⟨v1, v2⟩ := h2 p (upd ρ id (some w.heap.size, m)) (w.alloc ob) id w.heap.size (Pins.le_refl p) hle upd_self (by show (w.heap.push ob)[w.heap.size]? = _; simp) (fun o => hi.core.rel.pin_new (Nat.le_refl _) o)
        obtain ⟨b1, b2⟩ := hi.core.rel.born ob hnone hget v2
        refine hK _ _ _ (inv_put hp hc.len hi ho hq hpre k1 v1 hle b1 (b2 S.p S.ρ S.s.H S.w hi.step (hi.far _ hmem)) fun q hq1 hq2 hq3 => ?_)
        rw [List.all_eq_true] at k3
        have := k3 q hq1
        simp only [Bool.or_eq_true, beq_iff_eq, Bool.not_eq_true', beq_eq_false_iff_ne, ne_eq] at this
        have hne := this.resolve_left hq2
        rw [upd_ne hne]
        exact hi.wait q hq1 hq3
    · simp at hok

theorem can_head {s1 : St} {ids1 : List (Nat × Nat)} (h2 : checksAt P ops st T0 k s1 ids1 = true) (hlen : s1.ts.length = T0.length) : RCan P ops st T0 k s1 ids1 := by
  refine ⟨hlen, fun i o ho hq hlo hhi => ?_⟩
  unfold checksAt at h2
  rw [List.all_eq_true] at h2
  have := h2 i (List.mem_range.2 (Array.getElem?_eq_some_iff.1 ho).1)
  simp only [Bool.or_eq_true, List.contains_eq_mem, decide_eq_true_eq] at this
  rcases this with ((h | h) | h) | h
  · exact absurd h hq
  · omega
  · omega
  · exact h

theorem mem_quiets {k j : Nat} (h : j ∈ quietsAt ops st k) : st.lo.getD j 0 = k ∧ j ∉ st.louds := by
  unfold quietsAt at h
  simp only [List.mem_filter, Bool.and_eq_true, beq_iff_eq, Bool.not_eq_true'] at h
  refine ⟨h.2.1, fun hm => ?_⟩
  have := h.2.2
  simp [List.contains_eq_mem, hm] at this
end
end Go.Dv

/- Regions in any order: the loud steps, and the whole. -/
set_option linter.unusedVariables false
set_option linter.unusedSimpArgs false
namespace Go.Dv

section
variable {P : Program} {fuel : Nat} {G : FuncId → PV → Option PV} {call : CallK} {env : List PV} {L : List (PV → Option PV)} {p : Pins} {ρ : Rho} {w : World} {res : PV}
variable {S : Start} {ops : Array Oper} {st : Stat} {T0 : List AV} {k : Nat} {s : St} {ids : List (Nat × Nat)} {listed : Array Bool} {a : Act}

theorem loud_inv (hp : Plan ops st) (hT : ∀ i t x, t ∈ st.own.getD i [] → T0[t]? = some x → AV.upTo S.env.length x = true) (hc : RCan P ops st T0 k s ids) (hi : RInv P S ops st T0 env L p ρ w k s ids listed a) {i : Nat} {o : Oper} (ho : ops[i]? = some o) (hq : st.louds[k]? = some i)
    (hpre : ∀ j, bitOf (st.pre.getD i 0) j = true → listed[j]? = some true) {env' : List PV} {L' : List (PV → Option PV)} {p' : Pins} {ρ' : Rho} {w' : World} {s2 : St} {t1 : List AV} {x : AV} {v : Value}
    (hm : Moves P env L s env' L' s2) (hcore : Core P env' L' p' ρ' w' s2) (hst : Step p ρ s.H w p' ρ' s2.H w') (hts : s2.ts = put t1 o.dst x) (hle : TsLe P env s.ts env' t1) (hv : val P env' p' ρ' x v)
    {rest : K2} (hh : (headQ P ops st T0 (k + 1) s2 ids rest).dn fuel G L' env' = some res) :
    ∃ s3 ids3, RCan P ops st T0 (k + 1) s3 ids3 ∧ RInv P S ops st T0 env' L' p' ρ' w' (k + 1) s3 ids3 (listed.setIfInBounds i true) (a.put o.dst v) ∧ (rest s3 ids3).dn fuel G L' env' = some res := by
  have hlt : i < listed.size := by rw [hi.size]; exact (Array.getElem?_eq_some_iff.1 ho).1
  have hl := fun j => listed_set (listed := listed) (j := j) hlt
  obtain ⟨s3, ids3, h1, h2, h3⟩ := headQ_path hcore.asm hh
  obtain ⟨q1, q2⟩ := h1.rel p' ρ' w' hcore.rel
  have hlen2 : s2.ts.length = s.ts.length := by rw [hts, put_len, hle.1]
  have hlen3 : s3.ts.length = T0.length := by rw [h1.len, hlen2, hc.len]
  have n1 := hi.step.next
  have n2 := hst.next
  have n3 := h1.next
  have hagree : Agree S.env.length S.env env' := Agree.ofPre (hi.mv.pre.trans hm.pre)
  have hagree0 : Agree S.env.length S.env env := Agree.ofPre hi.mv.pre
  refine ⟨s3, ids3, can_head h2 hlen3, ⟨⟨q1, by rw [h1.nv]; exact hcore.nv, by rw [h1.lv]; exact hcore.lv, h1.asm⟩, ?_, by rw [tmps_size, hi.len], ?_, ?_, (hi.step.trans hst).trans q2, by rw [put_defers]; exact hi.ds, ?_, ?_, ?_, by simpa using hi.size, ?_, ?_⟩, h3⟩
  · have := hi.mv.trans hm
    exact ⟨this.pre, this.preL, by rw [h1.stk]; exact this.stk⟩
  · intro i' t y hown ht hy
    have hne : o.dst ≠ some t := ht i o ((hl i).2 (.inl rfl)) ho
    obtain ⟨u, hu, hru⟩ := hi.old i' t y hown (fun j q hj => ht j q ((hl j).2 (.inr hj))) hy
    have hup := hT i' t y hown hy
    exact ⟨u, by rw [tmps_put hne]; exact hu, val_agree (hagree0.symm.trans hagree) y hup u (val_mono hst.pins hst.le _ _ hru)⟩
  · intro t y ht hy
    have hnoq : ∀ j ∈ quietsAt ops st (k + 1), ∀ q, ops[j]? = some q → q.dst ≠ some t := by
      intro j hj q hjq hd
      obtain ⟨m1, m2⟩ := mem_quiets hj
      rcases (hl j).1 (ht j q hjq hd) with e | h
      · exact m2 (e ▸ List.mem_of_getElem? hq)
      · have := lo_le hp hi hjq (hi.closed j q hjq h)
        omega
    by_cases hd : o.dst = some t
    · have hlt' : t < a.tmps.size := by rw [hi.len, ← hlen3]; exact (List.getElem?_eq_some_iff.1 hy).1
      have hx2 : s2.ts[t]? = some x := by
        rw [hts, hd]
        simp only [put]
        rw [List.getElem?_set_self]
        rw [hle.1, hc.len, ← hi.len]
        exact hlt'
      obtain ⟨y', hy', l⟩ := h1.keep t x hnoq hx2
      rw [hy] at hy'
      simp only [Option.some.injEq] at hy'
      subst hy'
      exact ⟨v, by rw [hd]; exact tmps_put_self hlt', l _ _ _ hv⟩
    · have hlt' : t < s.ts.length := by rw [hc.len, ← hlen3]; exact (List.getElem?_eq_some_iff.1 hy).1
      have hx0 : s.ts[t]? = some s.ts[t] := List.getElem?_eq_getElem hlt'
      obtain ⟨u, hu, hru⟩ := hi.new t _ (fun j q hjq hdq => by
        rcases (hl j).1 (ht j q hjq hdq) with e | h
        · rw [e, ho] at hjq
          simp only [Option.some.injEq] at hjq
          subst hjq
          exact absurd hdq hd
        · exact h) hx0
      obtain ⟨x1, hx1, l1⟩ := hle.2 t _ hx0
      have hx2 : s2.ts[t]? = some x1 := by rw [hts, put_get _ _ _ _ hd]; exact hx1
      obtain ⟨y', hy', l2⟩ := h1.keep t x1 hnoq hx2
      rw [hy] at hy'
      simp only [Option.some.injEq] at hy'
      subst hy'
      exact ⟨u, by rw [tmps_put hd]; exact hu, l2 _ _ _ (l1 _ _ _ (val_mono hst.pins hst.le _ _ hru))⟩
  · intro q hq1 hq2
    rcases h1.ids q hq1 with hq1 | ⟨hq1, _⟩
    · have hw := hi.wait q hq1 (fun h => hq2 ((hl _).2 (.inr h)))
      have hn := hi.near q hq1
      cases e : ρ' q.2 with
      | none => rfl
      | some y =>
        rcases hst.born _ _ e with h | h
        · rw [hw] at h; simp at h
        · omega
    · cases e : ρ' q.2 with
      | none => rfl
      | some y => have := (hcore.rel.dom _ y e).1; omega
  · intro q hq1
    rcases h1.ids q hq1 with hq1 | ⟨_, hq1⟩
    · have := hi.near q hq1
      omega
    · exact hq1
  · intro q hq1
    rcases h1.ids q hq1 with hq1 | ⟨hq1, _⟩
    · exact hi.far q hq1
    · omega
  · intro j o' hj hjl i' hb
    rcases (hl j).1 hjl with e | hjl
    · subst e
      exact (hl i').2 (.inr (hpre i' hb))
    · exact (hl i').2 (.inr (hi.closed j o' hj hjl i' hb))
  · intro q l hpl
    rw [hl l]
    have hll := (hp.loud q l hpl).2
    have hli := (hp.loud k i hq).2
    constructor
    · rintro (e | h)
      · rw [e] at hll
        omega
      · have := (hi.cut q l hpl).1 h
        omega
    · intro h
      by_cases e : q = k
      · subst e
        rw [hq] at hpl
        simp only [Option.some.injEq] at hpl
        exact .inl hpl.symm
      · exact .inr ((hi.cut q l hpl).2 (by omega))

theorem loud_step (hC : CallOk P fuel G call) (hp : Plan ops st) (hT : ∀ i t x, t ∈ st.own.getD i [] → T0[t]? = some x → AV.upTo S.env.length x = true) (hc : RCan P ops st T0 k s ids) (hi : RInv P S ops st T0 env L p ρ w k s ids listed a) {i : Nat}
    (hr : i ∈ Region.ready .any ops listed) (hq : st.louds[k]? = some i) {rest : K2} (ht : (loudQ P call ops st T0 i s fun s2 => headQ P ops st T0 (k + 1) s2 ids rest).dn fuel G L env = some res)
    {Q : Exit → Act → World → Prop} {K : Act → World → Prop}
    (hK : ∀ a' w' env' L' p' ρ' s3 ids3, RCan P ops st T0 (k + 1) s3 ids3 → RInv P S ops st T0 env' L' p' ρ' w' (k + 1) s3 ids3 (listed.setIfInBounds i true) a' → (rest s3 ids3).dn fuel G L' env' = some res → K a' w') : wpOp P ops Q i K a w := by
  obtain ⟨o, ho, hun, hpre⟩ := ready_spec hp hi hr
  have hop := opnds hp hc.len hi ho hpre hun
  unfold loudQ at ht
  rw [ho] at ht
  simp only at ht
  unfold wpOp
  rw [ho]
  simp only
  -- an operation that is done, from a state that says no less
  have go : ∀ (s' : St), s'.H = s.H → s'.nv = s.nv → s'.lv = s.lv → s'.stk = s.stk → AsmOk env s'.asm → TsLe P env s.ts env s'.ts → (∀ x ∈ o.op.operands, val P env p ρ (evA (envOf T0 s'.ts (st.own.getD i [])) x) (a.eval x)) →
      (match opA P (evA (envOf T0 s'.ts (st.own.getD i []))) o s'.H with
      | some (ns, .new _ _) => Tree.fail "loud new"
      | some (ns, r) => needsK s'.asm ns (resOf call o r { s' with asm := know s'.asm ns } fun s2 => headQ P ops st T0 (k + 1) s2 ids rest)
      | none => Tree.fail o.pos).dn fuel G L env = some res → o.wp P a w K Q := by
    intro s' eH env_ elv estk hasm hle hop ht
    have hrel : Rel P env p ρ s'.H w := by rw [eH]; exact hi.core.rel
    unfold Oper.wp
    split at ht
    · simp [Tree.dn] at ht
    · rename_i ns r hne hr'
      obtain ⟨hn, ht⟩ := needsK_ok hasm ht
      have hrun := op_ok hrel hop hr' hn
      cases r with
      | val x =>
        obtain ⟨v, h1, h2⟩ := hrun
        rw [h1, Oper.upon_value]
        obtain ⟨s3, ids3, c1, c2, c3⟩ := loud_inv (s2 := { s' with asm := know s'.asm ns, ts := put s'.ts o.dst (normA (know s'.asm ns) x) }) hp hT hc hi ho hq hpre ⟨List.prefix_refl _, List.prefix_refl _, by show StkLe P env s.stk env s'.stk; rw [estk]; exact StkLe.refl _⟩
          ⟨hrel, by rw [hi.core.nv]; exact env_.symm, by rw [hi.core.lv]; exact elv.symm, hasm.know hn⟩ (by show Step p ρ s.H w p ρ s'.H w; rw [eH]; exact Step.refl p ρ s.H w) rfl hle ((normA_iff (hasm.know hn) _ _).2 h2) ht
        exact hK _ _ _ _ _ _ _ _ c1 c2 c3
      | new mk B => exact absurd rfl (hne _ _)
      | wr x H' =>
        obtain ⟨v, w', p', ρ', h1, h2, h3, h4⟩ := hrun
        rw [h1, Oper.upon_value]
        obtain ⟨s3, ids3, c1, c2, c3⟩ := loud_inv (s2 := { s' with asm := know s'.asm ns, ts := put s'.ts o.dst x, H := H' }) hp hT hc hi ho hq hpre ⟨List.prefix_refl _, List.prefix_refl _, by show StkLe P env s.stk env s'.stk; rw [estk]; exact StkLe.refl _⟩
          ⟨h3, by rw [hi.core.nv]; exact env_.symm, by rw [hi.core.lv]; exact elv.symm, hasm.know hn⟩ (by rw [← eH]; exact h4) rfl hle h2 ht
        exact hK _ _ _ _ _ _ _ _ c1 c2 c3
      | skip H' =>
        obtain ⟨w', p', h1, h2, h3⟩ := hrun
        rw [h1, Oper.upon_skip]
        obtain ⟨s3, ids3, c1, c2, c3⟩ := loud_inv (s2 := { s' with asm := know s'.asm ns, ts := put s'.ts o.dst undefA, H := H' }) hp hT hc hi ho hq hpre ⟨List.prefix_refl _, List.prefix_refl _, by show StkLe P env s.stk env s'.stk; rw [estk]; exact StkLe.refl _⟩
          ⟨h2, by rw [hi.core.nv]; exact env_.symm, by rw [hi.core.lv]; exact elv.symm, hasm.know hn⟩ (by rw [← eH]; exact h3) rfl hle undef_val ht
        exact hK _ _ _ _ _ _ _ _ c1 c2 c3
      | enter f args =>
        obtain ⟨vs, h1, h2⟩ := hrun
        rw [h1, Oper.upon_enter]
        have hcore : Core P env L p ρ w { s' with asm := know s'.asm ns } := ⟨hrel, by rw [hi.core.nv]; exact env_.symm, by rw [hi.core.lv]; exact elv.symm, hasm.know hn⟩
        refine (hC f args _ _ env L res p ρ w vs ht hcore h2).mono ?_
        rintro e w' ⟨v, x, s1, env', L', p', ρ', rfl, hm, hc1, hs1, hts, hx, hk⟩
        obtain ⟨s3, ids3, c1, c2, c3⟩ := loud_inv (s2 := { s1 with ts := put s1.ts o.dst x }) hp hT hc hi ho hq hpre ⟨hm.pre, hm.preL, by
            have := hm.stk
            simp only at this
            rw [estk] at this
            exact this⟩
          ⟨hc1.rel, hc1.nv, hc1.lv, hc1.asm⟩ (by
            have := hs1
            simp only at this
            rw [eH] at this
            exact this) rfl (hle.trans hts) hx hk
        exact hK _ _ _ _ _ _ _ _ c1 c2 c3
    · simp [Tree.dn] at ht
  cases hw : wantedA ops (envOf T0 s.ts (st.own.getD i [])) o with
  | bad => rw [hw] at ht; simp [Tree.dn] at ht
  | no =>
    rw [hw] at ht
    rw [(wants hp hc.len hi ho hpre hun hw).2.1 rfl]
    simp only [Bool.false_eq_true, if_false]
    obtain ⟨s3, ids3, c1, c2, c3⟩ := loud_inv (s2 := { s with ts := put s.ts o.dst undefA }) hp hT hc hi ho hq hpre (Moves.refl rfl) ⟨hi.core.rel, hi.core.nv, hi.core.lv, hi.core.asm⟩ (Step.refl p ρ s.H w) rfl (TsLe.refl _) undef_val ht
    exact hK _ _ _ _ _ _ _ _ c1 c2 c3
  | yes =>
    rw [hw] at ht
    rw [(wants hp hc.len hi ho hpre hun hw).1 rfl]
    simp only [if_true]
    exact .inl (go s rfl rfl rfl rfl hi.core.asm (TsLe.refl _) hop ht)
  | ask c =>
    rw [hw] at ht
    simp only at ht
    obtain ⟨b, hb, ht⟩ := ite_ok (f := fun b => if b == guardOf o then (match opA P (evA (envOf T0 (setG ops o c s.ts b) (st.own.getD i []))) o s.H with
      | some (ns, .new _ _) => Tree.fail "loud new"
      | some (ns, r) => needsK ((c, b) :: s.asm) ns (resOf call o r { s with asm := know ((c, b) :: s.asm) ns, ts := setG ops o c s.ts b } fun s2 => headQ P ops st T0 (k + 1) s2 ids rest)
      | none => Tree.fail o.pos) else headQ P ops st T0 (k + 1) { s with asm := (c, b) :: s.asm, ts := put (setG ops o c s.ts b) o.dst undefA } ids rest) ht
    rw [(wants hp hc.len hi ho hpre hun hw).2.2 c b rfl hb]
    have hle : TsLe P env s.ts env (setG ops o c s.ts b) := setG_le hb
    cases hbg : b == guardOf o with
    | true =>
      rw [hbg] at ht
      simp only [if_true] at ht ⊢
      refine .inl (go { s with asm := (c, b) :: s.asm, ts := setG ops o c s.ts b } rfl rfl rfl rfl (hi.core.asm.cons hb) hle ?_ ht)
      have hlen' : (setG ops o c s.ts b).length = T0.length := by rw [hle.1, hc.len]
      intro x hx
      cases x with
      | tmp t =>
        have hlk := look hp hc.len hi ho hpre hun t (mem_looks_op hx)
        simp only [evA, Act.eval]
        have e2 := fun y => env_get T0 (st.own.getD i []) (setG ops o c s.ts b) hlen' y
        have e1 := fun y => env_get T0 (st.own.getD i []) s.ts hc.len y
        generalize envOf T0 (setG ops o c s.ts b) (st.own.getD i []) = E2 at *
        generalize envOf T0 s.ts (st.own.getD i []) = E1 at *
        cases ht2 : E2[t]? with
        | none => simp [List.getD, ht2, val]
        | some y =>
          rw [e2] at ht2
          have e1t := e1 t
          split at ht2
          · rename_i hown
            rw [if_pos hown, ht2] at e1t
            obtain ⟨v, hv, hr⟩ := hlk y e1t
            have ht3 : E2[t]? = some y := by rw [e2, if_pos hown]; exact ht2
            simp [List.getD, ht3, hv, hr]
          · rename_i hown
            rw [if_neg hown] at e1t
            have hlt : t < s.ts.length := by rw [← hle.1]; exact (List.getElem?_eq_some_iff.1 ht2).1
            rw [List.getElem?_eq_getElem hlt] at e1t
            obtain ⟨v, hv, hr⟩ := hlk _ e1t
            obtain ⟨y', hy', l⟩ := hle.2 t _ (List.getElem?_eq_getElem hlt)
            rw [ht2] at hy'
            simp only [Option.some.injEq] at hy'
            subst hy'
            have ht3 : E2[t]? = some y := by rw [e2, if_neg hown]; exact ht2
            simp [List.getD, ht3, hv, l _ _ _ hr]
      | const v =>
        simp only [evA, Act.eval]
        cases hv : ofV v with
        | none => simp [val]
        | some b => exact ofV_val v b hv
      | global g => simp [evA, val]
      | func f => simp [evA, Act.eval, val, vals]
    | false =>
      rw [hbg] at ht
      simp only [Bool.false_eq_true, if_false] at ht ⊢
      obtain ⟨s3, ids3, c1, c2, c3⟩ := loud_inv (s2 := { s with asm := (c, b) :: s.asm, ts := put (setG ops o c s.ts b) o.dst undefA }) hp hT hc hi ho hq hpre (Moves.refl rfl) ⟨hi.core.rel, hi.core.nv, hi.core.lv, hi.core.asm.cons hb⟩ (Step.refl p ρ s.H w) rfl hle undef_val ht
      exact hK _ _ _ _ _ _ _ _ c1 c2 c3

/-- What is left of the stages behind the head of one. -/
def restQ (P : Program) (call : CallK) (ops : Array Oper) (st : Stat) (T0 : List AV) (kk : St → Tree) : List Nat → Nat → K2
  | [], _ => fun s _ => kk s
  | i :: r, k => fun s ids => loudQ P call ops st T0 i s fun s => stagesQ P call ops st T0 r (k + 1) s ids kk
theorem stagesQ_eq (kk : St → Tree) (ls : List Nat) (k : Nat) (s : St) (ids : List (Nat × Nat)) : stagesQ P call ops st T0 ls k s ids kk = headQ P ops st T0 k s ids (restQ P call ops st T0 kk ls k) := by
  cases ls <;> rfl

theorem any_ok (hC : CallOk P fuel G call) (hp : Plan ops st) (hT : ∀ i t x, t ∈ st.own.getD i [] → T0[t]? = some x → AV.upTo S.env.length x = true) {kk : St → Tree} {Q : Exit → Act → World → Prop}
    (hQ : ∀ a' w' s' env' L' p' ρ', Moves P S.env S.L S.s env' L' s' → SRel P env' L' p' ρ' w' s' a' → Step S.p S.ρ S.s.H S.w p' ρ' s'.H w' → (kk s').dn fuel G L' env' = some res → Q .normal a' w') :
    ∀ (n k : Nat) (s : St) (ids : List (Nat × Nat)) (listed : Array Bool) (a : Act) (env : List PV) (L : List (PV → Option PV)) (p : Pins) (ρ : Rho) (w : World), k ≤ st.louds.length → (restQ P call ops st T0 kk (st.louds.drop k) k s ids).dn fuel G L env = some res →
      RCan P ops st T0 k s ids → RInv P S ops st T0 env L p ρ w k s ids listed a → (listed.toList.filter (!·)).length ≤ n → wpAny P .any ops Q n listed a w := by
  have fin : ∀ (k : Nat) (s : St) (ids : List (Nat × Nat)) (listed : Array Bool) (a : Act) (env : List PV) (L : List (PV → Option PV)) (p : Pins) (ρ : Rho) (w : World), k ≤ st.louds.length → (restQ P call ops st T0 kk (st.louds.drop k) k s ids).dn fuel G L env = some res →
      RCan P ops st T0 k s ids → RInv P S ops st T0 env L p ρ w k s ids listed a → Region.ready .any ops listed = [] → Q .normal a w := by
    intro k s ids listed a env L p ρ w hk ha hc hi hr
    have hall := ready_nil hp hi hr
    have hkk : k = st.louds.length := by
      cases hl : st.louds[k]? with
      | none => rw [List.getElem?_eq_none_iff] at hl; omega
      | some l =>
        have := (hi.cut k l hl).1 (hall l (hp.loud k l hl).1)
        omega
    rw [hkk, List.drop_length] at ha
    simp only [restQ] at ha
    refine hQ a w s env L p ρ hi.mv ⟨hi.core, ?_, hi.ds⟩ hi.step ha
    refine vals_of_get (by simp; rw [hi.len, hc.len]) fun t x hx => ?_
    obtain ⟨v, h1, h2⟩ := hi.new t x (fun j o hj _ => hall j (Array.getElem?_eq_some_iff.1 hj).1) hx
    exact ⟨v, by simpa using h1, h2⟩
  intro n
  induction n with
  | zero =>
    intro k s ids listed a env L p ρ w hk ha hc hi hf
    have hr : Region.ready .any ops listed = [] := by
      rw [List.eq_nil_iff_forall_not_mem]
      intro i hi'
      obtain ⟨h1, h2, _⟩ := ready_iff.1 hi'
      have hlt : i < listed.size := by rw [hi.size]; exact h1
      have hm : listed[i] ∈ listed.toList.filter (!·) := by
        rw [List.mem_filter]
        refine ⟨by simp, ?_⟩
        rw [Array.getD_eq_getD_getElem?, Array.getElem?_eq_getElem hlt] at h2
        simp at h2
        simp [h2]
      have : (listed.toList.filter (!·)) = [] := List.length_eq_zero_iff.1 (Nat.le_zero.1 hf)
      rw [this] at hm
      simp at hm
    exact ⟨hr, fin k s ids listed a env L p ρ w hk ha hc hi hr⟩
  | succ n ih =>
    intro k s ids listed a env L p ρ w hk ha hc hi hf
    refine ⟨fun hr => fin k s ids listed a env L p ρ w hk ha hc hi hr, fun i hr => ?_⟩
    obtain ⟨o, ho, hun, hpre⟩ := ready_spec hp hi hr
    have hlt : i < listed.size := by rw [hi.size]; exact (Array.getElem?_eq_some_iff.1 ho).1
    have hless : ((listed.setIfInBounds i true).toList.filter (!·)).length ≤ n := by
      have hb : listed[i] = false := by
        cases hb : listed[i] with
        | false => rfl
        | true => exact absurd (by rw [Array.getElem?_eq_getElem hlt, hb]) hun
      have key : ∀ (l : List Bool) (i : Nat), l[i]? = some false → ((l.set i true).filter (!·)).length + 1 ≤ (l.filter (!·)).length := by
        intro l
        induction l with
        | nil => intro i h; simp at h
        | cons b l ihl =>
          intro i h
          cases i with
          | zero => simp at h; subst h; simp
          | succ i =>
            simp only [List.getElem?_cons_succ] at h
            have := ihl i h
            cases b <;> simp only [List.set_cons_succ, List.filter_cons, Bool.not_true, Bool.not_false, Bool.false_eq_true, if_false, if_true, List.length_cons] <;> omega
      have := key listed.toList i (by rw [Array.getElem?_toList, Array.getElem?_eq_getElem hlt, hb])
      rw [Array.toList_setIfInBounds]
      omega
    by_cases hq : i ∈ st.louds
    · obtain ⟨q, hpl⟩ := List.mem_iff_getElem?.1 hq
      have hlo := lo_le hp hi ho hpre
      have hlp := (hp.loud q i hpl).2
      have hpk : ¬ q < k := fun h => hun ((hi.cut q i hpl).2 h)
      have e : q = k := by omega
      subst e
      have hplt : q < st.louds.length := (List.getElem?_eq_some_iff.1 hpl).1
      have hdrop : st.louds.drop q = i :: st.louds.drop (q + 1) := by
        rw [List.drop_eq_getElem_cons hplt]
        congr 1
        exact (List.getElem?_eq_some_iff.1 hpl).2
      rw [hdrop] at ha
      simp only [restQ] at ha
      have ha' : (loudQ P call ops st T0 i s fun s2 => headQ P ops st T0 (q + 1) s2 ids (restQ P call ops st T0 kk (st.louds.drop (q + 1)) (q + 1))).dn fuel G L env = some res := by
        rw [← ha]
        congr 1
        congr 1
        funext s2
        rw [stagesQ_eq]
      exact loud_step hC hp hT hc hi hr hpl ha' fun a' w' env' L' p' ρ' s3 ids3 c1 c2 c3 => ih (q + 1) s3 ids3 _ a' env' L' p' ρ' w' hplt c3 c1 c2 hless
    · exact quiet_step hp hc hi hr hq hk fun a' w' ρ' c2 => ih k s ids _ a' env L p ρ' w' hk ha hc c2 hless

theorem regionQ_ok (hC : CallOk P fuel G call) (hm : P.follows .mixedOrders = true) (hok : statOk ops st = true) (h : SRel P env L p ρ w s a) {kk : St → Tree} (ht : (regionQ P call ops st s kk).dn fuel G L env = some res) {id : Nat} {Q : Exit → Act → World → Prop}
    (hQ : ∀ a' w' s' env' L' p' ρ', Moves P env L s env' L' s' → SRel P env' L' p' ρ' w' s' a' → Step p ρ s.H w p' ρ' s'.H w' → (kk s').dn fuel G L' env' = some res → Q .normal a' w') : (Code.region id ops true).wp P Q a w := by
  unfold regionQ at ht
  split at ht
  · rename_i hown
    have hp := plan_of hok
    rw [stagesQ_eq] at ht
    obtain ⟨s1, ids1, h1, h2, h3⟩ := headQ_path h.asm ht
    have hrel := h.rel.drew (w.drawn + 1)
    obtain ⟨q1, q2⟩ := h1.rel p ρ _ hrel
    have hfalse : ∀ (j : Nat), ¬ (Array.replicate ops.size false)[j]? = some true := by
      intro j hj
      rw [Array.getElem?_replicate] at hj
      split at hj <;> simp at hj
    refine wp_region_any hm ?_
    refine any_ok (S := ⟨env, L, p, ρ, w, s⟩) (T0 := s.ts) hC hp ?_ hQ ops.size 0 s1 ids1 _ a env L p ρ _ (Nat.zero_le _) (by simpa using h3) (can_head h2 h1.len)
      ⟨⟨q1, by rw [h1.nv]; exact h.nv, by rw [h1.lv]; exact h.lv, h1.asm⟩, Moves.refl h1.stk, by have := vals_length h.ts; simpa using this, ?_, ?_, (Step.drew p ρ s.H w _).trans q2, h.ds, ?_, ?_, ?_, by simp, fun j o _ hj => absurd hj (hfalse j), fun q l hl => ⟨fun hj => absurd hj (hfalse l), fun hj => absurd hj (Nat.not_lt_zero _)⟩⟩ ?_
    · intro i t x ht hx
      rw [List.all_eq_true] at hown
      rw [List.getD_eq_getElem?_getD] at ht
      cases hl : st.own[i]? with
      | none => rw [hl] at ht; simp at ht
      | some l =>
        rw [hl] at ht
        have := hown l (List.mem_of_getElem? hl)
        rw [List.all_eq_true] at this
        have := this t (by simpa using ht)
        rw [List.getD_eq_getElem?_getD, hx] at this
        simp only [Option.getD_some] at this
        rw [← h.nv] at this
        exact this
    · intro i t x _ _ hx
      obtain ⟨v, g1, g2⟩ := vals_get h.ts hx
      exact ⟨v, by simpa using g1, g2⟩
    · intro t x hno hx
      have hlt : t < s.ts.length := by rw [← h1.len]; exact (List.getElem?_eq_some_iff.1 hx).1
      obtain ⟨x', hx', l⟩ := h1.keep t _ (fun j hj q hjq hd => absurd (hno j q hjq hd) (hfalse j)) (List.getElem?_eq_getElem hlt)
      rw [hx] at hx'
      simp only [Option.some.injEq] at hx'
      subst hx'
      obtain ⟨v, g1, g2⟩ := vals_get h.ts (List.getElem?_eq_getElem hlt)
      exact ⟨v, by simpa using g1, l _ _ _ g2⟩
    · intro q hq _
      rcases h1.ids q hq with hq | ⟨hq, _⟩
      · simp at hq
      · cases e : ρ q.2 with
        | none => rfl
        | some y => have := (h.rel.dom _ y e).1; omega
    · intro q hq
      rcases h1.ids q hq with hq | ⟨_, hq⟩
      · simp at hq
      · exact hq
    · intro q hq
      rcases h1.ids q hq with hq | ⟨hq, _⟩
      · simp at hq
      · exact hq
    · simp
  · simp [Tree.dn] at ht
end
end Go.Dv

/- Values that are handed: closing and opening. -/
set_option linter.unusedVariables false
set_option linter.unusedSimpArgs false
namespace Go.Dv

/-- A cell's value is handed: what it holds; own: the world's blocks that go with it. -/
def ClV (P : Program) (p : Pins) (w : World) (c : Cl) (x : PV) (v : Value) (own : List Nat) : Prop :=
  match c with
  | .pv k => RV p x v ∧ wt P k x = true ∧ own = []
  | .own t wr => ∃ a cp sz ag xs ad, x = .list sz ag xs ∧ sizeA P t = some sz ∧ isAggA P t = some ag ∧ wtEs P t (cellK P t) xs = true ∧ v = .slice ad xs.length cp ∧ (0 < cp → ad = a.map fun b => ⟨b, 0, none⟩) ∧ own = a.toList ∧ RowOk p w a cp xs t sz ag wr
  | .nil t => ∃ sz ag, x = .list sz ag [] ∧ sizeA P t = some sz ∧ isAggA P t = some ag ∧ v = .slice none 0 0 ∧ own = []
def ClsV (P : Program) (p : Pins) (w : World) : List Cl → List PV → List Value → List Nat → Prop
  | [], xs, vs, own => xs = [] ∧ vs = [] ∧ own = []
  | c :: cs, xs, vs, own => ∃ x xs' v vs' o1 o2, xs = x :: xs' ∧ vs = v :: vs' ∧ own = o1 ++ o2 ∧ ClV P p w c x v o1 ∧ ClsV P p w cs xs' vs' o2
def wrapV : Option FuncId → Nat → Value
  | none, b => .pointer (some ⟨b, 0, none⟩)
  | some f, b => .func (.func f) #[] #[.pointer (some ⟨b, 0, none⟩)]
theorem wrapV_inj {g : Option FuncId} {a b : Nat} (h : wrapV g a = wrapV g b) : a = b := by
  cases g with
  | none => simpa [wrapV] using h
  | some f => simpa [wrapV] using h
theorem val_wrap {P : Program} {env : List PV} {p : Pins} {ρ : Rho} {g : Option FuncId} {i : Nat} {v : Value} : val P env p ρ (wrapA g i) v ↔ ∃ b m, ρ i = some (some b, m) ∧ v = wrapV g b := by
  cases g with
  | none => simp only [wrapA, val, wrapV]
  | some f =>
    simp only [wrapA, val, wrapV, vals]
    constructor
    · rintro ⟨us, ws, rfl, h1, v, r, h2, ⟨b, m, hb, rfl⟩, rfl⟩
      have e1 : us = #[] := Array.ext' (by simpa using h1)
      have e2 : ws = #[.pointer (some ⟨b, 0, none⟩)] := Array.ext' (by simpa using h2)
      subst e1 e2
      exact ⟨b, m, hb, rfl⟩
    · rintro ⟨b, m, hb, rfl⟩
      exact ⟨#[], #[.pointer (some ⟨b, 0, none⟩)], rfl, rfl, _, [], rfl, ⟨b, m, hb, rfl⟩, rfl⟩
def ParV (P : Program) (p : Pins) (w : World) (c : Par) (x : PV) (v : Value) (own : List Nat) : Prop :=
  match c with
  | .one c => ClV P p w c x v own
  | .many cs => ∃ xs us, x = .agg xs ∧ v = .agg us ∧ ClsV P p w cs xs us.toList own
  | .ptr g cs t => ∃ b xs cells us own', x = .agg xs ∧ v = wrapV g b ∧ w.heap[b]? = some (.cells cells t (0, 0)) ∧ cells.toList = us ∧ (∀ o, p b o = none) ∧ ClsV P p w cs xs us own' ∧ own = b :: own'
def ParsV (P : Program) (p : Pins) (w : World) : List Par → List PV → List Value → List Nat → Prop
  | [], xs, vs, own => xs = [] ∧ vs = [] ∧ own = []
  | c :: cs, xs, vs, own => ∃ x xs' v vs' o1 o2, xs = x :: xs' ∧ vs = v :: vs' ∧ own = o1 ++ o2 ∧ ParV P p w c x v o1 ∧ ParsV P p w cs xs' vs' o2

section
variable {P : Program} {env : List PV} {p p' : Pins} {ρ : Rho} {H : Heap} {w w' : World}

/-- What is handed stays as it is while its blocks do. -/
theorem ClV.mono {c : Cl} {x : PV} {v : Value} {own : List Nat} (h : ClV P p w c x v own) (hp : p.le p') (hb : ∀ b ∈ own, ∀ o, p' b o = p b o) (hw : ∀ b ∈ own, w'.heap[b]? = w.heap[b]?) : ClV P p' w' c x v own := by
  cases c with
  | nil t => exact h
  | pv k =>
    simp only [ClV] at h ⊢
    exact ⟨RV_mono hp _ _ h.1, h.2⟩
  | own t wr =>
    simp only [ClV] at h ⊢
    obtain ⟨a, cp, sz, ag, xs, ad, h1, h2, h3, h4, h5, h6, h7, h8⟩ := h
    refine ⟨a, cp, sz, ag, xs, ad, h1, h2, h3, h4, h5, h6, h7, RowOk_world (RowOk_pins h8 hp fun b hb' => hb b (by rw [h7, hb']; simp)) fun b hb' => hw b (by rw [h7, hb']; simp)⟩
theorem ClsV.mono : ∀ {cs : List Cl} {xs : List PV} {vs : List Value} {own : List Nat}, ClsV P p w cs xs vs own → p.le p' → (∀ b ∈ own, ∀ o, p' b o = p b o) → (∀ b ∈ own, w'.heap[b]? = w.heap[b]?) → ClsV P p' w' cs xs vs own
  | [], xs, vs, own, h, hp, hb, hw => h
  | c :: cs, xs, vs, own, h, hp, hb, hw => by
    simp only [ClsV] at h ⊢
    obtain ⟨x, xs', v, vs', o1, o2, e1, e2, rfl, h1, h2⟩ := h
    exact ⟨x, xs', v, vs', o1, o2, e1, e2, rfl, h1.mono hp (fun b hbb => hb b (by simp [hbb])) (fun b hbb => hw b (by simp [hbb])), h2.mono hp (fun b hbb => hb b (by simp [hbb])) (fun b hbb => hw b (by simp [hbb]))⟩
theorem ParV.mono {c : Par} {x : PV} {v : Value} {own : List Nat} (h : ParV P p w c x v own) (hp : p.le p') (hb : ∀ b ∈ own, ∀ o, p' b o = p b o) (hw : ∀ b ∈ own, w'.heap[b]? = w.heap[b]?) : ParV P p' w' c x v own := by
  cases c with
  | one c => exact ClV.mono h hp hb hw
  | many cs =>
    simp only [ParV] at h ⊢
    obtain ⟨xs, us, h1, h2, h3⟩ := h
    exact ⟨xs, us, h1, h2, h3.mono hp hb hw⟩
  | ptr g cs t =>
    simp only [ParV] at h ⊢
    obtain ⟨b, xs, cells, us, own', h1, h2, h3, h5, h4, h6, rfl⟩ := h
    exact ⟨b, xs, cells, us, own', h1, h2, by rw [hw b (by simp)]; exact h3, h5, fun o => by rw [hb b (by simp)]; exact h4 o, h6.mono hp (fun b' hbb => hb b' (by simp [hbb])) (fun b' hbb => hw b' (by simp [hbb])), rfl⟩
theorem ParsV.mono : ∀ {cs : List Par} {xs : List PV} {vs : List Value} {own : List Nat}, ParsV P p w cs xs vs own → p.le p' → (∀ b ∈ own, ∀ o, p' b o = p b o) → (∀ b ∈ own, w'.heap[b]? = w.heap[b]?) → ParsV P p' w' cs xs vs own
  | [], xs, vs, own, h, hp, hb, hw => h
  | c :: cs, xs, vs, own, h, hp, hb, hw => by
    simp only [ParsV] at h ⊢
    obtain ⟨x, xs', v, vs', o1, o2, e1, e2, rfl, h1, h2⟩ := h
    exact ⟨x, xs', v, vs', o1, o2, e1, e2, rfl, h1.mono hp (fun b hbb => hb b (by simp [hbb])) (fun b hbb => hw b (by simp [hbb])), h2.mono hp (fun b hbb => hb b (by simp [hbb])) (fun b hbb => hw b (by simp [hbb]))⟩

/-- Blocks leave a heap. -/
structure Left (p : Pins) (ρ : Rho) (H : Heap) (w : World) (p' : Pins) (H' : Heap) (own : List Nat) : Prop where
  step : Step p ρ H w p' ρ H' w
  len : H'.length = H.length
  nodup : own.Nodup
  was : ∀ b ∈ own, mine ρ H b
  gone : ∀ b ∈ own, ¬ mine ρ H' b
theorem Rel.mine_lt (h : Rel P env p ρ H w) {b : Nat} (hm : mine ρ H b) : b < w.heap.size := by
  obtain ⟨i, m, B, hi, _, _⟩ := hm
  exact (h.dom i _ hi).2 b rfl
theorem Left.pins {own : List Nat} {H' H'' : Heap} {p'' : Pins} (hr : Rel P env p ρ H w) (h : Left p ρ H w p' H' own) (k : Step p' ρ H' w p'' ρ H'' w) : ∀ b ∈ own, ∀ o, p'' b o = p' b o := by
  intro b hb o
  cases e : p'' b o with
  | none =>
    cases e' : p' b o with
    | none => rfl
    | some v => have := k.pins b o v e'; rw [e] at this; simp at this
  | some v =>
    rcases k.fresh b o v e with h1 | h1 | h1
    · exact h1.symm
    · exact absurd h1 (h.gone b hb)
    · have := hr.mine_lt (h.was b hb); omega
theorem Left.trans {o1 o2 : List Nat} {H' H'' : Heap} {p'' : Pins} (hr : Rel P env p ρ H w) (hr' : Rel P env p' ρ H' w) (h : Left p ρ H w p' H' o1) (k : Left p' ρ H' w p'' H'' o2) : Left p ρ H w p'' H'' (o1 ++ o2) := by
  refine ⟨h.step.trans k.step, k.len.trans h.len, ?_, ?_, ?_⟩
  · rw [List.nodup_append]
    refine ⟨h.nodup, k.nodup, fun a ha b hb e => ?_⟩
    subst e
    exact h.gone a ha (k.was a hb)
  · intro b hb
    rcases List.mem_append.1 hb with hb | hb
    · exact h.was b hb
    · exact h.step.new b (hr'.mine_lt (k.was b hb)) (k.was b hb)
  · intro b hb
    rcases List.mem_append.1 hb with hb | hb
    · intro hm
      exact h.gone b hb (k.step.new b (hr.mine_lt (h.was b hb)) hm)
    · exact k.gone b hb
theorem Left.nil {H' : Heap} (h : Step p ρ H w p' ρ H' w) (hl : H'.length = H.length) : Left p ρ H w p' H' [] := ⟨h, hl, by simp, by simp, by simp⟩

theorem froze_len (a : AV) : (froze H a).2.length = H.length := by
  unfold froze
  split
  · split
    · split <;> simp
    · rfl
  · rfl

theorem closeCl_ok (h : Rel P env p ρ H w) {a : AV} {c : Cl} {e : SE} {H' : Heap} {v : Value} (hc : closeCl P H a c = some (e, H')) (hv : val P env p ρ a v) :
    ∃ p' own, Rel P env p' ρ H' w ∧ Left p ρ H w p' H' own ∧ ClV P p' w c (e.dn env) v own := by
  cases c with
  | nil t =>
    simp only [closeCl] at hc
    split at hc
    · split at hc
      · rename_i sz ag h1 h2
        simp only [Option.some.injEq, Prod.mk.injEq] at hc
        obtain ⟨rfl, rfl⟩ := hc
        simp only [val] at hv
        exact ⟨p, [], h, Left.nil (Step.refl p ρ H w) rfl, by simp only [ClV]; exact ⟨sz, ag, rfl, h1, h2, hv, trivial⟩⟩
      · simp at hc
    · simp at hc
  | pv k =>
    simp only [closeCl, Option.map_eq_some_iff, Prod.mk.injEq] at hc
    obtain ⟨e', he, rfl, rfl⟩ := hc
    obtain ⟨p', g1, g2, g3⟩ := froze_ok h hv
    obtain ⟨q1, q2⟩ := toSE_ok he g3
    exact ⟨p', [], g1, Left.nil g2 (froze_len a), by simp only [ClV]; exact ⟨q1, q2, trivial⟩⟩
  | own t wr =>
    have nil : ∀ ad, v = .slice ad 0 0 → (match sizeA P t, isAggA P t with
      | some sz, some ag => if 0 < sz then some (seNil sz ag, H) else none
      | _, _ => none) = some (e, H') → ∃ p' own, Rel P env p' ρ H' w ∧ Left p ρ H w p' H' own ∧ ClV P p' w (.own t wr) (e.dn env) v own := by
      intro ad hv' hc
      split at hc
      · rename_i sz ag h1 h2
        split at hc
        · rename_i h0
          simp only [Option.some.injEq, Prod.mk.injEq] at hc
          obtain ⟨rfl, rfl⟩ := hc
          refine ⟨p, [], h, Left.nil (Step.refl p ρ H w) rfl, ?_⟩
          simp only [ClV]
          exact ⟨none, 0, sz, ag, [], ad, rfl, h1, h2, by simp [wtEs], hv', by simp, rfl, h0, Nat.le_refl _, fun _ => rfl, fun b hb => by simp at hb⟩
        · simp at hc
      · simp at hc
    simp only [closeCl] at hc
    split at hc
    · rename_i i n
      split at hc
      · rename_i e' n' sz ag t' wr' hg
        split at hc
        · rename_i hcond
          obtain ⟨rfl, rfl, hwr⟩ := hcond
          simp only [Option.some.injEq, Prod.mk.injEq] at hc
          obtain ⟨rfl, rfl⟩ := hc
          simp only [val] at hv
          obtain ⟨ao, cp, m, ad, hρ, hm, rfl, hmc, hc0, had⟩ := hv
          have hB := h.blk i _ _ hρ hg
          simp only [blkRel] at hB
          obtain ⟨a', c', xs, e1, e2, e3, e4, hrow⟩ := hB
          rw [hρ] at e1
          simp only [Option.some.injEq, Prod.mk.injEq] at e1
          obtain ⟨rfl, rfl⟩ := e1
          rw [hm] at e4
          simp only [PV.int.injEq, true_and] at e4
          have hmx : m = xs.length := by omega
          subst hmx
          obtain ⟨sz', ag', xs', hxs, hsz, hag, hws⟩ := wt_list e3
          simp only [PV.list.injEq] at hxs
          obtain ⟨rfl, rfl, rfl⟩ := hxs
          obtain ⟨d1, d2⟩ := h.kill i
          have hlt : i < H.length := (List.getElem?_eq_some_iff.1 hg).1
          refine ⟨p, ao.toList, d1, ⟨d2, by simp, by cases ao <;> simp, fun b hb => ?_, fun b hb => ?_⟩, ?_⟩
          · have hao : ao = some b := by cases ao <;> simp at hb ⊢; exact hb.symm
            exact ⟨i, cp, _, by rw [hρ, hao], hg, rfl⟩
          · have hao : ao = some b := by cases ao <;> simp at hb ⊢; exact hb.symm
            rintro ⟨j, m, B, hj, hB, hal⟩
            rcases (get_set hlt).1 hB with ⟨_, rfl⟩ | ⟨hji, hB⟩
            · simp [Blk.alive] at hal
            · exact hji (h.inj j i b m cp B _ hj (by rw [hρ, hao]) hB hg hal rfl)
          · simp only [ClV]
            exact ⟨ao, cp, sz, ag, xs, ad, e2, hsz, hag, hws, rfl, had, rfl, RowOk_wr hrow (fun hw => by
              rcases hwr with h1 | h1
              · rw [h1] at hw; simp at hw
              · exact h1)⟩
        · simp at hc
      · simp at hc
    · simp only [val] at hv
      obtain ⟨ad, rfl⟩ := hv
      exact nil ad rfl hc
    · simp only [val] at hv
      exact nil none hv hc
    · simp at hc

theorem closeCls_ok : ∀ (as : List AV) (cs : List Cl) {p : Pins} {H : Heap} {es : List SE} {H' : Heap} {vs : List Value}, Rel P env p ρ H w → closeCls P H as cs = some (es, H') → vals P env p ρ as vs →
    ∃ p' own, Rel P env p' ρ H' w ∧ Left p ρ H w p' H' own ∧ ClsV P p' w cs (es.map (·.dn env)) vs own
  | [], [], p, H, es, H', vs, h, hc, hv => by
    simp only [closeCls, Option.some.injEq, Prod.mk.injEq] at hc
    obtain ⟨rfl, rfl⟩ := hc
    exact ⟨p, [], h, Left.nil (Step.refl p ρ H w) rfl, by simp only [ClsV]; exact ⟨rfl, vals_nil_inv hv, trivial⟩⟩
  | [], _ :: _, p, H, es, H', vs, h, hc, hv => by simp [closeCls] at hc
  | _ :: _, [], p, H, es, H', vs, h, hc, hv => by simp [closeCls] at hc
  | a :: as, c :: cs, p, H, es, H', vs, h, hc, hv => by
    simp only [closeCls] at hc
    split at hc
    · simp at hc
    · rename_i e H1 h1
      split at hc
      · simp at hc
      · rename_i es' H2 h2
        simp only [Option.some.injEq, Prod.mk.injEq] at hc
        obtain ⟨rfl, rfl⟩ := hc
        simp only [vals] at hv
        obtain ⟨v, r, rfl, g1, g2⟩ := hv
        obtain ⟨p1, o1, k1, k2, k3⟩ := closeCl_ok h h1 g1
        obtain ⟨p2, o2, l1, l2, l3⟩ := closeCls_ok as cs k1 h2 (vals_mono k2.step.pins (Rho.le_refl ρ) _ _ g2)
        refine ⟨p2, o1 ++ o2, l1, Left.trans h k1 k2 l2, ?_⟩
        simp only [List.map_cons, ClsV]
        exact ⟨_, _, _, _, o1, o2, rfl, rfl, rfl, k3.mono l2.step.pins (k2.pins h l2.step) (fun _ _ => rfl), l3⟩

theorem closePar_ok (h : Rel P env p ρ H w) {a : AV} {c : Par} {e : SE} {H' : Heap} {v : Value} (hc : closePar P H a c = some (e, H')) (hv : val P env p ρ a v) :
    ∃ p' own, Rel P env p' ρ H' w ∧ Left p ρ H w p' H' own ∧ ParV P p' w c (e.dn env) v own := by
  unfold closePar at hc
  split at hc
  · exact closeCl_ok h hc hv
  · rename_i cs as
    simp only [Option.map_eq_some_iff, Prod.mk.injEq] at hc
    obtain ⟨⟨es, H1⟩, hq, rfl, rfl⟩ := hc
    simp only [val] at hv
    obtain ⟨us, rfl, hus⟩ := hv
    obtain ⟨p', own, h1, h2, h3⟩ := closeCls_ok as cs h hq hus
    exact ⟨p', own, h1, h2, by simp only [ParV]; exact ⟨_, us, mkSE_dn es, rfl, h3⟩⟩
  · rename_i a g cs t
    split at hc
    · simp at hc
    rename_i i hun
    have hun := unwrapA_eq hun
    subst hun
    rw [val_wrap] at hv
    split at hc
    · rename_i as t' hg
      split at hc
      · rename_i htt
        subst htt
        simp only [Option.map_eq_some_iff, Prod.mk.injEq] at hc
        obtain ⟨⟨es, H1⟩, hq, rfl, rfl⟩ := hc
        obtain ⟨b, m, hi, rfl⟩ := hv
        obtain ⟨cells, hb, hsz, hno, hcs⟩ := h.cells hi hg
        obtain ⟨d1, d2⟩ := h.kill i
        have hlt : i < H.length := (List.getElem?_eq_some_iff.1 hg).1
        have hus1 : vals P env p ρ as cells.toList := vals_of_get (by simpa using hsz) fun k a hk => by
          obtain ⟨v, hv, hr⟩ := hcs k a hk
          exact ⟨v, by simpa using hv, hr⟩
        have left1 : Left p ρ H w p (H.set i .dead) [b] := by
          refine ⟨d2, by simp, by simp, fun b' hb' => ?_, fun b' hb' => ?_⟩
          · simp only [List.mem_singleton] at hb'
            subst hb'
            exact ⟨i, m, _, hi, hg, rfl⟩
          · simp only [List.mem_singleton] at hb'
            subst hb'
            rintro ⟨j, m', B, hj, hB, hal⟩
            rcases (get_set hlt).1 hB with ⟨_, rfl⟩ | ⟨hji, hB⟩
            · simp [Blk.alive] at hal
            · exact hji (h.inj j i b' m' m B _ hj hi hB hg hal rfl)
        obtain ⟨p', own, h1, h2, h3⟩ := closeCls_ok as cs d1 hq hus1
        refine ⟨p', b :: own, h1, Left.trans h d1 left1 h2, ?_⟩
        simp only [ParV]
        exact ⟨b, _, cells, _, own, mkSE_dn es, rfl, hb, rfl, fun o => by rw [left1.pins h h2.step b (by simp)]; exact hno o, h3, rfl⟩
      · simp at hc
    · simp at hc
  · simp at hc

theorem closePars_ok : ∀ (as : List AV) (cs : List Par) {p : Pins} {H : Heap} {es : List SE} {H' : Heap} {vs : List Value}, Rel P env p ρ H w → closePars P H as cs = some (es, H') → vals P env p ρ as vs →
    ∃ p' own, Rel P env p' ρ H' w ∧ Left p ρ H w p' H' own ∧ ParsV P p' w cs (es.map (·.dn env)) vs own
  | [], [], p, H, es, H', vs, h, hc, hv => by
    simp only [closePars, Option.some.injEq, Prod.mk.injEq] at hc
    obtain ⟨rfl, rfl⟩ := hc
    exact ⟨p, [], h, Left.nil (Step.refl p ρ H w) rfl, by simp only [ParsV]; exact ⟨rfl, vals_nil_inv hv, trivial⟩⟩
  | [], _ :: _, p, H, es, H', vs, h, hc, hv => by simp [closePars] at hc
  | _ :: _, [], p, H, es, H', vs, h, hc, hv => by simp [closePars] at hc
  | a :: as, c :: cs, p, H, es, H', vs, h, hc, hv => by
    simp only [closePars] at hc
    split at hc
    · simp at hc
    · rename_i e H1 h1
      split at hc
      · simp at hc
      · rename_i es' H2 h2
        simp only [Option.some.injEq, Prod.mk.injEq] at hc
        obtain ⟨rfl, rfl⟩ := hc
        simp only [vals] at hv
        obtain ⟨v, r, rfl, g1, g2⟩ := hv
        obtain ⟨p1, o1, k1, k2, k3⟩ := closePar_ok h h1 g1
        obtain ⟨p2, o2, l1, l2, l3⟩ := closePars_ok as cs k1 h2 (vals_mono k2.step.pins (Rho.le_refl ρ) _ _ g2)
        refine ⟨p2, o1 ++ o2, l1, Left.trans h k1 k2 l2, ?_⟩
        simp only [List.map_cons, ParsV]
        exact ⟨_, _, _, _, o1, o2, rfl, rfl, rfl, k3.mono l2.step.pins (k2.pins h l2.step) (fun _ _ => rfl), l3⟩

/-! ### Opening -/
/-- Blocks come into a heap. -/
structure Come (ρ : Rho) (H : Heap) (ρ' : Rho) (H' : Heap) (own : List Nat) : Prop where
  le : ρ.le ρ'
  len : H.length ≤ H'.length
  mine : ∀ b, mine ρ' H' b → Go.Dv.mine ρ H b ∨ b ∈ own
  born : ∀ i x, ρ' i = some x → ρ i = some x ∨ H.length ≤ i
  old : ∀ i, i < H.length → H'[i]? = H[i]?
theorem Come.refl (ρ : Rho) (H : Heap) : Come ρ H ρ H [] := ⟨Rho.le_refl ρ, Nat.le_refl _, fun _ h => .inl h, fun _ _ h => .inl h, fun _ _ => rfl⟩
theorem Come.trans {ρ ρ' ρ'' : Rho} {H H' H'' : Heap} {o1 o2 : List Nat} (h : Come ρ H ρ' H' o1) (k : Come ρ' H' ρ'' H'' o2) : Come ρ H ρ'' H'' (o1 ++ o2) := by
  refine ⟨Rho.le_trans h.le k.le, Nat.le_trans h.len k.len, fun b hb => ?_, fun i x hx => ?_, fun i hi => ?_⟩
  · rcases k.mine b hb with h1 | h1
    · rcases h.mine b h1 with h2 | h2
      · exact .inl h2
      · exact .inr (by simp [h2])
    · exact .inr (by simp [h1])
  · rcases k.born i x hx with h1 | h1
    · exact h.born i x h1
    · exact .inr (Nat.le_trans h.len h1)
  · rw [k.old i (by have := h.len; omega), h.old i hi]

/-- One block comes in. -/
theorem come_one (h : Rel P env p ρ H w) {x : Option Nat × Nat} {B : Blk} (hlt : ∀ b, x.1 = some b → b < w.heap.size) (hno : ∀ b, x.1 = some b → ¬ mine ρ H b) (hB : blkRel P env p (upd ρ H.length x) w H.length B) :
    Rel P env p (upd ρ H.length x) (H ++ [B]) w ∧ Come ρ H (upd ρ H.length x) (H ++ [B]) x.1.toList := by
  refine ⟨h.alias (fun b hb => ⟨hlt b hb, fun i m C hi hC => ?_⟩) hB, upd_le h.free, by simp, fun b hb => ?_, fun i y hy => upd_born hy, fun i hi => by rw [List.getElem?_append_left hi]⟩
  · cases hal : C.alive with
    | false => rfl
    | true => exact absurd ⟨i, m, C, hi, hC, hal⟩ (hno b hb)
  · obtain ⟨i, m, C, hi, hC, hal⟩ := hb
    rcases get_push.1 hC with ⟨hlt', hC⟩ | ⟨rfl, rfl⟩
    · rw [upd_ne (by omega)] at hi
      exact .inl ⟨i, m, C, hi, hC, hal⟩
    · rw [upd_self] at hi
      simp only [Option.some.injEq] at hi
      exact .inr (by rw [hi]; simp)

theorem openCl_ok (h : Rel P env p ρ H w) {c : Cl} {e : SE} {v : Value} {own : List Nat} (hv : ClV P p w c (e.dn env) v own) (hno : ∀ b ∈ own, ¬ mine ρ H b) :
    ∃ ρ', Rel P env p ρ' (openCl P H e c).2 w ∧ Come ρ H ρ' (openCl P H e c).2 own ∧ val P env p ρ' (openCl P H e c).1 v := by
  cases c with
  | nil t =>
    simp only [ClV] at hv
    obtain ⟨sz, ag, h1, h2, h3, h4, rfl⟩ := hv
    exact ⟨ρ, h, Come.refl ρ H, by simp only [openCl, val]; exact h4⟩
  | pv k =>
    simp only [ClV] at hv
    obtain ⟨h1, h2, rfl⟩ := hv
    exact ⟨ρ, h, Come.refl ρ H, by simp only [openCl, val]; exact ⟨h1, h2⟩⟩
  | own t wr =>
    simp only [ClV] at hv
    obtain ⟨a, cp, sz, ag, xs, ad, h1, h2, h3, h4, rfl, h6, rfl, h8⟩ := hv
    have hn : (SE.o1 .len e).dn env = .int .i64 (xs.length : Nat) := by simp [SE.dn, O1.dn, h1, PV.l]
    have hlt : ∀ b, a = some b → b < w.heap.size := fun b hb => by
      obtain ⟨_, _, _, h⟩ := h8
      obtain ⟨cs, hb', _⟩ := h b hb
      exact (Array.getElem?_eq_some_iff.1 hb').1
    obtain ⟨g1, g2⟩ := come_one (x := (a, cp)) (B := .lst e (.o1 .len e) sz ag t wr) h hlt (fun b hb => hno b (by simp at hb; rw [hb]; simp)) (by
      simp only [blkRel]
      exact ⟨a, cp, xs, upd_self, h1, wt_list_mk h2 h3 h4, hn, h8⟩)
    refine ⟨_, by simpa [openCl, h2, h3] using g1, by simpa [openCl, h2, h3] using g2, ?_⟩
    simp only [openCl, val]
    exact ⟨a, cp, xs.length, ad, upd_self, hn, rfl, h8.2.1, h8.2.2.1, h6⟩

theorem fld_eq {e : SE} {xs : List PV} {i : Nat} {x : PV} {r : List PV} (he : e.dn env = .agg xs) (hx : xs.drop i = x :: r) : (seFld e i).dn env = x := by
  rw [seFld_dn, he]
  simp only [PV.cs, List.getD_eq_getElem?_getD]
  have := congrArg (fun l => l[0]?) hx
  simp at this
  simp [this]
theorem drop_tail {xs : List PV} {i : Nat} {x : PV} {r : List PV} (hx : xs.drop i = x :: r) : xs.drop (i + 1) = r := by
  have := congrArg List.tail hx
  simpa using this

theorem openCls_ok : ∀ (cs : List Cl) (i : Nat) {e : SE} {H : Heap} {ρ : Rho} {xs0 xs : List PV} {vs : List Value} {own : List Nat}, Rel P env p ρ H w → e.dn env = .agg xs0 → xs0.drop i = xs → ClsV P p w cs xs vs own → own.Nodup → (∀ b ∈ own, ¬ mine ρ H b) →
    ∃ ρ', Rel P env p ρ' (openCls P H e i cs).2 w ∧ Come ρ H ρ' (openCls P H e i cs).2 own ∧ vals P env p ρ' (openCls P H e i cs).1 vs
  | [], i, e, H, ρ, xs0, xs, vs, own, h, he, hx, hv, hnd, hno => by
    simp only [ClsV] at hv
    obtain ⟨rfl, rfl, rfl⟩ := hv
    exact ⟨ρ, h, Come.refl ρ H, by simp [openCls, vals]⟩
  | c :: cs, i, e, H, ρ, xs0, xs, vs, own, h, he, hx, hv, hnd, hno => by
    simp only [ClsV] at hv
    obtain ⟨x, xs', v, vs', o1, o2, e1, rfl, rfl, h1, h2⟩ := hv
    rw [e1] at hx
    rw [← fld_eq he hx] at h1
    rw [List.nodup_append] at hnd
    obtain ⟨ρ1, g1, g2, g3⟩ := openCl_ok h h1 (fun b hb => hno b (by simp [hb]))
    obtain ⟨ρ2, k1, k2, k3⟩ := openCls_ok cs (i + 1) g1 he (drop_tail hx) h2 hnd.2.1 (fun b hb hm => by
      rcases g2.mine b hm with h3 | h3
      · exact hno b (by simp [hb]) h3
      · exact hnd.2.2 b h3 b hb rfl)
    refine ⟨ρ2, by simpa [openCls] using k1, by simpa [openCls] using g2.trans k2, ?_⟩
    simp only [openCls, vals]
    exact ⟨v, vs', rfl, val_mono (Pins.le_refl p) k2.le _ _ g3, k3⟩

theorem openPar_ok (h : Rel P env p ρ H w) {c : Par} {e : SE} {v : Value} {own : List Nat} (hv : ParV P p w c (e.dn env) v own) (hnd : own.Nodup) (hno : ∀ b ∈ own, ¬ mine ρ H b) :
    ∃ ρ', Rel P env p ρ' (openPar P H e c).2 w ∧ Come ρ H ρ' (openPar P H e c).2 own ∧ val P env p ρ' (openPar P H e c).1 v := by
  cases c with
  | one c => exact openCl_ok h hv hno
  | many cs =>
    simp only [ParV] at hv
    obtain ⟨xs, us, he, rfl, hc⟩ := hv
    obtain ⟨ρ', g1, g2, g3⟩ := openCls_ok cs 0 h he rfl hc hnd hno
    exact ⟨ρ', g1, g2, by simp only [openPar, val]; exact ⟨us, rfl, g3⟩⟩
  | ptr g cs t =>
    simp only [ParV] at hv
    obtain ⟨b, xs, cells, us, own', he, rfl, hb, hcs, hp, hc, rfl⟩ := hv
    subst hcs
    rw [List.nodup_cons] at hnd
    obtain ⟨ρ', g1, g2, g3⟩ := openCls_ok cs 0 h he rfl hc hnd.2 (fun b' hb' => hno b' (by simp [hb']))
    obtain ⟨k1, k2⟩ := come_one (x := (some b, 0)) (B := .cells (openCls P H e 0 cs).1 t) g1 (fun b' hb' => by simp at hb'; subst hb'; exact (Array.getElem?_eq_some_iff.1 hb).1) (fun b' hb' hm => by
      simp at hb'
      subst hb'
      rcases g2.mine b hm with h3 | h3
      · exact hno b (by simp) h3
      · exact hnd.1 h3) (by
      simp only [blkRel]
      refine ⟨b, 0, cells, upd_self, hb, by have := vals_length g3; simpa using this, hp, fun k a hk => ?_⟩
      obtain ⟨u, hu, hr⟩ := vals_get g3 hk
      exact ⟨u, by simpa using hu, val_mono (Pins.le_refl p) (upd_le g1.free) _ _ hr⟩)
    refine ⟨_, k1, ?_, by simp only [openPar]; exact val_wrap.2 ⟨b, 0, upd_self, rfl⟩⟩
    have := g2.trans k2
    refine ⟨this.le, this.len, fun b' hb' => ?_, this.born, this.old⟩
    rcases this.mine b' hb' with h3 | h3
    · exact .inl h3
    · exact .inr (by simp at h3 ⊢; rcases h3 with h3 | h3 <;> simp [h3])

theorem openPars_ok : ∀ (cs : List Par) (i : Nat) {e : SE} {H : Heap} {ρ : Rho} {xs0 xs rest : List PV} {vs : List Value} {own : List Nat}, Rel P env p ρ H w → e.dn env = .agg xs0 → xs0.drop i = xs ++ rest → ParsV P p w cs xs vs own → own.Nodup → (∀ b ∈ own, ¬ mine ρ H b) →
    ∃ ρ', Rel P env p ρ' (openPars P H e i cs).2 w ∧ Come ρ H ρ' (openPars P H e i cs).2 own ∧ vals P env p ρ' (openPars P H e i cs).1 vs
  | [], i, e, H, ρ, xs0, xs, rest, vs, own, h, he, hx, hv, hnd, hno => by
    simp only [ParsV] at hv
    obtain ⟨rfl, rfl, rfl⟩ := hv
    exact ⟨ρ, h, Come.refl ρ H, by simp [openPars, vals]⟩
  | c :: cs, i, e, H, ρ, xs0, xs, rest, vs, own, h, he, hx, hv, hnd, hno => by
    simp only [ParsV] at hv
    obtain ⟨x, xs', v, vs', o1, o2, e1, rfl, rfl, h1, h2⟩ := hv
    rw [e1, List.cons_append] at hx
    rw [← fld_eq he hx] at h1
    rw [List.nodup_append] at hnd
    obtain ⟨ρ1, g1, g2, g3⟩ := openPar_ok h h1 hnd.1 (fun b hb => hno b (by simp [hb]))
    obtain ⟨ρ2, k1, k2, k3⟩ := openPars_ok cs (i + 1) g1 he (drop_tail hx) h2 hnd.2.1 (fun b hb hm => by
      rcases g2.mine b hm with h3 | h3
      · exact hno b (by simp [hb]) h3
      · exact hnd.2.2 b h3 b hb rfl)
    refine ⟨ρ2, by simpa [openPars] using k1, by simpa [openPars] using g2.trans k2, ?_⟩
    simp only [openPars, vals]
    exact ⟨v, vs', rfl, val_mono (Pins.le_refl p) k2.le _ _ g3, k3⟩
end
end Go.Dv

/- Slots and heads. -/
set_option linter.unusedVariables false
set_option linter.unusedSimpArgs false
namespace Go.Dv

def PlaceV (tmps : Array Value) (ρ : Rho) (w : World) (pl : Place) (v : Value) : Prop :=
  match pl with
  | .tmp d => tmps[d]? = some v
  | .cell i o => ∃ b m cells t, ρ i = some (some b, m) ∧ w.heap[b]? = some (.cells cells t (0, 0)) ∧ cells[o]? = some v
def PlacesV (tmps : Array Value) (ρ : Rho) (w : World) : List (Place × Par) → List Value → Prop
  | [], vs => vs = []
  | (pl, _) :: r, vs => ∃ v vs', vs = v :: vs' ∧ PlaceV tmps ρ w pl v ∧ PlacesV tmps ρ w r vs'

section
variable {P : Program} {env : List PV} {p : Pins} {ρ : Rho} {H : Heap} {w : World} {tmps : Array Value}

theorem placeAV_ok (h : Rel P env p ρ H w) {ts : List AV} (hts : vals P env p ρ ts tmps.toList) {pl : Place} {a : AV} (ha : placeAV ts H pl = some a) (hal : ∀ i o, pl = .cell i o → ∃ x, ρ i = some x) : ∃ v, val P env p ρ a v ∧ PlaceV tmps ρ w pl v := by
  cases pl with
  | tmp d =>
    simp only [placeAV] at ha
    obtain ⟨v, h1, h2⟩ := vals_get hts ha
    exact ⟨v, h2, by simpa [PlaceV] using h1⟩
  | cell i o =>
    simp only [placeAV] at ha
    split at ha
    · rename_i vs t hg
      obtain ⟨x, hx⟩ := hal i o rfl
      have hB := h.blk i x _ hx hg
      simp only [blkRel] at hB
      obtain ⟨b, m, cells, h1, h2, _, h3, h4⟩ := hB
      obtain ⟨v, h5, h6⟩ := h4 o a ha
      exact ⟨v, h6, by simp only [PlaceV]; exact ⟨b, m, cells, t, h1, h2, h5⟩⟩
    · simp at ha

theorem closeSlots_ok {ts : List AV} : ∀ (sl : List (Place × Par)) {p : Pins} {H : Heap} {es : List SE} {H' : Heap}, Rel P env p ρ H w → vals P env p ρ ts tmps.toList → closeSlots P ts H sl = some (es, H') → (∀ i o c, (Place.cell i o, c) ∈ sl → ∃ x, ρ i = some x) →
    ∃ p' own vs, Rel P env p' ρ H' w ∧ Left p ρ H w p' H' own ∧ ParsV P p' w (sl.map (·.2)) (es.map (·.dn env)) vs own ∧ PlacesV tmps ρ w sl vs
  | [], p, H, es, H', h, hts, hc, hal => by
    simp only [closeSlots, Option.some.injEq, Prod.mk.injEq] at hc
    obtain ⟨rfl, rfl⟩ := hc
    exact ⟨p, [], [], h, Left.nil (Step.refl p ρ H w) rfl, by simp [ParsV], by simp [PlacesV]⟩
  | (pl, c) :: r, p, H, es, H', h, hts, hc, hal => by
    simp only [closeSlots] at hc
    split at hc
    · simp at hc
    · rename_i a ha
      split at hc
      · simp at hc
      · rename_i e H1 h1
        split at hc
        · simp at hc
        · rename_i es' H2 h2
          simp only [Option.some.injEq, Prod.mk.injEq] at hc
          obtain ⟨rfl, rfl⟩ := hc
          obtain ⟨v, hv, hpl⟩ := placeAV_ok h hts ha (fun i o e => hal i o c (by simp [e]))
          obtain ⟨p1, o1, k1, k2, k3⟩ := closePar_ok h h1 hv
          obtain ⟨p2, o2, vs, l1, l2, l3, l4⟩ := closeSlots_ok r k1 (vals_mono k2.step.pins (Rho.le_refl ρ) _ _ hts) h2 (fun i o c' hm => hal i o c' (by simp [hm]))
          refine ⟨p2, o1 ++ o2, v :: vs, l1, Left.trans h k1 k2 l2, ?_, ?_⟩
          · simp only [List.map_cons, ParsV]
            exact ⟨_, _, _, _, o1, o2, rfl, rfl, rfl, k3.mono l2.step.pins (k2.pins h l2.step) (fun _ _ => rfl), l3⟩
          · simp only [PlacesV]
            exact ⟨v, vs, rfl, hpl, l4⟩

theorem setPlace_ok (h : Rel P env p ρ H w) {ts : List AV} (hts : vals P env p ρ ts tmps.toList) {pl : Place} {a : AV} {v : Value} (hpl : PlaceV tmps ρ w pl v) (hv : val P env p ρ a v) :
    Rel P env p ρ (setPlace ts H a pl).2 w ∧ vals P env p ρ (setPlace ts H a pl).1 tmps.toList ∧ (setPlace ts H a pl).2.length = H.length ∧ ∀ b, mine ρ (setPlace ts H a pl).2 b → mine ρ H b := by
  cases pl with
  | tmp d =>
    simp only [PlaceV] at hpl
    refine ⟨h, ?_, rfl, fun b hb => hb⟩
    simp only [setPlace]
    have := vals_set hts d hv
    have e : tmps.toList.set d v = tmps.toList := by
      apply List.ext_getElem?
      intro k
      rw [List.getElem?_set]
      split
      · rename_i e
        subst e
        split
        · simpa using hpl.symm
        · rename_i hlt
          have := (Array.getElem?_eq_some_iff.1 hpl).1
          simp at hlt
          omega
      · rfl
    rw [e] at this
    exact this
  | cell i o =>
    simp only [setPlace]
    split
    · rename_i vs t0 hg
      simp only [PlaceV] at hpl
      obtain ⟨b, m, cells, t, h1, h2, h3⟩ := hpl
      obtain ⟨cells', h4, hsz, hno, hcs⟩ := h.cells h1 hg
      rw [h2] at h4
      simp only [Option.some.injEq, Obj.cells.injEq] at h4
      obtain ⟨rfl, rfl, _⟩ := h4
      have hlt : i < H.length := (List.getElem?_eq_some_iff.1 hg).1
      obtain ⟨g1, g2⟩ := h.set (C := .cells (vs.set o a) t) h1 hg rfl w ⟨rfl, rfl, rfl, rfl, fun _ _ => rfl⟩ (by
        simp only [blkRel]
        refine ⟨b, m, cells, h1, h2, by simpa using hsz, hno, fun k a' hk => ?_⟩
        rw [List.getElem?_set] at hk
        split at hk
        · rename_i e
          subst e
          split at hk
          · simp only [Option.some.injEq] at hk
            subst hk
            exact ⟨v, h3, hv⟩
          · simp at hk
        · exact hcs k a' hk) (fun b' o' v' hb' hv' => by
        simp only [Option.some.injEq] at hb'
        subst hb'
        rw [hno] at hv'
        simp at hv')
      refine ⟨g1, hts, by simp, fun b' hb' => ?_⟩
      exact g2.new b' (g1.mine_lt hb') hb'
    · exact ⟨h, hts, rfl, fun b hb => hb⟩

structure Come2 (ρ : Rho) (H : Heap) (ρ' : Rho) (H' : Heap) (own : List Nat) : Prop where
  le : ρ.le ρ'
  len : H.length ≤ H'.length
  mine : ∀ b, mine ρ' H' b → Go.Dv.mine ρ H b ∨ b ∈ own
  born : ∀ i x, ρ' i = some x → ρ i = some x ∨ H.length ≤ i

theorem PlaceV.mono {ρ' : Rho} {pl : Place} {v : Value} (h : PlaceV tmps ρ w pl v) (hle : ρ.le ρ') : PlaceV tmps ρ' w pl v := by
  cases pl with
  | tmp d => exact h
  | cell i o =>
    simp only [PlaceV] at h ⊢
    obtain ⟨b, m, cells, t, h1, h2⟩ := h
    exact ⟨b, m, cells, t, hle _ _ h1, h2⟩
theorem PlacesV.mono {ρ' : Rho} : ∀ {sl : List (Place × Par)} {vs : List Value}, PlacesV tmps ρ w sl vs → ρ.le ρ' → PlacesV tmps ρ' w sl vs
  | [], vs, h, hle => h
  | (pl, c) :: r, vs, h, hle => by
    simp only [PlacesV] at h ⊢
    obtain ⟨v, vs', rfl, h1, h2⟩ := h
    exact ⟨v, vs', rfl, h1.mono hle, h2.mono hle⟩

theorem openSlots_ok : ∀ (sl : List (Place × Par)) (j : Nat) {r : SE} {ts : List AV} {H : Heap} {ρ : Rho} {xs0 xs : List PV} {vs : List Value} {own : List Nat}, Rel P env p ρ H w → vals P env p ρ ts tmps.toList → r.dn env = .agg xs0 → xs0.drop j = xs → ParsV P p w (sl.map (·.2)) xs vs own → PlacesV tmps ρ w sl vs → own.Nodup → (∀ b ∈ own, ¬ mine ρ H b) →
    ∃ ρ', Rel P env p ρ' (openSlots P r j sl ts H).2 w ∧ Come2 ρ H ρ' (openSlots P r j sl ts H).2 own ∧ vals P env p ρ' (openSlots P r j sl ts H).1 tmps.toList
  | [], j, r, ts, H, ρ, xs0, xs, vs, own, h, hts, hr, hx, hv, hpl, hnd, hno => by
    simp only [List.map_nil, ParsV] at hv
    obtain ⟨rfl, rfl, rfl⟩ := hv
    exact ⟨ρ, h, ⟨Rho.le_refl ρ, Nat.le_refl _, fun _ h => .inl h, fun _ _ h => .inl h⟩, hts⟩
  | (pl, c) :: sl, j, r, ts, H, ρ, xs0, xs, vs, own, h, hts, hr, hx, hv, hpl, hnd, hno => by
    simp only [List.map_cons, ParsV] at hv
    obtain ⟨x, xs', v, vs', o1, o2, e1, rfl, rfl, h1, h2⟩ := hv
    simp only [PlacesV] at hpl
    obtain ⟨v', vs'', e2, p1, p2⟩ := hpl
    simp only [List.cons.injEq] at e2
    obtain ⟨rfl, rfl⟩ := e2
    rw [e1] at hx
    rw [← fld_eq hr hx] at h1
    rw [List.nodup_append] at hnd
    obtain ⟨ρ1, g1, g2, g3⟩ := openPar_ok h h1 hnd.1 (fun b hb => hno b (by simp [hb]))
    obtain ⟨s1, s2, s3, s4⟩ := setPlace_ok g1 (vals_mono (Pins.le_refl p) g2.le _ _ hts) (p1.mono g2.le) g3
    obtain ⟨ρ2, k1, k2, k3⟩ := openSlots_ok sl (j + 1) s1 s2 hr (drop_tail hx) h2 (p2.mono g2.le) hnd.2.1 (fun b hb hm => by
      rcases g2.mine b (s4 b hm) with h3 | h3
      · exact hno b (by simp [hb]) h3
      · exact hnd.2.2 b h3 b hb rfl)
    refine ⟨ρ2, by simpa [openSlots] using k1, ?_, by simpa [openSlots] using k3⟩
    simp only [openSlots]
    refine ⟨Rho.le_trans g2.le k2.le, by have := k2.len; have := g2.len; omega, fun b hb => ?_, fun i y hy => ?_⟩
    · rcases k2.mine b hb with h3 | h3
      · rcases g2.mine b (s4 b h3) with h4 | h4
        · exact .inl h4
        · exact .inr (by simp [h4])
      · exact .inr (by simp [h3])
    · rcases k2.born i y hy with h3 | h3
      · exact g2.born i y h3
      · have := g2.len
        exact .inr (by omega)

/-! ### A state that says less -/
theorem leV_val {i o : Nat} {a b : AV} (h : leV i o a b = true) {v : Value} (hv : val P env p ρ b v) : val P env p ρ a v := by
  unfold leV at h
  split at h
  · simp [val]
  · rename_i j q
    simp only [Bool.or_eq_true, Bool.and_eq_true, beq_iff_eq] at h
    rcases h with h | ⟨⟨rfl, rfl⟩, h⟩
    · rw [AV.beq_eq h]; exact hv
    · unfold slfOk at h
      split at h
      · simp only [val] at hv ⊢
        exact .inl hv
      · simp only [Bool.and_eq_true, beq_iff_eq] at h
        obtain ⟨rfl, rfl⟩ := h
        exact hv
      · simp at h
  · rw [AV.beq_eq h]; exact hv
theorem leC_get {i : Nat} : ∀ (o : Nat) (as bs : List AV), leC i o as bs = true → ∀ (k : Nat) (a : AV), as[k]? = some a → ∃ b, bs[k]? = some b ∧ leV i (o + k) a b = true
  | o, [], [], h, k, a, hk => by simp at hk
  | o, [], _ :: _, h, k, a, hk => by simp at hk
  | o, _ :: _, [], h, k, a, hk => by simp [leC] at h
  | o, x :: as, y :: bs, h, k, a, hk => by
    simp only [leC, Bool.and_eq_true] at h
    cases k with
    | zero => simp at hk; subst hk; exact ⟨y, by simp, h.1⟩
    | succ k =>
      obtain ⟨b, h1, h2⟩ := leC_get (o + 1) as bs h.2 k a (by simpa using hk)
      exact ⟨b, by simpa using h1, by rw [show o + (k + 1) = o + 1 + k by omega]; exact h2⟩
theorem leC_len {i : Nat} : ∀ (o : Nat) (as bs : List AV), leC i o as bs = true → bs.length = as.length
  | o, [], [], h => rfl
  | o, [], _ :: _, h => by simp [leC] at h
  | o, _ :: _, [], h => by simp [leC] at h
  | o, x :: as, y :: bs, h => by
    simp only [leC, Bool.and_eq_true] at h
    simp [leC_len (o + 1) as bs h.2]
theorem leH_get : ∀ (i : Nat) (bs cs : Heap), leH i bs cs = true → ∀ (k : Nat) (B : Blk), bs[k]? = some B → ∃ C, cs[k]? = some C ∧ leB (i + k) B C = true
  | i, [], cs, h, k, B, hk => by simp at hk
  | i, b :: bs, [], h, k, B, hk => by simp [leH] at h
  | i, b :: bs, c :: cs, h, k, B, hk => by
    simp only [leH, Bool.and_eq_true] at h
    cases k with
    | zero => simp at hk; subst hk; exact ⟨c, by simp, h.1⟩
    | succ k =>
      obtain ⟨C, h1, h2⟩ := leH_get (i + 1) bs cs h.2 k B (by simpa using hk)
      exact ⟨C, by simpa using h1, by rw [show i + (k + 1) = i + 1 + k by omega]; exact h2⟩
theorem leT_vals : ∀ (as bs : List AV) (vs : List Value), leT as bs = true → vals P env p ρ bs vs → vals P env p ρ as vs
  | [], [], vs, h, hv => hv
  | [], _ :: _, vs, h, hv => by simp [leT] at h
  | _ :: _, [], vs, h, hv => by simp [leT] at h
  | a :: as, b :: bs, vs, h, hv => by
    simp only [leT, Bool.and_eq_true] at h
    simp only [vals] at hv ⊢
    obtain ⟨v, r, e, h1, h2⟩ := hv
    refine ⟨v, r, e, ?_, leT_vals as bs r h.2 h2⟩
    have h0 := h.1
    split at h0
    · simp [val]
    · rw [AV.beq_eq h0]; exact h1
theorem leL_eq : ∀ (as bs : List (List AV)), leL as bs = true → as = bs
  | [], [], h => rfl
  | [], _ :: _, h => by simp [leL] at h
  | _ :: _, [], h => by simp [leL] at h
  | a :: as, b :: bs, h => by
    simp only [leL, Bool.and_eq_true] at h
    rw [AV.beqL_eq h.1, leL_eq as bs h.2]

def cutR (ρ : Rho) (n : Nat) : Rho := fun j => if j < n then ρ j else none
theorem cutR_lt {n i : Nat} (h : i < n) : cutR ρ n i = ρ i := by simp [cutR, h]
theorem cutR_some {n i : Nat} {x : Option Nat × Nat} (h : cutR ρ n i = some x) : i < n ∧ ρ i = some x := by
  unfold cutR at h
  split at h
  · exact ⟨by assumption, h⟩
  · simp at h
mutual
theorem val_cut {n : Nat} : ∀ (a : AV), AV.refs n a = true → ∀ v, val P env p ρ a v → val P env p (cutR ρ n) a v
  | .un, _, v, _ => by simp [val]
  | .pv k e, hu, v, hv => by simpa [val] using hv
  | .ptr i o, hu, v, hv => by
    simp only [AV.refs, decide_eq_true_eq] at hu
    simp only [val, cutR_lt hu] at hv ⊢
    exact hv
  | .nilp, _, v, hv => by simpa [val] using hv
  | .slf i o, hu, v, hv => by
    simp only [AV.refs, decide_eq_true_eq] at hu
    simp only [val, cutR_lt hu] at hv ⊢
    exact hv
  | .nils, _, v, hv => by simpa [val] using hv
  | .emp, _, v, hv => by simpa [val] using hv
  | .el e x o t, hu, v, hv => by simpa [val] using hv
  | .own i m, hu, v, hv => by
    simp only [AV.refs, decide_eq_true_eq] at hu
    simp only [val, cutR_lt hu] at hv ⊢
    exact hv
  | .elo i m x o z, hu, v, hv => by
    simp only [AV.refs, decide_eq_true_eq] at hu
    simp only [val, cutR_lt hu] at hv ⊢
    exact hv
  | .fn f xs ys, hu, v, hv => by
    simp only [AV.refs, Bool.and_eq_true] at hu
    simp only [val] at hv ⊢
    obtain ⟨us, ws, e, h1, h2⟩ := hv
    exact ⟨us, ws, e, vals_cut xs hu.1 _ h1, vals_cut ys hu.2 _ h2⟩
  | .nilfn, _, v, hv => by simpa [val] using hv
  | .agg xs, hu, v, hv => by
    simp only [AV.refs] at hu
    simp only [val] at hv ⊢
    obtain ⟨us, e, h1⟩ := hv
    exact ⟨us, e, vals_cut xs hu _ h1⟩
  | .tup xs, hu, v, hv => by
    simp only [AV.refs] at hu
    simp only [val] at hv ⊢
    obtain ⟨us, e, h1⟩ := hv
    exact ⟨us, e, vals_cut xs hu _ h1⟩
theorem vals_cut {n : Nat} : ∀ (as : List AV), AV.refsL n as = true → ∀ vs, vals P env p ρ as vs → vals P env p (cutR ρ n) as vs
  | [], _, vs, hv => by simpa [vals] using hv
  | a :: as, hu, vs, hv => by
    simp only [AV.refsL, Bool.and_eq_true] at hu
    simp only [vals] at hv ⊢
    obtain ⟨v, r, e, h1, h2⟩ := hv
    exact ⟨v, r, e, val_cut a hu.1 v h1, vals_cut as hu.2 r h2⟩
end
theorem refsL_get {n : Nat} {as : List AV} (h : AV.refsL n as = true) {a : AV} (ha : a ∈ as) : AV.refs n a = true := by
  induction as with
  | nil => simp at ha
  | cons x xs ih =>
    simp only [AV.refsL, Bool.and_eq_true] at h
    rcases List.mem_cons.1 ha with rfl | ha
    · exact h.1
    · exact ih h.2 ha

theorem Rel.less {base : Heap} (h : Rel P env p ρ H w) (hle : leH 0 base H = true) (hr : base.all (Blk.refs base.length) = true) : Rel P env p (cutR ρ base.length) base w := by
  have get : ∀ {i B}, base[i]? = some B → ∃ C, H[i]? = some C ∧ leB i B C = true := fun hB => by
    obtain ⟨C, h1, h2⟩ := leH_get 0 base H hle _ _ hB
    exact ⟨C, h1, by rw [Nat.zero_add] at h2; exact h2⟩
  have alive : ∀ {i B C}, leB i B C = true → B.alive = true → C.alive = true := by
    intro i B C h1 h2
    cases B with
    | dead => simp [Blk.alive] at h2
    | cells vs t => cases C <;> simp [leB] at h1 ⊢ <;> rfl
    | lst => cases C <;> simp [leB] at h1 ⊢ <;> rfl
  refine ⟨h.pin, fun i x B hi hB => ?_, ?_, fun i x hi => ?_, h.base⟩
  · obtain ⟨hlt, hi⟩ := cutR_some hi
    obtain ⟨C, hC, hl⟩ := get hB
    have hb := h.blk i x C hi hC
    rw [List.all_eq_true] at hr
    have hrB := hr B (List.mem_of_getElem? hB)
    cases B with
    | dead => trivial
    | cells vs t =>
      cases C with
      | dead => simp [leB] at hl
      | lst => simp [leB] at hl
      | cells us t' =>
        simp only [leB, Bool.and_eq_true, beq_iff_eq] at hl
        obtain ⟨rfl, hl⟩ := hl
        simp only [Blk.refs] at hrB
        simp only [blkRel] at hb ⊢
        obtain ⟨b, m, cs, h1, h2, h2', h3, h4⟩ := hb
        refine ⟨b, m, cs, by rw [cutR_lt hlt]; exact h1, h2, by rw [h2', leC_len 0 vs us hl], h3, fun k a hk => ?_⟩
        obtain ⟨a', hk', hv'⟩ := leC_get 0 vs us hl k a hk
        obtain ⟨v, hv, hva⟩ := h4 k a' hk'
        exact ⟨v, hv, val_cut a (refsL_get hrB (List.mem_of_getElem? hk)) v (leV_val hv' hva)⟩
    | lst e n sz ag t wr =>
      cases C with
      | dead => simp [leB] at hl
      | cells => simp [leB] at hl
      | lst e' n' sz' ag' t' wr' =>
        simp only [leB, Bool.and_eq_true, decide_eq_true_eq, beq_iff_eq] at hl
        obtain ⟨⟨⟨⟨⟨rfl, rfl⟩, rfl⟩, rfl⟩, rfl⟩, hw⟩ := hl
        simp only [blkRel] at hb ⊢
        obtain ⟨a, c, xs, h1, h2, h3, h4, h5⟩ := hb
        exact ⟨a, c, xs, by rw [cutR_lt hlt]; exact h1, h2, h3, h4, RowOk_wr h5 (fun h => by subst h; simpa using hw)⟩
  · intro i j b m m' B C hi hj hB hC a1 a2
    obtain ⟨_, hi⟩ := cutR_some hi
    obtain ⟨_, hj⟩ := cutR_some hj
    obtain ⟨B', h1, h2⟩ := get hB
    obtain ⟨C', h3, h4⟩ := get hC
    exact h.inj i j b m m' B' C' hi hj h1 h3 (alive h2 a1) (alive h4 a2)
  · obtain ⟨hlt, hi⟩ := cutR_some hi
    exact ⟨hlt, (h.dom i x hi).2⟩
theorem less_mine {base : Heap} (hle : leH 0 base H = true) {b : Nat} (hm : mine (cutR ρ base.length) base b) : mine ρ H b := by
  obtain ⟨i, m, B, hi, hB, hal⟩ := hm
  obtain ⟨_, hi⟩ := cutR_some hi
  obtain ⟨C, h1, h2⟩ := leH_get 0 base H hle _ _ hB
  refine ⟨i, m, C, hi, h1, ?_⟩
  cases B with
  | dead => simp [Blk.alive] at hal
  | cells vs t => cases C <;> simp [leB] at h2 ⊢ <;> rfl
  | lst => cases C <;> simp [leB] at h2 ⊢ <;> rfl

theorem getD_append {env : List PV} {v : PV} {i : Nat} (h : i < env.length) : (env ++ [v]).getD i (.bool false) = env.getD i (.bool false) := by
  simp [List.getD_eq_getElem?_getD, List.getElem?_append_left h]

/-- A state that comes to a loop or to a label, comes to its head. -/
theorem closeTo_head {ann : LoopAnn} {base s' : St} {e : SE} {envE env' : List PV} {L' : List (PV → Option PV)} {a : Act} (hbu : base.upTo = true) (hbr : base.refs = true) (hn : envE.length = base.nv) (hpre : envE <+: env') (hasm : AsmOk envE base.asm)
    (hs : SRel P env' L' p ρ w s' a) (hc : closeTo P ann base s' = some e) {pE : Pins} {ρE : Rho} {HE : Heap} {wE : World} (hst : Step pE ρE HE wE p ρ s'.H w) (hHE : HE.length = base.H.length) (hdom : ∀ i x, ρE i = some x → i < HE.length) (hcell : ∀ i o c, (Place.cell i o, c) ∈ ann.slots → ∃ x, ρE i = some x) :
    base.stk = s'.stk ∧ ∃ p' ρ', (∀ Lh : List (PV → Option PV), SRel P (envE ++ [e.dn env']) Lh p' ρ' w { headOf P ann base with lv := Lh.length } a) ∧ Step pE ρE HE wE p' ρ' (headOf P ann base).H w := by
  unfold closeTo at hc
  split at hc
  · simp at hc
  · rename_i es H1 hcl
    split at hc
    · rename_i hle
      simp only [Bool.and_eq_true] at hle
      obtain ⟨⟨hle1, hle2⟩, hle3⟩ := hle
      simp only [Option.some.injEq] at hc
      subst hc
      refine ⟨leL_eq _ _ hle3, ?_⟩
      obtain ⟨p1, own, vs, g1, g2, g3, g4⟩ := closeSlots_ok ann.slots hs.rel hs.ts hcl (fun i o c hm => by
        obtain ⟨x, hx⟩ := hcell i o c hm
        exact ⟨x, hst.le _ _ hx⟩)
      simp only [St.refs, Bool.and_eq_true] at hbr
      simp only [St.upTo, Bool.and_eq_true] at hbu
      obtain ⟨⟨⟨u1, u2⟩, u3⟩, u4⟩ := hbu
      have hcut : ∀ i o c, (Place.cell i o, c) ∈ ann.slots → i < base.H.length := fun i o c hm => by
        obtain ⟨x, hx⟩ := hcell i o c hm
        have := hdom i x hx
        omega
      have r1 := g1.less hle2 hbr.2
      have t1 := vals_cut base.ts hbr.1 _ (leT_vals base.ts s'.ts _ hle1 (vals_mono g2.step.pins (Rho.le_refl ρ) _ _ hs.ts))
      -- the names
      let envH := envE ++ [(mkSE es).dn env']
      have hag : Agree base.nv env' envH := by
        intro i hi
        rw [← hn] at hi
        rw [getD_append hi]
        exact (Agree.ofPre hpre i hi).symm
      have hagE : Agree base.nv envE envH := by
        intro i hi
        rw [← hn] at hi
        rw [getD_append hi]
      have r2 := r1.agree hag u2
      have t2 := vals_agree hag base.ts u1 _ t1
      have hvar : (SE.var base.nv).dn envH = .agg (es.map (·.dn env')) := by
        simp only [SE.dn, envH, ← hn, List.getD_eq_getElem?_getD]
        simp [mkSE_dn]
      have hpl : PlacesV a.tmps (cutR ρ base.H.length) w ann.slots vs := by
        have : ∀ (sl : List (Place × Par)) (vs : List Value), (∀ i o c, (Place.cell i o, c) ∈ sl → i < base.H.length) → PlacesV a.tmps ρ w sl vs → PlacesV a.tmps (cutR ρ base.H.length) w sl vs := by
          intro sl
          induction sl with
          | nil => intro vs _ h; exact h
          | cons q sl ih =>
            obtain ⟨pl, c⟩ := q
            intro vs hlt h
            simp only [PlacesV] at h ⊢
            obtain ⟨v, vs', rfl, h1, h2⟩ := h
            refine ⟨v, vs', rfl, ?_, ih vs' (fun i o c' hm => hlt i o c' (by simp [hm])) h2⟩
            cases pl with
            | tmp d => exact h1
            | cell i o =>
              simp only [PlaceV, cutR_lt (hlt i o c (by simp))] at h1 ⊢
              exact h1
        exact this ann.slots vs hcut g4
      obtain ⟨ρ', k1, k2, k3⟩ := openSlots_ok ann.slots 0 (env := envH) (r := .var base.nv) r2 t2 hvar rfl g3 hpl g2.nodup (fun b hb hm => g2.gone b hb (less_mine hle2 hm))
      have stepAll := hst.trans g2.step
      refine ⟨p1, ρ', fun Lh => ⟨⟨k1, ?_, rfl, ?_⟩, k3, hs.ds⟩, ?_⟩
      · show (envE ++ [_]).length = base.nv + 1
        simp [hn]
      · intro q hq
        have h0 := hasm q hq
        rw [List.all_eq_true] at u4
        have := SE.dn_upTo hagE (u4 q hq)
        rw [← this]
        exact h0
      · refine ⟨stepAll.os, stepAll.tape, stepAll.output, stepAll.size, stepAll.pins, ?_, ?_, stepAll.keep, ?_, stepAll.fresh, ?_⟩
        · intro i x hx
          refine k2.le i x ?_
          rw [cutR_lt (by have := hdom i x hx; omega)]
          exact hst.le i x hx
        · rw [hHE]
          exact k2.len
        · intro b hb hm
          rcases k2.mine b hm with h1 | h1
          · exact stepAll.new b hb (less_mine hle2 h1)
          · exact hst.new b hb (g2.was b h1)
        · intro i x hx
          rcases k2.born i x hx with h1 | h1
          · obtain ⟨h2, h3⟩ := cutR_some h1
            exact hst.born i x h3
          · exact .inr (by omega)
    · simp at hc
end
end Go.Dv

/- Code: sound. -/
set_option linter.unusedVariables false
set_option linter.unusedSimpArgs false
namespace Go.Dv

/-- Every plan of a code is checked. -/
def codeOk (pl : Nat → Option Stat) : Code → Bool
  | .region id ops d => !d || (match pl id with | some st => statOk ops st | none => true)
  | .seq x y => codeOk pl x && codeOk pl y
  | .cond _ x y => codeOk pl x && codeOk pl y
  | .block _ x => codeOk pl x
  | .loop x => codeOk pl x
  | .scope x => codeOk pl x
  | _ => true

section
variable {P : Program} {fuel : Nat} {G : FuncId → PV → Option PV} {call : CallK} {res : PV} {fid : Nat} {ann : Nat → Option LoopAnn} {pl : Nat → Option Stat}

theorem held_ok {env : List PV} {p : Pins} {ρ : Rho} {ts : List AV} {vs : List Value} {a : LoopAnn} (h : heldBy ts a = true) (hv : vals P env p ρ ts vs) : ∀ i o c, (Place.cell i o, c) ∈ a.slots → ∃ x, ρ i = some x := by
  intro i o c hm
  unfold heldBy at h
  rw [List.all_eq_true] at h
  have := h _ hm
  simp only [List.any_eq_true] at this
  obtain ⟨x, hx, hp⟩ := this
  split at hp
  · rename_i j q
    simp only [beq_iff_eq] at hp
    subst hp
    obtain ⟨k, hk⟩ := List.mem_iff_getElem?.1 hx
    obtain ⟨v, _, hv⟩ := vals_get hv hk
    simp only [val] at hv
    obtain ⟨b, m, hb, _⟩ := hv
    exact ⟨_, hb⟩
  · rename_i j q
    simp only [beq_iff_eq] at hp
    subst hp
    obtain ⟨k, hk⟩ := List.mem_iff_getElem?.1 hx
    obtain ⟨v, _, hv⟩ := vals_get hv hk
    simp only [val, vals] at hv
    obtain ⟨us, ws, _, _, u, r, _, ⟨b, m, hb, _⟩, _⟩ := hv
    exact ⟨_, hb⟩
  · simp at hp

theorem jump_ok {env : List PV} {L : List (PV → Option PV)} {a : LoopAnn} {pos lv : Nat} {base s : St} (h : (jumpT P a pos lv base s).dn fuel G L env = some res) : ∃ e f, closeTo P a base s = some e ∧ L[lv]? = some f ∧ f (e.dn env) = some res := by
  unfold jumpT at h
  split at h
  · rename_i e he
    simp only [Tree.dn] at h
    split at h
    · rename_i f hf
      exact ⟨e, f, he, hf, h⟩
    · simp at h
  · simp [Tree.dn] at h
theorem prefix_get {α : Type} {L L' : List α} {x : α} (h : L ++ [x] <+: L') : L'[L.length]? = some x := by
  obtain ⟨r, rfl⟩ := h
  simp

theorem base_stk (a : LoopAnn) (s : St) : (baseOf a s).stk = s.stk ∧ (baseOf a s).nv = s.nv ∧ (baseOf a s).lv = s.lv ∧ (baseOf a s).asm = s.asm := ⟨rfl, rfl, rfl, rfl⟩
theorem killR_len (a : AV) (H : Heap) : (killR a H).length = H.length := by
  unfold killR; split <;> simp
theorem killL_len : ∀ (as : List AV) (H : Heap), (killL as H).length = H.length
  | [], H => rfl
  | a :: as, H => by simp only [killL]; rw [killL_len as, killR_len]
theorem killO_len (a : Option AV) (c : Par) (H : Heap) : (killO a c H).length = H.length := by
  unfold killO
  split
  · exact killL_len _ _
  · split
    · rw [killL_len]; simp
    · rfl
  · exact killR_len _ _
  · rfl
theorem setPlace_len (ts : List AV) (H : Heap) (a : AV) (pl : Place) : (setPlace ts H a pl).2.length = H.length := by
  unfold setPlace
  split
  · rfl
  · split <;> simp
theorem maskS_len : ∀ (sl : List (Place × Par)) (ts : List AV) (H : Heap), (maskS ts H sl).2.length = H.length
  | [], ts, H => rfl
  | (p, c) :: r, ts, H => by
    simp only [maskS]
    rw [maskS_len r, setPlace_len, killO_len]
theorem weakS_len : ∀ (l : List (Nat × Nat)) (H : Heap), (weakS H l).length = H.length
  | [], H => rfl
  | (i, o) :: r, H => by
    simp only [weakS]
    split
    · split
      · rw [weakS_len r]; simp
      · exact weakS_len r H
    · exact weakS_len r H
theorem base_len (a : LoopAnn) (s : St) : (baseOf a s).H.length = s.H.length := by
  simp only [baseOf]
  rw [maskS_len, weakS_len]

theorem upToLL_all {n : Nat} {s : List (List AV)} (h : s.all (AV.upToL n) = true) : ∀ x ∈ s, AV.upToL n x = true := by
  rw [List.all_eq_true] at h
  exact h
theorem StkLe.agree {n : Nat} {env env' : List PV} (h : Agree n env env') {s : List (List AV)} (hu : s.all (AV.upToL n) = true) : StkLe P env s env' s :=
  ⟨rfl, fun t x hx => ⟨x, hx, TsLe.agree h (upToLL_all hu x (List.mem_of_getElem? hx))⟩⟩
theorem upTo_stk {s : St} (h : s.upTo = true) : s.stk.all (AV.upToL s.nv) = true := by
  simp only [St.upTo, Bool.and_eq_true] at h
  exact h.1.2

theorem evC_ok (hC : CallOk P fuel G call) (hm : P.follows .mixedOrders = true) : ∀ (c : Code), codeOk pl c = true → ∀ (pos : Nat) (s : St) (kn : St → Tree) (ke : Nat → St → Tree) (kr : St → Tree) (env : List PV) (L : List (PV → Option PV)) (p : Pins) (ρ : Rho) (w : World) (a : Act),
    (evC P fid call ann pl c pos s kn ke kr).dn fuel G L env = some res → SRel P env L p ρ w s a → ∀ (Q : Exit → Act → World → Prop),
    (∀ a' w' s' env' L' p' ρ', Moves P env L s env' L' s' → SRel P env' L' p' ρ' w' s' a' → Step p ρ s.H w p' ρ' s'.H w' → (kn s').dn fuel G L' env' = some res → Q .normal a' w') →
    (∀ id a' w' s' env' L' p' ρ', Moves P env L s env' L' s' → SRel P env' L' p' ρ' w' s' a' → Step p ρ s.H w p' ρ' s'.H w' → (ke id s').dn fuel G L' env' = some res → Q (.exit id) a' w') →
    (∀ a' w' s' env' L' p' ρ', Moves P env L s env' L' s' → SRel P env' L' p' ρ' w' s' a' → Step p ρ s.H w p' ρ' s'.H w' → (kr s').dn fuel G L' env' = some res → Q .ret a' w') → c.wp P Q a w := by
  intro c
  induction c with
  | skip =>
    intro _ pos s kn ke kr env L p ρ w a ht h Q hN hE hR
    exact wp_skip (hN a w s env L p ρ (Moves.refl rfl) h (Step.refl p ρ s.H w) ht)
  | label l =>
    intro _ pos s kn ke kr env L p ρ w a ht h Q hN hE hR
    exact wp_label (hN a w s env L p ρ (Moves.refl rfl) h (Step.refl p ρ s.H w) ht)
  | region id ops d =>
    intro hpl pos s kn ke kr env L p ρ w a ht h Q hN hE hR
    simp only [evC] at ht
    cases d with
    | true =>
      simp only [if_true] at ht
      cases hp : pl id with
      | none => rw [hp] at ht; simp [Tree.dn] at ht
      | some st =>
        rw [hp] at ht
        simp only [codeOk, hp, Bool.not_true, Bool.false_or] at hpl
        exact regionQ_ok hC hm hpl h ht hN
    | false =>
      simp only [Bool.false_eq_true, if_false] at ht
      exact wp_region_list (seqOps_ok hC _ s a env L p ρ w h ht hN)
  | seq x y ihx ihy =>
    intro hpl pos s kn ke kr env L p ρ w a ht h Q hN hE hR
    simp only [codeOk, Bool.and_eq_true] at hpl
    simp only [evC] at ht
    refine wp_seq ?_
    cases hann : ann pos with
    | none =>
      rw [hann] at ht
      refine ihx hpl.1 _ s _ ke kr env L p ρ w a ht h _ ?_ ?_ ?_
      · intro a' w' s' env' L' p' ρ' hm' hs' hst hk
        exact ihy hpl.2 _ s' kn ke kr env' L' p' ρ' w' a' hk hs' Q
          (fun a2 w2 s2 env2 L2 p2 ρ2 m2 r2 t2 k2 => hN a2 w2 s2 env2 L2 p2 ρ2 (hm'.trans m2) r2 (hst.trans t2) k2)
          (fun id a2 w2 s2 env2 L2 p2 ρ2 m2 r2 t2 k2 => hE id a2 w2 s2 env2 L2 p2 ρ2 (hm'.trans m2) r2 (hst.trans t2) k2)
          (fun a2 w2 s2 env2 L2 p2 ρ2 m2 r2 t2 k2 => hR a2 w2 s2 env2 L2 p2 ρ2 (hm'.trans m2) r2 (hst.trans t2) k2)
      · exact hE
      · exact hR
    | some an =>
      rw [hann] at ht
      simp only at ht
      split at ht
      · rename_i hcond
        simp only [Bool.and_eq_true] at hcond
        obtain ⟨⟨hbu, hbr⟩, hheld⟩ := hcond
        simp only [Tree.dn] at ht
        have hlv := h.lv
        have h' : SRel P env (L ++ [fun v => (evC P fid call ann pl y (2 * pos + 1) (headOf P an (baseOf an s)) kn ke kr).dn fuel G L (env ++ [v])]) p ρ w { s with lv := s.lv + 1 } a := ⟨⟨h.rel, h.nv, by simp [hlv], h.asm⟩, h.ts, h.ds⟩
        have hmv : ∀ {env' L' s'}, Moves P env (L ++ [fun v => (evC P fid call ann pl y (2 * pos + 1) (headOf P an (baseOf an s)) kn ke kr).dn fuel G L (env ++ [v])]) { s with lv := s.lv + 1 } env' L' s' → Moves P env L s env' L' s' :=
          fun m => ⟨m.pre, (List.prefix_append L _).trans m.preL, m.stk⟩
        refine ihx hpl.1 _ _ _ ke kr env _ p ρ w a ht h' _ ?_ ?_ ?_
        · intro a' w' s' env' L' p' ρ' hm' hs' hst hk
          obtain ⟨e, f, he, hf, hfe⟩ := jump_ok hk
          have hfL := prefix_get hm'.preL
          rw [hlv, hf] at hfL
          simp only [Option.some.injEq] at hfL
          subst hfL
          obtain ⟨hstk, p2, ρ2, hs2, hst2⟩ := closeTo_head (base := baseOf an s) hbu hbr h.nv hm'.pre h.asm hs' he hst (by rw [base_len]) (fun i x hx => (h.rel.dom i x hx).1) (held_ok hheld h.ts)
          have hs3 := hs2 L
          have hmv2 : Moves P env L s (env ++ [e.dn env']) L (headOf P an (baseOf an s)) := ⟨List.prefix_append _ _, List.prefix_refl _, StkLe.agree (n := s.nv) (by rw [← h.nv]; exact Agree.ofPre (List.prefix_append _ _)) (show s.stk.all (AV.upToL s.nv) = true from upTo_stk (s := baseOf an s) hbu)⟩
          have hs4 : SRel P (env ++ [e.dn env']) L p2 ρ2 w' (headOf P an (baseOf an s)) a' := by
            have := hs3
            rw [hlv] at this
            exact this
          exact ihy hpl.2 _ _ kn ke kr _ L p2 ρ2 w' a' hfe hs4 Q
            (fun a2 w2 s2 env2 L2 p2 ρ2 m2 r2 t2 k2 => hN a2 w2 s2 env2 L2 p2 ρ2 (hmv2.trans m2) r2 (hst2.trans t2) k2)
            (fun id a2 w2 s2 env2 L2 p2 ρ2 m2 r2 t2 k2 => hE id a2 w2 s2 env2 L2 p2 ρ2 (hmv2.trans m2) r2 (hst2.trans t2) k2)
            (fun a2 w2 s2 env2 L2 p2 ρ2 m2 r2 t2 k2 => hR a2 w2 s2 env2 L2 p2 ρ2 (hmv2.trans m2) r2 (hst2.trans t2) k2)
        · intro id a' w' s' env' L' p' ρ' m r t k
          exact hE id a' w' s' env' L' p' ρ' (hmv m) r t k
        · intro a' w' s' env' L' p' ρ' m r t k
          exact hR a' w' s' env' L' p' ρ' (hmv m) r t k
      · simp [Tree.dn] at ht
  | cond c x y ihx ihy =>
    intro hpl pos s kn ke kr env L p ρ w a ht h Q hN hE hR
    simp only [codeOk, Bool.and_eq_true] at hpl
    simp only [evC] at ht
    have hv := evA_val h.ts c
    have hv' := (normA_iff h.asm (evA s.ts c) (a.eval c)).2 hv
    split at ht
    · rename_i hc
      rw [hc] at hv'
      obtain ⟨b, hb, hv2⟩ := val_pbool hv'
      simp [SE.dn] at hb
      subst hb
      exact wp_cond_true hv2 (ihx hpl.1 _ s kn ke kr env L p ρ w a ht h Q hN hE hR)
    · rename_i hc
      rw [hc] at hv'
      obtain ⟨b, hb, hv2⟩ := val_pbool hv'
      simp [SE.dn] at hb
      subst hb
      exact wp_cond_false hv2 (ihy hpl.2 _ s kn ke kr env L p ρ w a ht h Q hN hE hR)
    · rename_i c' _ _ hc
      rw [hc] at hv'
      obtain ⟨b, hb, hv2⟩ := val_pbool hv'
      simp only [Tree.dn, hb] at ht
      have hre : ∀ {b : Bool}, c'.dn env = .bool b → SRel P env L p ρ w { s with asm := (c', b) :: s.asm } a := fun hb => ⟨⟨h.rel, h.nv, h.lv, h.asm.cons hb⟩, h.ts, h.ds⟩
      cases b with
      | true =>
        exact wp_cond_true hv2 (ihx hpl.1 _ _ kn ke kr env L p ρ w a ht (hre hb) Q (fun a' w' s' env' L' p' ρ' m => hN a' w' s' env' L' p' ρ' ⟨m.pre, m.preL, m.stk⟩) (fun id a' w' s' env' L' p' ρ' m => hE id a' w' s' env' L' p' ρ' ⟨m.pre, m.preL, m.stk⟩) (fun a' w' s' env' L' p' ρ' m => hR a' w' s' env' L' p' ρ' ⟨m.pre, m.preL, m.stk⟩))
      | false =>
        exact wp_cond_false hv2 (ihy hpl.2 _ _ kn ke kr env L p ρ w a ht (hre hb) Q (fun a' w' s' env' L' p' ρ' m => hN a' w' s' env' L' p' ρ' ⟨m.pre, m.preL, m.stk⟩) (fun id a' w' s' env' L' p' ρ' m => hE id a' w' s' env' L' p' ρ' ⟨m.pre, m.preL, m.stk⟩) (fun a' w' s' env' L' p' ρ' m => hR a' w' s' env' L' p' ρ' ⟨m.pre, m.preL, m.stk⟩))
    · simp [Tree.dn] at ht
  | block id x ihx =>
    intro hpl pos s kn ke kr env L p ρ w a ht h Q hN hE hR
    have hpl : codeOk pl x = true := hpl
    simp only [evC] at ht
    refine wp_block (ihx hpl _ s kn _ kr env L p ρ w a ht h _ hN ?_ hR)
    intro id' a' w' s' env' L' p' ρ' m r t k
    simp only [Exit.inBlock]
    split at k
    · rename_i hid
      rw [if_pos hid]
      exact hN a' w' s' env' L' p' ρ' m r t k
    · rename_i hid
      rw [if_neg hid]
      exact hE id' a' w' s' env' L' p' ρ' m r t k
  | loop x ihx =>
    intro hpl pos s kn ke kr env L p ρ w a ht h Q hN hE hR
    simp only [codeOk] at hpl
    simp only [evC] at ht
    generalize (ann pos).getD ⟨[], [], []⟩ = an at ht
    split at ht
    · simp [Tree.dn] at ht
    · rename_i e0 he0
      split at ht
      · rename_i hcond
        simp only [Bool.and_eq_true] at hcond
        obtain ⟨⟨hbu, hbr⟩, hheld⟩ := hcond
        simp only [Tree.dn] at ht
        have hlv := h.lv
        refine wp_loop_rounds fuel ?_
        have key : ∀ (n : Nat) (v : PV) (p1 : Pins) (ρ1 : Rho) (a1 : Act) (w1 : World), rounds (fun self v => (evC P fid call ann pl x (2 * pos) { headOf P an (baseOf an s) with lv := s.lv + 1 } (jumpT P an (posOf fid pos) s.lv (baseOf an s)) ke kr).dn fuel G (L ++ [self]) (env ++ [v])) n v = some res →
            (∀ Lh : List (PV → Option PV), SRel P (env ++ [v]) Lh p1 ρ1 w1 { headOf P an (baseOf an s) with lv := Lh.length } a1) → Step p ρ s.H w p1 ρ1 (headOf P an (baseOf an s)).H w1 → Code.rounds P x Q n a1 w1 := by
          intro n
          induction n with
          | zero => intro v p1 ρ1 a1 w1 hr; simp [rounds] at hr
          | succ n ih =>
            intro v p1 ρ1 a1 w1 hr hs1 hst1
            simp only [rounds] at hr
            rw [rounds_succ]
            generalize hself : (rounds (fun self v => (evC P fid call ann pl x (2 * pos) { headOf P an (baseOf an s) with lv := s.lv + 1 } (jumpT P an (posOf fid pos) s.lv (baseOf an s)) ke kr).dn fuel G (L ++ [self]) (env ++ [v])) n) = self at *
            have hs2 := hs1 (L ++ [self])
            have hmv0 : Moves P env L s (env ++ [v]) (L ++ [self]) { headOf P an (baseOf an s) with lv := s.lv + 1 } :=
              ⟨List.prefix_append _ _, List.prefix_append _ _, StkLe.agree (n := s.nv) (by rw [← h.nv]; exact Agree.ofPre (List.prefix_append _ _)) (show s.stk.all (AV.upToL s.nv) = true from upTo_stk (s := baseOf an s) hbu)⟩
            have hs3 : SRel P (env ++ [v]) (L ++ [self]) p1 ρ1 w1 { headOf P an (baseOf an s) with lv := s.lv + 1 } a1 := by
              have := hs2
              rw [List.length_append, List.length_singleton, hlv] at this
              exact this
            refine ihx hpl _ _ _ ke kr _ _ p1 ρ1 w1 a1 hr hs3 _ ?_ ?_ ?_
            · intro a' w' s' env' L' p' ρ' m r t k
              obtain ⟨e, f, he, hf, hfe⟩ := jump_ok k
              have hfL := prefix_get m.preL
              rw [hlv, hf] at hfL
              simp only [Option.some.injEq] at hfL
              subst hfL
              obtain ⟨hstk, p2, ρ2, hs4, hst2⟩ := closeTo_head (base := baseOf an s) hbu hbr h.nv ((List.prefix_append _ _).trans m.pre) h.asm r he (hst1.trans t) (by rw [base_len]) (fun i x hx => (h.rel.dom i x hx).1) (held_ok hheld h.ts)
              exact ih _ p2 ρ2 a' w' hfe hs4 hst2
            · intro id a' w' s' env' L' p' ρ' m r t k
              exact hE id a' w' s' env' L' p' ρ' (hmv0.trans m) r (hst1.trans t) k
            · intro a' w' s' env' L' p' ρ' m r t k
              exact hR a' w' s' env' L' p' ρ' (hmv0.trans m) r (hst1.trans t) k
        obtain ⟨hstk, p2, ρ2, hs4, hst2⟩ := closeTo_head (base := baseOf an s) hbu hbr h.nv (List.prefix_refl _) h.asm h he0 (Step.refl p ρ s.H w) (by rw [base_len]) (fun i x hx => (h.rel.dom i x hx).1) (held_ok hheld h.ts)
        exact key fuel _ p2 ρ2 a w ht hs4 hst2
      · simp [Tree.dn] at ht
  | exit id =>
    intro _ pos s kn ke kr env L p ρ w a ht h Q hN hE hR
    exact wp_exit (hE id a w s env L p ρ (Moves.refl rfl) h (Step.refl p ρ s.H w) ht)
  | scope x ihx =>
    intro hpl pos s kn ke kr env L p ρ w a ht h Q hN hE hR
    simp only [codeOk] at hpl
    simp only [evC] at ht
    exact wp_scope_straight (ihx hpl _ s kn ke kr env L p ρ w a ht h _ hN hE hR)
  | ret =>
    intro _ pos s kn ke kr env L p ρ w a ht h Q hN hE hR
    exact wp_ret (hR a w s env L p ρ (Moves.refl rfl) h (Step.refl p ρ s.H w) ht)
  | rangeFunc f ps x y _ _ => intro _ pos s kn ke kr env L p ρ w a ht; simp [evC, Tree.dn] at ht
  | goto l => intro _ pos s kn ke kr env L p ρ w a ht; simp [evC, Tree.dn] at ht
  | refuse r => intro _ pos s kn ke kr env L p ρ w a ht; simp [evC, Tree.dn] at ht
end
end Go.Dv

/- Calls by name, calls that are laid in, whole functions: sound. -/
set_option linter.unusedVariables false
set_option linter.unusedSimpArgs false
namespace Go.Dv

/-- Pinned cells are as the world's. -/
def PinsOk (p : Pins) (w : World) : Prop := (∀ b o v, p b o = some v → w.cell? ⟨b, o, none⟩ = some v) ∧ Base p
/-- A step of the world, told by the blocks that are handed. -/
structure StepW (p : Pins) (w : World) (own : List Nat) (p' : Pins) (w' : World) (own' : List Nat) : Prop where
  os : w'.os = w.os
  tape : w'.tape = w.tape
  output : w'.output = w.output
  size : w.heap.size ≤ w'.heap.size
  pins : p.le p'
  keep : ∀ b, b < w.heap.size → b ∉ own → w'.heap[b]? = w.heap[b]?
  new : ∀ b ∈ own', b ∈ own ∨ w.heap.size ≤ b
  fresh : ∀ b o v, p' b o = some v → p b o = some v ∨ b ∈ own ∨ w.heap.size ≤ b

/-- Values as one. -/
def oneV : List Value → Value
  | [v] => v
  | l => .tuple l.toArray

/-- What a function answers: v its arguments, r its results and what its pointers then point to. -/
def NameOk (P : Program) (f : FuncId) (sg : Sig) (v r : PV) : Prop :=
  ∀ (p : Pins) (w : World) (vs : Array Value) (own : List Nat) (xs : List PV), v = .agg xs → PinsOk p w → ParsV P p w sg.ps xs vs.toList own → own.Nodup →
    Calls P f vs w fun e w' => ∃ (rvs : List Value) (p' : Pins) (o1 o2 : List Nat) (rs fs : List PV), e = .returned (oneV rvs) ∧ r = .agg (rs ++ fs) ∧ StepW p w own p' w' (o1 ++ o2) ∧ PinsOk p' w' ∧ (o1 ++ o2).Nodup ∧
      ParsV P p' w' sg.rs rs rvs o1 ∧ ParsV P p' w' (ptrPs sg.ps) fs (ptrAs vs.toList sg.ps) o2

/-- Builders: copyCheck and String. -/
def LeafSpec (P : Program) (bl u8 : TypeId) (f : FuncId) : Leaf → Prop
  | .copyCheck => ∀ (w : World) (b : Nat) (x y : Value), w.heap[b]? = some (.cells #[x, y] bl (0, 0)) → (x = .pointer none ∨ x = .pointer (some ⟨b, 0, none⟩)) →
      Calls P f #[.pointer (some ⟨b, 0, none⟩)] w fun e w' => e = .returned (.tuple #[]) ∧ w'.os = w.os ∧ w'.tape = w.tape ∧ w'.output = w.output ∧ w'.heap.size = w.heap.size ∧
        w'.heap[b]? = some (.cells #[.pointer (some ⟨b, 0, none⟩), y] bl (0, 0)) ∧ ∀ j, j ≠ b → w'.heap[j]? = w.heap[j]?
  | .text => (∀ (w : World) (b : Nat) (x : Value), w.heap[b]? = some (.cells #[x, .slice none 0 0] bl (0, 0)) →
      Calls P f #[.pointer (some ⟨b, 0, none⟩)] w fun e w' => e = .returned (.string ⟨#[]⟩) ∧ RowKit.Below w.heap.size w w') ∧
    ∀ (w : World) (b g c : Nat) (x : Value) (cur : Array Value) (l : List UInt8), w.heap[b]? = some (.cells #[x, .slice (some ⟨g, 0, none⟩) l.length c] bl (0, 0)) → w.heap[g]? = some (.cells cur u8 (0, 0)) → (l.length : Int) ≤ most → l ≠ [] → l.length ≤ c → l.length ≤ cur.size → b ≠ g →
      (∀ (j : Nat) (y : UInt8), l[j]? = some y → cur[j]? = some (.int .u8 y.toNat)) →
      Calls P f #[.pointer (some ⟨b, 0, none⟩)] w fun e w' => e = .returned (.string ⟨l.toArray⟩) ∧ w'.os = w.os ∧ w'.tape = w.tape ∧ w'.output = w.output ∧ w'.heap.size = w.heap.size ∧
        (∀ j, j ≠ g → w'.heap[j]? = w.heap[j]?) ∧ ∀ o, w'.cell? ⟨g, o, none⟩ = w.cell? ⟨g, o, none⟩

section
variable {P : Program} {fuel : Nat} {G : FuncId → PV → Option PV} {T : Tab} {env : List PV} {L : List (PV → Option PV)} {p : Pins} {ρ : Rho} {H : Heap} {w : World} {res : PV}

theorem ptrPs_vals : ∀ (as : List AV) (ps : List Par) (vs : List Value), vals P env p ρ as vs → vals P env p ρ (ptrAs as ps) (ptrAs vs ps)
  | [], ps, vs, h => by rw [vals_nil_inv h]; simp [ptrAs, vals]
  | a :: as, [], vs, h => by
    simp only [vals] at h
    obtain ⟨v, r, rfl, _, _⟩ := h
    simp [ptrAs, vals]
  | a :: as, c :: ps, vs, h => by
    simp only [vals] at h
    obtain ⟨v, r, rfl, h1, h2⟩ := h
    cases c with
    | one c => simp only [ptrAs]; exact ptrPs_vals as ps r h2
    | many cs => simp only [ptrAs]; exact ptrPs_vals as ps r h2
    | ptr g cs t => simp only [ptrAs]; exact vals_cons h1 (ptrPs_vals as ps r h2)

/-! ### The frame of a call by name -/
theorem frame_ok {w' : World} {p' : Pins} {own own' : List Nat} (h : Rel P env p ρ H w) (hs : StepW p w own p' w' own') (hp : PinsOk p' w') (hno : ∀ b ∈ own, ¬ mine ρ H b) : Rel P env p' ρ H w' := by
  have hkeep : ∀ b, mine ρ H b → w'.heap[b]? = w.heap[b]? ∧ ∀ o, p' b o = p b o := by
    intro b hm
    have hlt := h.mine_lt hm
    have hnot : b ∉ own := fun hb => hno b hb hm
    refine ⟨hs.keep b hlt hnot, fun o => ?_⟩
    cases e : p' b o with
    | none =>
      cases e' : p b o with
      | none => rfl
      | some v => have := hs.pins b o v e'; rw [e] at this; simp at this
    | some v =>
      rcases hs.fresh b o v e with h1 | h1 | h1
      · exact h1.symm
      · exact absurd h1 hnot
      · omega
  refine ⟨hp.1, fun i x B hi hB => ?_, h.inj, fun i x hi => ?_, hp.2⟩
  · by_cases hal : B.alive = true
    · have hb := h.blk i x B hi hB
      refine blkRel_world (w := w) (fun b m hbm => (hkeep b ⟨i, m, B, hbm, hB, hal⟩).1) (blkRel_mono hs.pins (Rho.le_refl ρ) (fun b m hbm => (hkeep b ⟨i, m, B, hbm, hB, hal⟩).2) hb)
    · cases B with
      | dead => trivial
      | cells vs t => simp [Blk.alive] at hal
      | lst => simp [Blk.alive] at hal
  · have := h.dom i x hi
    exact ⟨this.1, fun b hb => by have := this.2 b hb; have := hs.size; omega⟩

/-- A pointer's block comes back. -/
theorem revive (h : Rel P env p ρ H w) {i b m : Nat} {C : Blk} (hi : ρ i = some (some b, m)) (hlt : i < H.length) (hno : ¬ mine ρ H b) (hC : blkRel P env p ρ w i C) :
    Rel P env p ρ (H.set i C) w ∧ ∀ b', mine ρ (H.set i C) b' → mine ρ H b' ∨ b' = b := by
  refine ⟨⟨h.pin, fun j x D hj hD => ?_, ?_, fun j x hj => ?_, h.base⟩, ?_⟩
  · rcases (get_set hlt).1 hD with ⟨rfl, rfl⟩ | ⟨_, hD⟩
    · exact hC
    · exact h.blk j x D hj hD
  · intro j k b' m1 m2 D E hj hk hD hE a1 a2
    rcases (get_set hlt).1 hD with ⟨e1, _⟩ | ⟨n1, hD'⟩
    · rcases (get_set hlt).1 hE with ⟨e2, _⟩ | ⟨n2, hE'⟩
      · rw [e1, e2]
      · rw [e1, hi] at hj
        simp only [Option.some.injEq, Prod.mk.injEq] at hj
        exact absurd ⟨k, m2, E, by rw [hk, ← hj.1], hE', a2⟩ hno
    · rcases (get_set hlt).1 hE with ⟨e2, _⟩ | ⟨n2, hE'⟩
      · rw [e2, hi] at hk
        simp only [Option.some.injEq, Prod.mk.injEq] at hk
        exact absurd ⟨j, m1, D, by rw [hj, ← hk.1], hD', a1⟩ hno
      · exact h.inj j k b' m1 m2 D E hj hk hD' hE' a1 a2
  · have := h.dom j x hj
    exact ⟨by simpa using this.1, this.2⟩
  · rintro b' ⟨j, m', D, hj, hD, hal⟩
    rcases (get_set hlt).1 hD with ⟨e, rfl⟩ | ⟨_, hD⟩
    · rw [e, hi] at hj
      simp only [Option.some.injEq, Prod.mk.injEq] at hj
      exact .inr hj.1.symm
    · exact .inl ⟨j, m', D, hj, hD, hal⟩

/-- What is handed as a pointer is one. -/
def PtrsOk : List AV → List Par → Prop
  | a :: as, .ptr g _ _ :: ps => (∃ i, a = wrapA g i) ∧ PtrsOk as ps
  | _ :: as, _ :: ps => PtrsOk as ps
  | _, _ => True
theorem PtrsOk.all : ∀ (as : List AV) (ps : List Par), PtrsOk as ps → ∀ a ∈ ptrAs as ps, ∃ g i, a = wrapA g i
  | [], ps, h, a, ha => by simp [ptrAs] at ha
  | x :: as, [], h, a, ha => by simp [ptrAs] at ha
  | x :: as, .one c :: ps, h, a, ha => PtrsOk.all as ps h a (by simpa [ptrAs] using ha)
  | x :: as, .many c :: ps, h, a, ha => PtrsOk.all as ps h a (by simpa [ptrAs] using ha)
  | x :: as, .ptr g c t :: ps, h, a, ha => by
    simp only [ptrAs, List.mem_cons] at ha
    rcases ha with rfl | ha
    · exact ⟨g, h.1⟩
    · exact PtrsOk.all as ps h.2 a ha
theorem backPtrs_ok : ∀ (as : List AV) (ps : List Par) (j : Nat) {r : SE} {H : Heap} {ρ : Rho} {xs0 fs : List PV} {vs : List Value} {own : List Nat} {p0 : Pins} {ρ0 : Rho} {env0 : List PV}, Rel P env p ρ H w → r.dn env = .agg xs0 → xs0.drop j = fs → vals P env0 p0 ρ0 as vs → ρ0.le ρ → (∀ i x, ρ0 i = some x → i < H.length) →
    PtrsOk as ps → ParsV P p w (ptrPs ps) fs (ptrAs vs ps) own → own.Nodup → (∀ b ∈ own, ¬ mine ρ H b) →
    ∃ ρ', Rel P env p ρ' (backPtrs P r j (ptrsOf as ps) H) w ∧ Come2 ρ H ρ' (backPtrs P r j (ptrsOf as ps) H) own
  | [], ps, j, r, H, ρ, xs0, fs, vs, own, p0, ρ0, env0, h, hr, hx, hv, hle, hlt, hptr, hp, hnd, hno => ⟨ρ, h, ⟨Rho.le_refl ρ, Nat.le_refl _, fun _ h => .inl h, fun _ _ h => .inl h⟩⟩
  | a :: as, [], j, r, H, ρ, xs0, fs, vs, own, p0, ρ0, env0, h, hr, hx, hv, hle, hlt, hptr, hp, hnd, hno => by
    have e : ptrsOf (a :: as) [] = [] := by cases a <;> rfl
    rw [e]
    exact ⟨ρ, h, ⟨Rho.le_refl ρ, Nat.le_refl _, fun _ h => .inl h, fun _ _ h => .inl h⟩⟩
  | a :: as, c :: ps, j, r, H, ρ, xs0, fs, vs, own, p0, ρ0, env0, h, hr, hx, hv, hle, hlt, hptr, hp, hnd, hno => by
    simp only [vals] at hv
    obtain ⟨v, vr, rfl, h1, h2⟩ := hv
    cases c with
    | one c =>
      have e : ptrsOf (a :: as) (.one c :: ps) = ptrsOf as ps := by cases a <;> rfl
      rw [e]
      exact backPtrs_ok as ps j h hr hx h2 hle hlt hptr (by simpa [ptrAs, ptrPs] using hp) hnd hno
    | many cs =>
      have e : ptrsOf (a :: as) (.many cs :: ps) = ptrsOf as ps := by cases a <;> rfl
      rw [e]
      exact backPtrs_ok as ps j h hr hx h2 hle hlt hptr (by simpa [ptrAs, ptrPs] using hp) hnd hno
    | ptr g cs t =>
      obtain ⟨⟨i, rfl⟩, hptr⟩ := hptr
      simp only [ptrPs, ptrAs, ParsV] at hp
      obtain ⟨x, xs', v', vs', o1, o2, e1, e2, rfl, g1, g2⟩ := hp
      simp only [List.cons.injEq] at e2
      obtain ⟨rfl, rfl⟩ := e2
      simp only [ParV] at g1
      obtain ⟨b, ys, cells, us, own', rfl, hvb, hb, rfl, hpn, hcl, rfl⟩ := g1
      rw [val_wrap] at h1
      obtain ⟨b0, m, hi, hv0⟩ := h1
      rw [hvb] at hv0
      have hv0 := wrapV_inj hv0
      subst hv0
      rw [e1] at hx
      have hfld := fld_eq hr hx
      rw [List.nodup_append, List.nodup_cons] at hnd
      obtain ⟨⟨hb1, hnd1⟩, hnd2, hdis⟩ := hnd
      obtain ⟨ρ1, k1, k2, k3⟩ := openCls_ok cs 0 (e := seFld r j) h hfld rfl hcl hnd1 (fun b' hb' => hno b' (by simp [hb']))
      have hi1 := k2.le _ _ (hle _ _ hi)
      have hilt : i < (openCls P H (seFld r j) 0 cs).2.length := by have := hlt i _ hi; have := k2.len; omega
      obtain ⟨r1, r2⟩ := revive (C := .cells (openCls P H (seFld r j) 0 cs).1 t) k1 hi1 hilt (fun hm => by
        rcases k2.mine b hm with h3 | h3
        · exact hno b (by simp) h3
        · exact hb1 h3) (by
        simp only [blkRel]
        refine ⟨b, m, cells, hi1, hb, by have := vals_length k3; simpa using this, hpn, fun k a hk => ?_⟩
        obtain ⟨u, hu, hru⟩ := vals_get k3 hk
        exact ⟨u, by simpa using hu, hru⟩)
      obtain ⟨ρ2, l1, l2⟩ := backPtrs_ok as ps (j + 1) r1 hr (drop_tail hx) h2 (Rho.le_trans hle k2.le) (fun i' x' hx' => by have := hlt i' x' hx'; have := k2.len; simp; omega) hptr g2 hnd2 (fun b' hb' hm => by
        rcases r2 b' hm with h3 | h3
        · rcases k2.mine b' h3 with h4 | h4
          · exact hno b' (by simp [hb']) h4
          · exact hdis b' (by simp [h4]) b' hb' rfl
        · exact hdis b' (by simp [h3]) b' hb' rfl)
      refine ⟨ρ2, by simpa [ptrsOf, backPtrs, unwrapA_wrap] using l1, ?_⟩
      simp only [ptrsOf, backPtrs, unwrapA_wrap]
      have hlen : ((openCls P H (seFld r j) 0 cs).2.set i (.cells (openCls P H (seFld r j) 0 cs).1 t)).length = (openCls P H (seFld r j) 0 cs).2.length := by simp
      refine ⟨Rho.le_trans k2.le l2.le, by have := l2.len; have := k2.len; omega, fun b' hb' => ?_, fun i' y hy => ?_⟩
      · rcases l2.mine b' hb' with h3 | h3
        · rcases r2 b' h3 with h4 | h4
          · rcases k2.mine b' h4 with h5 | h5
            · exact .inl h5
            · exact .inr (by simp [h5])
          · exact .inr (by simp [h4])
        · exact .inr (by simp [h3])
      · rcases l2.born i' y hy with h3 | h3
        · exact k2.born i' y h3
        · have := k2.len
          exact .inr (by omega)

theorem closePars_ptrs : ∀ (as : List AV) (ps : List Par) {H : Heap} {q : List SE × Heap}, closePars P H as ps = some q → PtrsOk as ps
  | [], ps, H, q, h => by cases ps <;> trivial
  | x :: as, [], H, q, h => by trivial
  | x :: as, c :: ps, H, q, h => by
    simp only [closePars] at h
    split at h
    · simp at h
    · rename_i e H1 h1
      split at h
      · simp at h
      · rename_i es H2 h2
        cases c with
        | one c => exact closePars_ptrs as ps h2
        | many cs => exact closePars_ptrs as ps h2
        | ptr g cs t =>
          refine ⟨?_, closePars_ptrs as ps h2⟩
          simp only [closePar] at h1
          split at h1
          · simp at h1
          · rename_i i hun
            exact ⟨i, unwrapA_eq hun⟩

theorem oneOf_val {l : List AV} {vs : List Value} (h : vals P env p ρ l vs) : val P env p ρ (oneOf l) (oneV vs) := by
  match l, vs, h with
  | [], vs, h => rw [vals_nil_inv h]; simp only [oneOf, oneV, val]; exact ⟨_, rfl, by simp [vals]⟩
  | [a], vs, h =>
    simp only [vals] at h
    obtain ⟨v, r, rfl, h1, rfl⟩ := h
    exact h1
  | a :: b :: l, vs, h =>
    have h0 := h
    simp only [vals] at h0
    obtain ⟨v, r, rfl, h1, v2, r2, rfl, h2, h3⟩ := h0
    simp only [oneOf, oneV, val]
    exact ⟨_, rfl, by simpa using h⟩

/-- A call by name. -/
theorem name_call {f : FuncId} {sg : Sig} {as : List AV} {s : St} {k : AV → St → Tree} {es : List SE} {H : Heap} (hG : ∀ v r, G f v = some r → NameOk P f sg v r) (hcl : closePars P s.H as sg.ps = some (es, H)) (hup : ({ s with H := H } : St).upTo = true)
    (ht : (Tree.call f (mkSE es) (k (backA P sg (.var s.nv) (ptrsOf as sg.ps) H).1 { s with nv := s.nv + 1, H := (backA P sg (.var s.nv) (ptrsOf as sg.ps) H).2 })).dn fuel G L env = some res)
    (h : Core P env L p ρ w s) {vs : Array Value} (hv : vals P env p ρ as vs.toList) :
    Calls P f vs w fun e w' => ∃ v x s' env' L' p' ρ', e = .returned v ∧ Moves P env L s env' L' s' ∧ Core P env' L' p' ρ' w' s' ∧ Step p ρ s.H w p' ρ' s'.H w' ∧ TsLe P env s.ts env' s'.ts ∧ val P env' p' ρ' x v ∧ (k x s').dn fuel G L' env' = some res := by
  simp only [Tree.dn] at ht
  split at ht
  · rename_i r hr
    rw [mkSE_dn] at hr
    obtain ⟨p1, own, g1, g2, g3⟩ := closePars_ok as sg.ps h.rel hcl hv
    refine (hG _ _ hr p1 w vs own _ rfl ⟨g1.pin, g1.base⟩ g3 g2.nodup).mono ?_
    rintro e w' ⟨rvs, p2, o1, o2, rs, fs, rfl, rfl, hs, hp2, hnd, hpr, hpf⟩
    have hfr := frame_ok g1 hs hp2 g2.gone
    have hag : Agree s.nv env (env ++ [PV.agg (rs ++ fs)]) := by rw [← h.nv]; exact Agree.ofPre (List.prefix_append _ _)
    simp only [St.upTo, Bool.and_eq_true] at hup
    obtain ⟨⟨⟨u1, u2⟩, u3⟩, u4⟩ := hup
    have hrel := hfr.agree hag u2
    have hvar : (SE.var s.nv).dn (env ++ [PV.agg (rs ++ fs)]) = .agg (rs ++ fs) := by
      simp only [SE.dn, ← h.nv, List.getD_eq_getElem?_getD]
      simp
    have hown : ∀ b ∈ o1 ++ o2, ¬ mine ρ H b := fun b hb hm => by
      rcases hs.new b hb with h1 | h1
      · exact g2.gone b h1 hm
      · have := g1.mine_lt hm; omega
    rw [List.nodup_append] at hnd
    obtain ⟨ρ1, k1, k2, k3⟩ := openPars_ok sg.rs 0 (e := .var s.nv) (rest := fs) hrel hvar (by simp) hpr hnd.1 (fun b hb => hown b (by simp [hb]))
    have hrsl : rs.length = sg.rs.length := by
      have : ∀ (cs : List Par) (xs : List PV) (vs : List Value) (o : List Nat), ParsV P p2 w' cs xs vs o → xs.length = cs.length := by
        intro cs
        induction cs with
        | nil => intro xs vs o h; simp only [ParsV] at h; simp [h.1]
        | cons c cs ih =>
          intro xs vs o h
          simp only [ParsV] at h
          obtain ⟨x, xs', v, vs', o1, o2, rfl, rfl, rfl, _, h2⟩ := h
          simp [ih _ _ _ h2]
      exact this _ _ _ _ hpr
    obtain ⟨ρ2, l1, l2⟩ := backPtrs_ok as sg.ps sg.rs.length (r := .var s.nv) k1 hvar (by rw [← hrsl]; simp) hv k2.le (fun i x hx => by have := (h.rel.dom i x hx).1; have := k2.len; have := g2.len; omega) (closePars_ptrs as sg.ps hcl) hpf hnd.2.1 (fun b hb hm => by
      rcases k2.mine b hm with h3 | h3
      · exact hown b (by simp [hb]) h3
      · exact hnd.2.2 b h3 b hb rfl)
    refine ⟨oneV rvs, (backA P sg (.var s.nv) (ptrsOf as sg.ps) H).1, { s with nv := s.nv + 1, H := (backA P sg (.var s.nv) (ptrsOf as sg.ps) H).2 }, env ++ [PV.agg (rs ++ fs)], L, p2, ρ2, rfl, ⟨List.prefix_append _ _, List.prefix_refl _, StkLe.agree hag u3⟩, ⟨l1, ?_, h.lv, ?_⟩, ?_, TsLe.agree hag u1, ?_, ht⟩
    · show (env ++ [_]).length = s.nv + 1
      simp [h.nv]
    · intro q hq
      have h0 := h.asm q hq
      rw [List.all_eq_true] at u4
      rw [← SE.dn_upTo hag (u4 q hq)]
      exact h0
    · have st := g2.step
      refine ⟨hs.os.trans st.os, hs.tape.trans st.tape, hs.output.trans st.output, Nat.le_trans st.size hs.size, Pins.le_trans st.pins hs.pins, Rho.le_trans k2.le l2.le, ?_, ?_, ?_, ?_, ?_⟩
      · have := l2.len; have := k2.len; have := g2.len
        show s.H.length ≤ _
        simp only [backA]
        omega
      · intro b hb hm
        exact hs.keep b hb fun hbo => hm (g2.was b hbo)
      · intro b hb hm
        rcases l2.mine b hm with h3 | h3
        · rcases k2.mine b h3 with h4 | h4
          · exact st.new b hb h4
          · rcases hs.new b (by simp [h4]) with h5 | h5
            · exact g2.was b h5
            · omega
        · rcases hs.new b (by simp [h3]) with h5 | h5
          · exact g2.was b h5
          · omega
      · intro b o v' hv'
        rcases hs.fresh b o v' hv' with h3 | h3 | h3
        · exact st.fresh b o v' h3
        · exact .inr (.inl (g2.was b h3))
        · exact .inr (.inr h3)
      · intro i x hx
        rcases l2.born i x hx with h3 | h3
        · rcases k2.born i x h3 with h4 | h4
          · exact .inl h4
          · exact .inr (by have := g2.len; omega)
        · exact .inr (by have := k2.len; have := g2.len; omega)
    · simp only [backA]
      exact oneOf_val (vals_mono (Pins.le_refl p2) l2.le _ _ k3)
  · simp at ht
end
end Go.Dv

/- Leaves, calls that are laid in, whole functions: sound. -/
set_option linter.unusedVariables false
set_option linter.unusedSimpArgs false
namespace Go.Dv

section
variable {P : Program} {fuel : Nat} {G : FuncId → PV → Option PV} {T : Tab} {env : List PV} {L : List (PV → Option PV)} {p : Pins} {ρ : Rho} {H : Heap} {w : World} {res : PV}

theorem below_rel (h : Rel P env p ρ H w) {w' : World} (hb : RowKit.Below w.heap.size w w') : Rel P env p ρ H w' ∧ Step p ρ H w p ρ H w' := by
  refine ⟨⟨fun b o v hp => ?_, fun i x B hi hg => ?_, h.inj, fun i x hi => ?_, h.base⟩, ?_⟩
  · rw [cell_same (hb.block b (h.pin_lt hp))]
    exact h.pin b o v hp
  · refine blkRel_world (fun b m hbm => hb.block b ?_) (h.blk i x B hi hg)
    exact (h.dom i _ hbm).2 b rfl
  · have := h.dom i x hi
    exact ⟨this.1, fun b hb' => Nat.lt_of_lt_of_le (this.2 b hb') hb.size⟩
  · exact ⟨hb.os, hb.tape, hb.output, hb.size, Pins.le_refl p, Rho.le_refl ρ, Nat.le_refl _, fun b hlt _ => hb.block b hlt, fun _ _ h => h, fun _ _ _ h => .inl h, fun _ _ h => .inl h⟩

theorem two_cells {cs : Array Value} (h : cs.size = 2) {x y : Value} (h0 : cs[0]? = some x) (h1 : cs[1]? = some y) : cs = #[x, y] := by
  apply Array.ext'
  apply List.ext_getElem?
  intro k
  rw [Array.getElem?_toList]
  match k with
  | 0 => rw [h0]; rfl
  | 1 => rw [h1]; rfl
  | k + 2 => rw [Array.getElem?_eq_none (by omega)]; rfl

theorem leaf_ok {f : FuncId} {l : Leaf} {bl u8 : TypeId} (hl : LeafSpec P bl u8 f l) {as : List AV} {s : St} {k : AV → St → Tree} (ht : (leafK P bl u8 l as s k).dn fuel G L env = some res) (h : Core P env L p ρ w s) {vs : Array Value} (hv : vals P env p ρ as vs.toList) :
    Calls P f vs w fun e w' => ∃ v x s' env' L' p' ρ', e = .returned v ∧ Moves P env L s env' L' s' ∧ Core P env' L' p' ρ' w' s' ∧ Step p ρ s.H w p' ρ' s'.H w' ∧ TsLe P env s.ts env' s'.ts ∧ val P env' p' ρ' x v ∧ (k x s').dn fuel G L' env' = some res := by
  unfold leafK at ht
  split at ht
  · rename_i i
    simp only [vals] at hv
    obtain ⟨v0, r0, hvs, hv0, hr0⟩ := hv
    subst hr0
    simp only [val] at hv0
    obtain ⟨b, m, hi, rfl⟩ := hv0
    have hvs' : vs = #[.pointer (some ⟨b, 0, none⟩)] := Array.ext' hvs
    subst hvs'
    split at ht
    · rename_i a r bt hg
      split at ht
      · rename_i hbt
        subst hbt
        obtain ⟨cs, hb, hsz, hno, hcs⟩ := h.rel.cells hi hg
        obtain ⟨x, hx, hxa⟩ := hcs 0 a rfl
        obtain ⟨y, hy, hyr⟩ := hcs 1 r rfl
        have hc2 : cs = #[x, y] := two_cells (by simpa using hsz) hx hy
        subst hc2
        split at ht
        · -- copyCheck
          simp only [LeafSpec] at hl
          split at ht
          · rename_i hslf
            have hx' : x = .pointer none ∨ x = .pointer (some ⟨b, 0, none⟩) := by
              unfold slfOk at hslf
              split at hslf
              · simp only [val] at hxa; exact .inl hxa
              · rename_i j q
                simp only [Bool.and_eq_true, beq_iff_eq] at hslf
                obtain ⟨rfl, rfl⟩ := hslf
                simp only [val] at hxa
                rcases hxa with h1 | ⟨b', m', h1, h2⟩
                · exact .inl h1
                · rw [hi] at h1
                  simp only [Option.some.injEq, Prod.mk.injEq] at h1
                  rw [← h1.1] at h2
                  exact .inr h2
              · simp at hslf
            refine (hl w b x y hb hx').mono ?_
            rintro e w' ⟨rfl, w1, w2, w3, w4, w5, w6⟩
            obtain ⟨g1, g2⟩ := h.rel.set (C := .cells [.slf i 0, r] bt) hi hg rfl w' ⟨w1, w2, w3, w4, fun j hj => w6 j fun e => hj (by rw [e])⟩ (by
              simp only [blkRel]
              refine ⟨b, m, _, hi, w5, rfl, hno, fun k a' hk => ?_⟩
              match k, hk with
              | 0, hk => simp at hk; subst hk; exact ⟨_, rfl, by simp only [val]; exact .inr ⟨b, m, hi, rfl⟩⟩
              | 1, hk => simp at hk; subst hk; exact ⟨_, rfl, hyr⟩
              | k + 2, hk => simp at hk) (fun b' o' v' hb' hv' => by
              simp only [Option.some.injEq] at hb'
              subst hb'
              rw [hno] at hv'
              simp at hv')
            exact ⟨_, undefA, { s with H := s.H.set i (.cells [.slf i 0, r] bt) }, env, L, p, ρ, rfl, Moves.refl rfl, ⟨g1, h.nv, h.lv, h.asm⟩, g2, TsLe.refl _, by simp [undefA, val, vals], ht⟩
          · simp [Tree.dn] at ht
        · -- String
          simp only [LeafSpec] at hl
          split at ht
          · simp only [val] at hyr
            subst hyr
            refine (hl.1 w b x hb).mono ?_
            rintro e w' ⟨rfl, hbl⟩
            obtain ⟨g1, g2⟩ := below_rel h.rel hbl
            exact ⟨_, .pv .str (.lit (.str [])), s, env, L, p, ρ, rfl, Moves.refl rfl, ⟨g1, h.nv, h.lv, h.asm⟩, g2, TsLe.refl _, val_str_mk (l := []) rfl, ht⟩
          · rename_i j n
            split at ht
            · rename_i e n' sz ag t wr hgj
              split at ht
              · rename_i hcond
                obtain ⟨rfl, hu8, rfl⟩ := hcond
                simp only [Tree.dn] at ht
                split at ht
                · rename_i hmost
                  split at ht
                  · rename_i hn0
                    split at ht
                    · rename_i hok
                      simp only [val] at hyr
                      obtain ⟨ao, cp, m', ad, hρ, hm', rfl, hmc, hc0, had⟩ := hyr
                      have hB := h.rel.blk j _ _ hρ hgj
                      simp only [blkRel] at hB
                      obtain ⟨a', c', xs, e1, e2, e3, e4, r0, r1, r2, r3⟩ := hB
                      rw [hρ] at e1
                      simp only [Option.some.injEq, Prod.mk.injEq] at e1
                      obtain ⟨rfl, rfl⟩ := e1
                      rw [hm'] at e4
                      simp only [PV.int.injEq, true_and] at e4
                      have hmx : m' = xs.length := by omega
                      subst hmx
                      have hpos := need_lss hn0
                      rw [hm'] at hpos
                      have hpos : (0 : Int) < (xs.length : Int) := hpos
                      have had := had (by omega)
                      subst had
                      obtain ⟨sz', ag', xs', hxs, hsz', hag, hws⟩ := wt_list e3
                      simp only [PV.list.injEq] at hxs
                      obtain ⟨rfl, rfl, rfl⟩ := hxs
                      cases ao with
                      | none => have := hc0 rfl; omega
                      | some g =>
                        obtain ⟨cur, hgc, hcsz, hres, hpin, hwr⟩ := r3 g rfl
                        obtain ⟨hk, hu8'⟩ := u8_kind hu8
                        have hagf : ag = false := by unfold isAggA at hag; rw [hu8'] at hag; simpa using hag.symm
                        have hsz1 : sz = 1 := by
                          subst hagf
                          cases xs with
                          | nil => simp at hpos
                          | cons y ys => simp only [REs] at hres; exact (RE_one hres.1).1
                        rw [hk] at hws
                        have hbc := bytes_cells xs 0 hagf hsz1 hres hws
                        have hlen : (bytesOfL xs).length = xs.length := by simp [bytesOfL]
                        have hrange : ∀ z ∈ xs, 0 ≤ z.i ∧ z.i < 256 := by
                          simp only [SE.dn, O1.dn, e2, PV.l, PV.bool.injEq, List.all_eq_true, Bool.and_eq_true, decide_eq_true_eq] at hok
                          exact hok
                        have hbg : b ≠ g := by
                          rintro rfl
                          have := h.rel.inj i j b m cp _ _ hi hρ hg hgj rfl rfl
                          subst this
                          rw [hg] at hgj
                          simp at hgj
                        have hcur : cur.size = cp := by rw [hcsz, hsz1, Nat.mul_one]
                        simp only [Option.map_some] at hb
                        refine (hl.2 w b g cp x cur (bytesOfL xs) (by rw [hlen]; exact hb) hgc (by have := need_leq hmost; rw [hm'] at this; rw [hlen]; exact this) (by intro hnil; rw [hnil] at hlen; simp at hlen; omega) (by omega) (by omega) hbg (fun k z hkz => by
                          simp only [bytesOfL, List.getElem?_map, Option.map_eq_some_iff] at hkz
                          obtain ⟨q, hq, rfl⟩ := hkz
                          have hr := hrange q (List.mem_of_getElem? hq)
                          have := hbc k (.int .u8 q.i) (by simp [hq])
                          rw [Nat.zero_add] at this
                          rw [this]
                          congr 2
                          have : (UInt8.ofNat q.i.toNat).toNat = q.i.toNat := by
                            simp
                            omega
                          rw [this]
                          omega)).mono ?_
                        rintro e' w' ⟨rfl, w1, w2, w3, w4, w5, w6⟩
                        obtain ⟨g1, g2⟩ := h.rel.set (C := .dead) hρ hgj rfl w' ⟨w1, w2, w3, w4, fun j' hj' => w5 j' fun e => hj' (by rw [e])⟩ trivial (fun b' o' v' hb' hv' => by
                          simp only [Option.some.injEq] at hb'
                          subst hb'
                          rw [w6]
                          exact h.rel.pin _ _ _ hv')
                        exact ⟨_, .pv .str (.o1 .toS e), { s with H := s.H.set j .dead }, env, L, p, ρ, rfl, Moves.refl rfl, ⟨g1, h.nv, h.lv, h.asm⟩, g2, TsLe.refl _, val_str_mk (by simp [SE.dn, O1.dn, e2, PV.l]), ht⟩
                    · simp at ht
                  · simp at ht
                · simp at ht
              · simp [Tree.dn] at ht
            · simp [Tree.dn] at ht
          · simp [Tree.dn] at ht
      · simp [Tree.dn] at ht
    · simp [Tree.dn] at ht
  · simp [Tree.dn] at ht

/-! ### Results -/
def oneRes (tmps : Array Value) (r : ResultVar) : Sem Value :=
  match r with
  | .tmp t => pure (tmps.getD t undef)
  | .cell a t => do loadVar t (← asAddr (tmps.getD a undef))

theorem resOne_ok (h : Rel P env p ρ H w) {ts : List AV} {tmps : Array Value} (hv : vals P env p ρ ts tmps.toList) {r : ResultVar} {a : AV} (he : resOne P H ts r = some a) : ∃ v, (oneRes tmps r).run P w = .ok v w ∧ val P env p ρ a v := by
  cases r with
  | tmp t =>
    simp only [resOne] at he
    obtain ⟨v, h1, h2⟩ := vals_get hv he
    refine ⟨v, ?_, h2⟩
    have : tmps[t]? = some v := by simpa using h1
    simp [oneRes, Array.getD_eq_getD_getElem?, this]
  | cell q t =>
    simp only [resOne, Option.bind_eq_some_iff] at he
    obtain ⟨x, hx, he⟩ := he
    obtain ⟨v, h1, h2⟩ := vals_get hv hx
    have hg : tmps[q]? = some v := by simpa using h1
    obtain ⟨u, g1, g2⟩ := load_ok h h2 he
    refine ⟨u, ?_, g2⟩
    have hp : ∃ ad, v = .pointer (some ad) := by
      unfold loadA at he
      split at he
      · simp only [val] at h2
        obtain ⟨b, m, _, rfl⟩ := h2
        exact ⟨_, rfl⟩
      · simp only [val] at h2
        obtain ⟨_, _, _, _, _, _, _, _, _, _, rfl⟩ := h2
        exact ⟨_, rfl⟩
      · simp only [val] at h2
        obtain ⟨_, _, _, _, _, rfl⟩ := h2
        exact ⟨_, rfl⟩
      · simp at he
    obtain ⟨ad, rfl⟩ := hp
    simp only [Instr.loadAt, Instr.sureAddr, Sem.run_bind, Sem.run_pure, Result.andThen_ok] at g1
    simp [oneRes, Array.getD_eq_getD_getElem?, hg, asAddr, g1]

theorem resAll_ok (h : Rel P env p ρ H w) {ts : List AV} {tmps : Array Value} (hv : vals P env p ρ ts tmps.toList) : ∀ (rs : List ResultVar) (l : List AV), resAll P H ts rs = some l →
    ∃ vs, (rs.mapM (oneRes tmps)).run P w = .ok vs w ∧ vals P env p ρ l vs
  | [], l, he => by
    simp only [resAll, Option.some.injEq] at he
    subst he
    exact ⟨[], by simp, vals_nil⟩
  | r :: rs, l, he => by
    simp only [resAll, Option.bind_eq_some_iff, Option.map_eq_some_iff] at he
    obtain ⟨a, ha, l', hl, rfl⟩ := he
    obtain ⟨v, h1, h2⟩ := resOne_ok h hv ha
    obtain ⟨vs, h3, h4⟩ := resAll_ok h hv rs l' hl
    exact ⟨v :: vs, by simp [List.mapM_cons, h1, h3], vals_cons h2 h4⟩

theorem res_ok (h : Rel P env p ρ H w) {ts : List AV} {tmps : Array Value} (hv : vals P env p ρ ts tmps.toList) {fn : Func} {l : List AV} (he : resA P fn ts H = some l) : ∃ vs, (results fn tmps).run P w = .ok (oneV vs) w ∧ vals P env p ρ l vs := by
  obtain ⟨vs, h1, h2⟩ := resAll_ok h hv _ _ he
  refine ⟨vs, ?_, h2⟩
  have hrun : (results fn tmps).run P w = .ok (if hh : vs.toArray.size = 1 then vs.toArray[0] else .tuple vs.toArray) w := by
    have e : results fn tmps = (do let vs ← fn.results.mapM (oneRes tmps); pure (if h : vs.size = 1 then vs[0] else .tuple vs)) := rfl
    rw [e]
    rw [Array.mapM_eq_mapM_toList]
    simp [h1]
  rw [hrun]
  match vs with
  | [] => rfl
  | [v] => rfl
  | a :: b :: l =>
    have : ¬ ((a :: b :: l).toArray.size = 1) := by simp
    rw [dif_neg this]
    rfl

theorem start_vals {args : List AV} {vs : Array Value} (h : vals P env p ρ args vs.toList) (n : Nat) :
    vals P env p ρ (args ++ List.replicate (n - args.length) undefA) (vs ++ Array.replicate (n - vs.size) undef).toList := by
  have hl := vals_length h
  have hl' : vs.size = args.length := by simpa using hl
  rw [Array.toList_append, Array.toList_replicate, hl']
  refine vals_append h ?_
  induction (n - args.length) with
  | zero => exact vals_nil
  | succ k ih => simp only [List.replicate_succ]; exact vals_cons undef_val ih

theorem codeOk_none : ∀ c, codeOk (fun _ => none) c = true := by
  intro c
  induction c <;> simp_all [codeOk]
theorem mem_of_lookup {β : Type} {f : Nat} {b : β} : ∀ {l : List (Nat × β)}, l.lookup f = some b → (f, b) ∈ l
  | [], h => by simp at h
  | (g, c) :: l, h => by
    rw [List.lookup_cons] at h
    split at h
    · rename_i e
      simp only [Option.some.injEq] at h
      subst h
      rw [eq_of_beq e]
      simp
    · exact List.mem_cons_of_mem _ (mem_of_lookup h)

/-- What a table of a program is asked. -/
structure TabOk (P : Program) (T : Tab) : Prop where
  mixed : P.follows .mixedOrders = true
  plans : ∀ (f : FuncId) (fn : Func) (c : Code), P.funcs[f]? = some fn → fn.body = some c → codeOk (T.plans f) c = true
  leaf : ∀ (f : FuncId) (l : Leaf), T.leaf f = some l → LeafSpec P T.bld T.u8 f l
def GOk (P : Program) (T : Tab) (G : FuncId → PV → Option PV) : Prop := ∀ f sg v r, T.sig f = some sg → G f v = some r → NameOk P f sg v r

theorem callN_ok (hT : TabOk P T) (hG : GOk P T G) : ∀ n, CallOk P fuel G (callN P T n)
  | 0 => by intro f as s k env L res p ρ w vs ht; simp [callN, Tree.dn] at ht
  | n + 1 => by
    have hC := callN_ok hT hG n
    intro f as s k env L res p ρ w vs ht h hv
    simp only [callN] at ht
    split at ht
    · rename_i l hl
      exact leaf_ok (hT.leaf f l hl) ht h hv
    · split at ht
      · split at ht
        · simp [Tree.dn] at ht
        · rename_i fn hfn
          split at ht
          · simp [Tree.dn] at ht
          · rename_i c hc
            have hs0 : SRel P env L p ρ w { s with ts := as ++ List.replicate (fn.ntmps - as.length) undefA, stk := s.ts :: s.stk } { tmps := vs ++ Array.replicate (fn.ntmps - vs.size) undef, defers := [] } :=
              ⟨⟨h.rel, h.nv, h.lv, h.asm⟩, start_vals hv fn.ntmps, rfl⟩
            refine calls_of_wp hfn hc (evC_ok hC hT.mixed c (hT.plans f fn c hfn hc) _ _ _ _ _ env L p ρ w _ ht hs0 _ ?_ ?_ ?_)
            · intro a' w' s' env' L' p' ρ' m r t kk
              split at kk
              · rename_i t0 r0 l hstk hres
                obtain ⟨vs', g1, g2⟩ := res_ok r.rel r.ts hres
                have hst := m.stk
                rw [hstk] at hst
                obtain ⟨x', hx', hx2⟩ := hst.2 0 s.ts rfl
                simp only [List.getElem?_cons_zero, Option.some.injEq] at hx'
                subst hx'
                refine ⟨r.ds, _, g1, _, oneOf l, { s' with ts := t0, stk := r0 }, env', L', p', ρ', rfl, ⟨m.pre, m.preL, ?_⟩, ⟨r.rel, r.nv, r.lv, r.asm⟩, t, hx2, oneOf_val g2, kk⟩
                refine ⟨by have := hst.1; simpa using this, fun i x hx => ?_⟩
                obtain ⟨y, hy, hy2⟩ := hst.2 (i + 1) x (by simpa using hx)
                exact ⟨y, by simpa using hy, hy2⟩
              · simp [Tree.dn] at kk
            · intro id a' w' s' env' L' p' ρ' m r t kk
              simp [Tree.dn] at kk
            · intro a' w' s' env' L' p' ρ' m r t kk
              split at kk
              · rename_i t0 r0 l hstk hres
                obtain ⟨vs', g1, g2⟩ := res_ok r.rel r.ts hres
                have hst := m.stk
                rw [hstk] at hst
                obtain ⟨x', hx', hx2⟩ := hst.2 0 s.ts rfl
                simp only [List.getElem?_cons_zero, Option.some.injEq] at hx'
                subst hx'
                refine ⟨r.ds, _, g1, _, oneOf l, { s' with ts := t0, stk := r0 }, env', L', p', ρ', rfl, ⟨m.pre, m.preL, ?_⟩, ⟨r.rel, r.nv, r.lv, r.asm⟩, t, hx2, oneOf_val g2, kk⟩
                refine ⟨by have := hst.1; simpa using this, fun i x hx => ?_⟩
                obtain ⟨y, hy, hy2⟩ := hst.2 (i + 1) x (by simpa using hx)
                exact ⟨y, by simpa using hy, hy2⟩
              · simp [Tree.dn] at kk
      · split at ht
        · simp [Tree.dn] at ht
        · rename_i sg hsg
          split at ht
          · simp [Tree.dn] at ht
          · rename_i es H' hcl
            split at ht
            · rename_i hup
              exact name_call (fun v r => hG f sg v r hsg) hcl hup ht h hv
            · simp [Tree.dn] at ht

/-- A function's tree tells what it answers. -/
theorem tree_ok (hT : TabOk P T) (hG : GOk P T G) {n : Nat} {f : FuncId} {sg : Sig} {t : Tree} (hsg : T.sig f = some sg) (ht : treeOf P T n f = some t) {v r : PV} (hr : t.dn fuel G [] [v] = some r) : NameOk P f sg v r := by
  unfold treeOf at ht
  rw [hsg] at ht
  split at ht
  · rename_i fn sg' hfn hsg'
    simp only [Option.some.injEq] at hsg'
    subst hsg'
    split at ht
    · simp at ht
    · rename_i c hc
      simp only [Option.some.injEq] at ht
      subst ht
      intro p w vs own xs hxs hpins hpar hnd
      subst hxs
      have hemp : Rel P [PV.agg xs] p (fun _ => none) [] w := ⟨hpins.1, fun i x B hi => by simp at hi, fun i j b m m' B C hi => by simp at hi, fun i x hi => by simp at hi, hpins.2⟩
      obtain ⟨ρ, k1, k2, k3⟩ := openPars_ok sg.ps 0 (e := .var 0) (rest := []) hemp rfl (by simp) hpar hnd (fun b hb hm => by
        obtain ⟨i, m, B, hi, _⟩ := hm
        simp at hi)
      have hmine : ∀ b, mine ρ (openPars P [] (.var 0) 0 sg.ps).2 b → b ∈ own := fun b hb => by
        rcases k2.mine b hb with ⟨i, m, B, hi, _⟩ | h
        · simp at hi
        · exact h
      have hs0 : SRel P [PV.agg xs] [] p ρ w { ts := (openPars P [] (.var 0) 0 sg.ps).1 ++ List.replicate (fn.ntmps - (openPars P [] (.var 0) 0 sg.ps).1.length) undefA, H := (openPars P [] (.var 0) 0 sg.ps).2, nv := 1, lv := 0, asm := [], stk := [] } { tmps := vs ++ Array.replicate (fn.ntmps - vs.size) undef, defers := [] } :=
        ⟨⟨k1, rfl, rfl, fun q hq => by simp at hq⟩, start_vals k3 fn.ntmps, rfl⟩
      have fin : ∀ (a' : Act) (w' : World) (s' : St) (env' : List PV) (L' : List (PV → Option PV)) (p' : Pins) (ρ' : Rho), SRel P env' L' p' ρ' w' s' a' → Step p ρ (openPars P [] (.var 0) 0 sg.ps).2 w p' ρ' s'.H w' → (retT P sg fn (openPars P [] (.var 0) 0 sg.ps).1 s').dn fuel G L' env' = some r →
          a'.defers = [] ∧ ∃ v, (results fn a'.tmps).run P w' = .ok v w' ∧ ∃ (rvs : List Value) (p2 : Pins) (o1 o2 : List Nat) (rs fs : List PV), Ending.returned v = .returned (oneV rvs) ∧ r = .agg (rs ++ fs) ∧ StepW p w own p2 w' (o1 ++ o2) ∧ PinsOk p2 w' ∧ (o1 ++ o2).Nodup ∧
            ParsV P p2 w' sg.rs rs rvs o1 ∧ ParsV P p2 w' (ptrPs sg.ps) fs (ptrAs vs.toList sg.ps) o2 := by
        intro a' w' s' env' L' p' ρ' hr' hst hk
        unfold retT at hk
        split at hk
        · simp [Tree.dn] at hk
        · rename_i l hres
          split at hk
          · simp [Tree.dn] at hk
          · rename_i es H1 hc1
            split at hk
            · simp [Tree.dn] at hk
            · rename_i fs H2 hc2
              simp only [Tree.dn, Option.some.injEq] at hk
              obtain ⟨rvs, g1, g2⟩ := res_ok hr'.rel hr'.ts hres
              obtain ⟨p1, o1, c1, c2, c3⟩ := closePars_ok l sg.rs hr'.rel hc1 g2
              have hptr : vals P env' p1 ρ' (ptrAs (openPars P [] (.var 0) 0 sg.ps).1 sg.ps) (ptrAs vs.toList sg.ps) := by
                have h1 := ptrPs_vals _ sg.ps _ k3
                have hall := (closePars_ptrs (ptrAs (openPars P [] (.var 0) 0 sg.ps).1 sg.ps) (ptrPs sg.ps) hc2).all
                have key : ∀ (as : List AV) (us : List Value), (∀ a ∈ as, ∃ g i, a = wrapA g i) → vals P [PV.agg xs] p ρ as us → vals P env' p1 ρ' as us := by
                  intro as
                  induction as with
                  | nil => intro us _ h; rw [vals_nil_inv h]; simp [vals]
                  | cons a as ih =>
                    intro us ha h
                    simp only [vals] at h
                    obtain ⟨u, r, rfl, h1, h2⟩ := h
                    obtain ⟨g, i, rfl⟩ := ha a (by simp)
                    rw [val_wrap] at h1
                    obtain ⟨b, m, hb, rfl⟩ := h1
                    exact vals_cons (val_wrap.2 ⟨b, m, hst.le _ _ hb, rfl⟩) (ih r (fun a ha' => ha a (by simp [ha'])) h2)
                refine key _ _ (fun a ha => ?_) h1
                have hpp : ∀ (as : List AV) (ps : List Par), ptrAs (ptrAs as ps) (ptrPs ps) = ptrAs as ps := by
                  intro as
                  induction as with
                  | nil => intro ps; simp [ptrAs]
                  | cons a as ih =>
                    intro ps
                    cases ps with
                    | nil => simp [ptrAs]
                    | cons c ps => cases c <;> simp [ptrAs, ptrPs, ih]
                exact hall a (by rw [hpp]; exact ha)
              obtain ⟨p2, o2, d1, d2, d3⟩ := closePars_ok _ _ c1 hc2 hptr
              have hleft := Left.trans hr'.rel c1 c2 d2
              have hall := hst.trans hleft.step
              refine ⟨hr'.ds, _, g1, rvs, p2, o1, o2, es.map (·.dn env'), fs.map (·.dn env'), rfl, ?_, ?_, ⟨d1.pin, d1.base⟩, hleft.nodup, c3.mono d2.step.pins (c2.pins hr'.rel d2.step) (fun _ _ => rfl), d3⟩
              · rw [← hk, mkSE_dn]
                simp
              · refine ⟨hall.os, hall.tape, hall.output, hall.size, hall.pins, fun b hb hno => hall.keep b hb fun hm => hno (hmine b hm), fun b hb => ?_, fun b o v' hv' => ?_⟩
                · by_cases hlt : b < w.heap.size
                  · exact .inl (hmine b (hst.new b hlt (hleft.was b hb)))
                  · exact .inr (by omega)
                · rcases hall.fresh b o v' hv' with h1 | h1 | h1
                  · exact .inl h1
                  · exact .inr (.inl (hmine b h1))
                  · exact .inr (.inr h1)
      exact calls_of_wp hfn hc (evC_ok (callN_ok hT hG n) hT.mixed c (hT.plans f fn c hfn hc) _ _ _ _ _ _ _ p ρ w _ hr hs0 _
        (fun a' w' s' env' L' p' ρ' m r t kk => fin a' w' s' env' L' p' ρ' r t kk)
        (fun id a' w' s' env' L' p' ρ' m r t kk => by simp [Tree.dn] at kk)
        (fun a' w' s' env' L' p' ρ' m r t kk => fin a' w' s' env' L' p' ρ' r t kk))
  · simp at ht

/-- A program of trees. -/
theorem run_ok (hT : TabOk P T) {leaf : FuncId → Option (PV → Option PV)} {trees : FuncId → Option Tree} {d : Nat} (hL : ∀ f g sg v r, leaf f = some g → T.sig f = some sg → g v = some r → NameOk P f sg v r) (hTr : ∀ f t, trees f = some t → treeOf P T d f = some t) : ∀ n, GOk P T (run leaf trees n)
  | 0 => by intro f sg v r _ h; simp [run] at h
  | n + 1 => by
    have hG := run_ok hT hL hTr n
    intro f sg v r hsg h
    simp only [run] at h
    split at h
    · rename_i g hg
      exact hL f g sg v r hg hsg h
    · split at h
      · simp at h
      · rename_i t ht
        exact tree_ok hT hG hsg (hTr f t ht) h
end
end Go.Dv
