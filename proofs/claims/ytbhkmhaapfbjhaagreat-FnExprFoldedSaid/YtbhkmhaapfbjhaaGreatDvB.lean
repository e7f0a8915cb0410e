/- Worlds that grow, and blocks that are written. -/
import Derived.Test.YtbhkmhaapfbjhaaGreatDvA
import Derived.Tactics

set_option linter.unusedVariables false
set_option linter.unusedSimpArgs false
namespace Go.Dv

section
variable {P : Program} {env : List PV} {p : Pins} {ρ : Rho} {H : Heap} {w : World}

theorem cell_same {w w' : World} {b : Nat} (h : w'.heap[b]? = w.heap[b]?) (o : Nat) : w'.cell? ⟨b, o, none⟩ = w.cell? ⟨b, o, none⟩ := by
  unfold World.cell?
  simp only
  rw [h]
theorem cell_lt {w : World} {b o : Nat} {v : Value} (h : w.cell? ⟨b, o, none⟩ = some v) : b < w.heap.size := by
  unfold World.cell? at h
  simp only at h
  split at h
  · rename_i hb
    exact (Array.getElem?_eq_some_iff.1 hb).1
  · simp at h
theorem Rel.pin_lt (h : Rel P env p ρ H w) {b o : Nat} {v : Value} (hp : p b o = some v) : b < w.heap.size := cell_lt (h.pin b o v hp)
theorem Rel.pin_new (h : Rel P env p ρ H w) {b : Nat} (hb : w.heap.size ≤ b) (o : Nat) : p b o = none := by
  cases e : p b o with
  | none => rfl
  | some v => have := h.pin_lt e; omega

theorem RowOk_world {a : Option Nat} {c : Nat} {xs : List PV} {t : TypeId} {sz : Nat} {ag wr : Bool} {w' : World} (h : RowOk p w a c xs t sz ag wr) (hw : ∀ b, a = some b → w'.heap[b]? = w.heap[b]?) : RowOk p w' a c xs t sz ag wr := by
  obtain ⟨h1, h2, h3, h4⟩ := h
  refine ⟨h1, h2, h3, fun b hb => ?_⟩
  obtain ⟨cs, k1, k2⟩ := h4 b hb
  exact ⟨cs, by rw [hw b hb]; exact k1, k2⟩
theorem RowOk_pins {a : Option Nat} {c : Nat} {xs : List PV} {t : TypeId} {sz : Nat} {ag wr : Bool} {p' : Pins} (h : RowOk p w a c xs t sz ag wr) (hp : p.le p') (hb : ∀ b, a = some b → ∀ o, p' b o = p b o) : RowOk p' w a c xs t sz ag wr := by
  obtain ⟨h1, h2, h3, h4⟩ := h
  refine ⟨h1, h2, h3, fun b hb' => ?_⟩
  obtain ⟨cs, k1, k2, k3, k4, k5⟩ := h4 b hb'
  exact ⟨cs, k1, k2, REs_mono hp (fun _ _ h => h) _ _ k3, fun o v ho => k4 o v (by rw [← hb b hb']; exact ho), fun hw o => by rw [hb b hb']; exact k5 hw o⟩
theorem RowOk_wr {a : Option Nat} {c : Nat} {xs : List PV} {t : TypeId} {sz : Nat} {ag wr wr' : Bool} (h : RowOk p w a c xs t sz ag wr) (hw : wr' = true → wr = true) : RowOk p w a c xs t sz ag wr' := by
  obtain ⟨h1, h2, h3, h4⟩ := h
  refine ⟨h1, h2, h3, fun b hb' => ?_⟩
  obtain ⟨cs, k1, k2, k3, k4, k5⟩ := h4 b hb'
  exact ⟨cs, k1, k2, k3, k4, fun h => k5 (hw h)⟩

theorem blkRel_world {i : Nat} {B : Blk} {w' : World} (hw : ∀ b m, ρ i = some (some b, m) → w'.heap[b]? = w.heap[b]?) (h : blkRel P env p ρ w i B) : blkRel P env p ρ w' i B := by
  cases B with
  | dead => trivial
  | cells vs t =>
    simp only [blkRel] at h ⊢
    obtain ⟨b, m, cs, h1, h2, h3⟩ := h
    exact ⟨b, m, cs, h1, by rw [hw b m h1]; exact h2, h3⟩
  | lst e n sz ag t wr =>
    simp only [blkRel] at h ⊢
    obtain ⟨a, c, xs, h1, h2, h3, h4, h5⟩ := h
    exact ⟨a, c, xs, h1, h2, h3, h4, RowOk_world h5 fun b hb => hw b c (by rw [h1, hb])⟩

theorem blkRel_mono {i : Nat} {B : Blk} {p' : Pins} {ρ' : Rho} (hp : p.le p') (hr : ρ.le ρ') (hb : ∀ b m, ρ i = some (some b, m) → ∀ o, p' b o = p b o) (h : blkRel P env p ρ w i B) : blkRel P env p' ρ' w i B := by
  cases B with
  | dead => trivial
  | cells vs t =>
    simp only [blkRel] at h ⊢
    obtain ⟨b, m, cs, h1, h2, h2', h3, h4⟩ := h
    refine ⟨b, m, cs, hr _ _ h1, h2, h2', fun o => by rw [hb b m h1]; exact h3 o, fun k a hk => ?_⟩
    obtain ⟨v, hv, hva⟩ := h4 k a hk
    exact ⟨v, hv, val_mono hp hr _ _ hva⟩
  | lst e n sz ag t wr =>
    simp only [blkRel] at h ⊢
    obtain ⟨a, c, xs, h1, h2, h3, h4, h5⟩ := h
    exact ⟨a, c, xs, hr _ _ h1, h2, h3, h4, RowOk_pins h5 hp fun b hb' => hb b c (by rw [h1, hb'])⟩

def upd (ρ : Rho) (i : Nat) (x : Option Nat × Nat) : Rho := fun j => if j = i then some x else ρ j
theorem upd_le {i : Nat} {x : Option Nat × Nat} (h : ρ i = none) : ρ.le (upd ρ i x) := by
  intro j y hy
  unfold upd
  by_cases e : j = i
  · subst e; rw [h] at hy; simp at hy
  · rw [if_neg e]; exact hy
theorem upd_self {i : Nat} {x : Option Nat × Nat} : upd ρ i x i = some x := by simp [upd]
theorem upd_ne {i j : Nat} {x : Option Nat × Nat} (h : j ≠ i) : upd ρ i x j = ρ j := by simp [upd, h]

theorem Rel.free (h : Rel P env p ρ H w) : ρ H.length = none := by
  cases e : ρ H.length with
  | none => rfl
  | some x => have := (h.dom _ x e).1; omega
theorem get_push {B C : Blk} {i : Nat} : (H ++ [B])[i]? = some C ↔ (i < H.length ∧ H[i]? = some C) ∨ (i = H.length ∧ C = B) := by
  rw [List.getElem?_append]
  split
  · rename_i h
    simp [h]
    intro e; omega
  · rename_i h
    by_cases e : i = H.length
    · subst e; simp; exact eq_comm
    · have : i - H.length ≠ 0 := by omega
      simp [e, this, List.getElem?_singleton]
      intro h'; omega

/-- A block that is not yet there. -/
theorem Rel.pend (h : Rel P env p ρ H w) (B : Blk) : Rel P env p ρ (H ++ [B]) w ∧ Step p ρ H w p ρ (H ++ [B]) w := by
  have hne : ∀ {i x C}, ρ i = some x → (H ++ [B])[i]? = some C → H[i]? = some C := fun hi hg => by
    rcases get_push.1 hg with ⟨_, h⟩ | ⟨rfl, _⟩
    · exact h
    · rw [h.free] at hi; simp at hi
  refine ⟨⟨h.pin, fun i x C hi hg => h.blk i x C hi (hne hi hg), fun i j b m m' C D hi hj hg hk hC hD => h.inj i j b m m' C D hi hj (hne hi hg) (hne hj hk) hC hD, fun i x hi => ?_, h.base⟩, ?_⟩
  · have := h.dom i x hi
    exact ⟨by simp; omega, this.2⟩
  · refine ⟨rfl, rfl, rfl, Nat.le_refl _, Pins.le_refl p, Rho.le_refl ρ, by simp, fun _ _ _ => rfl, ?_, fun _ _ _ h => .inl h, fun _ _ h => .inl h⟩
    rintro b hb ⟨i, m, C, hi, hg, hC⟩
    exact ⟨i, m, C, hi, hne hi hg, hC⟩

/-- And now it is. -/
theorem Rel.born (h : Rel P env p ρ H w) {id m : Nat} {B : Blk} (o : Obj) (hid : ρ id = none) (hg : H[id]? = some B) (hB : blkRel P env p (upd ρ id (some w.heap.size, m)) (w.alloc o) id B) :
    Rel P env p (upd ρ id (some w.heap.size, m)) H (w.alloc o) ∧ ∀ (p0 : Pins) (ρ0 : Rho) (H0 : Heap) (w0 : World), Step p0 ρ0 H0 w0 p ρ H w → H0.length ≤ id → Step p0 ρ0 H0 w0 p (upd ρ id (some w.heap.size, m)) H (w.alloc o) := by
  have hold : ∀ b, b < w.heap.size → (w.alloc o).heap[b]? = w.heap[b]? := by
    intro b hb
    show (w.heap.push o)[b]? = _
    rw [Array.getElem?_push, if_neg (by omega)]
  have hsz : (w.alloc o).heap.size = w.heap.size + 1 := by show (w.heap.push o).size = _; simp
  have hle := upd_le (x := (some w.heap.size, m)) hid
  refine ⟨⟨fun b o' v hp => ?_, ?_, ?_, ?_, h.base⟩, ?_⟩
  · rw [cell_same (hold b (h.pin_lt hp))]
    exact h.pin b o' v hp
  · intro i x C hi hC
    by_cases e : i = id
    · subst e
      rw [hg] at hC
      simp only [Option.some.injEq] at hC
      subst hC
      exact hB
    · rw [upd_ne e] at hi
      have := blkRel_mono (Pins.le_refl p) hle (fun _ _ _ _ => rfl) (h.blk i x C hi hC)
      refine blkRel_world (fun b m' hb => hold b ?_) this
      rw [upd_ne e, hi] at hb
      simp only [Option.some.injEq] at hb
      subst hb
      exact (h.dom i _ hi).2 b rfl
  · intro i j b m1 m2 C D hi hj hC hD c1 c2
    by_cases e : i = id
    · by_cases f : j = id
      · rw [e, f]
      · rw [e, upd_self] at hi
        rw [upd_ne f] at hj
        simp only [Option.some.injEq, Prod.mk.injEq] at hi
        have := (h.dom j _ hj).2 b rfl
        omega
    · by_cases f : j = id
      · rw [upd_ne e] at hi
        rw [f, upd_self] at hj
        simp only [Option.some.injEq, Prod.mk.injEq] at hj
        have := (h.dom i _ hi).2 b rfl
        omega
      · rw [upd_ne e] at hi
        rw [upd_ne f] at hj
        exact h.inj i j b m1 m2 C D hi hj hC hD c1 c2
  · intro i x hi
    rw [hsz]
    by_cases e : i = id
    · subst e
      rw [upd_self] at hi
      simp only [Option.some.injEq] at hi
      subst hi
      exact ⟨(List.getElem?_eq_some_iff.1 hg).1, fun b hb => by simp at hb; omega⟩
    · rw [upd_ne e] at hi
      have := h.dom i x hi
      exact ⟨this.1, fun b hb => by have := this.2 b hb; omega⟩
  · intro p0 ρ0 H0 w0 hs hid0
    refine ⟨hs.os, hs.tape, hs.output, by rw [hsz]; have := hs.size; omega, hs.pins, Rho.le_trans hs.le hle, hs.next, ?_, ?_, hs.fresh, fun i x hx => ?_⟩
    rotate_left 2
    · by_cases e : i = id
      · exact .inr (by omega)
      · rw [upd_ne e] at hx
        exact hs.born i x hx
    · intro b hb hw
      have := hs.size
      rw [hold b (by omega)]
      exact hs.keep b hb hw
    · rintro b hb ⟨i, m', C, hi, hC, c1⟩
      have := hs.size
      by_cases e : i = id
      · rw [e, upd_self] at hi
        simp only [Option.some.injEq, Prod.mk.injEq] at hi
        omega
      · rw [upd_ne e] at hi
        exact hs.new b hb ⟨i, m', C, hi, hC, c1⟩

/-- A new block. -/
theorem Rel.push (h : Rel P env p ρ H w) (o : Obj) (B : Blk) (m : Nat) (hB : blkRel P env p (upd ρ H.length (some w.heap.size, m)) (w.alloc o) H.length B) :
    Rel P env p (upd ρ H.length (some w.heap.size, m)) (H ++ [B]) (w.alloc o) ∧ Step p ρ H w p (upd ρ H.length (some w.heap.size, m)) (H ++ [B]) (w.alloc o) := by
  obtain ⟨h1, h2⟩ := h.pend B
  obtain ⟨h3, h4⟩ := h1.born o h.free (get_push.2 (.inr ⟨rfl, rfl⟩)) hB
  exact ⟨h3, h4 _ _ _ _ h2 (Nat.le_refl _)⟩

theorem Rel.drew (h : Rel P env p ρ H w) (n : Nat) : Rel P env p ρ H { w with drawn := n } :=
  ⟨fun b o v hp => h.pin b o v hp, fun i x B hi hg => blkRel_world (w := w) (fun _ _ _ => rfl) (h.blk i x B hi hg), h.inj, h.dom, h.base⟩
theorem Step.drew (p : Pins) (ρ : Rho) (H : Heap) (w : World) (n : Nat) : Step p ρ H w p ρ H { w with drawn := n } :=
  ⟨rfl, rfl, rfl, Nat.le_refl _, Pins.le_refl p, Rho.le_refl ρ, Nat.le_refl _, fun _ _ _ => rfl, fun _ _ h => h, fun _ _ _ h => .inl h, fun _ _ h => .inl h⟩

theorem get_set {i j : Nat} {C D : Blk} (hi : i < H.length) : (H.set i C)[j]? = some D ↔ (j = i ∧ D = C) ∨ (j ≠ i ∧ H[j]? = some D) := by
  rw [List.getElem?_set]
  by_cases e : i = j
  · subst e; simp [hi]; exact eq_comm
  · have e' : ¬ j = i := fun h => e h.symm
    simp [e, e']

/-- A block turns into another one; the world's block may change. -/
theorem Rel.set (h : Rel P env p ρ H w) {i : Nat} {x : Option Nat × Nat} {B C : Blk} (hi : ρ i = some x) (hg : H[i]? = some B) (ha : B.alive = true) (w' : World)
    (hw : w'.os = w.os ∧ w'.tape = w.tape ∧ w'.output = w.output ∧ w'.heap.size = w.heap.size ∧ ∀ b, x.1 ≠ some b → w'.heap[b]? = w.heap[b]?)
    (hC : blkRel P env p ρ w' i C) (hp : ∀ b o v, x.1 = some b → p b o = some v → w'.cell? ⟨b, o, none⟩ = some v) : Rel P env p ρ (H.set i C) w' ∧ Step p ρ H w p ρ (H.set i C) w' := by
  have hlt : i < H.length := (List.getElem?_eq_some_iff.1 hg).1
  obtain ⟨w1, w2, w3, w4, w5⟩ := hw
  have hmine : x.1 = none ∨ ∃ b, x.1 = some b ∧ mine ρ H b := by
    obtain ⟨a, m⟩ := x
    cases a with
    | none => exact .inl rfl
    | some b => exact .inr ⟨b, rfl, i, m, B, hi, hg, ha⟩
  refine ⟨⟨?_, ?_, ?_, ?_, h.base⟩, ?_⟩
  · intro b o v hv
    by_cases e : x.1 = some b
    · exact hp b o v e hv
    · rw [cell_same (w5 b e)]
      exact h.pin b o v hv
  · intro j y D hj hD
    rcases (get_set hlt).1 hD with ⟨rfl, rfl⟩ | ⟨hne, hD⟩
    · exact hC
    · by_cases hal : D.alive = true
      · refine blkRel_world (fun b m hb => w5 b fun e => ?_) (h.blk j y D hj hD)
        obtain ⟨a, c⟩ := x
        simp only at e
        subst e
        exact hne (h.inj j i b m c D B hb hi hD hg hal ha)
      · cases D with
        | dead => trivial
        | cells vs t => simp [Blk.alive] at hal
        | lst => simp [Blk.alive] at hal
  · intro j k b m m' C' D hj hk hC' hD a1 a2
    have key : ∀ {j m C'}, ρ j = some (some b, m) → (H.set i C)[j]? = some C' → C'.alive = true → ∃ C'', H[j]? = some C'' ∧ C''.alive = true := by
      intro j m C' hj hC' hal
      rcases (get_set hlt).1 hC' with ⟨rfl, rfl⟩ | ⟨hne, hC'⟩
      · exact ⟨B, hg, ha⟩
      · exact ⟨C', hC', hal⟩
    obtain ⟨C1, g1, g2⟩ := key hj hC' a1
    obtain ⟨D1, g3, g4⟩ := key hk hD a2
    exact h.inj j k b m m' C1 D1 hj hk g1 g3 g2 g4
  · intro j y hj
    have := h.dom j y hj
    exact ⟨by simpa using this.1, fun b hb => by rw [w4]; exact this.2 b hb⟩
  · refine ⟨w1, w2, w3, by rw [w4]; exact Nat.le_refl _, Pins.le_refl p, Rho.le_refl ρ, by simp, ?_, ?_, fun _ _ _ h => .inl h, fun _ _ h => .inl h⟩
    · intro b hb hm
      refine w5 b fun e => hm ?_
      obtain ⟨a, c⟩ := x
      simp only at e
      subst e
      exact ⟨i, c, B, hi, hg, ha⟩
    · rintro b hb ⟨j, m, D, hj, hD, hal⟩
      rcases (get_set hlt).1 hD with ⟨rfl, rfl⟩ | ⟨hne, hD⟩
      · exact ⟨j, m, B, hj, hg, ha⟩
      · exact ⟨j, m, D, hj, hD, hal⟩

theorem Rel.kill (h : Rel P env p ρ H w) (i : Nat) : Rel P env p ρ (H.set i .dead) w ∧ Step p ρ H w p ρ (H.set i .dead) w := by
  have key : ∀ {j : Nat} {D : Blk}, (H.set i Blk.dead)[j]? = some D → D = Blk.dead ∨ H[j]? = some D := by
    intro j D hD
    rw [List.getElem?_set] at hD
    split at hD
    · split at hD
      · simp only [Option.some.injEq] at hD; exact .inl hD.symm
      · simp at hD
    · exact .inr hD
  refine ⟨⟨h.pin, fun j y D hj hD => ?_, ?_, fun j y hj => ?_, h.base⟩, ?_⟩
  · rcases key hD with rfl | hD
    · trivial
    · exact h.blk j y D hj hD
  · intro j k b m m' C D hj hk hC hD a1 a2
    rcases key hC with rfl | hC
    · simp [Blk.alive] at a1
    · rcases key hD with rfl | hD
      · simp [Blk.alive] at a2
      · exact h.inj j k b m m' C D hj hk hC hD a1 a2
  · have := h.dom j y hj
    exact ⟨by simpa using this.1, this.2⟩
  · refine ⟨rfl, rfl, rfl, Nat.le_refl _, Pins.le_refl p, Rho.le_refl ρ, by simp, fun _ _ _ => rfl, ?_, fun _ _ _ h => .inl h, fun _ _ h => .inl h⟩
    rintro b hb ⟨j, m, D, hj, hD, hal⟩
    rcases key hD with rfl | hD
    · simp [Blk.alive] at hal
    · exact ⟨j, m, D, hj, hD, hal⟩
end
end Go.Dv

/- Elements, rows, rows that are frozen. -/
set_option linter.unusedVariables false
set_option linter.unusedSimpArgs false
namespace Go.Dv

section
variable {P : Program} {env : List PV} {p : Pins} {ρ : Rho} {H : Heap} {w : World}

theorem mkSE_dn' : ∀ (es : List SE) (a : SE) (l : List PV), a.dn env = .agg l → (es.foldl (SE.o2 .mkS) a).dn env = .agg (l ++ es.map (·.dn env))
  | [], a, l, h => by simpa using h
  | e :: es, a, l, h => by
    simp only [List.foldl_cons, List.map_cons]
    rw [mkSE_dn' es _ (l ++ [e.dn env]) (by simp [SE.dn, O2.dn, h, PV.cs])]
    simp
theorem mkSE_dn (es : List SE) : (mkSE es).dn env = .agg (es.map (·.dn env)) := by
  unfold mkSE
  rw [mkSE_dn' es _ [] rfl]
  simp

theorem toSE_ok {k : Kn} {a : AV} {e : SE} {v : Value} (h : toSE P k a = some e) (hv : val P env p ρ a v) : RV p (e.dn env) v ∧ wt P k (e.dn env) = true := by
  have nil : ∀ (ad : Option Addr), v = .slice ad 0 0 → nilSE P k = some e → RV p (e.dn env) v ∧ wt P k (e.dn env) = true := by
    intro ad hv' h'
    unfold nilSE at h'
    split at h'
    · split at h'
      · rename_i sz ag h1 h2
        split at h'
        · rename_i h0
          simp only [Option.some.injEq] at h'
          subst h'
          refine ⟨?_, wt_list_mk h1 h2 rfl⟩
          simp only [seNil, SE.dn, RV]
          exact ⟨ad, 0, hv', Nat.le_refl _, h0, fun _ => rfl, fun h => absurd h (by simp)⟩
        · simp at h'
      · simp at h'
    · simp at h'
  unfold toSE at h
  split at h
  · split at h
    · rename_i hk
      subst hk
      simp only [Option.some.injEq] at h
      subst h
      simpa [val] using hv
    · simp at h
  · simp only [val] at hv
    obtain ⟨ad, rfl⟩ := hv
    exact nil ad rfl h
  · simp only [val] at hv
    exact nil none hv h
  · simp at h

theorem toSEs_ok : ∀ (ks : List Kn) (as : List AV) (es : List SE) (us : List Value), toSEs P ks as = some es → vals P env p ρ as us →
    wtCs P ks (es.map (·.dn env)) = true ∧ es.length = us.length ∧ ks.length = us.length ∧ ∀ (j : Nat) (x : PV), (es.map (·.dn env))[j]? = some x → ∃ u, us[j]? = some u ∧ RV p x u
  | [], [], es, us, h, hv => by simp [toSEs] at h; subst h; rw [vals_nil_inv hv]; simp [wtCs]
  | [], _ :: _, es, us, h, hv => by simp [toSEs] at h
  | _ :: _, [], es, us, h, hv => by simp [toSEs] at h
  | k :: ks, a :: as, es, us, h, hv => by
    simp only [toSEs] at h
    split at h
    · rename_i e es' h1 h2
      simp only [Option.some.injEq] at h
      subst h
      simp only [vals] at hv
      obtain ⟨u, r, rfl, g1, g2⟩ := hv
      obtain ⟨q1, q2⟩ := toSE_ok h1 g1
      obtain ⟨q3, q4, q4', q5⟩ := toSEs_ok ks as es' r h2 g2
      refine ⟨by simp [wtCs, q2, q3], by simp [q4], by simp [q4'], fun j x hj => ?_⟩
      cases j with
      | zero => simp at hj; subst hj; exact ⟨u, by simp, q1⟩
      | succ j => simpa using q5 j x (by simpa using hj)
    · simp at h

theorem RCs_mk {q : Nat → Option Value} : ∀ (xs : List PV) (us : List Value) (o : Nat), xs.length = us.length → (∀ (j : Nat) (x : PV), xs[j]? = some x → ∃ u, us[j]? = some u ∧ RV p x u) → (∀ (j : Nat) (u : Value), us[j]? = some u → q (o + j) = some u) → RCs p q o xs
  | [], us, o, hl, h, hq => by simp [RCs]
  | x :: xs, us, o, hl, h, hq => by
    cases us with
    | nil => simp at hl
    | cons u us =>
      simp only [RCs]
      obtain ⟨u', h1, h2⟩ := h 0 x (by simp)
      simp at h1
      subst h1
      refine ⟨⟨u, by simpa using hq 0 u (by simp), h2⟩, RCs_mk xs us (o + 1) (by simpa using hl) (fun j x hj => by simpa using h (j + 1) x (by simpa using hj)) fun j v hj => ?_⟩
      have := hq (j + 1) v (by simpa using hj)
      rwa [show o + (j + 1) = o + 1 + j by omega] at this

/-- An element that is told by its cells. -/
theorem elemSE_ok {t : TypeId} {cs : List AV} {e : SE} {us : List Value} {q : Nat → Option Value} {o : Nat} {ag : Bool} (h : elemSE P t cs = some e) (hv : vals P env p ρ cs us) (hag : isAggA P t = some ag) (hq : ∀ (j : Nat) (u : Value), us[j]? = some u → q (o + j) = some u) :
    RE p q us.length ag o (e.dn env) ∧ wtE P t (cellK P t) (e.dn env) = true := by
  unfold elemSE at h
  split at h
  · simp at h
  · rename_i ks hks
    split at h
    · simp at h
    · rename_i es hes
      obtain ⟨h1, h2, h2', h3⟩ := toSEs_ok ks cs es us hes hv
      rw [hag] at h
      split at h
      · rename_i es' hg
        simp only [Option.some.injEq] at h hg
        subst h hg
        rw [mkSE_dn, hks]
        simp only [RE, wtE]
        exact ⟨⟨trivial, by simpa using h2, RCs_mk _ us o (by simpa using h2) h3 hq⟩, h1⟩
      · rename_i e' hg
        simp only [Option.some.injEq] at h hg
        subst h hg
        simp at h2
        obtain ⟨u, hu, hr⟩ := h3 0 (e'.dn env) (by simp)
        have hql := hq 0 u hu
        rw [← h2]
        refine ⟨RE_mk (by simpa using hql) hr, ?_⟩
        cases ks with
        | nil => simp [wtCs] at h1
        | cons k ks =>
          cases ks with
          | cons k' ks => simp [wtCs] at h1
          | nil =>
            simp only [List.map_cons, List.map_nil, wtCs, Bool.and_true] at h1
            rw [hks]
            generalize e'.dn env = x at h1 hr
            cases x with
            | agg cs => simp [RV] at hr
            | int k n => cases k <;> cases ‹Kn› <;> simp_all [wt, wtE]
            | bool b => cases ‹Kn› <;> simp_all [wt, wtE]
            | str l => cases ‹Kn› <;> simp_all [wt, wtE]
            | list s g xs => cases ‹Kn› <;> simp_all [wt, wtE]
      · simp at h

theorem chunk_ok {t : TypeId} {sz : Nat} {ag : Bool} {q : Nat → Option Value} (hag : isAggA P t = some ag) (h0 : 0 < sz) : ∀ (n : Nat) (cs : List AV) (acc r : SE) (us : List Value) (o : Nat) (ys : List PV), chunkSE P t sz n cs acc = some r → vals P env p ρ cs us → us.length = n * sz →
    (∀ (j : Nat) (u : Value), us[j]? = some u → q (o + j) = some u) → acc.dn env = .list sz ag ys → ∃ zs, r.dn env = .list sz ag (ys ++ zs) ∧ zs.length = n ∧ REs p q sz ag o zs ∧ wtEs P t (cellK P t) zs = true
  | 0, cs, acc, r, us, o, ys, h, hv, hl, hq, ha => by
    simp only [chunkSE, Option.some.injEq] at h
    subst h
    exact ⟨[], by simpa using ha, rfl, by simp [REs], by simp [wtEs]⟩
  | n + 1, cs, acc, r, us, o, ys, h, hv, hl, hq, ha => by
    simp only [chunkSE, Option.bind_eq_some_iff] at h
    obtain ⟨e, he, h⟩ := h
    have hls : (us.take sz).length = sz := by simp; rw [hl, Nat.add_mul]; omega
    obtain ⟨g1, g2⟩ := elemSE_ok (q := q) (o := o) he (vals_take hv sz) hag (fun j u hj => hq j u (by
      rw [List.getElem?_take] at hj
      split at hj
      · exact hj
      · simp at hj))
    rw [hls] at g1
    obtain ⟨zs, k1, k2, k3, k4⟩ := chunk_ok hag h0 n (cs.drop sz) _ r (us.drop sz) (o + sz) (ys ++ [e.dn env]) h (vals_drop hv sz) (by simp; rw [hl, Nat.add_mul]; omega) (fun j u hj => by
      rw [List.getElem?_drop] at hj
      have := hq _ u hj
      rwa [show o + (sz + j) = o + sz + j by omega] at this) (by simp [SE.dn, O2.dn, ha])
    exact ⟨e.dn env :: zs, by rw [k1]; simp, by simp [k2], by simp only [REs]; exact ⟨g1, k3⟩, by simp [wtEs, g2, k4]⟩

/-! ### Rows that are frozen -/
theorem RCs_local {q q' : Nat → Option Value} : ∀ (xs : List PV) (o : Nat), (∀ k, o ≤ k → k < o + xs.length → ∀ v, q k = some v → q' k = some v) → RCs p q o xs → RCs p q' o xs
  | [], o, h, hr => by simp [RCs]
  | x :: xs, o, h, hr => by
    simp only [RCs] at hr ⊢
    obtain ⟨⟨v, h1, h2⟩, h3⟩ := hr
    refine ⟨⟨v, h o (Nat.le_refl _) (by simp) v h1, h2⟩, RCs_local xs (o + 1) (fun k h1 h2 v hv => h k (by omega) (by simp; omega) v hv) h3⟩
theorem RE_local {q q' : Nat → Option Value} {sz o : Nat} {ag : Bool} {x : PV} (h : ∀ k, o ≤ k → k < o + sz → ∀ v, q k = some v → q' k = some v) (hr : RE p q sz ag o x) : RE p q' sz ag o x := by
  cases ag with
  | true =>
    obtain ⟨cs, rfl, h1, h2⟩ := RE_agg hr
    simp only [RE]
    exact ⟨trivial, h1, RCs_local cs o (fun k a b v hv => h k a (by omega) v hv) h2⟩
  | false =>
    obtain ⟨rfl, v, h1, h2⟩ := RE_one hr
    exact RE_mk (h o (Nat.le_refl _) (by omega) v h1) h2
theorem REs_local {q q' : Nat → Option Value} {sz : Nat} {ag : Bool} : ∀ (xs : List PV) (o : Nat), (∀ k, o ≤ k → k < o + xs.length * sz → ∀ v, q k = some v → q' k = some v) → REs p q sz ag o xs → REs p q' sz ag o xs
  | [], o, h, hr => by simp [REs]
  | x :: xs, o, h, hr => by
    simp only [REs] at hr ⊢
    have e : (x :: xs).length * sz = sz + xs.length * sz := by simp [Nat.add_mul]; omega
    exact ⟨RE_local (fun k h1 h2 v hv => h k h1 (by omega) v hv) hr.1, REs_local xs _ (fun k h1 h2 v hv => h k (by omega) (by omega) v hv) hr.2⟩

theorem froze_ok (h : Rel P env p ρ H w) {a : AV} {v : Value} (hv : val P env p ρ a v) : ∃ p', Rel P env p' ρ (froze H a).2 w ∧ Step p ρ H w p' ρ (froze H a).2 w ∧ val P env p' ρ (froze H a).1 v := by
  have triv : (froze H a).2 = H → val P env p ρ (froze H a).1 v → ∃ p', Rel P env p' ρ (froze H a).2 w ∧ Step p ρ H w p' ρ (froze H a).2 w ∧ val P env p' ρ (froze H a).1 v := by
    intro e hv
    rw [e]
    exact ⟨p, h, Step.refl p ρ H w, hv⟩
  cases a with
  | own i n =>
    cases hg : H[i]? with
    | none => exact triv (by simp [froze, hg]) (by simp [froze, hg, val])
    | some B =>
      cases B with
      | dead => exact triv (by simp [froze, hg]) (by simp [froze, hg, val])
      | cells vs t => exact triv (by simp [froze, hg]) (by simp [froze, hg, val])
      | lst e n' sz ag t wr =>
        by_cases hn : n = n'
        · subst hn
          have ef : froze H (.own i n) = (.pv (.list t) e, H.set i (.lst e n sz ag t false)) := by simp [froze, hg]
          rw [ef]
          simp only [val] at hv
          obtain ⟨ad, c, m, ad', hi, hm, rfl, hmc, hc0, had⟩ := hv
          have hB := h.blk i _ _ hi hg
          simp only [blkRel] at hB
          obtain ⟨a', c', xs, e1, e2, e3, e4, r0, r1, r2, r3⟩ := hB
          rw [hi] at e1
          simp only [Option.some.injEq, Prod.mk.injEq] at e1
          obtain ⟨rfl, rfl⟩ := e1
          rw [hm] at e4
          simp only [PV.int.injEq, true_and] at e4
          have hmx : m = xs.length := by omega
          subst hmx
          cases ad with
          | none =>
            obtain ⟨s1, s2⟩ := h.set (C := .lst e n sz ag t false) hi hg rfl w ⟨rfl, rfl, rfl, rfl, fun _ _ => rfl⟩ (by
              simp only [blkRel]
              exact ⟨none, c, xs, hi, e2, e3, hm, r0, r1, r2, fun b hb => by simp at hb⟩) (fun b o v hb => by simp at hb)
            refine ⟨p, s1, s2, ?_⟩
            simp only [val, e2, RV]
            refine ⟨⟨ad', c, rfl, hmc, r0, fun _ => r2 rfl, fun hn => ?_⟩, e3⟩
            have := r2 rfl
            omega
          | some b =>
            obtain ⟨cs, hb, hsz, hr, hp1, hp2⟩ := r3 b rfl
            let p' : Pins := fun b' o => if b' = b ∧ o < xs.length * sz then cs[o]? else p b' o
            have hcell : ∀ o v, p b o = some v → cs[o]? = some v := fun o v hv => by
              have := h.pin b o v hv
              rwa [cell_of_row w b o cs t (0, 0) hb] at this
            have hle : p.le p' := by
              intro b' o v hv
              show (if b' = b ∧ o < xs.length * sz then cs[o]? else p b' o) = some v
              split
              · rename_i hbb
                obtain ⟨rfl, _⟩ := hbb
                exact hcell o v hv
              · exact hv
            have hother : ∀ b', b' ≠ b → ∀ o, p' b' o = p b' o := fun b' hb' o => by
              show (if b' = b ∧ o < xs.length * sz then cs[o]? else p b' o) = p b' o
              rw [if_neg (fun h => hb' h.1)]
            have hself : ∀ o v, p' b o = some v → o < xs.length * sz ∧ cs[o]? = some v := by
              intro o v hv
              change (if b = b ∧ o < xs.length * sz then cs[o]? else p b o) = some v at hv
              split at hv
              · rename_i hbb
                exact ⟨hbb.2, hv⟩
              · exact ⟨hp1 o v hv, hcell o v hv⟩
            have hlt : i < H.length := (List.getElem?_eq_some_iff.1 hg).1
            refine ⟨p', ⟨?_, ?_, ?_, ?_, h.base.mono hle⟩, ?_, ?_⟩
            · intro b' o v hv
              by_cases hbb : b' = b
              · subst hbb
                rw [cell_of_row w b' o cs t (0, 0) hb]
                exact (hself o v hv).2
              · rw [hother b' hbb] at hv
                exact h.pin b' o v hv
            · intro j y D hj hD
              rcases (get_set hlt).1 hD with ⟨rfl, rfl⟩ | ⟨hne, hD⟩
              · simp only [blkRel]
                refine ⟨some b, c, xs, hi, e2, e3, hm, r0, r1, r2, fun b' hb' => ?_⟩
                simp only [Option.some.injEq] at hb'
                subst hb'
                exact ⟨cs, hb, hsz, REs_mono hle (fun _ _ h => h) _ _ hr, fun o v hv => (hself o v hv).1, fun h => by simp at h⟩
              · by_cases hal : D.alive = true
                · refine blkRel_mono hle (Rho.le_refl ρ) (fun b' m hb' => hother b' fun e => ?_) (h.blk j y D hj hD)
                  subst e
                  exact hne (h.inj j i b' m c D _ hb' hi hD hg hal rfl)
                · cases D with
                  | dead => trivial
                  | cells vs t => simp [Blk.alive] at hal
                  | lst => simp [Blk.alive] at hal
            · intro j k b1 m m' C D hj hk hC hD a1 a2
              have key : ∀ {j : Nat} {C : Blk}, (H.set i (.lst e n sz ag t false))[j]? = some C → C.alive = true → ∃ C', H[j]? = some C' ∧ C'.alive = true := by
                intro j C hC hal
                rcases (get_set hlt).1 hC with ⟨rfl, rfl⟩ | ⟨_, hC⟩
                · exact ⟨_, hg, rfl⟩
                · exact ⟨C, hC, hal⟩
              obtain ⟨C1, g1, g2⟩ := key hC a1
              obtain ⟨D1, g3, g4⟩ := key hD a2
              exact h.inj j k b1 m m' C1 D1 hj hk g1 g3 g2 g4
            · intro j y hj
              have := h.dom j y hj
              exact ⟨by simpa using this.1, this.2⟩
            · refine ⟨rfl, rfl, rfl, Nat.le_refl _, hle, Rho.le_refl ρ, by simp, fun _ _ _ => rfl, ?_, ?_, fun _ _ h => .inl h⟩
              · rintro b' hb' ⟨j, m', D, hj, hD, hal⟩
                rcases (get_set hlt).1 hD with ⟨rfl, rfl⟩ | ⟨_, hD⟩
                · exact ⟨j, m', _, hj, hg, rfl⟩
                · exact ⟨j, m', D, hj, hD, hal⟩
              · intro b' o v hv
                by_cases hbb : b' = b
                · subst hbb
                  exact .inr (.inl ⟨i, c, _, hi, hg, rfl⟩)
                · rw [hother b' hbb] at hv
                  exact .inl hv
            · simp only [val, e2, RV]
              refine ⟨⟨ad', c, rfl, hmc, r0, fun hn => ?_, fun hl => ⟨b, 0, had (by omega), ?_⟩⟩, e3⟩
              · by_cases hc : 0 < c
                · have := had hc
                  rw [hn] at this
                  simp at this
                · omega
              refine REs_local xs 0 (fun k _ hk v hv => ?_) (REs_mono hle (fun _ _ h => h) _ _ hr)
              show (if b = b ∧ k < xs.length * sz then cs[k]? else p b k) = some v
              rw [if_pos ⟨rfl, by omega⟩]
              exact hv
        · exact triv (by simp [froze, hg, hn]) (by simp [froze, hg, hn, val])
  | _ => exact triv rfl hv

theorem frozeL_ok : ∀ (as : List AV) {p : Pins} {H : Heap} {us : List Value}, Rel P env p ρ H w → vals P env p ρ as us → ∃ p', Rel P env p' ρ (frozeL H as).2 w ∧ Step p ρ H w p' ρ (frozeL H as).2 w ∧ vals P env p' ρ (frozeL H as).1 us
  | [], p, H, us, h, hv => ⟨p, h, Step.refl p ρ H w, hv⟩
  | a :: as, p, H, us, h, hv => by
    simp only [vals] at hv
    obtain ⟨u, r, rfl, h1, h2⟩ := hv
    obtain ⟨p1, g1, g2, g3⟩ := froze_ok h h1
    obtain ⟨p2, k1, k2, k3⟩ := frozeL_ok as g1 (vals_mono g2.pins (Rho.le_refl ρ) _ _ h2)
    refine ⟨p2, k1, g2.trans k2, ?_⟩
    simp only [frozeL, vals]
    exact ⟨u, r, rfl, val_mono k2.pins (Rho.le_refl ρ) _ _ g3, k3⟩
end
end Go.Dv

/- New blocks, stores. -/
set_option linter.unusedVariables false
set_option linter.unusedSimpArgs false
namespace Go.Dv

/-- What a new block comes to. -/
def NewOk (P : Program) (env : List PV) (p : Pins) (ρ : Rho) (mk : Nat → AV) (B : Blk) (s : Sem Value) : Prop :=
  ∃ (o : Obj) (m : Nat) (v : Nat → Value), (∀ w, s.run P w = .ok (v w.heap.size) (w.alloc o)) ∧
    ∀ (p' : Pins) (ρ' : Rho) (w : World) (n b : Nat), p.le p' → ρ.le ρ' → ρ' n = some (some b, m) → w.heap[b]? = some o → (∀ o, p' b o = none) → val P env p' ρ' (mk n) (v b) ∧ blkRel P env p' ρ' w n B

section
variable {P : Program} {env : List PV} {p : Pins} {ρ : Rho} {H : Heap} {w : World}

theorem blk_cells {p' : Pins} {ρ' : Rho} {cs : List AV} {us : Array Value} {t : TypeId} {i b m : Nat} (hv : vals P env p' ρ' cs us.toList) (hi : ρ' i = some (some b, m)) (hb : w.heap[b]? = some (.cells us t (0, 0))) (hp : ∀ o, p' b o = none) : blkRel P env p' ρ' w i (.cells cs t) := by
  simp only [blkRel]
  refine ⟨b, m, us, hi, hb, by have := vals_length hv; simpa using this, hp, fun k a hk => ?_⟩
  obtain ⟨v, h1, h2⟩ := vals_get hv hk
  exact ⟨v, by simpa using h1, h2⟩

theorem alloc_ok {t : TypeId} {mk : Nat → AV} {B : Blk} {ns : List SE} (he : allocA P t = some (ns, .new mk B)) : NewOk P env p ρ mk B (Instr.alloc t true (.tuple #[])) := by
  simp only [allocA, Option.map_eq_some_iff, Prod.mk.injEq, OpR.new.injEq] at he
  obtain ⟨zs, hz, _, rfl, rfl⟩ := he
  obtain ⟨z, i, h1, h2, h3, h4, h5⟩ := zero_cells (P := P) (env := env) (p := p) (ρ := ρ) (w := default) hz
  refine ⟨.cells z.cells t, 0, fun b => .pointer (some ⟨b, 0, none⟩), fun w => ?_, fun p' ρ' w n b hp hle hn hb hno => ⟨by simp [val, hn], blk_cells (vals_mono hp hle _ _ h4) hn hb hno⟩⟩
  simp [Instr.alloc, zeroValue, typeInfo, h2, h3, newVar, newRow]

theorem box_ok {t : TypeId} {x : AV} {u : Value} {mk : Nat → AV} {B : Blk} {ns : List SE} (hx : val P env p ρ x u) (he : boxA t x = some (ns, .new mk B)) : NewOk P env p ρ mk B (Instr.box t u) := by
  simp only [boxA, Option.map_eq_some_iff, Prod.mk.injEq, OpR.new.injEq] at he
  obtain ⟨cs, hc, _, rfl, rfl⟩ := he
  obtain ⟨h1, h2⟩ := cellsA_val hc hx
  refine ⟨.cells u.cells t, 0, fun b => .pointer (some ⟨b, 0, none⟩), fun w => ?_, fun p' ρ' w n b hp hle hn hb hno => ⟨by simp [val, hn], blk_cells (vals_mono hp hle _ _ h1) hn hb hno⟩⟩
  simp [Instr.box, newVar, newRow]

theorem row_new {p' : Pins} {ρ' : Rho} {c : SE} {zs : List PV} {us : Array Value} {t : TypeId} {sz n b m : Nat} {ag : Bool} {ne : SE} (hn : ρ' n = some (some b, m)) (hb : w.heap[b]? = some (.cells us t (0, 0))) (hno : ∀ o, p' b o = none)
    (hc : c.dn env = .list sz ag zs) (hne : ne.dn env = .int .i64 (zs.length : Nat)) (hsz : sizeA P t = some sz) (hag : isAggA P t = some ag) (h0 : 0 < sz) (hl : zs.length ≤ m) (hus : us.size = m * sz) (hr : REs p (fun o => us[o]?) sz ag 0 zs) (hp : p.le p') (hw : wtEs P t (cellK P t) zs = true) :
    val P env p' ρ' (.own n ne) (.slice (some ⟨b, 0, none⟩) zs.length m) ∧ blkRel P env p' ρ' w n (.lst c ne sz ag t true) := by
  refine ⟨by simp only [val]; exact ⟨some b, m, zs.length, _, hn, hne, rfl, hl, by simp, fun _ => rfl⟩, ?_⟩
  simp only [blkRel]
  refine ⟨some b, m, zs, hn, hc, wt_list_mk hsz hag hw, hne, h0, hl, by simp, fun b' hb' => ?_⟩
  simp only [Option.some.injEq] at hb'
  subst hb'
  exact ⟨us, hb, hus, REs_mono hp (fun _ _ h => h) _ _ hr, fun o v hv => by rw [hno] at hv; simp at hv, fun _ => hno⟩

theorem zeros_vals {zs : List AV} {us : Array Value} (h : vals P env p ρ zs us.toList) (n : Nat) (hp : n = 0 ∨ 0 < zs.length) :
    vals P env p ρ (zerosA zs n) ((Array.range n).map (us[· % us.size]!)).toList := by
  have hl := vals_length h
  have hl' : us.size = us.toList.length := by simp
  refine vals_of_get (by simp [zerosA]) fun k a hk => ?_
  have hkn : k < n := by
    have := (List.getElem?_eq_some_iff.1 hk).1
    simpa [zerosA] using this
  have hpos : 0 < zs.length := by omega
  have hlt : k % zs.length < zs.length := Nat.mod_lt _ hpos
  have ha : zs[k % zs.length]? = some a := by
    simp [zerosA, hkn] at hk
    rw [List.getElem?_eq_getElem hlt]
    simp [List.getElem?_eq_getElem hlt] at hk
    rw [hk]
  obtain ⟨v, hv, hr⟩ := vals_get h ha
  refine ⟨v, ?_, hr⟩
  have hs : us.size = zs.length := by omega
  have hlt' : k % us.size < us.size := by rw [hs]; exact hlt
  rw [← hs] at hv
  simp [hkn, getElem!_def]
  simp at hv
  rw [hv]
theorem zeros_all {zs : List AV} (h : zs.all oneA = true) (n : Nat) (hp : n = 0 ∨ 0 < zs.length) : (zerosA zs n).all oneA = true := by
  rw [List.all_eq_true] at h ⊢
  intro x hx
  simp only [zerosA, List.mem_map, List.mem_range] at hx
  obtain ⟨k, hk, rfl⟩ := hx
  have hpos : 0 < zs.length := by omega
  have hlt : k % zs.length < zs.length := Nat.mod_lt _ hpos
  have e : zs.getD (k % zs.length) .un = zs[k % zs.length] := by simp [List.getD, List.getElem?_eq_getElem hlt]
  rw [e]
  exact h _ (List.getElem_mem _)

theorem buildSlice_ok' {t : TypeId} {len : Nat} {pa : List (Nat × AV)} {pv : Array (Nat × Value)} {mk : Nat → AV} {B : Blk} {ns : List SE} (p1 : pv.toList.map (·.1) = pa.map (·.1)) (p2 : vals P env p ρ (pa.map (·.2)) (pv.toList.map (·.2)))
    (he : buildSliceA P t len pa = some (ns, .new mk B)) : NewOk P env p ρ mk B (Instr.buildSlice t len pv) := by
  unfold buildSliceA at he
  split at he
  · rename_i te hu
    split at he
    · rename_i sz ag zs hsz hag hz
      split at he
      · rename_i hcond
        obtain ⟨h0, hzl, hbig⟩ := hcond
        simp only [Option.bind_eq_some_iff, Option.map_eq_some_iff, Prod.mk.injEq, OpR.new.injEq] at he
        obtain ⟨cs, hcs, c, hc, _, rfl, rfl⟩ := he
        obtain ⟨z, i, h1, h2, h3, h4, h5⟩ := zero_cells (P := P) (env := env) (p := p) (ρ := ρ) (w := default) hz
        have hi : i.size = sz := by simpa [sizeA, h2] using hsz
        have hpos : len * sz = 0 ∨ 0 < zs.length := by right; omega
        have hzz : vals P env p ρ (zerosA zs (len * sz)) ((Array.range (len * sz)).map ((if len * sz = 0 then #[] else z.cells)[· % (if len * sz = 0 then #[] else z.cells).size]!)).toList := by
          by_cases e0 : len * sz = 0
          · simp [e0, zerosA, vals]
          · simp only [if_neg e0]; exact zeros_vals h4 _ hpos
        obtain ⟨rs, g1, g2, g3, g4⟩ := fill_ok _ _ _ cs _ p1 p2 hzz (zeros_all h5 _ hpos) hcs
        have hlen : cs.length = len * sz := by rw [g4]; simp [zerosA]
        have hrs : rs.size = len * sz := by have := vals_length g2; simp at this; omega
        obtain ⟨xs, k1, k2, k3, k4⟩ := chunk_ok (q := fun o => rs[o]?) (o := 0) hag h0 len cs (seNil sz ag) c rs.toList [] hc g2 (by simpa using hrs) (fun j u hj => by simpa using hj) rfl
        simp only [List.nil_append] at k1
        refine ⟨.cells rs te, len, fun b => .slice (some ⟨b, 0, none⟩) len len, fun w => ?_, fun p' ρ' w n b hp hle hn hb hno => ?_⟩
        · have hnb : ¬ (len * i.size > 16777216) := by rw [hi]; omega
          by_cases e0 : len * sz = 0
          · simp only [e0, if_true] at g1
            rw [← hi] at g1 e0
            simp [Instr.buildSlice, run_underlying hu, sizeOf, typeInfo, zeroValue, h2, h3, newRow, e0]
            simp at g1
            rw [g1]
            simp
          · simp only [if_neg e0] at g1
            rw [← hi] at g1 e0
            have e0' : ¬ (len = 0 ∨ i.size = 0) := by
              intro hh; exact e0 (by rcases hh with hh | hh <;> simp [hh])
            simp [Instr.buildSlice, run_underlying hu, sizeOf, typeInfo, zeroValue, h2, h3, newRow, hnb, e0']
            rw [g1]
            simp
            exact fun hh => absurd hh e0
        · have := row_new (P := P) (env := env) (p := p) hn hb hno k1 (ne := i64 len) (by simp [i64, SE.dn, k2]) hsz hag h0 (by omega) hrs k3 hp k4
          rw [k2] at this
          exact this
      · simp at he
    · simp at he
  · simp at he

theorem buildSlice_ok {t : TypeId} {len : Nat} {ps : Array (Nat × Operand)} {e : Operand → AV} {ev : Operand → Value} {mk : Nat → AV} {B : Blk} {ns : List SE} (h : ∀ x ∈ ps.map (·.2), val P env p ρ (e x) (ev x))
    (he : buildSliceA P t len (partsA e ps) = some (ns, .new mk B)) : NewOk P env p ρ mk B (Instr.buildSlice t len (partsV ev ps)) := by
  obtain ⟨p1, p2⟩ := parts_rel ps h
  exact buildSlice_ok' p1 p2 he
theorem RCs_shift {q q' : Nat → Option Value} {d : Nat} : ∀ (xs : List PV) (o : Nat), (∀ k, o ≤ k → k < o + xs.length → ∀ v, q k = some v → q' (k + d) = some v) → RCs p q o xs → RCs p q' (o + d) xs
  | [], o, h, hr => by simp [RCs]
  | x :: xs, o, h, hr => by
    simp only [RCs] at hr ⊢
    obtain ⟨⟨v, h1, h2⟩, h3⟩ := hr
    refine ⟨⟨v, h o (Nat.le_refl _) (by simp) v h1, h2⟩, ?_⟩
    have := RCs_shift xs (o + 1) (fun k h1 h2 v hv => h k (by omega) (by simp; omega) v hv) h3
    rwa [show o + 1 + d = o + d + 1 by omega] at this
theorem RE_shift {q q' : Nat → Option Value} {sz o d : Nat} {ag : Bool} {x : PV} (h : ∀ k, o ≤ k → k < o + sz → ∀ v, q k = some v → q' (k + d) = some v) (hr : RE p q sz ag o x) : RE p q' sz ag (o + d) x := by
  cases ag with
  | true =>
    obtain ⟨cs, rfl, h1, h2⟩ := RE_agg hr
    simp only [RE]
    exact ⟨trivial, h1, RCs_shift cs o (fun k a b v hv => h k a (by omega) v hv) h2⟩
  | false =>
    obtain ⟨rfl, v, h1, h2⟩ := RE_one hr
    exact RE_mk (h o (Nat.le_refl _) (by omega) v h1) h2
theorem REs_shift {q q' : Nat → Option Value} {sz d : Nat} {ag : Bool} : ∀ (xs : List PV) (o : Nat), (∀ k, o ≤ k → k < o + xs.length * sz → ∀ v, q k = some v → q' (k + d) = some v) → REs p q sz ag o xs → REs p q' sz ag (o + d) xs
  | [], o, h, hr => by simp [REs]
  | x :: xs, o, h, hr => by
    simp only [REs] at hr ⊢
    have e : (x :: xs).length * sz = sz + xs.length * sz := by simp [Nat.add_mul]; omega
    refine ⟨RE_shift (fun k h1 h2 v hv => h k h1 (by omega) v hv) hr.1, ?_⟩
    have := REs_shift xs (o + sz) (fun k h1 h2 v hv => h k (by omega) (by omega) v hv) hr.2
    rwa [show o + sz + d = o + d + sz by omega] at this
theorem REs_rep {q q' : Nat → Option Value} {sz : Nat} {ag : Bool} {z : PV} (hz : RE p q sz ag 0 z) : ∀ (n k : Nat), (∀ j, j < n → ∀ o, o < sz → ∀ v, q o = some v → q' ((k + j) * sz + o) = some v) → REs p q' sz ag (k * sz) (List.replicate n z)
  | 0, k, h => by simp [REs]
  | n + 1, k, h => by
    simp only [List.replicate_succ, REs]
    refine ⟨?_, ?_⟩
    · have := RE_shift (q' := q') (o := 0) (d := k * sz) (fun o _ ho v hv => by
        have := h 0 (by omega) o (by omega) v hv
        rwa [Nat.add_zero, Nat.add_comm] at this) hz
      simpa using this
    · have := REs_rep hz n (k + 1) (fun j hj o ho v hv => by
        have := h (j + 1) (by omega) o ho v hv
        rwa [show k + (j + 1) = k + 1 + j by omega] at this)
      rwa [Nat.add_mul, Nat.one_mul] at this

theorem makeSlice_ok {t : TypeId} {l c : AV} {u v : Value} {mk : Nat → AV} {B : Blk} {ns : List SE} (hl : val P env p ρ l u) (hc : val P env p ρ c v) (he : makeSliceA P t l c = some (ns, .new mk B)) (hn : Needs env ns) :
    NewOk P env p ρ mk B (Instr.makeSlice t u v) := by
  unfold makeSliceA at he
  split at he
  · rename_i e le ce hu
    split at he
    · rename_i i zs ag hi hz hag
      split at he
      · rename_i ze hze
        split at he
        · rename_i hcond
          obtain ⟨c4, c5, c6⟩ := hcond
          simp only [Option.some.injEq, Prod.mk.injEq, OpR.new.injEq] at he
          obtain ⟨rfl, rfl, rfl⟩ := he
          obtain ⟨l, hl', rfl⟩ := val_pint hl
          obtain ⟨c, hc', rfl⟩ := val_pint hc
          have n0 := need_leq hn.three.1
          have n1 := need_leq hn.three.2.1
          have n2 := need_leq hn.three.2.2
          rw [hl'] at n0
          rw [hl', hc'] at n1
          rw [hc'] at n2
          have c1 : 0 ≤ l := n0
          have c2 : l ≤ c := n1
          have c3 : c ≤ 16777216 := n2
          obtain ⟨z, i', h1, h2, h3, h4, h5⟩ := zero_cells (P := P) (env := []) (p := p) (ρ := ρ) (w := default) hz
          rw [hi] at h2
          simp only [Option.some.injEq] at h2
          subst h2
          have hsz : sizeA P e = some i.size := by simp [sizeA, hi]
          have hzs : z.cells.size = i.size := by have := vals_length h4; simp at this; omega
          obtain ⟨r1, r2⟩ := elemSE_ok (q := fun o => z.cells[o]?) (o := 0) hze h4 hag (fun j u hj => by simpa using hj)
          have r1 : RE p (fun o => z.cells[o]?) i.size ag 0 (ze.dn []) := by rw [Array.length_toList, hzs] at r1; exact r1
          have w1 : IntKind.i64.wrap l = l := by simp [IntKind.wrap, IntKind.bits, IntKind.signed]; omega
          have w2 : IntKind.i64.wrap c = c := by simp [IntKind.wrap, IntKind.bits, IntKind.signed]; omega
          have hb : (i.bytes : Int) * c ≤ 68719476736 := by
            have h0 : (i.bytes : Int) ≤ 4096 := by omega
            calc (i.bytes : Int) * c ≤ 4096 * c := Int.mul_le_mul_of_nonneg_right h0 (by omega)
              _ ≤ 68719476736 := by omega
          have hbad : ¬ (((c < 0 ∨ 281474976710656 < (i.bytes : Int) * c) ∨ l < 0) ∨ c < l) := by omega
          have hroom : ¬ (roomBytes < c.toNat * i.bytes) := by
            have : ((c.toNat * i.bytes : Nat) : Int) = (i.bytes : Int) * c := by
              rw [Int.natCast_mul, Int.toNat_of_nonneg (by omega), Int.mul_comm]
            simp only [roomBytes]
            omega
          refine ⟨.cells ((Array.range (c.toNat * i.size)).map (z.cells[· % z.cells.size]!)) e, c.toNat, fun b => .slice (some ⟨b, 0, none⟩) l.toNat c.toNat, fun w => ?_, fun p' ρ' w n b hp hle hn hb hno => ?_⟩
          · have ha : ∀ (k : IntKind) (n : Int) (w : World), (asInt (.int k n)).run P w = .ok n w := fun _ _ _ => rfl
            by_cases e0 : c.toNat * i.size = 0
            · simp only [e0]
              have e1 : c.toNat = 0 ∨ i.size = 0 := Nat.mul_eq_zero.1 e0
              simp [Instr.makeSlice, run_underlying hu, typeInfo, sizeOf, zeroValue, h3, hi, ha, w1, w2, hbad, askRoom, hroom, newRow, e1, e0]
              simp [Array.range]
            · have e1 : ¬ (c.toNat = 0 ∨ i.size = 0) := fun hh => e0 (Nat.mul_eq_zero.2 hh)
              simp [Instr.makeSlice, run_underlying hu, typeInfo, sizeOf, zeroValue, h3, hi, ha, w1, w2, hbad, askRoom, hroom, newRow, e1]
              exact fun hh => absurd hh e0
          · have hd : (SE.o1 (.zeros i.size ag (ze.dn [])) le).dn env = .list i.size ag (List.replicate l.toNat (ze.dn [])) := by simp [SE.dn, O1.dn, hl', PV.i]
            have := row_new (P := P) (env := env) (p := p) hn hb hno hd (ne := seLen (SE.o1 (.zeros i.size ag (ze.dn [])) le)) (by rw [seLen_dn, hd]; rfl) hsz hag c6 (m := c.toNat) (by simp; omega) (by simp)
              (by
                have := REs_rep (q' := fun o => ((Array.range (c.toNat * i.size)).map (z.cells[· % z.cells.size]!))[o]?) r1 l.toNat 0 (fun j hj o ho v hv => by
                  have hlt : j * i.size + o < c.toNat * i.size := by
                    have : (j + 1) * i.size ≤ c.toNat * i.size := Nat.mul_le_mul_right _ (by omega)
                    rw [Nat.add_mul] at this
                    omega
                  have hm : (j * i.size + o) % i.size = o := by rw [Nat.mul_comm, Nat.mul_add_mod, Nat.mod_eq_of_lt ho]
                  simp only [Nat.zero_add]
                  simp only [Array.getElem?_map, Array.getElem?_range, hlt, if_true, Option.map_some, hzs, hm]
                  simp [getElem!_def, hv])
                simpa using this) hp ((wtEs_all _).2 fun x hx => by rw [List.eq_of_mem_replicate hx]; exact r2)
            simpa using this
        · simp at he
      · simp at he
    · simp at he
  · simp at he
end
end Go.Dv

/- Stores. -/
set_option linter.unusedVariables false
set_option linter.unusedSimpArgs false
namespace Go.Dv

/-- A run of places gets new values. -/
def setRun {α : Type} : List α → Nat → List α → List α
  | vs, _, [] => vs
  | vs, o, x :: xs => setRun (vs.set o x) (o + 1) xs
theorem setL_run : ∀ (vs : List AV) (o : Nat) (xs : List AV), setL vs o xs = setRun vs o xs
  | vs, o, [] => rfl
  | vs, o, x :: xs => by simp only [setL, setRun]; exact setL_run _ _ xs
theorem setRun_length {α : Type} : ∀ (xs vs : List α) (o : Nat), (setRun vs o xs).length = vs.length
  | [], vs, o => rfl
  | x :: xs, vs, o => by simp [setRun, setRun_length xs]
theorem setRun_get {α : Type} : ∀ (xs vs : List α) (o k : Nat), o + xs.length ≤ vs.length → (setRun vs o xs)[k]? = if o ≤ k ∧ k < o + xs.length then xs[k - o]? else vs[k]?
  | [], vs, o, k, h => by
    simp only [setRun, List.length_nil, Nat.add_zero]
    rw [if_neg (by omega)]
  | x :: xs, vs, o, k, h => by
    simp only [List.length_cons] at h
    simp only [setRun, List.length_cons]
    rw [setRun_get xs (vs.set o x) (o + 1) k (by simp; omega)]
    by_cases e : k = o
    · subst e
      rw [if_neg (by omega), if_pos (by omega)]
      simp
      rw [List.getElem?_set_self (by omega)]
    · by_cases hk : o ≤ k ∧ k < o + (xs.length + 1)
      · rw [if_pos (by omega), if_pos hk]
        have : k - o = (k - (o + 1)) + 1 := by omega
        rw [this]
        simp
      · rw [if_neg (by omega), if_neg hk]
        rw [List.getElem?_set_ne (by omega)]
theorem row_get {α : Type} (cur us : List α) (o k : Nat) (h : o + us.length ≤ cur.length) :
    (cur.take o ++ us ++ cur.drop (o + us.length))[k]? = if o ≤ k ∧ k < o + us.length then us[k - o]? else cur[k]? := by
  have hl : (cur.take o).length = o := by simp; omega
  have hl2 : (cur.take o ++ us).length = o + us.length := by simp; omega
  by_cases h1 : k < o
  · rw [if_neg (by omega), List.getElem?_append_left (by omega), List.getElem?_append_left (by omega), List.getElem?_take, if_pos h1]
  · by_cases h2 : k < o + us.length
    · rw [if_pos (by omega), List.getElem?_append_left (by omega), List.getElem?_append_right (by omega), hl]
    · rw [if_neg (by omega), List.getElem?_append_right (by omega), hl2, List.getElem?_drop]
      congr 1
      omega

section
variable {P : Program} {env : List PV} {p : Pins} {ρ : Rho} {H : Heap} {w : World}

/-- The world behind a run of cells that are written. -/
theorem write_world {b o : Nat} {cs : Array Value} {t : TypeId} {us : List Value} (hb : w.heap[b]? = some (.cells cs t (0, 0))) (hroom : o + us.length ≤ cs.size) (h1 : ∀ u ∈ us, u.oneCell' = true) :
    ∃ w' cs', (storeCells ⟨b, o, none⟩ us).run P w = .ok () w' ∧ w'.heap[b]? = some (.cells cs' t (0, 0)) ∧ cs'.size = cs.size ∧ (∀ k, cs'[k]? = if o ≤ k ∧ k < o + us.length then us[k - o]? else cs[k]?) ∧
      w'.os = w.os ∧ w'.tape = w.tape ∧ w'.output = w.output ∧ w'.heap.size = w.heap.size ∧ ∀ j, j ≠ b → w'.heap[j]? = w.heap[j]? := by
  have hcl : cs.toList.length = cs.size := by simp
  have hst := run_storeCells_at P b o t us 0 cs w hb (by omega) h1
  simp only [Nat.add_zero] at hst
  refine ⟨_, (cs.toList.take o ++ us ++ cs.toList.drop (o + us.length)).toArray, hst, setRow_heap w b cs _ t (0, 0) hb, by simp; omega, fun k => ?_, rfl, rfl, rfl, by simp, fun j hj => setRow_other w b j _ hj⟩
  have hr := row_get cs.toList us o k (by omega)
  simp only [List.getElem?_toArray]
  rw [hr]
  simp

theorem write_ok (h : Rel P env p ρ H w) {i b m : Nat} {vs xs : List AV} {us : List Value} {o : Nat} {bt : TypeId} (hi : ρ i = some (some b, m)) (hg : H[i]? = some (.cells vs bt))
    (hx : vals P env p ρ xs us) (h1 : ∀ u ∈ us, u.oneCell' = true) (hroom : o + xs.length ≤ vs.length) :
    ∃ w', (storeCells ⟨b, o, none⟩ us).run P w = .ok () w' ∧ Rel P env p ρ (H.set i (.cells (setL vs o xs) bt)) w' ∧ Step p ρ H w p ρ (H.set i (.cells (setL vs o xs) bt)) w' := by
  obtain ⟨cs, hb, hsz0, hno, hc⟩ := h.cells hi hg
  have hlen := vals_length hx
  have hsz : vs.length ≤ cs.size := by
    cases hv : vs.length with
    | zero => omega
    | succ n =>
      obtain ⟨v, hv', _⟩ := hc n (vs[n]'(by omega)) (List.getElem?_eq_getElem (by omega))
      have := (Array.getElem?_eq_some_iff.1 hv').1
      omega
  obtain ⟨w', cs', k1, k2, k3, k4, k5, k6, k7, k8, k9⟩ := write_world (P := P) hb (us := us) (o := o) (by omega) h1
  refine ⟨w', k1, h.set hi hg rfl w' ⟨k5, k6, k7, k8, fun j hj => k9 j fun e => hj (by rw [e])⟩ ?_ fun b' o' v hb' hv => ?_⟩
  · simp only [blkRel]
    refine ⟨b, m, cs', hi, k2, by rw [k3, hsz0, setL_length], hno, fun k a hk => ?_⟩
    rw [setL_run, setRun_get _ _ _ _ hroom] at hk
    rw [k4 k, hlen]
    split at hk
    · rename_i hkk
      rw [if_pos hkk]
      exact vals_get hx hk
    · rename_i hkk
      rw [if_neg hkk]
      exact hc k a hk
  · simp only [Option.some.injEq] at hb'
    subst hb'
    rw [hno] at hv
    simp at hv

theorem RCs_iff {q : Nat → Option Value} : ∀ (xs : List PV) (o : Nat), RCs p q o xs ↔ ∀ (j : Nat) (x : PV), xs[j]? = some x → ∃ v, q (o + j) = some v ∧ RV p x v
  | [], o => by simp [RCs]
  | x :: xs, o => by
    simp only [RCs]
    rw [RCs_iff xs (o + 1)]
    constructor
    · rintro ⟨h1, h2⟩ j y hj
      cases j with
      | zero => simp at hj; subst hj; simpa using h1
      | succ j =>
        have := h2 j y (by simpa using hj)
        rwa [show o + 1 + j = o + (j + 1) by omega] at this
    · intro h
      refine ⟨by simpa using h 0 x (by simp), fun j y hj => ?_⟩
      have := h (j + 1) y (by simpa using hj)
      rwa [show o + (j + 1) = o + 1 + j by omega] at this
theorem wtCs_iff : ∀ (ks : List Kn) (cs : List PV), wtCs P ks cs = true ↔ cs.length = ks.length ∧ ∀ (j : Nat) (k : Kn) (c : PV), ks[j]? = some k → cs[j]? = some c → wt P k c = true
  | [], [] => by simp [wtCs]
  | [], _ :: _ => by simp [wtCs]
  | _ :: _, [] => by simp [wtCs]
  | k :: ks, c :: cs => by
    simp only [wtCs, Bool.and_eq_true]
    rw [wtCs_iff ks cs]
    constructor
    · rintro ⟨h1, h2, h3⟩
      refine ⟨by simp [h2], fun j k' c' hk hc => ?_⟩
      cases j with
      | zero => simp at hk hc; subst hk hc; exact h1
      | succ j => exact h3 j k' c' (by simpa using hk) (by simpa using hc)
    · rintro ⟨h1, h2⟩
      exact ⟨h2 0 k c (by simp) (by simp), by simpa using h1, fun j k' c' hk hc => h2 (j + 1) k' c' (by simpa using hk) (by simpa using hc)⟩
theorem REs_iff {q : Nat → Option Value} {sz : Nat} {ag : Bool} : ∀ (xs : List PV) (o : Nat), REs p q sz ag o xs ↔ ∀ (j : Nat) (x : PV), xs[j]? = some x → RE p q sz ag (o + j * sz) x
  | [], o => by simp [REs]
  | x :: xs, o => by
    simp only [REs]
    rw [REs_iff xs (o + sz)]
    constructor
    · rintro ⟨h1, h2⟩ j y hj
      cases j with
      | zero => simp at hj; subst hj; simpa using h1
      | succ j =>
        have := h2 j y (by simpa using hj)
        rwa [show o + sz + j * sz = o + (j + 1) * sz by rw [Nat.add_mul]; omega] at this
    · intro h
      refine ⟨by simpa using h 0 x (by simp), fun j y hj => ?_⟩
      have := h (j + 1) y (by simpa using hj)
      rwa [show o + (j + 1) * sz = o + sz + j * sz by rw [Nat.add_mul]; omega] at this

theorem REs_set {q q' : Nat → Option Value} {sz : Nat} {ag : Bool} {xs : List PV} {k : Nat} {x : PV} (h : REs p q sz ag 0 xs) (hx : RE p q' sz ag (k * sz) x) (hq : ∀ o, ¬ (k * sz ≤ o ∧ o < (k + 1) * sz) → ∀ v, q o = some v → q' o = some v) : REs p q' sz ag 0 (xs.set k x) := by
  rw [REs_iff] at h ⊢
  intro j y hj
  rw [List.getElem?_set] at hj
  split at hj
  · rename_i e
    subst e
    split at hj
    · simp only [Option.some.injEq] at hj
      subst hj
      simpa using hx
    · simp at hj
  · rename_i e
    refine RE_local (fun o h1 h2 v hv => hq o ?_ v hv) (h j y hj)
    rintro ⟨g1, g2⟩
    rcases Nat.lt_or_gt_of_ne e with e | e
    · have : (k + 1) * sz ≤ j * sz := Nat.mul_le_mul_right _ e
      omega
    · have : (j + 1) * sz ≤ k * sz := Nat.mul_le_mul_right _ e
      rw [Nat.add_mul] at this
      omega

theorem setf_dn : ∀ (es : List SE) (x : SE) (o : Nat) (cs : List PV), x.dn env = .agg cs → (es.foldl (fun (s : SE × Nat) y => (SE.o2 (.setf s.2) s.1 y, s.2 + 1)) (x, o)).1.dn env = .agg (setRun cs o (es.map (·.dn env)))
  | [], x, o, cs, h => by simpa [setRun] using h
  | e :: es, x, o, cs, h => by
    simp only [List.foldl_cons, List.map_cons, setRun]
    exact setf_dn es _ (o + 1) _ (by simp [SE.dn, O2.dn, h, PV.cs])

theorem wtE_mk1 {e : TypeId} {k : Kn} : ∀ {x : PV}, wt P k x = true → (∀ cs, x ≠ .agg cs) → wtE P e (some [k]) x = true
  | .agg cs, h, hn => absurd rfl (hn cs)
  | .int j n, h, _ => by cases k <;> simp_all [wt, wtE]
  | .bool b, h, _ => by cases k <;> simp_all [wt, wtE]
  | .str l, h, _ => by cases k <;> simp_all [wt, wtE]
  | .list s g xs, h, _ => by cases k <;> simp_all [wt, wtE]

theorem store_ok (h : Rel P env p ρ H w) {t : TypeId} {q x : AV} {u v : Value} {H' : Heap} (hp : val P env p ρ q u) (hx : val P env p ρ x v) (he : storeA P H t q x = some H') :
    ∃ w' p', (Instr.storeAt t u v).run P w = .ok () w' ∧ Rel P env p' ρ H' w' ∧ Step p ρ H w p' ρ H' w' := by
  unfold storeA at he
  split at he
  · rename_i i o
    split at he
    · rename_i vs bt hg
      split at he
      · rename_i cs n hcs hn
        split at he
        · rename_i hcond
          simp only [Option.some.injEq] at he
          subst he
          simp only [val] at hp
          obtain ⟨b, m, hi, rfl⟩ := hp
          obtain ⟨g1, g2⟩ := cellsA_val hcs hx
          have hone := vals_one g2 g1
          obtain ⟨w', k1, k2, k3⟩ := write_ok h hi hg g1 hone (o := o) (by omega)
          refine ⟨w', p, ?_, k2, k3⟩
          have hl := vals_length g1
          have hsz : v.cells.size = n := by have : v.cells.size = v.cells.toList.length := by simp
                                            omega
          simp [Instr.storeAt, Instr.sureAddr, storeVar, sizeA_run hn, hsz, k1]
        · simp at he
      · simp at he
    · simp at he
  · rename_i i n ix o sz
    split at he
    · simp at he
    · rename_i cs hcs
      simp only at he
      split at he
      · rename_i e n' sz' ag te hg
        split at he
        · rename_i hnn
          obtain ⟨rfl, rfl⟩ := hnn
          split at he
          · simp at he
          · rename_i ks hks
            split at he
            · simp at he
            · rename_i es hes
              split at he
              · rename_i hcond
                simp only [Bool.and_eq_true, beq_iff_eq, decide_eq_true_eq] at hcond
                obtain ⟨⟨⟨⟨c1, c2⟩, c3⟩, c4⟩, c5⟩ := hcond
                simp only [Option.some.injEq] at he
                obtain ⟨g1, g2⟩ := cellsA_val hcs hx
                have hone := vals_one g2 g1
                obtain ⟨p1, f1, f2, f3⟩ := frozeL_ok cs h g1
                obtain ⟨t1, t2, t3, t4⟩ := toSEs_ok _ _ es _ hes f3
                simp only [val] at hp
                obtain ⟨b, c, hi, x1, x2, rfl⟩ := hp
                have hB := f1.blk i _ _ hi hg
                simp only [blkRel] at hB
                obtain ⟨a', c', xs, e1, e2, e3, e4, r0, r1, r2, r3⟩ := hB
                rw [hi] at e1
                simp only [Option.some.injEq, Prod.mk.injEq] at e1
                obtain ⟨rfl, rfl⟩ := e1
                obtain ⟨cc, hb, hcsz, hres, hpin, hno⟩ := r3 b rfl
                have hno := hno rfl
                rw [e4] at x2
                have x2 : (ix.dn env).i < (xs.length : Int) := x2
                obtain ⟨sz', ag', xs', hxs, hsz, hag, hws⟩ := wt_list e3
                simp only [PV.list.injEq] at hxs
                obtain ⟨rfl, rfl, rfl⟩ := hxs
                generalize hk : (ix.dn env).i.toNat = k at *
                have hkl : k < xs.length := by omega
                have hkk : xs[k]? = some xs[k] := List.getElem?_eq_getElem hkl
                have hel := REs_get xs 0 k _ hres hkk
                rw [Nat.zero_add] at hel
                have hwel := wtEs_get xs k _ hws hkk
                have hlk : (k + 1) * sz ≤ xs.length * sz := Nat.mul_le_mul_right _ hkl
                have hlc : xs.length * sz ≤ c * sz := Nat.mul_le_mul_right _ r1
                rw [Nat.add_mul, Nat.one_mul] at hlk
                -- how many cells
                have hks' : ks.length = sz ∧ (ag = false → ks.length = 1) := by
                  cases ag with
                  | true =>
                    obtain ⟨l, hl, hl2, _⟩ := RE_agg hel
                    rw [hl, hks] at hwel
                    simp only [wtE] at hwel
                    exact ⟨by rw [← (wtCs_get ks l hwel).1, hl2], by simp⟩
                  | false =>
                    obtain ⟨h1, v', _, hv'⟩ := RE_one hel
                    rw [hks] at hwel
                    have : ks.length = 1 := by
                      generalize xs[k] = z at hwel hv'
                      cases z with
                      | agg l => simp [RV] at hv'
                      | int k n => simp only [wtE] at hwel; split at hwel <;> simp_all
                      | bool b => simp only [wtE] at hwel; split at hwel <;> simp_all
                      | str l => simp only [wtE] at hwel; split at hwel <;> simp_all
                      | list s g l => simp only [wtE] at hwel; split at hwel <;> simp_all
                    exact ⟨by omega, fun _ => this⟩
                obtain ⟨hks1, hks2⟩ := hks'
                obtain ⟨w', cc', k1, k2, k3, k4, k5, k6, k7, k8, k9⟩ := write_world (P := P) hb (us := v.cells.toList) (o := k * sz + o) (by omega) hone
                have hlow : ∀ o', ¬ (k * sz ≤ o' ∧ o' < (k + 1) * sz) → ∀ v', cc[o']? = some v' → cc'[o']? = some v' := fun o' ho v' hv' => by
                  rw [k4 o', if_neg (by rw [Nat.add_mul, Nat.one_mul] at ho; omega)]
                  exact hv'
                have hnew : RE p1 (fun o => cc'[o]?) sz ag (k * sz) ((if ag then (es.foldl (fun (s : SE × Nat) y => (SE.o2 (.setf s.2) s.1 y, s.2 + 1)) (SE.o2 .idx e ix, o)).1 else es.headD (.lit (.agg []))).dn env) ∧
                    wtE P te (cellK P te) ((if ag then (es.foldl (fun (s : SE × Nat) y => (SE.o2 (.setf s.2) s.1 y, s.2 + 1)) (SE.o2 .idx e ix, o)).1 else es.headD (.lit (.agg []))).dn env) = true := by
                  cases ag with
                  | true =>
                    obtain ⟨l, hl, hl2, hl3⟩ := RE_agg hel
                    simp only [if_true]
                    rw [setf_dn es _ o l (by simp only [SE.dn, O2.dn, e2, PV.l, List.getD_eq_getElem?_getD, hk, hkk, Option.getD_some]; exact hl)]
                    rw [hl, hks] at hwel
                    simp only [wtE] at hwel
                    have hroom : o + (es.map (·.dn env)).length ≤ l.length := by simp; omega
                    rw [hks]
                    simp only [RE, wtE]
                    refine ⟨⟨trivial, by rw [setRun_length]; exact hl2, ?_⟩, ?_⟩
                    · rw [RCs_iff] at hl3 ⊢
                      intro j y hj
                      rw [setRun_get _ _ _ _ hroom] at hj
                      rw [k4]
                      split at hj
                      · rename_i hjj
                        obtain ⟨u, hu, hru⟩ := t4 _ _ hj
                        simp only [List.length_map] at hjj
                        rw [if_pos (by omega), show k * sz + j - (k * sz + o) = j - o by omega]
                        exact ⟨u, hu, hru⟩
                      · rename_i hjj
                        simp only [List.length_map] at hjj
                        rw [if_neg (by omega)]
                        obtain ⟨u, hu, hru⟩ := hl3 j y hj
                        exact ⟨u, hu, hru⟩
                    · rw [wtCs_iff] at hwel ⊢
                      refine ⟨by rw [setRun_length]; exact hwel.1, fun j k' y hk' hj => ?_⟩
                      rw [setRun_get _ _ _ _ hroom] at hj
                      split at hj
                      · rename_i hjj
                        rw [wtCs_iff] at t1
                        simp only [List.length_map] at hjj
                        refine t1.2 (j - o) k' y ?_ hj
                        rw [List.getElem?_take, if_pos (by omega), List.getElem?_drop, show o + (j - o) = j by omega]
                        exact hk'
                      · exact hwel.2 j k' y hk' hj
                  | false =>
                    have hk1 := hks2 rfl
                    have hsz1 : sz = 1 := by omega
                    obtain ⟨y, rfl⟩ : ∃ y, es = [y] := List.length_eq_one_iff.1 (by omega)
                    have ho : o = 0 := by simp at c3; omega
                    subst ho
                    simp only [Bool.false_eq_true, if_false, List.headD_cons]
                    obtain ⟨u, hu, hru⟩ := t4 0 (y.dn env) (by simp)
                    have hlt := (List.getElem?_eq_some_iff.1 hu).1
                    rw [hsz1]
                    refine ⟨RE_mk ?_ hru, ?_⟩
                    · show cc'[k * 1]? = some u
                      rw [k4, if_pos (by rw [hsz1]; omega), hsz1]
                      simpa using hu
                    · obtain ⟨k', hk'⟩ : ∃ k', ks = [k'] := List.length_eq_one_iff.1 hk1
                      subst hk'
                      have hc1 : cs.length = 1 := by simp at c2; omega
                      rw [hc1] at t1
                      simp only [List.drop_zero, List.take_succ_cons, List.take_nil, List.map_cons, List.map_nil, wtCs, Bool.and_true] at t1
                      rw [hks]
                      exact wtE_mk1 t1 (fun l hl => by rw [hl] at hru; simp [RV] at hru)
                obtain ⟨hnew1, hnew2⟩ := hnew
                generalize hx' : (if ag then (es.foldl (fun (s : SE × Nat) y => (SE.o2 (.setf s.2) s.1 y, s.2 + 1)) (SE.o2 .idx e ix, o)).1 else es.headD (.lit (.agg []))) = x' at *
                have hdn : (SE.o3 .upd e ix x').dn env = .list sz ag (xs.set k (x'.dn env)) := by
                  simp [SE.dn, O3.dn, e2, updL, x1, hk]
                obtain ⟨s1, s2⟩ := f1.set (C := .lst (.o3 .upd e ix x') n sz ag te true) hi hg rfl w' ⟨k5, k6, k7, k8, fun j hj => k9 j fun e => hj (by rw [e])⟩ (by
                  simp only [blkRel]
                  refine ⟨some b, c, _, hi, hdn, wt_list_mk hsz hag ?_, by rw [e4]; simp, r0, by simpa using r1, r2, fun b' hb' => ?_⟩
                  · rw [wtEs_all] at hws ⊢
                    intro y hy
                    rcases List.mem_or_eq_of_mem_set hy with hy | rfl
                    · exact hws y hy
                    · exact hnew2
                  · simp only [Option.some.injEq] at hb'
                    subst hb'
                    exact ⟨cc', k2, by rw [k3]; exact hcsz, REs_set hres hnew1 hlow, fun o' v' hv' => by rw [hno] at hv'; simp at hv', fun _ => hno⟩) (fun b' o' v' hb' hv' => by
                  simp only [Option.some.injEq] at hb'
                  subst hb'
                  rw [hno] at hv'
                  simp at hv')
                subst he
                refine ⟨w', p1, ?_, s1, f2.trans s2⟩
                have hn : sizeA P t = some v.cells.size := by
                  cases hst : sizeA P t with
                  | none => simp [hst] at c1
                  | some m =>
                    simp [hst] at c1
                    have : v.cells.size = v.cells.toList.length := by simp
                    have := vals_length g1
                    congr 1
                    omega
                simp [Instr.storeAt, Instr.sureAddr, storeVar, sizeA_run hn, k1]
              · simp at he
        · simp at he
      · simp at he
  · simp at he
end
end Go.Dv

/- Appends. -/
set_option linter.unusedVariables false
set_option linter.unusedSimpArgs false
namespace Go.Dv

section
variable {P : Program} {env : List PV} {p : Pins} {ρ : Rho} {H : Heap} {w : World}

/-- The append that takes a new row. -/
theorem run_append_new (w : World) (ts : Array TypeId) (ty t e : TypeId) (i : TypeInfo) (z : Value) (s x : Value) (base : Option Addr) (sLen sCap n : Nat) (olds news : List Value)
    (h0 : ts[0]? = some t) (ht : P.underlying t = some (.slice e)) (hp : plainArg P ts[1]? = true) (hi : P.info? e = some i) (hz : i.zero = some z) (hs : s = .slice base sLen sCap)
    (hn : (Builtin.lenOf x).run P w = .ok n w) (hf : (Builtin.firstCells i.size n x).run P w.drew = .ok news.toArray w.drew)
    (ho : (Builtin.firstCells i.size sLen s).run P w.drew = .ok olds.toArray w.drew)
    (hg : sCap < sLen + n) (hbig : sLen + n ≤ 2 ^ 24) (hby : i.bytes ≤ 2 ^ 12) :
    (Builtin.append_ ts ty #[s, x]).run P w =
      .ok (.slice (some ⟨w.heap.size, 0, none⟩) (sLen + n) (grownCap w (sLen + n) sCap e))
        (w.drew.alloc (.cells (olds.toArray ++ news.toArray ++ Builtin.zeroCells z.cells (grownCap w (sLen + n) sCap e - (sLen + n))) e)) := by
  subst hs
  have hn1 : ¬ (sLen + n ≤ sCap) := by omega
  have h63' : ¬ (9223372036854775807 < ((sLen : Int) + (n : Int))) := by omega
  have hfit : Builtin.nextslicecap (sLen + n) sCap * i.bytes ≤ 281474976710656 := growslice_fits hg (by
    calc (sLen + n) * i.bytes ≤ 2 ^ 24 * 2 ^ 12 := Nat.mul_le_mul hbig hby
      _ ≤ 140737488355328 := by decide)
  have h48' : ¬ (281474976710656 < Builtin.nextslicecap (sLen + n) sCap * i.bytes) := by omega
  have fin : ∀ (A : Array Value) , olds.toArray ++ (news.toArray ++ A) = olds.toArray ++ news.toArray ++ A := fun A => by rw [Array.append_assoc]
  unfold plainArg at hp
  cases h1 : ts[1]? with
  | none =>
    simp [Builtin.append_, h0, h1, run_underlying ht, sizeOf, typeInfo, zeroValue, hi, hz, hn, hn1, h63', h48', Question.forced, hf, ho, newRow, grownCap]
    congr 2
    apply Array.ext'
    simp [List.append_assoc]
  | some u =>
    rw [h1] at hp
    simp only at hp
    cases hu : P.underlying u with
    | none => simp [hu] at hp
    | some d =>
      have hd : ∀ k, d ≠ .int k := by rintro k rfl; simp [hu] at hp
      have hm : (match d with | .int _ => true | _ => false) = false := by
        cases d <;> first | rfl | exact absurd rfl (hd _)
      simp [Builtin.append_, h0, h1, run_underlying ht, run_underlying hu, sizeOf, typeInfo, zeroValue, hi, hz, hn, hn1, h63', h48', Question.forced, hf, ho, newRow, grownCap, hm]
      congr 2
      apply Array.ext'
      simp [List.append_assoc]

/-- The append that stays in its row. -/
theorem run_append_stay (w w' : World) (ts : Array TypeId) (ty t e : TypeId) (i : TypeInfo) (s x : Value) (b : Addr) (sLen sCap n : Nat) (news : List Value)
    (h0 : ts[0]? = some t) (ht : P.underlying t = some (.slice e)) (hp : plainArg P ts[1]? = true) (hi : P.info? e = some i) (hs : s = .slice (some b) sLen sCap)
    (hn : (Builtin.lenOf x).run P w = .ok n w) (hf : (Builtin.firstCells i.size n x).run P w = .ok news.toArray w)
    (hst : (storeCells (b.add (sLen * i.size)) news).run P w = .ok () w') (hg : sLen + n ≤ sCap) :
    (Builtin.append_ ts ty #[s, x]).run P w = .ok (.slice (some b) (sLen + n) sCap) w' := by
  subst hs
  unfold plainArg at hp
  cases h1 : ts[1]? with
  | none =>
    simp [Builtin.append_, h0, h1, run_underlying ht, sizeOf, typeInfo, hi, hn, hg, hf, hst]
  | some u =>
    rw [h1] at hp
    simp only at hp
    cases hu : P.underlying u with
    | none => simp [hu] at hp
    | some d =>
      have hd : ∀ k, d ≠ .int k := by rintro k rfl; simp [hu] at hp
      have hm : (match d with | .int _ => true | _ => false) = false := by
        cases d <;> first | rfl | exact absurd rfl (hd _)
      simp [Builtin.append_, h0, h1, run_underlying ht, run_underlying hu, sizeOf, typeInfo, hi, hn, hg, hf, hst, hm]

/-- The append of nothing to nothing. -/
theorem run_append_none (w : World) (ts : Array TypeId) (ty t e : TypeId) (i : TypeInfo) (x : Value)
    (h0 : ts[0]? = some t) (ht : P.underlying t = some (.slice e)) (hp : plainArg P ts[1]? = true) (hi : P.info? e = some i)
    (hn : (Builtin.lenOf x).run P w = .ok 0 w) (hf : (Builtin.firstCells i.size 0 x).run P w = .ok #[] w) :
    (Builtin.append_ ts ty #[.slice none 0 0, x]).run P w = .ok (.slice none 0 0) w := by
  unfold plainArg at hp
  cases h1 : ts[1]? with
  | none => simp [Builtin.append_, h0, h1, run_underlying ht, sizeOf, typeInfo, hi, hn, hf]
  | some u =>
    rw [h1] at hp
    simp only at hp
    cases hu : P.underlying u with
    | none => simp [hu] at hp
    | some d =>
      have hd : ∀ k, d ≠ .int k := by rintro k rfl; simp [hu] at hp
      have hm : (match d with | .int _ => true | _ => false) = false := by
        cases d <;> first | rfl | exact absurd rfl (hd _)
      simp [Builtin.append_, h0, h1, run_underlying ht, run_underlying hu, sizeOf, typeInfo, hi, hn, hf, hm]


theorem REs_cell {q : Nat → Option Value} {sz : Nat} {ag : Bool} : ∀ (xs : List PV) (o k : Nat), REs p q sz ag o xs → o ≤ k → k < o + xs.length * sz → ∃ v, q k = some v ∧ v.oneCell' = true
  | [], o, k, h, h1, h2 => by simp at h2; omega
  | x :: xs, o, k, h, h1, h2 => by
    simp only [REs] at h
    by_cases hk : k < o + sz
    · cases ag with
      | true =>
        obtain ⟨cs, _, hl, hc⟩ := RE_agg h.1
        obtain ⟨v, hv, hr⟩ := RCs_get cs o (k - o) _ hc (List.getElem?_eq_getElem (by omega))
        exact ⟨v, by rw [← hv]; congr 1; omega, (RV_one _ _ hr).1⟩
      | false =>
        obtain ⟨h3, v, hv, hr⟩ := RE_one h.1
        exact ⟨v, by rw [← hv]; congr 1; omega, (RV_one _ _ hr).1⟩
    · have e : (x :: xs).length * sz = sz + xs.length * sz := by simp [Nat.add_mul]; omega
      exact REs_cell xs (o + sz) k h.2 (by omega) (by omega)

/-- What an append puts behind: the values of its cells. -/
structure Added (P : Program) (p : Pins) (w : World) (e : TypeId) (sz : Nat) (ag : Bool) (ys : List PV) (v : Value) (us : List Value) : Prop where
  len : us.length = ys.length * sz
  one : ∀ u ∈ us, u.oneCell' = true
  els : ∀ (q : Nat → Option Value) (o : Nat), (∀ (j : Nat) (u : Value), us[j]? = some u → q (o + j) = some u) → REs p q sz ag o ys
  wt : wtEs P e (cellK P e) ys = true
  lenOf : (Builtin.lenOf v).run P w = .ok ys.length w
  first : (Builtin.firstCells sz ys.length v).run P w = .ok us.toArray w

theorem cells_of {q : Nat → Option Value} {sz : Nat} {ag : Bool} {ys : List PV} {o : Nat} (h : REs p q sz ag o ys) : ∃ us : List Value, us.length = ys.length * sz ∧ (∀ u ∈ us, u.oneCell' = true) ∧ (∀ (j : Nat) (u : Value), us[j]? = some u → q (o + j) = some u) ∧
    ∀ (q' : Nat → Option Value) (o' : Nat), (∀ (j : Nat) (u : Value), us[j]? = some u → q' (o' + j) = some u) → REs p q' sz ag o' ys := by
  have hg : ∀ k, k < ys.length * sz → ∃ v, q (o + k) = some v ∧ v.oneCell' = true := fun k hk => REs_cell ys o (o + k) h (by omega) (by omega)
  refine ⟨(List.range (ys.length * sz)).map fun k => (q (o + k)).getD undef, by simp, ?_, ?_, ?_⟩
  · intro u hu
    simp only [List.mem_map, List.mem_range] at hu
    obtain ⟨k, hk, rfl⟩ := hu
    obtain ⟨v, hv, h1⟩ := hg k hk
    rw [hv]
    exact h1
  · intro j u hj
    have hlt : j < ys.length * sz := by
      have := (List.getElem?_eq_some_iff.1 hj).1
      simpa using this
    obtain ⟨v, hv, _⟩ := hg j hlt
    simp [hlt, hv] at hj
    rw [hv, hj]
  · intro q' o' hq
    have h0 : REs p (fun k => q (o + k)) sz ag 0 ys := by
      rw [REs_iff] at h ⊢
      intro j x hx
      have := h j x hx
      cases ag with
      | true =>
        obtain ⟨cs, rfl, g1, g2⟩ := RE_agg this
        simp only [RE]
        refine ⟨trivial, g1, ?_⟩
        rw [RCs_iff] at g2 ⊢
        intro i y hy
        obtain ⟨v, hv, hr⟩ := g2 i y hy
        exact ⟨v, by rw [← hv]; congr 1; omega, hr⟩
      | false =>
        obtain ⟨rfl, v, hv, hr⟩ := RE_one this
        exact RE_mk (by rw [← hv]; congr 1; omega) hr
    have := REs_shift (q' := q') (d := o') ys 0 (fun k _ hk v hv => by
      rw [Nat.zero_add] at hk
      have := hq k v (by simp [hk, hv])
      rwa [Nat.add_comm] at this) h0
    rwa [Nat.zero_add] at this

theorem added_ok (h : Rel P env p ρ H w) {e : TypeId} {x : AV} {v : Value} {b : SE} {sz : Nat} {ag : Bool} (hsz : sizeA P e = some sz) (hag : isAggA P e = some ag) (h0 : 0 < sz) (hx : val P env p ρ x v) (he : addedSE P H e x = some b) :
    ∃ ys us, b.dn env = .list sz ag ys ∧ Added P p w e sz ag ys v us := by
  have nil : ∀ ad, v = .slice ad 0 0 → b = seNil sz ag → ∃ ys us, b.dn env = .list sz ag ys ∧ Added P p w e sz ag ys v us := by
    intro ad hv hb
    subst hv hb
    refine ⟨[], [], rfl, by simp, by simp, fun _ _ _ => by simp [REs], by simp [wtEs], by simp [Builtin.lenOf], ?_⟩
    cases ad with
    | none => simp [Builtin.firstCells]
    | some ad => exact run_firstCells_some (P := P) w sz 0 ad 0 0 [] (by simp) (by simp)
  unfold addedSE at he
  split at he
  · rw [hsz, hag] at he
    simp only [Option.some.injEq] at he
    simp only [val] at hx
    obtain ⟨ad, rfl⟩ := hx
    exact nil ad rfl he.symm
  · rw [hsz, hag] at he
    simp only [Option.some.injEq] at he
    simp only [val] at hx
    exact nil none hx he.symm
  · rename_i i n
    split at he
    · rename_i c n' sz' ag' t wr hg
      split at he
      · rename_i hcond
        obtain ⟨rfl, rfl⟩ := hcond
        simp only [Option.some.injEq] at he
        subst he
        simp only [val] at hx
        obtain ⟨a, cp, m, ad, hi, hm, rfl, hmc, hc0, had⟩ := hx
        have hB := h.blk i _ _ hi hg
        simp only [blkRel] at hB
        obtain ⟨a', c', xs, e1, e2, e3, e4, r0, r1, r2, r3⟩ := hB
        rw [hi] at e1
        simp only [Option.some.injEq, Prod.mk.injEq] at e1
        obtain ⟨rfl, rfl⟩ := e1
        rw [hm] at e4
        simp only [PV.int.injEq, true_and] at e4
        have hmx : m = xs.length := by omega
        subst hmx
        obtain ⟨sz'', ag'', xs', hxs, hsz', hag', hws⟩ := wt_list e3
        simp only [PV.list.injEq] at hxs
        obtain ⟨rfl, rfl, rfl⟩ := hxs
        rw [hsz] at hsz'
        rw [hag] at hag'
        simp only [Option.some.injEq] at hsz' hag'
        subst hsz' hag'
        cases xs with
        | nil =>
          refine ⟨[], [], e2, by simp, by simp, fun _ _ _ => by simp [REs], by simp [wtEs], by simp [Builtin.lenOf], ?_⟩
          cases ad with
          | none => simp [Builtin.firstCells]
          | some ad => exact run_firstCells_some (P := P) w sz 0 ad _ cp [] (by simp) (by simp)
        | cons y ys =>
          have had := had (by simp at hmc; omega)
          subst had
          cases a with
          | none => have := hc0 rfl; simp at hmc; omega
          | some b =>
            obtain ⟨cs, hb, _, hr, _⟩ := r3 b rfl
            obtain ⟨us, g1, g2, g3, g4⟩ := cells_of hr
            refine ⟨y :: ys, us, e2, g1, g2, g4, hws, by simp [Builtin.lenOf], ?_⟩
            exact run_firstCells_some (P := P) w sz _ ⟨b, 0, none⟩ _ cp us g1 (fun j u hj => by rw [Addr.add_lit]; exact row_cells hb _ _ (g3 j u hj))
      · simp at he
    · simp at he
  · rename_i t c
    split at he
    · rename_i hte
      subst hte
      simp only [Option.some.injEq] at he
      subst he
      obtain ⟨sz', ag', xs, hl, hsz', hag', hws, ad, c', rfl, g1, g2, g3, g4⟩ := val_plist hx
      rw [hsz] at hsz'
      rw [hag] at hag'
      simp only [Option.some.injEq] at hsz' hag'
      subst hsz' hag'
      cases xs with
      | nil =>
        refine ⟨[], [], hl, by simp, by simp, fun _ _ _ => by simp [REs], by simp [wtEs], by simp [Builtin.lenOf], ?_⟩
        cases ad with
        | none => simp [Builtin.firstCells]
        | some ad => exact run_firstCells_some (P := P) w sz 0 ad _ c' [] (by simp) (by simp)
      | cons y ys =>
        obtain ⟨b, o, rfl, hr⟩ := g4 (by simp)
        obtain ⟨us, k1, k2, k3, k4⟩ := cells_of hr
        refine ⟨y :: ys, us, hl, k1, k2, k4, hws, by simp [Builtin.lenOf], ?_⟩
        exact run_firstCells_some (P := P) w sz _ ⟨b, o, none⟩ _ c' us k1 (fun j u hj => by rw [Addr.add_lit]; exact h.pinned b _ _ (k3 j u hj))
    · simp at he
  · split at he
    · rename_i hcond
      obtain ⟨hu, hs1⟩ := hcond
      simp only [Option.some.injEq] at he
      subst he
      obtain ⟨l, hl, rfl⟩ := val_pstr hx
      obtain ⟨hk, hu8⟩ := u8_kind hu
      have hagf : ag = false := by unfold isAggA at hag; rw [hu8] at hag; simpa using hag.symm
      rw [hs1] at hsz
      simp only [Option.some.injEq] at hsz
      subst hsz hagf
      refine ⟨listOfB l, l.map fun b => .int .u8 b.toNat, by simp [SE.dn, O1.dn, hl, PV.s], by simp [listOfB], ?_, ?_, ?_, by simp [Builtin.lenOf, ByteArray.size, listOfB], ?_⟩
      · intro u hu
        simp only [List.mem_map] at hu
        obtain ⟨b, _, rfl⟩ := hu
        rfl
      · intro q o hq
        rw [REs_iff]
        intro j x hj
        simp only [listOfB, List.getElem?_map, Option.map_eq_some_iff] at hj
        obtain ⟨b, hb, rfl⟩ := hj
        exact RE_mk (v := .int .u8 b.toNat) (by rw [Nat.mul_one]; exact hq j _ (by simp [hb])) (by simp [RV])
      · rw [wtEs_all]
        intro x hx
        simp only [listOfB, List.mem_map] at hx
        obtain ⟨b, _, rfl⟩ := hx
        simp [hk, wtE]
      · simp only [Builtin.firstCells, extract_mk]
        simp [listOfB]
    · simp at he
  · simp at he
end
end Go.Dv

/- Appends: sound. -/
set_option linter.unusedVariables false
set_option linter.unusedSimpArgs false
namespace Go.Dv

section
variable {P : Program} {env : List PV} {p : Pins} {ρ : Rho} {H : Heap} {w : World}

theorem upd_born {n i : Nat} {x y : Option Nat × Nat} (h : upd ρ n x i = some y) : ρ i = some y ∨ n ≤ i := by
  by_cases e : i = n
  · exact .inr (by omega)
  · rw [upd_ne e] at h
    exact .inl h

/-- A number for a row that has no living number. -/
theorem Rel.alias (h : Rel P env p ρ H w) {x : Option Nat × Nat} {B : Blk} (hd : ∀ b, x.1 = some b → b < w.heap.size ∧ ∀ i m C, ρ i = some (some b, m) → H[i]? = some C → C.alive = false) (hB : blkRel P env p (upd ρ H.length x) w H.length B) :
    Rel P env p (upd ρ H.length x) (H ++ [B]) w := by
  have hle := upd_le (x := x) h.free
  have hold : ∀ {i y C}, (upd ρ H.length x) i = some y → (H ++ [B])[i]? = some C → (i = H.length ∧ y = x ∧ C = B) ∨ (ρ i = some y ∧ H[i]? = some C) := by
    intro i y C hi hC
    rcases get_push.1 hC with ⟨hlt, hC⟩ | ⟨rfl, rfl⟩
    · rw [upd_ne (by omega)] at hi
      exact .inr ⟨hi, hC⟩
    · rw [upd_self] at hi
      simp only [Option.some.injEq] at hi
      exact .inl ⟨rfl, hi.symm, rfl⟩
  refine ⟨h.pin, ?_, ?_, ?_, h.base⟩
  · intro i y C hi hC
    rcases hold hi hC with ⟨rfl, rfl, rfl⟩ | ⟨hi', hC'⟩
    · exact hB
    · have hb := h.blk i y C hi' hC'
      exact blkRel_mono (Pins.le_refl p) hle (fun _ _ _ _ => rfl) hb
  · intro i j b m m' C D hi hj hC hD a1 a2
    rcases hold hi hC with ⟨rfl, e1, rfl⟩ | ⟨hi', hC'⟩
    · rcases hold hj hD with ⟨rfl, _, _⟩ | ⟨hj', hD'⟩
      · rfl
      · have := (hd b (by rw [← e1])).2 j m' D hj' hD'
        rw [this] at a2
        simp at a2
    · rcases hold hj hD with ⟨rfl, e2, rfl⟩ | ⟨hj', hD'⟩
      · have := (hd b (by rw [← e2])).2 i m C hi' hC'
        rw [this] at a1
        simp at a1
      · exact h.inj i j b m m' C D hi' hj' hC' hD' a1 a2
  · intro i y hi
    by_cases e : i = H.length
    · subst e
      rw [upd_self] at hi
      simp only [Option.some.injEq] at hi
      subst hi
      exact ⟨by simp, fun b hb => (hd b hb).1⟩
    · rw [upd_ne e] at hi
      have := h.dom i y hi
      exact ⟨by simp; omega, this.2⟩

/-- A row that is new in the world. -/
theorem grown_ok (h : Rel P env p ρ H w) {e : TypeId} {zs : List PV} {news tail : List Value} {sz c : Nat} {ag wr : Bool} {ce : SE} (hc : ce.dn env = .list sz ag zs) (hsz : sizeA P e = some sz) (hag : isAggA P e = some ag) (h0 : 0 < sz)
    (hw : wtEs P e (cellK P e) zs = true) (hr : REs p (fun o => (news ++ tail)[o]?) sz ag 0 zs) (hl : (news ++ tail).length = c * sz) (hle : zs.length ≤ c) :
    ∃ ρ', val P env p ρ' (.own H.length (seLen ce)) (.slice (some ⟨w.heap.size, 0, none⟩) zs.length c) ∧
      Rel P env p ρ' (H ++ [.lst ce (seLen ce) sz ag e wr]) (w.drew.alloc (.cells (news ++ tail).toArray e)) ∧
      Step p ρ H w p ρ' (H ++ [.lst ce (seLen ce) sz ag e wr]) (w.drew.alloc (.cells (news ++ tail).toArray e)) := by
  have h' := h.drew (w.drawn + 1)
  have hn : (seLen ce).dn env = .int .i64 (zs.length : Nat) := by rw [seLen_dn, hc]; rfl
  obtain ⟨q1, q2⟩ := h'.push (.cells (news ++ tail).toArray e) (.lst ce (seLen ce) sz ag e wr) c (by
    simp only [blkRel]
    refine ⟨some w.heap.size, c, zs, upd_self, hc, wt_list_mk hsz hag hw, hn, h0, hle, by simp, fun b hb => ?_⟩
    simp only [Option.some.injEq] at hb
    subst hb
    refine ⟨(news ++ tail).toArray, by show (w.heap.push _)[w.heap.size]? = _; simp, by simpa using hl, by simpa using hr, fun o v hv => ?_, fun _ o => h.pin_new (Nat.le_refl _) o⟩
    rw [h.pin_new (Nat.le_refl _) o] at hv
    simp at hv)
  refine ⟨_, ?_, q1, (Step.drew p ρ H w _).trans q2⟩
  simp only [val]
  exact ⟨some w.heap.size, c, zs.length, _, upd_self, hn, rfl, hle, by simp, fun _ => rfl⟩

theorem catSE_dn {a b : SE} {sz : Nat} {ag : Bool} {xs ys : List PV} (ha : a.dn env = .list sz ag xs) (hb : b.dn env = .list sz ag ys) : (catSE a b).dn env = .list sz ag (xs ++ ys) := by
  unfold catSE
  split
  · simp only [SE.dn, PV.list.injEq] at hb
    rw [ha, ← hb.2.2]
    simp
  · simp only [SE.dn, O2.dn, PV.list.injEq] at hb
    simp only [SE.dn, O2.dn, ha, ← hb.2.2]
    simp
  · simp only [SE.dn, O2.dn, ha, hb, PV.l]

theorem REs_append {q : Nat → Option Value} {sz : Nat} {ag : Bool} {xs ys : List PV} {o : Nat} (h1 : REs p q sz ag o xs) (h2 : REs p q sz ag (o + xs.length * sz) ys) : REs p q sz ag o (xs ++ ys) := by
  rw [REs_iff] at h1 h2 ⊢
  intro j x hj
  rw [List.getElem?_append] at hj
  split at hj
  · exact h1 j x hj
  · have := h2 (j - xs.length) x hj
    rwa [show o + xs.length * sz + (j - xs.length) * sz = o + j * sz by rw [Nat.add_assoc, ← Nat.add_mul]; congr 2; omega] at this
theorem wtEs_append {e : TypeId} {ks : Option (List Kn)} {xs ys : List PV} (h1 : wtEs P e ks xs = true) (h2 : wtEs P e ks ys = true) : wtEs P e ks (xs ++ ys) = true := by
  rw [wtEs_all] at *
  intro x hx
  rcases List.mem_append.1 hx with hx | hx
  · exact h1 x hx
  · exact h2 x hx
theorem list_get_append {α : Type} {as bs : List α} {j : Nat} {x : α} (h : as[j]? = some x) : (as ++ bs)[j]? = some x := by
  rw [List.getElem?_append_left (List.getElem?_eq_some_iff.1 h).1]
  exact h
theorem list_get_append' {α : Type} {as bs : List α} {j : Nat} {x : α} (h : bs[j]? = some x) : (as ++ bs)[as.length + j]? = some x := by
  rw [List.getElem?_append_right (by omega)]
  rw [← h]
  congr 1
  omega

theorem append_ok (h : Rel P env p ρ H w) {ts : Array TypeId} {ty t : TypeId} {s x a : AV} {u v : Value} {H' : Heap} {ns : List SE} (h0 : ts[0]? = some t) (hs : val P env p ρ s u) (hx : val P env p ρ x v)
    (he : appendA P H t ts[1]? s x = some (ns, .wr a H')) (hn : Needs env ns) :
    ∃ z w' p' ρ', (Builtin.append_ ts ty #[u, v]).run P w = .ok z w' ∧ val P env p' ρ' a z ∧ Rel P env p' ρ' H' w' ∧ Step p ρ H w p' ρ' H' w' := by
  unfold appendA at he
  split at he
  · rename_i e hu
    split at he
    · rename_i info ag b zs hi hag hadd hzz
      split at he
      · rename_i hcond
        obtain ⟨hp, hby, hpos, hzl⟩ := hcond
        have hsz : sizeA P e = some info.size := by simp [sizeA, hi]
        obtain ⟨z, i', _, hi', hz, hzv, _⟩ := zero_cells (P := P) (env := env) (p := p) (ρ := ρ) (w := w) hzz
        rw [hi] at hi'
        simp only [Option.some.injEq] at hi'
        subst hi'
        have hzs : z.cells.size = info.size := by have := vals_length hzv; simp at this; omega
        obtain ⟨ys, us, hb, A⟩ := added_ok h hsz hag hpos hx hadd
        obtain ⟨ys2, us2, hb2, A2⟩ := added_ok (h.drew (w.drawn + 1)) hsz hag hpos hx hadd
        rw [hb] at hb2
        simp only [PV.list.injEq, true_and] at hb2
        subst hb2
        -- onto nothing
        have onNil : ∀ ad, u = .slice ad 0 0 → some ([seInt .leq .i64 (seLen (catSE (seNil info.size ag) b)) (i64 most)], OpR.wr (.own H.length (seLen (catSE (seNil info.size ag) b))) (H ++ [.lst (catSE (seNil info.size ag) b) (seLen (catSE (seNil info.size ag) b)) info.size ag e true])) = some (ns, .wr a H') →
            ∃ z w' p' ρ', (Builtin.append_ ts ty #[u, v]).run P w = .ok z w' ∧ val P env p' ρ' a z ∧ Rel P env p' ρ' H' w' ∧ Step p ρ H w p' ρ' H' w' := by
          intro ad hu' he
          subst hu'
          simp only [Option.some.injEq, Prod.mk.injEq, OpR.wr.injEq] at he
          obtain ⟨rfl, rfl, rfl⟩ := he
          have hc : (catSE (seNil info.size ag) b).dn env = .list info.size ag ([] ++ ys) := catSE_dn rfl hb
          simp only [List.nil_append] at hc
          have hbig := need_leq hn.one
          rw [seLen_dn, hc] at hbig
          have hbig : (ys.length : Int) ≤ most := hbig
          simp only [most] at hbig
          have hA := A.len
          cases hys : ys with
          | nil =>
            subst hys
            have hus : us = [] := List.length_eq_zero_iff.1 (by simpa using hA)
            have hlen0 : (seLen (catSE (seNil info.size ag) b)).dn env = .int .i64 (0 : Nat) := by rw [seLen_dn, hc]; rfl
            have g := h.alias (x := (none, 0)) (B := .lst (catSE (seNil info.size ag) b) (seLen (catSE (seNil info.size ag) b)) info.size ag e true) (fun b hb => by simp at hb) (by
              simp only [blkRel]
              exact ⟨none, 0, [], upd_self, hc, wt_list_mk hsz hag A.wt, hlen0, hpos, by simp, by simp, fun b hb => by simp at hb⟩)
            refine ⟨.slice ad 0 0, w, p, _, ?_, ?_, g, ?_⟩
            · have hlo := A.lenOf
              have hfi := A.first
              rw [hus] at hfi
              cases ad with
              | none => exact run_append_none w ts ty t e info v h0 hu hp hi hlo hfi
              | some ad => exact run_append_stay w w ts ty t e info _ v ad 0 0 0 [] h0 hu hp hi rfl hlo hfi (by simp [storeCells]) (by omega)
            · simp only [val]
              exact ⟨none, 0, 0, ad, upd_self, hlen0, rfl, by omega, fun _ => rfl, by simp⟩
            · refine ⟨rfl, rfl, rfl, Nat.le_refl _, Pins.le_refl p, upd_le h.free, by simp, fun _ _ _ => rfl, ?_, fun _ _ _ h => .inl h, fun j y hy => upd_born hy⟩
              rintro b' hb' ⟨i, m, C, hi', hC, hal⟩
              by_cases e : i = H.length
              · rw [e, upd_self] at hi'
                simp at hi'
              · rw [upd_ne e] at hi'
                rcases get_push.1 hC with ⟨_, hC⟩ | ⟨e', _⟩
                · exact ⟨i, m, C, hi', hC, hal⟩
                · exact absurd e' e
          | cons y yt =>
            have hyl : 0 < ys.length := by rw [hys]; simp
            have hrun := run_append_new (P := P) w ts ty t e info z (.slice ad 0 0) v ad 0 0 ys.length [] us2 h0 hu hp hi hz rfl A.lenOf A2.first
              (by cases ad with
                | none => simp [Builtin.firstCells]
                | some ad => exact run_firstCells_some (P := P) w.drew _ 0 ad 0 0 [] (by simp) (by simp)) (by omega) (by omega) hby
            simp only [Nat.zero_add] at hrun
            have hge := grownCap_ge w ys.length 0 e
            have hA2 := A2.len
            obtain ⟨ρ', g1, g2, g3⟩ := grown_ok (wr := true) h (tail := (Builtin.zeroCells z.cells (grownCap w ys.length 0 e - ys.length)).toList) hc hsz hag hpos A.wt (news := us2)
              (A2.els _ 0 fun j u hj => by rw [Nat.zero_add]; exact list_get_append hj) (c := grownCap w ys.length 0 e) (by
                have e1 : (Builtin.zeroCells z.cells (grownCap w ys.length 0 e - ys.length)).size = (grownCap w ys.length 0 e - ys.length) * info.size := by simp [Builtin.zeroCells, hzs]
                have e2 : grownCap w ys.length 0 e * info.size = ys.length * info.size + (grownCap w ys.length 0 e - ys.length) * info.size := by rw [← Nat.add_mul]; congr 1; omega
                simp only [List.length_append, Array.length_toList, e1]
                omega) hge
            refine ⟨_, _, p, ρ', hrun, g1, ?_, ?_⟩
            · have ee : (#[] : Array Value) ++ us2.toArray ++ Builtin.zeroCells z.cells (grownCap w ys.length 0 e - ys.length) = (us2 ++ (Builtin.zeroCells z.cells (grownCap w ys.length 0 e - ys.length)).toList).toArray := by
                apply Array.ext'; simp
              rw [ee]; exact g2
            · have ee : (#[] : Array Value) ++ us2.toArray ++ Builtin.zeroCells z.cells (grownCap w ys.length 0 e - ys.length) = (us2 ++ (Builtin.zeroCells z.cells (grownCap w ys.length 0 e - ys.length)).toList).toArray := by
                apply Array.ext'; simp
              rw [ee]; exact g3
        split at he
        · simp only [val] at hs
          obtain ⟨ad, hs⟩ := hs
          exact onNil ad hs he
        · simp only [val] at hs
          exact onNil none hs he
        · rename_i i n
          split at he
          · rename_i ae n' sz ag' t' wr hg
            split at he
            · rename_i hnn
              obtain ⟨rfl, rfl⟩ := hnn
              simp only [Option.some.injEq, Prod.mk.injEq, OpR.wr.injEq] at he
              obtain ⟨rfl, rfl, rfl⟩ := he
              simp only [val] at hs
              obtain ⟨ao, cp, m, ad, hρ, hm, rfl, hmc, hc0, had⟩ := hs
              have hB := h.blk i _ _ hρ hg
              simp only [blkRel] at hB
              obtain ⟨a', c', xs, e1, e2, e3, e4, r0, r1, r2, r3⟩ := hB
              rw [hρ] at e1
              simp only [Option.some.injEq, Prod.mk.injEq] at e1
              obtain ⟨rfl, rfl⟩ := e1
              rw [hm] at e4
              simp only [PV.int.injEq, true_and] at e4
              have hmx : m = xs.length := by omega
              subst hmx
              obtain ⟨sz', ag'', xs', hxs, hsz', hag', hws⟩ := wt_list e3
              simp only [PV.list.injEq] at hxs
              obtain ⟨rfl, rfl, rfl⟩ := hxs
              rw [hsz] at hsz'
              rw [hag] at hag'
              simp only [Option.some.injEq] at hsz' hag'
              subst hsz' hag'
              have hc : (catSE ae b).dn env = .list info.size ag (xs ++ ys) := catSE_dn e2 hb
              have hbig := need_leq hn.one
              rw [seLen_dn, hc] at hbig
              have hbig : ((xs ++ ys).length : Int) ≤ most := hbig
              simp only [most, List.length_append] at hbig
              have hA := A.len
              have hA2 := A2.len
              have hlen : (seLen (catSE ae b)).dn env = .int .i64 ((xs ++ ys).length : Nat) := by rw [seLen_dn, hc]; rfl
              have hw2 : wtEs P t' (cellK P t') (xs ++ ys) = true := wtEs_append hws A.wt
              have hilt : i < H.length := (List.getElem?_eq_some_iff.1 hg).1
              -- what was there
              have olds : ∃ os : List Value, os.length = xs.length * info.size ∧ (∀ (q : Nat → Option Value) (o : Nat), (∀ (j : Nat) (u : Value), os[j]? = some u → q (o + j) = some u) → REs p q info.size ag o xs) ∧
                  (Builtin.firstCells info.size xs.length (.slice ad xs.length cp)).run P w.drew = .ok os.toArray w.drew := by
                cases hxs0 : xs with
                | nil =>
                  refine ⟨[], by simp, fun _ _ _ => by simp [REs], ?_⟩
                  cases ad with
                  | none => simp [Builtin.firstCells]
                  | some ad => exact run_firstCells_some (P := P) w.drew _ 0 ad _ cp [] (by simp) (by simp)
                | cons y yt =>
                  have hpos' : 0 < cp := by rw [hxs0] at hmc; simp at hmc; omega
                  have had := had hpos'
                  subst had
                  cases ao with
                  | none => have := hc0 rfl; omega
                  | some bb =>
                    obtain ⟨cs, hbb, _, hr, _⟩ := r3 bb rfl
                    obtain ⟨os, g1, g2, g3, g4⟩ := cells_of hr
                    rw [← hxs0]
                    refine ⟨os, g1, g4, ?_⟩
                    exact run_firstCells_some (P := P) w.drew _ _ ⟨bb, 0, none⟩ _ cp os g1 (fun j u hj => by
                      rw [Addr.add_lit]
                      exact row_cells (w := w.drew) hbb _ _ (g3 j u hj))
              obtain ⟨os, o1, o2, o3⟩ := olds
              have gone : ∀ j m C, ρ j = some (ao, m) → (H.set i .dead)[j]? = some C → ao ≠ none → C.alive = false := by
                intro j m C hj hC hne
                rcases (get_set hilt).1 hC with ⟨_, rfl⟩ | ⟨hji, hC⟩
                · rfl
                · cases hal : C.alive with
                  | false => rfl
                  | true =>
                    cases ao with
                    | none => exact absurd rfl hne
                    | some bb => exact absurd (h.inj j i bb m cp C _ hj hρ hC hg hal rfl) hji
              have mine_old : ∀ {x : Option Nat × Nat} {B : Blk} {b' : Nat}, (∀ bb, x.1 = some bb → ao = some bb) → mine (upd ρ (H.set i .dead).length x) (H.set i .dead ++ [B]) b' → mine ρ H b' := by
                rintro x B b' hx' ⟨j, m', D, hj, hD, hal⟩
                rcases get_push.1 hD with ⟨hlt, hD⟩ | ⟨rfl, rfl⟩
                · rw [upd_ne (by omega)] at hj
                  rcases (get_set hilt).1 hD with ⟨_, rfl⟩ | ⟨_, hD⟩
                  · simp [Blk.alive] at hal
                  · exact ⟨j, m', D, hj, hD, hal⟩
                · rw [upd_self] at hj
                  simp only [Option.some.injEq] at hj
                  have := hx' b' (by rw [hj])
                  exact ⟨i, cp, _, by rw [hρ, this], hg, rfl⟩
              have hlenS : (H.set i .dead).length = H.length := by simp
              by_cases hfit : xs.length + ys.length ≤ cp
              · by_cases hy0 : ys = []
                · -- nothing is put behind
                  subst hy0
                  have hus : us = [] := List.length_eq_zero_iff.1 (by simpa using hA)
                  obtain ⟨d1, d2⟩ := h.kill i
                  have g := d1.alias (x := (ao, cp)) (B := .lst (catSE ae b) (seLen (catSE ae b)) info.size ag t' wr) (fun bb hb' => ⟨(h.dom i _ hρ).2 bb hb', fun j m C hj hC => gone j m C (by rw [hj]; simp at hb'; rw [hb']) hC (by simp at hb'; rw [hb']; simp)⟩) (by
                    simp only [blkRel]
                    exact ⟨ao, cp, xs ++ [], upd_self, hc, wt_list_mk hsz hag hw2, hlen, r0, by simpa using r1, r2, by simpa using r3⟩)
                  refine ⟨.slice ad xs.length cp, w, p, _, ?_, ?_, g, ?_⟩
                  · have hlo := A.lenOf
                    have hfi := A.first
                    rw [hus] at hfi
                    cases ad with
                    | none =>
                      have hcp : cp = 0 := by
                        by_cases hcp : 0 < cp
                        · have := had hcp
                          cases ao with
                          | none => exact hc0 rfl
                          | some bb => simp at this
                        · omega
                      have hx0 : xs = [] := List.length_eq_zero_iff.1 (by omega)
                      subst hx0 hcp
                      exact run_append_none w ts ty t t' info v h0 hu hp hi hlo hfi
                    | some ad => exact run_append_stay w w ts ty t t' info _ v ad xs.length cp 0 [] h0 hu hp hi rfl hlo hfi (by simp [storeCells]) (by simpa using hfit)
                  · simp only [val]
                    exact ⟨ao, cp, xs.length, ad, by rw [← hlenS]; exact upd_self, by rw [hlen]; simp, rfl, hmc, hc0, had⟩
                  · refine ⟨rfl, rfl, rfl, Nat.le_refl _, Pins.le_refl p, upd_le (by rw [hlenS]; exact h.free), by simp, fun _ _ _ => rfl, fun b' _ hm' => mine_old (fun bb hbb => hbb) hm', fun _ _ _ h => .inl h, fun j y hy => by rw [← hlenS]; exact upd_born hy⟩
                · -- in its place
                  have hyl : 0 < ys.length := List.length_pos_iff.2 hy0
                  have had := had (by omega)
                  subst had
                  cases ao with
                  | none => have := hc0 rfl; omega
                  | some bb =>
                    obtain ⟨cs, hbb, hcs, hr, hpin, hno⟩ := r3 bb rfl
                    have hroom : xs.length * info.size + us.length ≤ cs.size := by
                      have : (xs.length + ys.length) * info.size ≤ cp * info.size := Nat.mul_le_mul_right _ hfit
                      rw [Nat.add_mul] at this
                      omega
                    obtain ⟨w', cs', k1, k2, k3, k4, k5, k6, k7, k8, k9⟩ := write_world (P := P) hbb (us := us) (o := xs.length * info.size) hroom A.one
                    have hrun := run_append_stay (P := P) w w' ts ty t t' info _ v ⟨bb, 0, none⟩ xs.length cp ys.length us h0 hu hp hi rfl A.lenOf A.first (by rw [Addr.add_lit, Nat.zero_add]; exact k1) hfit
                    have hkeep : ∀ o v', p bb o = some v' → w'.cell? ⟨bb, o, none⟩ = some v' := by
                      intro o v' hv'
                      have hlo := hpin o v' hv'
                      have := h.pin bb o v' hv'
                      rw [cell_of_row w bb o cs t' (0, 0) hbb] at this
                      rw [cell_of_row w' bb o cs' t' (0, 0) k2, k4, if_neg (by omega)]
                      exact this
                    obtain ⟨d1, d2⟩ := h.set (C := .dead) hρ hg rfl w' ⟨k5, k6, k7, k8, fun j hj => k9 j fun e => hj (by rw [e])⟩ trivial (fun b' o v' hb' hv' => by
                      simp only [Option.some.injEq] at hb'
                      subst hb'
                      exact hkeep o v' hv')
                    have g := d1.alias (x := (some bb, cp)) (B := .lst (catSE ae b) (seLen (catSE ae b)) info.size ag t' wr) (fun b' hb' => by
                      simp only [Option.some.injEq] at hb'
                      subst hb'
                      exact ⟨by rw [k8]; exact (h.dom i _ hρ).2 bb rfl, fun j m C hj hC => gone j m C hj hC (by simp)⟩) (by
                      simp only [blkRel]
                      refine ⟨some bb, cp, xs ++ ys, upd_self, hc, wt_list_mk hsz hag hw2, hlen, r0, by simpa using hfit, by simp, fun b' hb' => ?_⟩
                      simp only [Option.some.injEq] at hb'
                      subst hb'
                      refine ⟨cs', k2, by rw [k3]; exact hcs, REs_append ?_ ?_, fun o v' hv' => ?_, hno⟩
                      · refine REs_local xs 0 (fun k _ hk v' hv' => ?_) hr
                        show cs'[k]? = some v'
                        rw [k4, if_neg (by omega)]
                        exact hv'
                      · refine A.els _ _ fun j u' hj => ?_
                        have hlt := (List.getElem?_eq_some_iff.1 hj).1
                        show cs'[0 + xs.length * info.size + j]? = some u'
                        rw [k4, if_pos (by omega)]
                        rw [← hj]
                        congr 1
                        omega
                      · have := hpin o v' hv'
                        have e : (xs ++ ys).length * info.size = xs.length * info.size + ys.length * info.size := by simp [Nat.add_mul]
                        omega)
                    refine ⟨_, w', p, _, hrun, ?_, g, ?_⟩
                    · simp only [val]
                      exact ⟨some bb, cp, xs.length + ys.length, _, by rw [← hlenS]; exact upd_self, by rw [hlen]; simp, rfl, hfit, by simp, fun _ => rfl⟩
                    · refine ⟨k5, k6, k7, by rw [k8]; exact Nat.le_refl _, Pins.le_refl p, upd_le (by rw [hlenS]; exact h.free), by simp, d2.keep, fun b' _ hm' => mine_old (fun bb' hbb' => hbb') hm', fun _ _ _ h => .inl h, fun j y hy => by rw [← hlenS]; exact upd_born hy⟩
              · -- in a new place
                have hrun := run_append_new (P := P) w ts ty t t' info z (.slice ad xs.length cp) v ad xs.length cp ys.length os us2 h0 hu hp hi hz rfl A.lenOf A2.first o3 (by omega) (by omega) hby
                have hge := grownCap_ge w (xs.length + ys.length) cp t'
                obtain ⟨d1, d2⟩ := h.kill i
                have ee : os.toArray ++ us2.toArray ++ Builtin.zeroCells z.cells (grownCap w (xs.length + ys.length) cp t' - (xs.length + ys.length)) = ((os ++ us2) ++ (Builtin.zeroCells z.cells (grownCap w (xs.length + ys.length) cp t' - (xs.length + ys.length))).toList).toArray := by
                  apply Array.ext'; simp
                rw [ee] at hrun
                obtain ⟨ρ', g1, g2, g3⟩ := grown_ok (wr := wr) d1 (tail := (Builtin.zeroCells z.cells (grownCap w (xs.length + ys.length) cp t' - (xs.length + ys.length))).toList) (news := os ++ us2) (c := grownCap w (xs.length + ys.length) cp t') hc hsz hag hpos hw2
                  (REs_append (o2 _ 0 fun j u' hj => by rw [Nat.zero_add]; exact list_get_append (list_get_append hj)) (A2.els _ _ fun j u' hj => by
                    rw [Nat.zero_add, ← o1]
                    exact list_get_append (list_get_append' hj))) (by
                  have e1 : (Builtin.zeroCells z.cells (grownCap w (xs.length + ys.length) cp t' - (xs.length + ys.length))).size = (grownCap w (xs.length + ys.length) cp t' - (xs.length + ys.length)) * info.size := by simp [Builtin.zeroCells, hzs]
                  have e2 : grownCap w (xs.length + ys.length) cp t' * info.size = (xs.length + ys.length) * info.size + (grownCap w (xs.length + ys.length) cp t' - (xs.length + ys.length)) * info.size := by rw [← Nat.add_mul]; congr 1; omega
                  rw [Nat.add_mul] at e2
                  simp only [List.length_append, Array.length_toList, e1]
                  omega) (by simpa using hge)
                rw [hlenS] at g1
                simp only [List.length_append] at g1
                exact ⟨_, _, p, ρ', hrun, g1, g2, d2.trans g3⟩
            · simp at he
          · simp at he
        · simp at he
      · simp at he
    · simp at he
  · simp at he
end
end Go.Dv

/- One operation. -/
set_option linter.unusedVariables false
set_option linter.unusedSimpArgs false
namespace Go.Dv

def OpOk (P : Program) (env : List PV) (p : Pins) (ρ : Rho) (H : Heap) (w : World) (s : Sem Next) : OpR → Prop
  | .val x => ∃ v, s.run P w = .ok (.value v) w ∧ val P env p ρ x v
  | .new mk B => ∃ (o : Obj) (m : Nat) (v : Nat → Value), (∀ w, s.run P w = .ok (.value (v w.heap.size)) (w.alloc o)) ∧
      ∀ (p' : Pins) (ρ' : Rho) (w : World) (n b : Nat), p.le p' → ρ.le ρ' → ρ' n = some (some b, m) → w.heap[b]? = some o → (∀ o, p' b o = none) → val P env p' ρ' (mk n) (v b) ∧ blkRel P env p' ρ' w n B
  | .wr x H' => ∃ v w' p' ρ', s.run P w = .ok (.value v) w' ∧ val P env p' ρ' x v ∧ Rel P env p' ρ' H' w' ∧ Step p ρ H w p' ρ' H' w'
  | .skip H' => ∃ w' p', s.run P w = .ok .skip w' ∧ Rel P env p' ρ H' w' ∧ Step p ρ H w p' ρ H' w'
  | .enter f args => ∃ vs, s.run P w = .ok (.enter f vs) w ∧ vals P env p ρ args vs.toList

section
variable {P : Program} {env : List PV} {p : Pins} {ρ : Rho} {H : Heap} {w : World}

theorem ok_val {s : Sem Value} {ns : List SE} {o : Out} {x : OpR} (he : o = some (ns, x)) (hs : ∀ r, o = some r → ∃ a, r.2 = .val a) (h : ∀ a, o = some (ns, .val a) → ∃ u, s.run P w = .ok u w ∧ val P env p ρ a u) :
    OpOk P env p ρ H w (do pure (.value (← s))) x := by
  obtain ⟨a, ha⟩ := hs _ he
  simp only at ha
  subst ha
  obtain ⟨u, h1, h2⟩ := h a he
  exact ⟨u, by simp [h1], h2⟩
theorem ok_map {s : Sem Value} {ns : List SE} {r : Option AV} {x : OpR} (he : r.map (fun a => (([], .val a) : List SE × OpR)) = some (ns, x)) (h : ∀ a, r = some a → ∃ u, s.run P w = .ok u w ∧ val P env p ρ a u) :
    OpOk P env p ρ H w (do pure (.value (← s))) x := by
  simp only [Option.map_eq_some_iff, Prod.mk.injEq] at he
  obtain ⟨a, ha, _, rfl⟩ := he
  obtain ⟨u, h1, h2⟩ := h a ha
  exact ⟨u, by simp [h1], h2⟩
theorem ok_new {s : Sem Value} {ns : List SE} {o : Out} {x : OpR} (he : o = some (ns, x)) (hs : ∀ r, o = some r → ∃ mk B, r.2 = .new mk B) (h : ∀ mk B, o = some (ns, .new mk B) → NewOk P env p ρ mk B s) :
    OpOk P env p ρ H w (do pure (.value (← s))) x := by
  obtain ⟨mk, B, ha⟩ := hs _ he
  simp only at ha
  subst ha
  obtain ⟨o, m, v, h1, h2⟩ := h mk B he
  exact ⟨o, m, v, fun w => by simp [h1 w], h2⟩

theorem vals_map {e : Operand → AV} {ev : Operand → Value} (xs : List Operand) (h : ∀ x ∈ xs, val P env p ρ (e x) (ev x)) : vals P env p ρ (xs.map e) (xs.map ev) := by
  induction xs with
  | nil => exact vals_nil
  | cons x xs ih => exact vals_cons (h x (by simp)) (ih fun y hy => h y (by simp [hy]))
theorem vals_map' {e : Operand → AV} {ev : Operand → Value} (xs : Array Operand) (h : ∀ x ∈ xs, val P env p ρ (e x) (ev x)) : vals P env p ρ (xs.toList.map e) (xs.map ev).toList := by
  rw [Array.toList_map]
  exact vals_map xs.toList fun x hx => h x (by simpa using hx)
theorem orel_map {e : Operand → AV} {ev : Operand → Value} (x : Option Operand) (h : ∀ y, x = some y → val P env p ρ (e y) (ev y)) : orel P env p ρ (x.map e) (x.map ev) := by
  cases x with
  | none => simp [orel]
  | some x => simpa [orel] using h x rfl

theorem enters_run {f : FuncId} {vs : Array Value} (h : enters P f = true) : (callFunc f vs).run P w = .ok (.enter f vs) w := by
  unfold enters at h
  cases hf : P.funcs[f]? with
  | none => simp [hf] at h
  | some fn =>
    simp only [hf, Bool.and_eq_true, bne_iff_ne, ne_eq] at h
    obtain ⟨c, hb⟩ := Option.isSome_iff_exists.1 h.1
    simp [callFunc, hf, h.2, hb]
theorem func_call {u : Value} {g : FuncId} {xs ys zs : List AV} {us : Array Value} (hu : val P env p ρ (.fn g xs ys) u) (hz : vals P env p ρ zs us.toList) :
    ∃ first cap, u = .func (.func g) first cap ∧ vals P env p ρ (xs ++ zs ++ ys) (first ++ us ++ cap).toList := by
  simp only [val] at hu
  obtain ⟨first, cap, rfl, h1, h2⟩ := hu
  refine ⟨first, cap, rfl, ?_⟩
  simp only [Array.toList_append]
  exact vals_append (vals_append h1 hz) h2

/-! What an operation may come to. -/
theorem isV_bin {op : BinOp} {t : TypeId} {x y : AV} : ∀ r, binA P op t x y = some r → ∃ a, r.2 = .val a := by
  intro r h
  unfold binA at h
  split at h
  · split at h
    · split at h <;> simp [done] at h <;> subst h <;> exact ⟨_, rfl⟩
    · simp at h
  · split at h
    · simp at h; subst h; exact ⟨_, rfl⟩
    · split at h <;> simp [done] at h; subst h; exact ⟨_, rfl⟩
  · split at h <;> simp [done] at h <;> subst h <;> exact ⟨_, rfl⟩
  · split at h <;> simp at h <;> (obtain ⟨_, _, rfl⟩ := h; exact ⟨_, rfl⟩)
  · simp at h
theorem isV_un {op : UnOp} {x : AV} : ∀ r, unA op x = some r → ∃ a, r.2 = .val a := by
  intro r h
  unfold unA at h
  split at h <;> simp [done] at h <;> subst h <;> exact ⟨_, rfl⟩
theorem isV_conv {s d : TypeId} {x : AV} : ∀ r, convA P H s d x = some r → ∃ a, r.2 = .val a := by
  intro r h
  unfold convA at h
  split at h
  · simp [done] at h; subst h; exact ⟨_, rfl⟩
  · simp [done] at h; subst h; exact ⟨_, rfl⟩
  · split at h <;> simp [done] at h; subst h; exact ⟨_, rfl⟩
  · split at h
    · split at h <;> simp [done] at h; subst h; exact ⟨_, rfl⟩
    · simp at h
  · simp at h
theorem isV_slice {t : TypeId} {x : AV} {lo hi mx : Option AV} : ∀ r, sliceA P H t x lo hi mx = some r → ∃ a, r.2 = .val a := by
  intro r h
  unfold sliceA at h
  split at h
  · split at h
    · split at h <;> simp [done] at h; subst h; exact ⟨_, rfl⟩
    · split at h <;> simp [done] at h; subst h; exact ⟨_, rfl⟩
    · split at h <;> simp [done] at h; subst h; exact ⟨_, rfl⟩
    · simp at h
  · simp at h
  · split at h
    · split at h <;> simp at h; subst h; exact ⟨_, rfl⟩
    · split at h
      · split at h <;> simp at h; subst h; exact ⟨_, rfl⟩
      · simp at h
    · simp at h
theorem isV_indexAddr {t : TypeId} {x i : AV} : ∀ r, indexAddrA P H t x i = some r → ∃ a, r.2 = .val a := by
  intro r h
  unfold indexAddrA at h
  split at h
  · split at h <;> simp at h; subst h; exact ⟨_, rfl⟩
  · simp at h; obtain ⟨_, _, rfl⟩ := h; exact ⟨_, rfl⟩
  · simp at h
theorem isV_index {t : TypeId} {x i : AV} : ∀ r, indexA P t x i = some r → ∃ a, r.2 = .val a := by
  intro r h
  unfold indexA at h
  split at h <;> simp at h; subst h; exact ⟨_, rfl⟩
theorem isV_len {t : TypeId} {x : AV} : ∀ r, lenA P t x = some r → ∃ a, r.2 = .val a := by
  intro r h
  unfold lenA at h
  split at h <;> simp [done] at h <;> subst h <;> exact ⟨_, rfl⟩
theorem isV_mm {b : Builtin} {xs : List AV} : ∀ r, mmA b xs = some r → ∃ a, r.2 = .val a := by
  intro r h
  unfold mmA at h
  split at h
  · split at h
    · split at h <;> simp [done] at h <;> subst h <;> exact ⟨_, rfl⟩
    · simp at h
  · simp at h
theorem isN_alloc {t : TypeId} : ∀ r, allocA P t = some r → ∃ mk B, r.2 = .new mk B := by
  intro r h
  simp only [allocA, Option.map_eq_some_iff] at h
  obtain ⟨_, _, rfl⟩ := h
  exact ⟨_, _, rfl⟩
theorem isN_box {t : TypeId} {x : AV} : ∀ r, boxA t x = some r → ∃ mk B, r.2 = .new mk B := by
  intro r h
  simp only [boxA, Option.map_eq_some_iff] at h
  obtain ⟨_, _, rfl⟩ := h
  exact ⟨_, _, rfl⟩
theorem isN_buildSlice {t : TypeId} {n : Nat} {ps : List (Nat × AV)} : ∀ r, buildSliceA P t n ps = some r → ∃ mk B, r.2 = .new mk B := by
  intro r h
  unfold buildSliceA at h
  split at h
  · split at h
    · split at h
      · simp only [Option.bind_eq_some_iff, Option.map_eq_some_iff] at h
        obtain ⟨_, _, _, _, rfl⟩ := h
        exact ⟨_, _, rfl⟩
      · simp at h
    · simp at h
  · simp at h
theorem isN_makeSlice {t : TypeId} {l c : AV} : ∀ r, makeSliceA P t l c = some r → ∃ mk B, r.2 = .new mk B := by
  intro r h
  unfold makeSliceA at h
  split at h
  · split at h
    · split at h
      · split at h <;> simp at h; subst h; exact ⟨_, _, rfl⟩
      · simp at h
    · simp at h
  · simp at h
theorem isW_append {t : TypeId} {u : Option TypeId} {s x : AV} : ∀ r, appendA P H t u s x = some r → ∃ a H', r.2 = .wr a H' := by
  intro r h
  unfold appendA at h
  split at h
  · split at h
    · split at h
      · split at h
        · simp at h; subst h; exact ⟨_, _, rfl⟩
        · simp at h; subst h; exact ⟨_, _, rfl⟩
        · split at h
          · split at h <;> simp at h; subst h; exact ⟨_, _, rfl⟩
          · simp at h
        · simp at h
      · simp at h
    · simp at h
  · simp at h

theorem buildSliceF_ok (h : Rel P env p ρ H w) {t : TypeId} {len : Nat} {ps : Array (Nat × Operand)} {e : Operand → AV} {ev : Operand → Value} {ns : List SE} {r : OpR} (hv : ∀ x ∈ ps.map (·.2), val P env p ρ (e x) (ev x))
    (he : buildSliceF P H t len (partsA e ps) = some (ns, r)) : OpOk P env p ρ H w (do pure (.value (← Instr.buildSlice t len (partsV ev ps)))) r := by
  unfold buildSliceF at he
  split at he
  · rename_i ns' mk B hb
    simp only [Option.some.injEq, Prod.mk.injEq] at he
    obtain ⟨rfl, rfl⟩ := he
    obtain ⟨p1, p2⟩ := parts_rel ps hv
    obtain ⟨p', g1, g2, g3⟩ := frozeL_ok _ h p2
    have hl : ((partsA e ps).map (·.1)).length = (frozeL H ((partsA e ps).map (·.2))).1.length := by
      have h1 := vals_length g3
      have h2 := vals_length p2
      simp only [List.length_map] at h1 h2 ⊢
      omega
    have z1 : (((partsA e ps).map (·.1)).zip (frozeL H ((partsA e ps).map (·.2))).1).map (·.1) = (partsA e ps).map (·.1) := List.map_fst_zip (by omega)
    have z2 : (((partsA e ps).map (·.1)).zip (frozeL H ((partsA e ps).map (·.2))).1).map (·.2) = (frozeL H ((partsA e ps).map (·.2))).1 := List.map_snd_zip (by omega)
    obtain ⟨ob, m, v, hrun, hq⟩ := buildSlice_ok' (P := P) (env := env) (p := p') (ρ := ρ) (p1.trans z1.symm) (by rw [z2]; exact g3) hb
    have hle := upd_le (x := (some w.heap.size, m)) g1.free
    obtain ⟨hv1, hv2⟩ := hq p' (upd ρ (frozeL H ((partsA e ps).map (·.2))).2.length (some w.heap.size, m)) (w.alloc ob) (frozeL H ((partsA e ps).map (·.2))).2.length w.heap.size (Pins.le_refl p') hle upd_self (by show (w.heap.push ob)[w.heap.size]? = _; simp) (fun o => g1.pin_new (Nat.le_refl _) o)
    obtain ⟨q1, q2⟩ := g1.push ob B m hv2
    exact ⟨_, _, p', _, by simp [hrun w], hv1, q1, g2.trans q2⟩
  · simp at he

theorem op_ok (h : Rel P env p ρ H w) {e : Operand → AV} {ev : Operand → Value} {o : Oper} (hv : ∀ x ∈ o.op.operands, val P env p ρ (e x) (ev x)) {ns : List SE} {r : OpR} (he : opA P e o H = some (ns, r)) (hn : Needs env ns) :
    OpOk P env p ρ H w (execOp ev o) r := by
  unfold opA at he
  unfold execOp
  cases ho : o.op with
  | move x =>
    rw [ho] at he hv
    simp only [done, Option.some.injEq, Prod.mk.injEq] at he
    obtain ⟨_, rfl⟩ := he
    exact ⟨_, by simp, hv x (by simp [Op.operands])⟩
  | assign x =>
    rw [ho] at he hv
    simp only [done, Option.some.injEq, Prod.mk.injEq] at he
    obtain ⟨_, rfl⟩ := he
    exact ⟨_, by simp, hv x (by simp [Op.operands])⟩
  | pick c x y =>
    rw [ho] at he hv
    simp only at he
    split at he
    · rename_i t ht
      simp only [done, Option.some.injEq, Prod.mk.injEq] at he
      obtain ⟨_, rfl⟩ := he
      have hc := hv c (by simp [Op.operands])
      rw [ht] at hc
      obtain ⟨b, hb, hcv⟩ := val_pbool hc
      simp [SE.dn] at hb
      subst hb
      refine ⟨if t then ev x else ev y, by simp [hcv, asBool], ?_⟩
      cases t
      · exact hv y (by simp [Op.operands])
      · exact hv x (by simp [Op.operands])
    · simp at he
  | alloc t => rw [ho] at he; exact ok_new he isN_alloc fun mk B hb => alloc_ok hb
  | box t x => rw [ho] at he hv; exact ok_new he isN_box fun mk B hb => box_ok (hv x (by simp [Op.operands])) hb
  | build t ps => rw [ho] at he hv; exact ok_map he fun a ha => build_ok (fun x hx => hv x (by simpa [Op.operands] using hx)) ha
  | buildSlice t n ps =>
    rw [ho] at he hv
    simp only at he
    split at he
    · rename_i r0 hr0
      simp only [Option.some.injEq] at he
      subst he
      exact ok_new hr0 isN_buildSlice fun mk B hb => buildSlice_ok (fun x hx => hv x (by simpa [Op.operands] using hx)) hb
    · exact buildSliceF_ok h (fun x hx => hv x (by simpa [Op.operands] using hx)) he
  | load t x => rw [ho] at he hv; exact ok_map he fun a ha => load_ok h (hv x (by simp [Op.operands])) ha
  | store t x y =>
    rw [ho] at he hv
    simp only [Option.map_eq_some_iff, Prod.mk.injEq] at he
    obtain ⟨H', hH, _, rfl⟩ := he
    obtain ⟨w', p', h1, h2, h3⟩ := store_ok h (hv x (by simp [Op.operands])) (hv y (by simp [Op.operands])) hH
    exact ⟨w', p', by simp [h1], h2, h3⟩
  | nilCheck x =>
    rw [ho] at he hv
    have hx := hv x (by simp [Op.operands])
    simp only at he
    split at he
    · rename_i i o hp
      simp only [done, Option.some.injEq, Prod.mk.injEq] at he
      obtain ⟨_, rfl⟩ := he
      rw [hp] at hx
      have hx' := hx
      simp only [val] at hx'
      obtain ⟨b, m, _, hb⟩ := hx'
      simp only [hb]
      rw [hb] at hx
      exact ⟨.pointer (some ⟨b, o, none⟩), by simp, hx⟩
    · rename_i a b c d hp
      simp only [done, Option.some.injEq, Prod.mk.injEq] at he
      obtain ⟨_, rfl⟩ := he
      rw [hp] at hx
      have hx' := hx
      simp only [val] at hx'
      obtain ⟨_, _, _, _, _, _, _, _, _, _, hb⟩ := hx'
      simp only [hb]
      rw [hb] at hx
      exact ⟨_, by simp, hx⟩
    · rename_i a b c d f hp
      simp only [done, Option.some.injEq, Prod.mk.injEq] at he
      obtain ⟨_, rfl⟩ := he
      rw [hp] at hx
      have hx' := hx
      simp only [val] at hx'
      obtain ⟨_, _, _, _, _, hb⟩ := hx'
      simp only [hb]
      rw [hb] at hx
      exact ⟨_, by simp, hx⟩
    · rename_i f xs ys hp
      simp only [done, Option.some.injEq, Prod.mk.injEq] at he
      obtain ⟨_, rfl⟩ := he
      rw [hp] at hx
      have hx' := hx
      simp only [val] at hx'
      obtain ⟨us, ws, hb, _, _⟩ := hx'
      simp only [hb]
      rw [hb] at hx
      exact ⟨.func (.func f) us ws, by simp, hx⟩
    · simp at he
  | binOp op t x y c => rw [ho] at he hv; exact ok_val he isV_bin fun a ha => bin_ok (hv x (by simp [Op.operands])) (hv y (by simp [Op.operands])) ha hn
  | unOp op t x => rw [ho] at he hv; exact ok_val he isV_un fun a ha => un_ok (hv x (by simp [Op.operands])) ha
  | convert s d x => rw [ho] at he hv; exact ok_val he isV_conv fun a ha => conv_ok h (hv x (by simp [Op.operands])) ha
  | makeFunc fn first captured =>
    rw [ho] at he hv
    simp only at he
    split at he
    · simp only [done, Option.some.injEq, Prod.mk.injEq] at he
      obtain ⟨_, rfl⟩ := he
      refine ⟨.func (.func _) (first.map ev) (captured.map ev), by simp [Instr.makeFunc]; rfl, ?_⟩
      simp only [val]
      exact ⟨_, _, rfl, vals_map' first fun x hx => hv x (by simp [Op.operands, hx]), vals_map' captured fun x hx => hv x (by simp [Op.operands, hx])⟩
    · simp at he
  | makeSlice t l c => rw [ho] at he hv; exact ok_new he isN_makeSlice fun mk B hb => makeSlice_ok (hv l (by simp [Op.operands])) (hv c (by simp [Op.operands])) hb hn
  | slice t x lo hi mx =>
    rw [ho] at he hv
    exact ok_val he isV_slice fun a ha => slice_ok (hv x (by simp [Op.operands])) (orel_map lo fun y hy => hv y (by simp [Op.operands, hy])) (orel_map hi fun y hy => hv y (by simp [Op.operands, hy])) (orel_map mx fun y hy => hv y (by simp [Op.operands, hy])) ha hn
  | fieldAddr s x f => rw [ho] at he hv; exact ok_map he fun a ha => fieldAddr_ok (hv x (by simp [Op.operands])) ha
  | field t x f => rw [ho] at he hv; exact ok_map he fun a ha => field_ok (hv x (by simp [Op.operands])) ha
  | indexAddr t x i => rw [ho] at he hv; exact ok_val he isV_indexAddr fun a ha => indexAddr_ok h (hv x (by simp [Op.operands])) (hv i (by simp [Op.operands])) ha hn
  | index t x i => rw [ho] at he hv; exact ok_val he isV_index fun a ha => index_ok (hv x (by simp [Op.operands])) (hv i (by simp [Op.operands])) ha hn
  | extract t i =>
    rw [ho] at he hv
    simp only at he
    split at he
    · rename_i l hl
      have ht := hv t (by simp [Op.operands])
      rw [hl] at ht
      simp only [val] at ht
      obtain ⟨us, hu, hx⟩ := ht
      refine ok_map he fun a ha => ?_
      obtain ⟨v, h1, h2⟩ := vals_get hx ha
      exact ⟨v, by simp at h1; simp [Instr.extract, hu, h1], h2⟩
    · simp at he
  | call c =>
    rw [ho] at he hv
    have hargs := vals_map' (P := P) (env := env) (p := p) (ρ := ρ) (e := e) (ev := ev) c.args fun x hx => hv x (by simp [Op.operands, Call.operands, hx])
    simp only at he
    cases hc : c.callee with
    | builtin b =>
      rw [hc] at he
      simp only at he
      have hres : (do let d ← resolve ev c o.type; invoke d.target d.args : Sem Next) = builtin b c.argTypes o.type (c.args.map fun | .const _ => true | _ => false) (c.args.map ev) := by
        simp only [resolve, hc]
        rfl
      show OpOk P env p ρ H w (do let d ← resolve ev c o.type; invoke d.target d.args) r
      rw [hres]
      unfold builtinA at he
      split at he
      · rename_i t rest x rest' hts hargs'
        refine ok_val (s := Builtin.len_ _ _ _) he isV_len fun a ha => ?_
        rw [hargs'] at hargs
        simp only [vals] at hargs
        obtain ⟨v, r, hvs, hxv, _⟩ := hargs
        refine len_ok (v := v) ?_ ?_ hxv ha
        · rw [← Array.getElem?_toList, hts]; rfl
        · rw [← Array.getElem?_toList, hvs]; rfl
      · rename_i t us s x hts hargs'
        rw [hargs'] at hargs
        simp only [vals] at hargs
        obtain ⟨v, r, hvs, hsv, v', r', hr, hxv, hr'⟩ := hargs
        subst hr
        subst hr'
        have hvs' : c.args.map ev = #[v, v'] := Array.ext' hvs
        rw [hvs']
        obtain ⟨a, H', hw⟩ := isW_append _ he
        simp only at hw
        subst hw
        obtain ⟨z, w', p', ρ', h1, h2, h3, h4⟩ := append_ok (ty := o.type) h (ts := c.argTypes) (t := t) (by rw [← Array.getElem?_toList, hts]; rfl) hsv hxv (by
          have e : c.argTypes[1]? = us.head? := by rw [← Array.getElem?_toList, hts]; cases us <;> rfl
          rw [e]
          exact he) hn
        refine ⟨z, w', p', ρ', ?_, h2, h3, h4⟩
        show (do pure (.value (← Builtin.append_ _ _ _)) : Sem Next).run P w = _
        simp [h1]
      · refine ok_val (s := Builtin.max_ _ _ _) he isV_mm fun a ha => ?_
        have := mm_ok (P := P) (w := w) (ts := c.argTypes) (t := o.type) (.inl rfl) hargs ha
        simpa using this
      · refine ok_val (s := Builtin.min_ _ _ _) he isV_mm fun a ha => ?_
        have := mm_ok (P := P) (w := w) (ts := c.argTypes) (t := o.type) (.inr rfl) hargs ha
        simpa using this
      · simp at he
    | value f =>
      rw [hc] at he
      simp only at he
      split at he
      · rename_i g xs ys hg
        split at he
        · rename_i hen
          simp only [Option.some.injEq, Prod.mk.injEq] at he
          obtain ⟨_, rfl⟩ := he
          have hf := hv f (by simp [Op.operands, Call.operands, hc])
          rw [hg] at hf
          obtain ⟨first, cap, hu, hall⟩ := func_call hf hargs
          refine ⟨first ++ c.args.map ev ++ cap, ?_, hall⟩
          simp [resolve, hc, hu, Deferred.ofValue, invoke, enters_run hen]
        · simp at he
      · simp at he
    | invoke x n => rw [hc] at he; simp at he
  | _ => rw [ho] at he; simp at he
end
end Go.Dv

/- Tests that are known, needs, moves of states; regions in the order of the text. -/
set_option linter.unusedVariables false
set_option linter.unusedSimpArgs false
namespace Go.Dv

theorem Kn_dec {k l : Kn} (h : decide (k = l) = true) : k = l := of_decide_eq_true h
mutual
theorem AV.beq_eq : ∀ {a b : AV}, AV.beq a b = true → a = b
  | .un, b, h => by cases b <;> simp [AV.beq] at h ⊢
  | .pv k e, b, h => by cases b <;> simp [AV.beq] at h ⊢; exact ⟨h.1, SE.beq_eq h.2⟩
  | .ptr i o, b, h => by cases b <;> simp [AV.beq] at h ⊢; exact h
  | .nilp, b, h => by cases b <;> simp [AV.beq] at h ⊢
  | .slf i o, b, h => by cases b <;> simp [AV.beq] at h ⊢; exact h
  | .nils, b, h => by cases b <;> simp [AV.beq] at h ⊢
  | .emp, b, h => by cases b <;> simp [AV.beq] at h ⊢
  | .el e x o t, b, h => by cases b <;> simp [AV.beq] at h ⊢; exact ⟨SE.beq_eq h.1.1.1, SE.beq_eq h.1.1.2, h.1.2, h.2⟩
  | .own i n, b, h => by cases b <;> simp [AV.beq] at h ⊢; exact ⟨h.1, SE.beq_eq h.2⟩
  | .elo i n x o z, b, h => by cases b <;> simp [AV.beq] at h ⊢; exact ⟨h.1.1.1.1, SE.beq_eq h.1.1.1.2, SE.beq_eq h.1.1.2, h.1.2, h.2⟩
  | .fn f x y, b, h => by cases b <;> simp [AV.beq] at h ⊢; exact ⟨h.1.1, AV.beqL_eq h.1.2, AV.beqL_eq h.2⟩
  | .nilfn, b, h => by cases b <;> simp [AV.beq] at h ⊢
  | .agg x, b, h => by cases b <;> simp [AV.beq] at h ⊢; exact AV.beqL_eq h
  | .tup x, b, h => by cases b <;> simp [AV.beq] at h ⊢; exact AV.beqL_eq h
theorem AV.beqL_eq : ∀ {a b : List AV}, AV.beqL a b = true → a = b
  | [], b, h => by cases b <;> simp [AV.beqL] at h ⊢
  | x :: xs, b, h => by
    cases b <;> simp [AV.beqL] at h ⊢
    exact ⟨AV.beq_eq h.1, AV.beqL_eq h.2⟩
end
theorem Blk.beq_eq {a b : Blk} (h : Blk.beq a b = true) : a = b := by
  cases a <;> cases b <;> simp [Blk.beq] at h ⊢
  · exact ⟨AV.beqL_eq h.1, h.2⟩
  · exact ⟨h.1.1.1.1.1, h.1.1.1.1.2, h.1.1.1.2, h.1.1.2, h.1.2, h.2⟩

def AsmOk (env : List PV) (asm : List (SE × Bool)) : Prop := ∀ q ∈ asm, q.1.dn env = .bool q.2
/-- What a value says, it says of more. -/
def LeA (P : Program) (env : List PV) (a : AV) (env' : List PV) (a' : AV) : Prop := ∀ p ρ v, val P env p ρ a v → val P env' p ρ a' v
def TsLe (P : Program) (env : List PV) (ts : List AV) (env' : List PV) (ts' : List AV) : Prop := ts'.length = ts.length ∧ ∀ (t : Nat) (x : AV), ts[t]? = some x → ∃ x', ts'[t]? = some x' ∧ LeA P env x env' x'
def StkLe (P : Program) (env : List PV) (s : List (List AV)) (env' : List PV) (s' : List (List AV)) : Prop := s'.length = s.length ∧ ∀ (t : Nat) (x : List AV), s[t]? = some x → ∃ x', s'[t]? = some x' ∧ TsLe P env x env' x'

section
variable {P : Program} {env env' env'' : List PV} {p : Pins} {ρ : Rho} {H : Heap} {w : World}

theorem LeA.refl (a : AV) : LeA P env a env a := fun _ _ _ h => h
theorem LeA.trans {a b c : AV} (h : LeA P env a env' b) (k : LeA P env' b env'' c) : LeA P env a env'' c := fun p ρ v x => k p ρ v (h p ρ v x)
theorem TsLe.refl (a : List AV) : TsLe P env a env a := ⟨rfl, fun _ x h => ⟨x, h, LeA.refl x⟩⟩
theorem TsLe.trans {a b c : List AV} (h : TsLe P env a env' b) (k : TsLe P env' b env'' c) : TsLe P env a env'' c :=
  ⟨k.1.trans h.1, fun t x hx => by
    obtain ⟨y, h1, h2⟩ := h.2 t x hx
    obtain ⟨z, k1, k2⟩ := k.2 t y h1
    exact ⟨z, k1, h2.trans k2⟩⟩
theorem StkLe.refl (a : List (List AV)) : StkLe P env a env a := ⟨rfl, fun _ x h => ⟨x, h, TsLe.refl x⟩⟩
theorem StkLe.trans {a b c : List (List AV)} (h : StkLe P env a env' b) (k : StkLe P env' b env'' c) : StkLe P env a env'' c :=
  ⟨k.1.trans h.1, fun t x hx => by
    obtain ⟨y, h1, h2⟩ := h.2 t x hx
    obtain ⟨z, k1, k2⟩ := k.2 t y h1
    exact ⟨z, k1, h2.trans k2⟩⟩
theorem TsLe.vals {ts ts' : List AV} (h : TsLe P env ts env' ts') {vs : List Value} (hv : vals P env p ρ ts vs) : vals P env' p ρ ts' vs := by
  refine vals_of_get (by rw [vals_length hv, h.1]) fun t x hx => ?_
  have hlt : t < ts.length := by rw [← h.1]; exact (List.getElem?_eq_some_iff.1 hx).1
  obtain ⟨y, h1, h2⟩ := h.2 t _ (List.getElem?_eq_getElem hlt)
  obtain ⟨v, h3, h4⟩ := vals_get hv (List.getElem?_eq_getElem hlt)
  rw [hx] at h1
  simp only [Option.some.injEq] at h1
  subst h1
  exact ⟨v, h3, h2 _ _ _ h4⟩

mutual
theorem val_agree {n : Nat} (h : Agree n env env') : ∀ (a : AV), AV.upTo n a = true → ∀ v, val P env p ρ a v → val P env' p ρ a v
  | .un, _, v, _ => by simp [val]
  | .pv k e, hu, v, hv => by
    simp only [AV.upTo] at hu
    simp only [val, ← SE.dn_upTo h hu] at hv ⊢
    exact hv
  | .ptr i o, _, v, hv => by simpa [val] using hv
  | .nilp, _, v, hv => by simpa [val] using hv
  | .slf i o, _, v, hv => by simpa [val] using hv
  | .nils, _, v, hv => by simpa [val] using hv
  | .emp, _, v, hv => by simpa [val] using hv
  | .el e x o t, hu, v, hv => by
    simp only [AV.upTo, Bool.and_eq_true] at hu
    simp only [val, ← SE.dn_upTo h hu.1, ← SE.dn_upTo h hu.2] at hv ⊢
    exact hv
  | .own i n, hu, v, hv => by
    simp only [AV.upTo] at hu
    simp only [val, ← SE.dn_upTo h hu] at hv ⊢
    exact hv
  | .elo i m x o z, hu, v, hv => by
    simp only [AV.upTo, Bool.and_eq_true] at hu
    simp only [val, ← SE.dn_upTo h hu.1, ← SE.dn_upTo h hu.2] at hv ⊢
    exact hv
  | .fn f xs ys, hu, v, hv => by
    simp only [AV.upTo, Bool.and_eq_true] at hu
    simp only [val] at hv ⊢
    obtain ⟨us, ws, e, h1, h2⟩ := hv
    exact ⟨us, ws, e, vals_agree h xs hu.1 _ h1, vals_agree h ys hu.2 _ h2⟩
  | .nilfn, _, v, hv => by simpa [val] using hv
  | .agg xs, hu, v, hv => by
    simp only [AV.upTo] at hu
    simp only [val] at hv ⊢
    obtain ⟨us, e, h1⟩ := hv
    exact ⟨us, e, vals_agree h xs hu _ h1⟩
  | .tup xs, hu, v, hv => by
    simp only [AV.upTo] at hu
    simp only [val] at hv ⊢
    obtain ⟨us, e, h1⟩ := hv
    exact ⟨us, e, vals_agree h xs hu _ h1⟩
theorem vals_agree {n : Nat} (h : Agree n env env') : ∀ (as : List AV), AV.upToL n as = true → ∀ vs, vals P env p ρ as vs → vals P env' p ρ as vs
  | [], _, vs, hv => by simpa [vals] using hv
  | a :: as, hu, vs, hv => by
    simp only [AV.upToL, Bool.and_eq_true] at hu
    simp only [vals] at hv ⊢
    obtain ⟨v, r, e, h1, h2⟩ := hv
    exact ⟨v, r, e, val_agree h a hu.1 v h1, vals_agree h as hu.2 r h2⟩
end
theorem LeA.agree {n : Nat} (h : Agree n env env') {a : AV} (hu : AV.upTo n a = true) : LeA P env a env' a := fun _ _ v hv => val_agree h a hu v hv
theorem upToL_all {n : Nat} : ∀ {as : List AV}, AV.upToL n as = true → ∀ a ∈ as, AV.upTo n a = true
  | [], _, a, ha => by simp at ha
  | x :: xs, h, a, ha => by
    simp only [AV.upToL, Bool.and_eq_true] at h
    rcases List.mem_cons.1 ha with rfl | ha
    · exact h.1
    · exact upToL_all h.2 a ha
theorem TsLe.agree {n : Nat} (h : Agree n env env') {ts : List AV} (hu : AV.upToL n ts = true) : TsLe P env ts env' ts :=
  ⟨rfl, fun t x hx => ⟨x, hx, LeA.agree h (upToL_all hu x (List.mem_of_getElem? hx))⟩⟩
theorem blk_agree {n : Nat} (h : Agree n env env') {B : Blk} (hu : Blk.upTo n B = true) {i : Nat} (hb : blkRel P env p ρ w i B) : blkRel P env' p ρ w i B := by
  cases B with
  | dead => trivial
  | cells vs t =>
    simp only [Blk.upTo] at hu
    simp only [blkRel] at hb ⊢
    obtain ⟨b, m, cs, h1, h2, h2', h3, h4⟩ := hb
    refine ⟨b, m, cs, h1, h2, h2', h3, fun k a hk => ?_⟩
    obtain ⟨v, hv, hr⟩ := h4 k a hk
    exact ⟨v, hv, val_agree h a (upToL_all hu a (List.mem_of_getElem? hk)) v hr⟩
  | lst e m sz ag t wr =>
    simp only [Blk.upTo, Bool.and_eq_true] at hu
    simp only [blkRel, SE.dn_upTo h hu.1, SE.dn_upTo h hu.2] at hb ⊢
    exact hb
theorem Rel.agree {n : Nat} (h : Agree n env env') (hu : H.all (Blk.upTo n) = true) (hr : Rel P env p ρ H w) : Rel P env' p ρ H w :=
  ⟨hr.pin, fun i x B hi hg => blk_agree h (by rw [List.all_eq_true] at hu; exact hu B (List.mem_of_getElem? hg)) (hr.blk i x B hi hg), hr.inj, hr.dom, hr.base⟩

/-! ### What is known of tests -/
theorem asmOf_ok {asm : List (SE × Bool)} (h : AsmOk env asm) {c : SE} {b : Bool} (hc : asmOf asm c = some b) : c.dn env = .bool b := by
  induction asm with
  | nil => simp [asmOf] at hc
  | cons q r ih =>
    obtain ⟨d, b'⟩ := q
    simp only [asmOf] at hc
    split at hc
    · rename_i e
      simp only [Option.some.injEq] at hc
      subst e hc
      exact h (c, b') (by simp)
    · exact ih (fun q hq => h q (by simp [hq])) hc
theorem normA_iff {asm : List (SE × Bool)} (h : AsmOk env asm) (a : AV) (v : Value) : val P env p ρ (normA asm a) v ↔ val P env p ρ a v := by
  unfold normA
  split
  · rfl
  · rename_i c hne
    split
    · rename_i b hb
      have := asmOf_ok h hb
      simp only [val, this, SE.dn]
    · rfl
  · rfl
theorem AsmOk.cons {asm : List (SE × Bool)} (h : AsmOk env asm) {c : SE} {b : Bool} (hc : c.dn env = .bool b) : AsmOk env ((c, b) :: asm) := by
  intro q hq
  rcases List.mem_cons.1 hq with rfl | hq
  · exact hc
  · exact h q hq
theorem AsmOk.know {asm : List (SE × Bool)} (h : AsmOk env asm) : ∀ {ns : List SE}, Needs env ns → AsmOk env (know asm ns)
  | [], _ => h
  | c :: r, hn => by
    simp only [Go.Dv.know]
    exact (AsmOk.know h fun e he => hn e (by simp [he])).cons (hn c (by simp))
theorem needsK_ok {fuel : Nat} {G : FuncId → PV → Option PV} {L : List (PV → Option PV)} {res : PV} {asm : List (SE × Bool)} (h : AsmOk env asm) {t : Tree} {ns : List SE} (ht : (needsK asm ns t).dn fuel G L env = some res) : Needs env ns ∧ t.dn fuel G L env = some res := by
  induction ns with
  | nil => exact ⟨fun e he => by simp at he, ht⟩
  | cons c r ih =>
    have key : ∀ {P1 : Prop}, c.dn env = .bool true → (needsK asm r t).dn fuel G L env = some res → Needs env (c :: r) ∧ t.dn fuel G L env = some res := by
      intro _ hc ht
      obtain ⟨h1, h2⟩ := ih ht
      refine ⟨fun e he => ?_, h2⟩
      rcases List.mem_cons.1 he with rfl | he
      · exact hc
      · exact h1 e he
    unfold needsK at ht
    split at ht
    · rename_i heq
      simp at heq
    · rename_i heq
      simp only [List.cons.injEq] at heq
      obtain ⟨rfl, rfl⟩ := heq
      exact key (P1 := True) rfl ht
    · rename_i c' r' hne heq
      simp only [List.cons.injEq] at heq
      obtain ⟨rfl, rfl⟩ := heq
      split at ht
      · rename_i ha
        exact key (P1 := True) (asmOf_ok h ha) ht
      · simp only [Tree.dn] at ht
        split at ht
        · rename_i hc
          exact key (P1 := True) hc ht
        · simp at ht
theorem ite_ok {fuel : Nat} {G : FuncId → PV → Option PV} {L : List (PV → Option PV)} {res : PV} {c : SE} {f : Bool → Tree} (h : (Tree.ite c (f true) (f false)).dn fuel G L env = some res) : ∃ b, c.dn env = .bool b ∧ (f b).dn fuel G L env = some res := by
  simp only [Tree.dn] at h
  split at h
  · exact ⟨true, by assumption, h⟩
  · exact ⟨false, by assumption, h⟩
  · simp at h
end

/-! ### States -/
structure Core (P : Program) (env : List PV) (L : List (PV → Option PV)) (p : Pins) (ρ : Rho) (w : World) (s : St) : Prop where
  rel : Rel P env p ρ s.H w
  nv : env.length = s.nv
  lv : L.length = s.lv
  asm : AsmOk env s.asm
structure Moves (P : Program) (env : List PV) (L : List (PV → Option PV)) (s : St) (env' : List PV) (L' : List (PV → Option PV)) (s' : St) : Prop where
  pre : env <+: env'
  preL : L <+: L'
  stk : StkLe P env s.stk env' s'.stk
theorem Moves.refl {P : Program} {env : List PV} {L : List (PV → Option PV)} {s s' : St} (h : s'.stk = s.stk) : Moves P env L s env L s' := ⟨List.prefix_refl _, List.prefix_refl _, by rw [h]; exact StkLe.refl _⟩
theorem Moves.trans {P : Program} {env env' env'' : List PV} {L L' L'' : List (PV → Option PV)} {s s' s'' : St} (h : Moves P env L s env' L' s') (k : Moves P env' L' s' env'' L'' s'') : Moves P env L s env'' L'' s'' :=
  ⟨h.pre.trans k.pre, h.preL.trans k.preL, h.stk.trans k.stk⟩

variable {P : Program} {fuel : Nat} {G : FuncId → PV → Option PV}

/-- What the trees say of a call, behind which k goes on. -/
def CallOk (P : Program) (fuel : Nat) (G : FuncId → PV → Option PV) (call : CallK) : Prop :=
  ∀ f as s k env L res p ρ w (vs : Array Value), (call f as s k).dn fuel G L env = some res → Core P env L p ρ w s → vals P env p ρ as vs.toList →
    Calls P f vs w fun e w' => ∃ v x s' env' L' p' ρ', e = .returned v ∧ Moves P env L s env' L' s' ∧ Core P env' L' p' ρ' w' s' ∧ Step p ρ s.H w p' ρ' s'.H w' ∧ TsLe P env s.ts env' s'.ts ∧ val P env' p' ρ' x v ∧ (k x s').dn fuel G L' env' = some res

theorem put_vals {env : List PV} {p : Pins} {ρ : Rho} {ts : List AV} {a : Act} (h : vals P env p ρ ts a.tmps.toList) {x : AV} {v : Value} (hx : val P env p ρ x v) (dst : Option Tmp) : vals P env p ρ (put ts dst x) (a.put dst v).tmps.toList := by
  cases dst with
  | none => exact h
  | some d =>
    simp only [put, Act.put, Array.toList_setIfInBounds]
    exact vals_set h d hx
theorem put_defers (a : Act) (dst : Option Tmp) (v : Value) : (a.put dst v).defers = a.defers := by
  cases dst <;> rfl
theorem undef_val {env : List PV} {p : Pins} {ρ : Rho} : val P env p ρ undefA undef := by
  simp only [undefA, undef, val]
  exact ⟨#[], rfl, vals_nil⟩

/-- A frame beside a state. -/
structure SRel (P : Program) (env : List PV) (L : List (PV → Option PV)) (p : Pins) (ρ : Rho) (w : World) (s : St) (a : Act) : Prop extends Core P env L p ρ w s where
  ts : vals P env p ρ s.ts a.tmps.toList
  ds : a.defers = []

theorem wanted_ok {env : List PV} {p : Pins} {ρ : Rho} {ops : Array Oper} {ts : List AV} {tmps : Array Value} {o : Oper} (hl : tmps.size = ts.length) (h : ∀ (j : Nat) (b : Bool) (d : Tmp), o.guard = some (j, b) → (ops[j]?).bind (·.dst) = some d → ∀ x, ts[d]? = some x → ∃ v, tmps[d]? = some v ∧ val P env p ρ x v) {r : Want} (hw : wantedA ops ts o = r) :
    (r = .yes → Region.wanted o (yielded ops tmps) = true) ∧ (r = .no → Region.wanted o (yielded ops tmps) = false) ∧ (∀ c b, r = .ask c → c.dn env = .bool b → Region.wanted o (yielded ops tmps) = (b == guardOf o)) := by
  unfold wantedA at hw
  unfold Region.wanted guardOf
  cases hg : o.guard with
  | none => rw [hg] at hw; simp only at hw; subst hw; simp
  | some jw =>
    obtain ⟨j, want⟩ := jw
    rw [hg] at hw
    simp only at hw ⊢
    unfold yielded
    cases hd : (ops[j]?).bind (·.dst) with
    | none => rw [hd] at hw; simp only at hw; subst hw; simp [hd]
    | some d =>
      rw [hd] at hw
      simp only at hw
      cases ht : ts[d]? with
      | none =>
        rw [ht] at hw
        simp only at hw
        subst hw
        have : tmps[d]? = none := by
          rw [List.getElem?_eq_none_iff] at ht
          rw [Array.getElem?_eq_none_iff]
          omega
        simp [hd, this]
      | some x =>
        obtain ⟨v, hv, hr⟩ := h j want d hg hd x ht
        rw [ht] at hw
        split at hw
        · simp_all
        · rename_i b hx
          simp only [Option.some.injEq] at hx
          subst hx
          obtain ⟨b', hb', rfl⟩ := val_pbool hr
          simp [SE.dn] at hb'
          subst hb'
          split at hw
          · rename_i hbw
            subst hw
            simp [hd, hv]
            simpa using hbw
          · rename_i hbw
            subst hw
            simp [hd, hv]
            simpa using hbw
        · rename_i c hne hx
          simp only [Option.some.injEq] at hx
          subst hx hw
          refine ⟨by simp, by simp, fun c' b hc hb => ?_⟩
          simp only [Want.ask.injEq] at hc
          subst hc
          obtain ⟨b', hb', rfl⟩ := val_pbool hr
          rw [hb] at hb'
          simp only [PV.bool.injEq] at hb'
          subst hb'
          simp [hd, hv]
        · rename_i l hx
          simp only [Option.some.injEq] at hx
          subst hx hw
          simp only [val] at hr
          obtain ⟨us, rfl, _⟩ := hr
          simp [hd, hv]
        · subst hw
          simp
end Go.Dv

/- Regions in the order of the text. -/
set_option linter.unusedVariables false
set_option linter.unusedSimpArgs false
namespace Go.Dv

section
variable {P : Program} {fuel : Nat} {G : FuncId → PV → Option PV} {call : CallK} {env : List PV} {L : List (PV → Option PV)} {p : Pins} {ρ : Rho} {w : World} {res : PV}

theorem wanted_ask {ops : Array Oper} {ts : List AV} {o : Oper} {c : SE} (h : wantedA ops ts o = .ask c) : ∃ j want d, o.guard = some (j, want) ∧ (ops[j]?).bind (·.dst) = some d ∧ ts[d]? = some (.pv .bool c) := by
  unfold wantedA at h
  split at h
  · simp at h
  · rename_i j want hg
    split at h
    · simp at h
    · rename_i d hd
      split at h
      · simp at h
      · split at h <;> simp at h
      · rename_i c' hne hx
        simp only [Want.ask.injEq] at h
        subst h
        exact ⟨j, want, d, hg, hd, hx⟩
      · simp at h
      · simp at h

theorem setG_le {ops : Array Oper} {o : Oper} {c : SE} {ts : List AV} {b : Bool} (hc : c.dn env = .bool b) : TsLe P env ts env (setG ops o c ts b) := by
  unfold setG
  split
  · split
    · rename_i d hd
      split
      · rename_i c' hx
        split
        · rename_i hcc
          subst hcc
          refine ⟨by simp, fun t x ht => ?_⟩
          by_cases e : d = t
          · subst e
            rw [hx] at ht
            simp only [Option.some.injEq] at ht
            subst ht
            have hlt := (List.getElem?_eq_some_iff.1 hx).1
            exact ⟨_, List.getElem?_set_self hlt, fun p ρ v hv => by simpa [val, hc, SE.dn] using hv⟩
          · exact ⟨x, by rw [List.getElem?_set_ne e]; exact ht, LeA.refl x⟩
        · exact TsLe.refl _
      · exact TsLe.refl _
    · exact TsLe.refl _
  · exact TsLe.refl _

/-- What follows an operation. -/
theorem resOf_ok (hC : CallOk P fuel G call) {s : St} {a : Act} {o : Oper} {r : OpR} {k : St → Tree} (h : SRel P env L p ρ w s a) (hr : OpOk P env p ρ s.H w (execOp a.eval o) r) (ht : (resOf call o r s k).dn fuel G L env = some res)
    {K : Act → World → Prop} {Q : Exit → Act → World → Prop} (hK : ∀ a' w' s' env' L' p' ρ', Moves P env L s env' L' s' → SRel P env' L' p' ρ' w' s' a' → Step p ρ s.H w p' ρ' s'.H w' → (k s').dn fuel G L' env' = some res → K a' w') : o.wp P a w K Q := by
  unfold Oper.wp
  cases r with
  | val y =>
    obtain ⟨v, hrun, hv⟩ := hr
    rw [hrun, Oper.upon_value]
    exact hK _ _ { s with ts := put s.ts o.dst (normA s.asm y) } env L p ρ (Moves.refl rfl) ⟨⟨h.rel, h.nv, h.lv, h.asm⟩, put_vals h.ts ((normA_iff h.asm _ _).2 hv) _, by rw [put_defers]; exact h.ds⟩ (Step.refl p ρ s.H w) ht
  | new mk B =>
    obtain ⟨ob, m, v, hrun, hv⟩ := hr
    rw [hrun, Oper.upon_value]
    have hle := upd_le (x := (some w.heap.size, m)) h.rel.free
    obtain ⟨hv1, hv2⟩ := hv p (upd ρ s.H.length (some w.heap.size, m)) (w.alloc ob) s.H.length w.heap.size (Pins.le_refl p) hle upd_self (by show (w.heap.push ob)[w.heap.size]? = _; simp) (fun o => h.rel.pin_new (Nat.le_refl _) o)
    obtain ⟨q1, q2⟩ := h.rel.push ob B m hv2
    exact hK _ _ { s with ts := put s.ts o.dst (mk s.H.length), H := s.H ++ [B] } env L p _ (Moves.refl rfl) ⟨⟨q1, h.nv, h.lv, h.asm⟩, put_vals (vals_mono (Pins.le_refl p) hle _ _ h.ts) hv1 _, by rw [put_defers]; exact h.ds⟩ q2 ht
  | wr y H' =>
    obtain ⟨v, w', p', ρ', hrun, hv, h1, h2⟩ := hr
    rw [hrun, Oper.upon_value]
    exact hK _ _ { s with ts := put s.ts o.dst y, H := H' } env L p' ρ' (Moves.refl rfl) ⟨⟨h1, h.nv, h.lv, h.asm⟩, put_vals (vals_mono h2.pins h2.le _ _ h.ts) hv _, by rw [put_defers]; exact h.ds⟩ h2 ht
  | skip H' =>
    obtain ⟨w', p', hrun, h1, h2⟩ := hr
    rw [hrun, Oper.upon_skip]
    exact hK _ _ { s with ts := put s.ts o.dst undefA, H := H' } env L p' ρ (Moves.refl rfl) ⟨⟨h1, h.nv, h.lv, h.asm⟩, put_vals (vals_mono h2.pins (Rho.le_refl ρ) _ _ h.ts) undef_val _, by rw [put_defers]; exact h.ds⟩ h2 ht
  | enter f args =>
    obtain ⟨vs, hrun, hv⟩ := hr
    rw [hrun, Oper.upon_enter]
    refine (hC f args s _ env L res p ρ w vs ht h.toCore hv).mono ?_
    rintro e w' ⟨v, x, s', env', L', p', ρ', rfl, hm, hc, hs, hts, hx, hk⟩
    refine hK _ _ { s' with ts := put s'.ts o.dst x } env' L' p' ρ' ⟨hm.pre, hm.preL, hm.stk⟩ ⟨⟨hc.rel, hc.nv, hc.lv, hc.asm⟩, put_vals (vals_mono hs.pins hs.le _ _ (hts.vals h.ts)) hx _, by rw [put_defers]; exact h.ds⟩ hs hk

theorem doOp_ok (hC : CallOk P fuel G call) {s : St} {a : Act} {o : Oper} {k : St → Tree} (h : SRel P env L p ρ w s a) (ht : (doOp P call o s.ts s k).dn fuel G L env = some res)
    {K : Act → World → Prop} {Q : Exit → Act → World → Prop} (hK : ∀ a' w' s' env' L' p' ρ', Moves P env L s env' L' s' → SRel P env' L' p' ρ' w' s' a' → Step p ρ s.H w p' ρ' s'.H w' → (k s').dn fuel G L' env' = some res → K a' w') : o.wp P a w K Q := by
  unfold doOp at ht
  split at ht
  · simp [Tree.dn] at ht
  · rename_i ns r hop
    obtain ⟨hn, ht⟩ := needsK_ok h.asm ht
    have h' : SRel P env L p ρ w { s with asm := know s.asm ns } a := ⟨⟨h.rel, h.nv, h.lv, h.asm.know hn⟩, h.ts, h.ds⟩
    exact resOf_ok hC h' (op_ok h.rel (fun x _ => evA_val h.ts x) hop hn) ht fun a' w' s' env' L' p' ρ' hm => hK a' w' s' env' L' p' ρ' ⟨hm.pre, hm.preL, hm.stk⟩

theorem oneOp_ok (hC : CallOk P fuel G call) {ops : Array Oper} {s : St} {a : Act} {o : Oper} {k : St → Tree} (h : SRel P env L p ρ w s a) (ht : (oneOp P call ops o s k).dn fuel G L env = some res)
    {K : Act → World → Prop} {Q : Exit → Act → World → Prop} (hK : ∀ a' w' s' env' L' p' ρ', Moves P env L s env' L' s' → SRel P env' L' p' ρ' w' s' a' → Step p ρ s.H w p' ρ' s'.H w' → (k s').dn fuel G L' env' = some res → K a' w') :
    if Region.wanted o (yielded ops a.tmps) then o.wp P a w K Q ∨ (o.asks P a w ∧ LetsOut Q) else K (a.put o.dst undef) w := by
  unfold oneOp at ht
  have hlen : a.tmps.size = s.ts.length := by have := vals_length h.ts; simpa using this
  have hget : ∀ (j : Nat) (b : Bool) (d : Tmp), o.guard = some (j, b) → (ops[j]?).bind (·.dst) = some d → ∀ x, s.ts[d]? = some x → ∃ v, a.tmps[d]? = some v ∧ val P env p ρ x v := fun j b d _ _ x hx => by
    obtain ⟨v, h1, h2⟩ := vals_get h.ts hx
    exact ⟨v, by simpa using h1, h2⟩
  cases hw : wantedA ops s.ts o with
  | yes =>
    rw [hw] at ht
    rw [(wanted_ok hlen hget hw).1 rfl]
    simp only [if_true]
    exact .inl (doOp_ok hC h ht hK)
  | no =>
    rw [hw] at ht
    rw [(wanted_ok hlen hget hw).2.1 rfl]
    simp only [Bool.false_eq_true, if_false]
    exact hK _ _ { s with ts := put s.ts o.dst undefA } env L p ρ (Moves.refl rfl) ⟨⟨h.rel, h.nv, h.lv, h.asm⟩, put_vals h.ts undef_val _, by rw [put_defers]; exact h.ds⟩ (Step.refl p ρ s.H w) ht
  | bad => rw [hw] at ht; simp [Tree.dn] at ht
  | ask c =>
    rw [hw] at ht
    simp only at ht
    obtain ⟨b, hb, ht⟩ := ite_ok (f := fun b => if b == guardOf o then doOp P call o (setG ops o c s.ts b) { s with asm := (c, b) :: s.asm, ts := setG ops o c s.ts b } k else k { s with asm := (c, b) :: s.asm, ts := put (setG ops o c s.ts b) o.dst undefA }) ht
    rw [(wanted_ok hlen hget hw).2.2 c b rfl hb]
    have h' : SRel P env L p ρ w { s with asm := (c, b) :: s.asm, ts := setG ops o c s.ts b } a := ⟨⟨h.rel, h.nv, h.lv, h.asm.cons hb⟩, (setG_le hb).vals h.ts, h.ds⟩
    cases hbg : b == guardOf o with
    | true =>
      rw [hbg] at ht
      simp only [if_true] at ht ⊢
      exact .inl (doOp_ok hC h' ht fun a' w' s' env' L' p' ρ' hm => hK a' w' s' env' L' p' ρ' ⟨hm.pre, hm.preL, hm.stk⟩)
    | false =>
      rw [hbg] at ht
      simp only [Bool.false_eq_true, if_false] at ht ⊢
      exact hK _ _ { s with asm := (c, b) :: s.asm, ts := put (setG ops o c s.ts b) o.dst undefA } env L p ρ (Moves.refl rfl) ⟨⟨h'.rel, h'.nv, h'.lv, h'.asm⟩, put_vals h'.ts undef_val _, by rw [put_defers]; exact h.ds⟩ (Step.refl p ρ s.H w) ht

theorem seqOps_ok (hC : CallOk P fuel G call) {ops : Array Oper} {k : St → Tree} {Q : Exit → Act → World → Prop} : ∀ (l : List Oper) (s : St) (a : Act) (env : List PV) (L : List (PV → Option PV)) (p : Pins) (ρ : Rho) (w : World), SRel P env L p ρ w s a → (seqOps P call ops l s k).dn fuel G L env = some res →
    (∀ a' w' s' env' L' p' ρ', Moves P env L s env' L' s' → SRel P env' L' p' ρ' w' s' a' → Step p ρ s.H w p' ρ' s'.H w' → (k s').dn fuel G L' env' = some res → Q .normal a' w') → wpList P ops Q l a w
  | [], s, a, env, L, p, ρ, w, h, ht, hQ => hQ a w s env L p ρ (Moves.refl rfl) h (Step.refl p ρ s.H w) ht
  | o :: l, s, a, env, L, p, ρ, w, h, ht, hQ => by
    simp only [seqOps] at ht
    simp only [wpList]
    exact oneOp_ok hC h ht fun a' w' s' env' L' p' ρ' hm hs hst hk =>
      seqOps_ok hC l s' a' env' L' p' ρ' w' hs hk fun a2 w2 s2 env2 L2 p2 ρ2 hm2 hs2 hst2 hk2 => hQ a2 w2 s2 env2 L2 p2 ρ2 (hm.trans hm2) hs2 (hst.trans hst2) hk2
end
end Go.Dv
