/- A Builder in a struct, to the evaluator: copyCheck and String. -/
import Derived.Test.YtdbaglgkbfjbnaaGreatEvX
import Derived.Test.YtdbaglgkbfjbnaaGreatEvB

set_option linter.unusedVariables false
set_option linter.unusedSimpArgs false
namespace Go.Proofs
open Go.RowKit

theorem X.sliceData' (l : List UInt8) (W : World) (g cap : Nat) (cur : Array Value) (hl0 : l ≠ []) (hg : W.heap[g]? = some (.cells cur 5 (0, 0))) (hnc : l.length ≤ cur.size) (hcm : l.length ≤ 400) (hcap : 0 < cap)
    (htake : ∀ (j : Nat) (x : UInt8), l[j]? = some x → cur[j]? = some (Value.int .u8 x.toNat)) :
    (Builtin.unsafeSliceData_ #[22] 202 #[.slice (some ⟨g, 0, none⟩) l.length cap]).run Tryz.prog W = .ok (.pointer (some ⟨g, 0, none⟩)) W ∧
    (Builtin.unsafeString_ #[202, 3] 9 #[.pointer (some ⟨g, 0, none⟩), .int .i64 l.length]).run Tryz.prog W = .ok (.string ⟨l.toArray⟩) (W.freeze ⟨g, 0, none⟩ l.length) := by
  have hl : l.length ≠ 0 := by simpa using hl0
  refine ⟨Lib.run_unsafeSliceData_row _ _ _ _ _ _ (by omega), ?_⟩
  refine Lib.run_unsafeString_row W 202 3 9 5 Tryz.underlying202 (by kernel_rfl) g cur.size (by simp [World.shape?, hg]) l hl0 (by omega) (by omega) ?_
  intro j x hx
  have := htake j x hx
  rw [Addr.add_lit, cell_of_row W g (0 + j) cur 5 (0, 0) hg, Nat.zero_add]
  exact this

set_option maxHeartbeats 2000000 in
set_option maxRecDepth 100000 in
theorem X.string' (b g cap : Nat) (l : List UInt8) (w : World) (p p1 q : Value) (cur : Array Value) (hb : w.heap[b]? = some (.cells #[p, p1, .slice (some ⟨g, 0, none⟩) l.length cap, q] 331 (0, 0))) (hcap : 0 < cap) (h0 : l ≠ [])
    (hg : w.heap[g]? = some (.cells cur 5 (0, 0))) (hnc : l.length ≤ cur.size) (hcm : l.length ≤ 400) (htake : ∀ (j : Nat) (x : UInt8), l[j]? = some x → cur[j]? = some (Value.int .u8 x.toNat)) :
    Calls Tryz.prog 103 #[.pointer (some ⟨b, 1, none⟩)] w fun e w' => e = .returned (.string ⟨l.toArray⟩) ∧ w' = w.drew.freeze ⟨g, 0, none⟩ l.length := by
  have hl0 : l.length ≠ 0 := fun h => h0 (List.length_eq_zero_iff.1 h)
  have c1 : w.drew.cell? ⟨b, 2, none⟩ = some (.slice (some ⟨g, 0, none⟩) l.length cap) := by
    have : w.drew.heap[b]? = some (.cells #[p, p1, .slice (some ⟨g, 0, none⟩) l.length cap, q] 331 (0, 0)) := hb
    rw [Lib.cell_of_heap this]; rfl
  obtain ⟨hSD, hUS⟩ := X.sliceData' l w.drew g cap cur h0 hg hnc hcm hcap htake
  have mixed : Tryz.prog.follows .mixedOrders = true := by kernel_rfl
  go_enter Tryz.func103, Tryz.ntmps103
  go_wp2
  go_region_o
  all_goals (go_wp2; go_ret; exact ⟨rfl, rfl⟩)
end Go.Proofs

namespace Go.Ev
open Go.Proofs Go.RowKit

/-- copyCheck of a Builder that lies at 1 of a struct. -/
def bCopy (i : Nat) (H : Heap) : Option (AV × Heap) :=
  match H.get i with
  | some (.cells [p, .ptr none, v, q] 331 false false) => some (.tuple [], H.set i (.cells [p, .ptr (some (i, 1)), v, q] 331 false false))
  | _ => none
def byteList : List AV → Option (List UInt8)
  | [] => some []
  | .int .u8 n :: r => if 0 ≤ n ∧ n < 256 then (byteList r).map (UInt8.ofNat n.toNat :: ·) else none
  | _ :: _ => none
def bText (H : Heap) (j n : Nat) : Option (AV × Heap) :=
  match H.get j with
  | some (.cells bs 5 _ false) =>
    match getCells bs 0 n with
    | some cs => match byteList cs with
      | some (x :: l) => if n ≤ 400 then some (.str (.con (x :: l)), H.set j .dead) else none
      | _ => none
    | none => none
  | _ => none
def bString (i : Nat) (H : Heap) : Option (AV × Heap) :=
  match H.get i with
  | some (.cells [_, _, .slice (some (j, 0)) n c _ 1, _] 331 false false) => if 0 < c then bText H j n else none
  | _ => none

section
variable {E : Env} {ρ : Rho} {H : Heap} {w : World}

theorem four {a b c d : AV} {cs : Array Value} (hm : cs.size = 4) (h : ∀ (k : Nat) (x : AV), [a, b, c, d][k]? = some x → ∃ v : Value, cs[k]? = some v ∧ val E ρ x v) :
    ∃ u v x y, cs = #[u, v, x, y] ∧ val E ρ a u ∧ val E ρ b v ∧ val E ρ c x ∧ val E ρ d y := by
  obtain ⟨u, e0, h0⟩ := h 0 a rfl
  obtain ⟨v, e1, h1⟩ := h 1 b rfl
  obtain ⟨x, e2, h2⟩ := h 2 c rfl
  obtain ⟨y, e3, h3⟩ := h 3 d rfl
  refine ⟨u, v, x, y, ?_, h0, h1, h2, h3⟩
  apply Array.ext'
  apply List.ext_getElem?
  intro k
  rw [Array.getElem?_toList]
  match k with
  | 0 => rw [e0]; rfl
  | 1 => rw [e1]; rfl
  | 2 => rw [e2]; rfl
  | 3 => rw [e3]; rfl
  | k + 4 => rw [Array.getElem?_eq_none (by omega)]; rfl

theorem bCopy_ok {i : Nat} {r : AV} {H' : Heap} (h : bCopy i H = some (r, H')) (hr : Rel E ρ H w) {u : Value} (hu : val E ρ (.ptr (some (i, 1))) u) :
    Calls Tryz.prog 153 #[u] w fun e w' => ∃ ρ' v, e = .returned v ∧ val E ρ' r v ∧ Rel E ρ' H' w' ∧ Step ρ H w ρ' H' w' := by
  unfold bCopy at h
  split at h
  · rename_i p v q hg
    simp only [Option.some.injEq, Prod.mk.injEq] at h
    obtain ⟨rfl, rfl⟩ := h
    obtain ⟨b, m, hi, rfl⟩ := val_ptr hu
    obtain ⟨cs, hb, hm, hle, hlo, hc⟩ := hr.toRd.cells hi hg
    have hm4 : cs.size = 4 := by rw [hm, hlo rfl]; rfl
    obtain ⟨x0, x1, x2, x3, rfl, h0, h1, h2, h3⟩ := four hm4 hc
    have e1 : x1 = .pointer none := by simpa [val] using h1
    subst e1
    refine (X.copyCheck b w x0 x2 x3 hb).mono ?_
    rintro e w' ⟨rfl, rfl⟩
    have hw := heap_setCell_same w b 1 _ _ (.pointer (some ⟨b, 1, none⟩)) hb
    obtain ⟨g1, g2⟩ := hr.set (C := .cells [p, .ptr (some (i, 1)), v, q] 331 false false) hi hg rfl rfl (w.setCell ⟨b, 1, none⟩ (.pointer (some ⟨b, 1, none⟩)))
      ⟨rfl, rfl, rfl, by simp [World.setCell], fun j hj => heap_setCell_other w ⟨b, 1, none⟩ j _ hj⟩
      ⟨#[x0, .pointer (some ⟨b, 1, none⟩), x2, x3], by rw [hw]; rfl, by rw [← hm, hm4]; rfl, by rw [← hm, hm4]; exact Nat.le_refl _, fun _ => by rw [← hm, hm4]; rfl, fun k a hk => by
        match k, hk with
        | 0, hk => simp at hk; subst hk; exact ⟨_, rfl, h0⟩
        | 1, hk => simp at hk; subst hk; exact ⟨_, rfl, by simp only [val]; exact ⟨b, m, hi, rfl⟩⟩
        | 2, hk => simp at hk; subst hk; exact ⟨_, rfl, h2⟩
        | 3, hk => simp at hk; subst hk; exact ⟨_, rfl, h3⟩
        | k + 4, hk => simp at hk⟩
    exact ⟨ρ, _, rfl, by simp [val, vals], g1, g2⟩
  · simp at h

theorem byteList_get : ∀ (cs : List AV) (l : List UInt8), byteList cs = some l → cs.length = l.length ∧ ∀ (j : Nat) (x : UInt8), l[j]? = some x → cs[j]? = some (.int .u8 x.toNat)
  | [], l, h => by simp [byteList] at h; subst h; simp
  | c :: cs, l, h => by
    cases c with
    | int k n =>
      cases k <;> simp only [byteList] at h
      case u8 =>
        split at h
        · rename_i hn
          simp only [Option.map_eq_some_iff] at h
          obtain ⟨l', h1, rfl⟩ := h
          obtain ⟨h2, h3⟩ := byteList_get cs l' h1
          refine ⟨by simp [h2], fun j x hj => ?_⟩
          cases j with
          | zero =>
            simp at hj
            subst hj
            simp
            omega
          | succ j => simpa using h3 j x (by simpa using hj)
        · simp at h
      all_goals simp at h
    | _ => simp [byteList] at h

theorem bString_ok {i : Nat} {r : AV} {H' : Heap} (h : bString i H = some (r, H')) (hr : Rel E ρ H w) {u : Value} (hu : val E ρ (.ptr (some (i, 1))) u) :
    Calls Tryz.prog 103 #[u] w fun e w' => ∃ ρ' v, e = .returned v ∧ val E ρ' r v ∧ Rel E ρ' H' w' ∧ Step ρ H w ρ' H' w' := by
  unfold bString at h
  split at h
  · rename_i a0 a1 j n c ex a3 hg
    split at h
    · rename_i hc0
      unfold bText at h
      split at h
      · rename_i bs lo hgj
        split at h
        · rename_i cs hcs
          split at h
          · rename_i x l hl
            split at h
            · rename_i hn
              simp only [Option.some.injEq, Prod.mk.injEq] at h
              obtain ⟨rfl, rfl⟩ := h
              obtain ⟨b, m, hi, rfl⟩ := val_ptr hu
              obtain ⟨ws, hb, hm, hle, hlo, hc⟩ := hr.toRd.cells hi hg
              have hm4 : ws.size = 4 := by rw [hm, hlo rfl]; rfl
              obtain ⟨x0, x1, x2, x3, rfl, h0, h1, h2, h3⟩ := four hm4 hc
              obtain ⟨g, mg, c', hj, rfl, hcc, _, hcm⟩ := val_slice h2
              obtain ⟨cur, hbg, hmg, hleg, _, hcg⟩ := hr.toRd.cells hj hgj
              obtain ⟨k1, k2⟩ := byteList_get cs _ hl
              have hcs' : cs = (bs.drop 0).take n ∧ cs.length = n := by
                unfold getCells at hcs
                simp only at hcs
                split at hcs
                · rename_i hlen
                  simp only [Option.some.injEq] at hcs
                  rw [← hcs]
                  exact ⟨rfl, hlen⟩
                · simp at hcs
              have hnl : n = (x :: l).length := by rw [← k1]; exact hcs'.2.symm
              have hbsn : n ≤ bs.length := by
                have := hcs'.2
                rw [hcs'.1] at this
                simp at this
                omega
              have hget : ∀ (j : Nat) (y : UInt8), (x :: l)[j]? = some y → cur[j]? = some (Value.int .u8 y.toNat) := by
                intro jj y hy
                have hcj := k2 jj y hy
                rw [hcs'.1, List.drop_zero, List.getElem?_take] at hcj
                split at hcj
                · obtain ⟨v, e1, e2⟩ := hcg jj _ hcj
                  rw [e1, val_int e2]
                · simp at hcj
              rw [hnl] at hb
              refine (X.string' b g c' (x :: l) w x0 x1 x3 cur hb (by omega) (by simp) hbg (by rw [← hnl, hmg]; omega) (by rw [← hnl]; exact hn) hget).mono ?_
              rintro e w' ⟨rfl, rfl⟩
              have hd := hr.drew (w.drawn + 1)
              have hfr : ∀ k, k ≠ g → (w.drew.freeze ⟨g, 0, none⟩ (x :: l).length).heap[k]? = w.drew.heap[k]? := by
                intro k hk
                unfold World.freeze
                simp only [List.length_cons, Nat.add_eq_zero_iff, Nat.one_ne_zero, and_false, if_false]
                rw [Array.getElem?_modify]
                rw [if_neg (fun e => hk e.symm)]
              obtain ⟨q1, q2⟩ := hd.set (C := .dead) hj hgj rfl rfl (w.drew.freeze ⟨g, 0, none⟩ (x :: l).length)
                ⟨rfl, rfl, rfl, by unfold World.freeze; simp only [List.length_cons, Nat.add_eq_zero_iff, Nat.one_ne_zero, and_false, if_false, Array.size_modify]; rfl, hfr⟩ trivial
              exact ⟨ρ, _, rfl, by simp [val, Env.bytes], q1, (Step.drew ρ H w (w.drawn + 1)).trans q2⟩
            · simp at h
          · simp at h
        · simp at h
      · simp at h
    · simp at h
  · simp at h
end
end Go.Ev
