/- A Builder alone in its block, to the evaluator: copyCheck and String. -/
import Derived.Test.YtdbaglgkbfjbnaaGreatEvY

set_option linter.unusedVariables false
set_option linter.unusedSimpArgs false
namespace Go.Proofs
open Go.RowKit

set_option maxHeartbeats 1000000 in
set_option maxRecDepth 100000 in
theorem X.copyCheck0 (b : Nat) (w : World) (v : Value) (hb : w.heap[b]? = some (.cells #[.pointer none, v] 143 (0, 0))) :
    Calls Tryz.prog 153 #[.pointer (some ⟨b, 0, none⟩)] w fun e w' => e = .returned (.tuple #[]) ∧ w' = w.setCell ⟨b, 0, none⟩ (.pointer (some ⟨b, 0, none⟩)) := by
  have h0 : w.cell? ⟨b, 0, none⟩ = some (.pointer none) := by rw [Lib.cell_of_heap hb]; rfl
  have hfz : w.frozen? ⟨b, 0, none⟩ = false := Lib.frozen_of_heap hb 0
  have hsh : w.shape? b = some (143, 2) := by simp [World.shape?, hb]
  go_enter Tryz.func153, Tryz.ntmps153
  go_wp2
  rw [Lib.run_to_unsafe (t := 143) (j := Tryz.t143) w ⟨b, 0, none⟩ Tryz.underlying141 Tryz.underlying245 (by kernel_rfl) (by rw [show Tryz.t143.size = 2 from by kernel_rfl]; decide) hsh (show (0 : Nat) < 2 from by decide)]
  simp only [Result.andThen]
  rw [Oper.upon_value]
  go_wp2
  rw [run_callFunc_extern Tryz.func200 (by kernel_rfl) (by kernel_rfl) (by kernel_rfl) (e := Extern.AbiNoEscape.same) (by kernel_rfl)]
  rw [Lib.run_noEscape]
  simp only [Result.andThen]
  rw [Oper.upon_value]
  go_wp2
  rw [Lib.run_from_unsafe (u := 143) (j := Tryz.t143) w ⟨b, 0, none⟩ Tryz.underlying245 Tryz.underlying141 (by kernel_rfl) hsh (by kernel_rfl)]
  simp only [Result.andThen]
  rw [Oper.upon_value]
  go_wp2
  go_end0
  exact ⟨rfl, rfl⟩

set_option maxHeartbeats 2000000 in
set_option maxRecDepth 100000 in
theorem X.string0 (b g cap : Nat) (l : List UInt8) (w : World) (p1 : Value) (cur : Array Value) (hb : w.heap[b]? = some (.cells #[p1, .slice (some ⟨g, 0, none⟩) l.length cap] 143 (0, 0))) (hcap : 0 < cap) (h0 : l ≠ [])
    (hg : w.heap[g]? = some (.cells cur 5 (0, 0))) (hnc : l.length ≤ cur.size) (hcm : l.length ≤ 400) (htake : ∀ (j : Nat) (x : UInt8), l[j]? = some x → cur[j]? = some (Value.int .u8 x.toNat)) :
    Calls Tryz.prog 103 #[.pointer (some ⟨b, 0, none⟩)] w fun e w' => e = .returned (.string ⟨l.toArray⟩) ∧ w' = w.drew.freeze ⟨g, 0, none⟩ l.length := by
  have hl0 : l.length ≠ 0 := fun h => h0 (List.length_eq_zero_iff.1 h)
  have c1 : w.drew.cell? ⟨b, 1, none⟩ = some (.slice (some ⟨g, 0, none⟩) l.length cap) := by
    have : w.drew.heap[b]? = some (.cells #[p1, .slice (some ⟨g, 0, none⟩) l.length cap] 143 (0, 0)) := hb
    rw [Lib.cell_of_heap this]; rfl
  obtain ⟨hSD, hUS⟩ := X.sliceData' l w.drew g cap cur h0 hg hnc hcm hcap htake
  have mixed : Tryz.prog.follows .mixedOrders = true := by kernel_rfl
  go_enter Tryz.func103, Tryz.ntmps103
  go_wp2
  go_region_o
  all_goals (go_wp2; go_ret; exact ⟨rfl, rfl⟩)
end Go.Proofs

namespace Go.Ev
open Go.Proofs Go.RowKit

/-- copyCheck of a Builder alone in its block. -/
def bCopy0 (i : Nat) (H : Heap) : Option (AV × Heap) :=
  match H.get i with
  | some (.cells [.ptr none, v] 143 false false) => some (.tuple [], H.set i (.cells [.ptr (some (i, 0)), v] 143 false false))
  | _ => none
def bString0 (i : Nat) (H : Heap) : Option (AV × Heap) :=
  match H.get i with
  | some (.cells [_, .slice (some (j, 0)) n c _ 1] 143 false false) => if 0 < c then bText H j n else none
  | _ => none

section
variable {E : Env} {ρ : Rho} {H : Heap} {w : World}

theorem two2 {a b : AV} {cs : Array Value} (hm : cs.size = 2) (h : ∀ (k : Nat) (x : AV), [a, b][k]? = some x → ∃ v : Value, cs[k]? = some v ∧ val E ρ x v) :
    ∃ u v, cs = #[u, v] ∧ val E ρ a u ∧ val E ρ b v := by
  obtain ⟨u, e0, h0⟩ := h 0 a rfl
  obtain ⟨v, e1, h1⟩ := h 1 b rfl
  refine ⟨u, v, ?_, h0, h1⟩
  apply Array.ext'
  apply List.ext_getElem?
  intro k
  rw [Array.getElem?_toList]
  match k with
  | 0 => rw [e0]; rfl
  | 1 => rw [e1]; rfl
  | k + 2 => rw [Array.getElem?_eq_none (by omega)]; rfl

theorem bCopy0_ok {i : Nat} {r : AV} {H' : Heap} (h : bCopy0 i H = some (r, H')) (hr : Rel E ρ H w) {u : Value} (hu : val E ρ (.ptr (some (i, 0))) u) :
    Calls Tryz.prog 153 #[u] w fun e w' => ∃ ρ' v, e = .returned v ∧ val E ρ' r v ∧ Rel E ρ' H' w' ∧ Step ρ H w ρ' H' w' := by
  unfold bCopy0 at h
  split at h
  · rename_i v hg
    simp only [Option.some.injEq, Prod.mk.injEq] at h
    obtain ⟨rfl, rfl⟩ := h
    obtain ⟨b, m, hi, rfl⟩ := val_ptr hu
    obtain ⟨cs, hb, hm, hle, hlo, hc⟩ := hr.toRd.cells hi hg
    have hm4 : cs.size = 2 := by rw [hm, hlo rfl]; rfl
    obtain ⟨x1, x2, rfl, h1, h2⟩ := two2 hm4 hc
    have e1 : x1 = .pointer none := by simpa [val] using h1
    subst e1
    refine (X.copyCheck0 b w x2 hb).mono ?_
    rintro e w' ⟨rfl, rfl⟩
    have hw := heap_setCell_same w b 0 _ _ (.pointer (some ⟨b, 0, none⟩)) hb
    obtain ⟨g1, g2⟩ := hr.set (C := .cells [.ptr (some (i, 0)), v] 143 false false) hi hg rfl rfl (w.setCell ⟨b, 0, none⟩ (.pointer (some ⟨b, 0, none⟩)))
      ⟨rfl, rfl, rfl, by simp [World.setCell], fun j hj => heap_setCell_other w ⟨b, 0, none⟩ j _ hj⟩
      ⟨#[.pointer (some ⟨b, 0, none⟩), x2], by rw [hw]; rfl, by rw [← hm, hm4]; rfl, by rw [← hm, hm4]; exact Nat.le_refl _, fun _ => by rw [← hm, hm4]; rfl, fun k a hk => by
        match k, hk with
        | 0, hk => simp at hk; subst hk; exact ⟨_, rfl, by simp only [val]; exact ⟨b, m, hi, rfl⟩⟩
        | 1, hk => simp at hk; subst hk; exact ⟨_, rfl, h2⟩
        | k + 2, hk => simp at hk⟩
    exact ⟨ρ, _, rfl, by simp [val, vals], g1, g2⟩
  · simp at h

theorem bString0_ok {i : Nat} {r : AV} {H' : Heap} (h : bString0 i H = some (r, H')) (hr : Rel E ρ H w) {u : Value} (hu : val E ρ (.ptr (some (i, 0))) u) :
    Calls Tryz.prog 103 #[u] w fun e w' => ∃ ρ' v, e = .returned v ∧ val E ρ' r v ∧ Rel E ρ' H' w' ∧ Step ρ H w ρ' H' w' := by
  unfold bString0 at h
  split at h
  · rename_i a1 j n c ex hg
    split at h
    · rename_i hc0
      unfold bText at h
      split at h
      · rename_i bs lo hgj
        split at h
        · rename_i cs hcs
          split at h
          · rename_i x l hl
            split at h
            · rename_i hn
              simp only [Option.some.injEq, Prod.mk.injEq] at h
              obtain ⟨rfl, rfl⟩ := h
              obtain ⟨b, m, hi, rfl⟩ := val_ptr hu
              obtain ⟨ws, hb, hm, hle, hlo, hc⟩ := hr.toRd.cells hi hg
              have hm4 : ws.size = 2 := by rw [hm, hlo rfl]; rfl
              obtain ⟨x1, x2, rfl, h1, h2⟩ := two2 hm4 hc
              obtain ⟨g, mg, c', hj, rfl, hcc, _, hcm⟩ := val_slice h2
              obtain ⟨cur, hbg, hmg, hleg, _, hcg⟩ := hr.toRd.cells hj hgj
              obtain ⟨k1, k2⟩ := byteList_get cs _ hl
              have hcs' : cs = (bs.drop 0).take n ∧ cs.length = n := by
                unfold getCells at hcs
                simp only at hcs
                split at hcs
                · rename_i hlen
                  simp only [Option.some.injEq] at hcs
                  rw [← hcs]
                  exact ⟨rfl, hlen⟩
                · simp at hcs
              have hnl : n = (x :: l).length := by rw [← k1]; exact hcs'.2.symm
              have hbsn : n ≤ bs.length := by
                have := hcs'.2
                rw [hcs'.1] at this
                simp at this
                omega
              have hget : ∀ (j : Nat) (y : UInt8), (x :: l)[j]? = some y → cur[j]? = some (Value.int .u8 y.toNat) := by
                intro jj y hy
                have hcj := k2 jj y hy
                rw [hcs'.1, List.drop_zero, List.getElem?_take] at hcj
                split at hcj
                · obtain ⟨v, e1, e2⟩ := hcg jj _ hcj
                  rw [e1, val_int e2]
                · simp at hcj
              rw [hnl] at hb
              refine (X.string0 b g c' (x :: l) w x1 cur hb (by omega) (by simp) hbg (by rw [← hnl, hmg]; omega) (by rw [← hnl]; exact hn) hget).mono ?_
              rintro e w' ⟨rfl, rfl⟩
              have hd := hr.drew (w.drawn + 1)
              have hfr : ∀ k, k ≠ g → (w.drew.freeze ⟨g, 0, none⟩ (x :: l).length).heap[k]? = w.drew.heap[k]? := by
                intro k hk
                unfold World.freeze
                simp only [List.length_cons, Nat.add_eq_zero_iff, Nat.one_ne_zero, and_false, if_false]
                rw [Array.getElem?_modify]
                rw [if_neg (fun e => hk e.symm)]
              obtain ⟨q1, q2⟩ := hd.set (C := .dead) hj hgj rfl rfl (w.drew.freeze ⟨g, 0, none⟩ (x :: l).length)
                ⟨rfl, rfl, rfl, by unfold World.freeze; simp only [List.length_cons, Nat.add_eq_zero_iff, Nat.one_ne_zero, and_false, if_false, Array.size_modify]; rfl, hfr⟩ trivial
              exact ⟨ρ, _, rfl, by simp [val, Env.bytes], q1, (Step.drew ρ H w (w.drawn + 1)).trans q2⟩
            · simp at h
          · simp at h
        · simp at h
      · simp at h
    · simp at h
  · simp at h
end
end Go.Ev
