/- strings.Index as a leaf of the trees. -/
import Derived.Test.YtbhkmhaapfbjhaaGreatDvP
import Derived.Test.YtbhkmhaapfbjhaaGreatEvX
import Derived.Test.YtbhkmhaapfbjhaaGreatFoldC
import Derived.SizedLaws

set_option linter.unusedVariables false
set_option linter.unusedSimpArgs false
namespace Go.Dv
open Go.Proofs Go.RowKit

theorem leafIndex_ok {v r : PV} (h : indexP v = some r) : NameOk Tryz.prog 102 ⟨[.one (.pv .str), .one (.pv .str)], [.one (.pv (.int .i64))]⟩ v r := by
  unfold indexP at h
  split at h
  · rename_i s t
    split at h
    · rename_i hs
      simp only [Option.some.injEq] at h
      subst h
      intro p w vs own xs hx hp hpar hnd
      simp only [PV.agg.injEq] at hx
      subst hx
      simp only [ParsV, ParV, ClV] at hpar
      obtain ⟨x1, xs1, v1, vs1, o1, o2, e1, e2, e3, ⟨h1, -, h1'⟩, x2, xs2, v2, vs2, o3, o4, e4, e5, e6, ⟨h2, -, h2'⟩, h3, h4, h5⟩ := hpar
      simp only [List.cons.injEq] at e1 e4
      obtain ⟨rfl, rfl⟩ := e1
      simp only [List.cons.injEq] at e4
      obtain ⟨rfl, rfl⟩ := e4
      simp only [RV] at h1 h2
      subst h1 h2 h1' h2' h4 h5
      subst e5
      have hvs : vs = #[.string ⟨s.toArray⟩, .string ⟨t.toArray⟩] := Array.ext' e2
      subst hvs
      obtain ⟨m, hm⟩ := hp.2
      refine (X.index ⟨s.toArray⟩ ⟨t.toArray⟩ m w (by show s.toArray.size < _; simpa using hs) (hp.1 0 0 _ hm)).mono ?_
      rintro e w' ⟨rfl, rfl⟩
      refine ⟨[.int .i64 (Lib.index s t)], p, [], [], [.int .i64 (Lib.index s t)], [], rfl, rfl, ⟨rfl, rfl, rfl, Nat.le_refl _, Pins.le_refl p, fun _ _ _ => rfl, by simp, fun _ _ _ h => .inl h⟩, hp, List.nodup_nil, ?_, by simp [ptrPs, ptrAs, ParsV]⟩
      simp only [ParsV, ParV, ClV, RV]
      exact ⟨_, _, _, _, [], [], rfl, rfl, rfl, ⟨rfl, rfl, rfl⟩, rfl, rfl, rfl⟩
    · simp at h
  · simp at h
end Go.Dv

/- The law on what folding saves returns true: from its tree to its calls. -/
set_option linter.unusedVariables false
set_option linter.unusedSimpArgs false
namespace Go.Dv
open Go.Proofs Go.RowKit

theorem R_ok (n : Nat) : GOk Tryz.prog Stab (R n) := run_ok Stab_ok (fun f g sg v r h hs hr => by
  unfold Rleaf at h
  split at h
  · rename_i hf
    subst hf
    cases h
    have e : Stab.sig 102 = some ⟨[.one (.pv .str), .one (.pv .str)], [.one (.pv (.int .i64))]⟩ := rfl
    rw [e] at hs
    cases hs
    exact leafIndex_ok hr
  · cases h) Strees_ok n

theorem pars1 {P : Program} {p : Pins} {w : World} {k : Kn} {x : PV} {rvs : List Value} {o : List Nat} (h : ParsV P p w [.one (.pv k)] [x] rvs o) : ∃ v, rvs = [v] ∧ RV p x v := by
  simp only [ParsV, ParV, ClV] at h
  obtain ⟨x', xs', v, vs', o1, o2, e1, e2, -, h1, h2, h3, -⟩ := h
  simp only [List.cons.injEq] at e1
  obtain ⟨rfl, -⟩ := e1
  exact ⟨v, by rw [e2, h3], h1.1⟩
theorem mk1 {P : Program} {p : Pins} {w : World} {k : Kn} {x : PV} {v : Value} (h : RV p x v) (hw : wt P k x = true) : ParsV P p w [.one (.pv k)] [x] [v] [] := by
  simp only [ParsV, ParV, ClV]
  exact ⟨_, _, _, _, [], [], rfl, rfl, rfl, ⟨h, hw, rfl⟩, rfl, rfl, rfl⟩
theorem rv_bool {p : Pins} {b : Bool} {v : Value} (h : RV p (.bool b) v) : v = .bool b := by simpa only [RV] using h
theorem res_bl {p : Pins} {q : Nat → Option Value} : ∀ (l : List UInt8) (o : Nat), (∀ j, j < l.length → q (o + j) = some (.int .u8 (l.getD j 0).toNat)) → REs p q 1 false o (l.map fun c => .int .u8 c.toNat)
  | [], o, h => by simp [REs]
  | c :: l, o, h => by
    simp only [List.map_cons, REs, RE]
    refine ⟨⟨trivial, trivial, _, ?_, rfl⟩, res_bl l (o + 1) fun j hj => ?_⟩
    · have := h 0 (by simp)
      simpa using this
    · have := h (j + 1) (by simp; omega)
      rw [Nat.add_assoc, Nat.add_comm 1 j, this]
      simp
theorem wt_bl (l : List UInt8) : wt Tryz.prog (.list 5) (bl l) = true := by
  have e1 : sizeA Tryz.prog 5 = some 1 := by kernel_rfl
  have e2 : isAggA Tryz.prog 5 = some false := by kernel_rfl
  have e3 : cellK Tryz.prog 5 = some [.int .u8] := by kernel_rfl
  simp only [bl, wt, e1, e2, e3, beq_self_eq_true, Bool.true_and]
  induction l with
  | nil => rfl
  | cons c l ih => rw [List.map_cons, wtEs, ih]; simp [wtE]

theorem lawCalls {f : FuncId} (hsg : Stab.sig f = some ⟨[.one (.pv (.list 5))], [.one (.pv .bool)]⟩) {m : Nat} {l : List UInt8} {b : Bool} (h : R m f (.agg [bl l]) = some (.agg [.bool b])) (w : World) (base : ∃ n, w.cell? ⟨0, 0, none⟩ = some (.int .i64 n))
    (a : Option Addr) (c : Nat) (hc : l.length ≤ c) (ha : a = none → c = 0) (hcell : 0 < l.length → ∃ ad, a = some ad ∧ ∀ j, j < l.length → w.cell? (ad.add j) = some (.int .u8 (l.getD j 0).toNat)) :
    Calls Tryz.prog f #[.slice a l.length c] w fun e w' => e = .returned (.bool b) ∧ Below w.heap.size w w' := by
  let p : Pins := fun b o => w.cell? ⟨b, o, none⟩
  have hp : PinsOk p w := ⟨fun b o v hv => hv, base⟩
  have hrv : RV p (bl l) (.slice a l.length c) := by
    simp only [bl, RV, List.length_map]
    refine ⟨a, c, rfl, hc, by omega, ha, fun hl => ?_⟩
    obtain ⟨ad, rfl, hj⟩ := hcell hl
    have h0 := hj 0 hl
    have hsp : ad.spot = none := by
      simp only [Addr.add, if_true] at h0
      unfold World.cell? at h0
      split at h0
      · split at h0
        · simp at h0
        · rename_i hs; simpa using hs
      · simp at h0
    refine ⟨ad.block, ad.off, by cases ad; simp at hsp; subst hsp; rfl, res_bl l ad.off fun j hjl => ?_⟩
    have := hj j hjl
    show w.cell? ⟨ad.block, ad.off + j, none⟩ = _
    rw [← this]
    congr 1
    unfold Addr.add
    by_cases hj0 : j = 0
    · subst hj0; cases ad; simp at hsp; subst hsp; rfl
    · rw [if_neg hj0]
  refine (R_ok m f _ _ _ hsg h p w #[.slice a l.length c] [] _ rfl hp (mk1 hrv (wt_bl l)) List.nodup_nil).mono ?_
  rintro e w' ⟨rvs, p', o1, o2, rs', fs, rfl, hr, hs, -, -, h1, h2⟩
  simp only [ptrPs, ParsV] at h2
  obtain ⟨rfl, -, -⟩ := h2
  simp only [List.append_nil, PV.agg.injEq] at hr
  subst hr
  obtain ⟨v, rfl, h3⟩ := pars1 h1
  rw [rv_bool h3]
  exact ⟨rfl, hs.os, hs.tape, hs.output, hs.size, fun b hb => hs.keep b hb (by simp)⟩
/-- The bytes of a code slice. -/
theorem code_bytes (a0 : Option Addr) (len0 cap0 : Nat) (z0 : List Int) (w : World)
    (w0 : (a0 = none ∧ len0 = 0 ∧ cap0 = 0 ∧ z0 = []) ∨ ∃ x, a0 = some x ∧ len0 ≤ cap0 ∧ cap0 ≤ maxLen ∧ z0.length = cap0 ∧ (∀ i, i < z0.length → w.cell? (x.add i) = some (.int .u8 (z0.getD i 0))) ∧ ∀ n ∈ z0, (Lit.int .u8 n).wf = true) :
    ∃ l : List UInt8, len0 = l.length ∧ l.length ≤ cap0 ∧ (a0 = none → cap0 = 0) ∧ (0 < l.length → ∃ ad, a0 = some ad ∧ ∀ j, j < l.length → w.cell? (ad.add j) = some (.int .u8 (l.getD j 0).toNat)) := by
  rcases w0 with ⟨rfl, rfl, rfl, rfl⟩ | ⟨x, rfl, hl, hm', hz, hcell, hw⟩
  · exact ⟨[], rfl, Nat.zero_le _, fun _ => rfl, fun h => by simp at h⟩
  · have e : ((z0.take len0).map fun n => UInt8.ofNat n.toNat).length = len0 := by simp; omega
    refine ⟨(z0.take len0).map fun n => UInt8.ofNat n.toNat, e.symm, by rw [e]; exact hl, fun h => by simp at h, fun h => ⟨x, rfl, fun j hj => ?_⟩⟩
    rw [e] at hj
    rw [hcell j (by omega)]
    congr 2
    have hg : z0.getD j 0 = z0[j]'(by omega) := by
      rw [List.getD_eq_getElem?_getD, List.getElem?_eq_getElem (by omega)]; rfl
    have hmem := hw (z0[j]'(by omega)) (List.getElem_mem _)
    simp [Lit.wf, IntKind.min, IntKind.max, IntKind.signed, IntKind.bits] at hmem
    rw [hg, List.getD_eq_getElem?_getD, List.getElem?_map, List.getElem?_take_of_lt hj, List.getElem?_eq_getElem (by omega)]
    simp only [Option.map_some, Option.getD_some]
    rw [u8_of (by omega) (by omega)]


theorem foldSaves_walk (a0 : Option Addr) (len0 cap0 : Nat) (z0 : List Int) (w : World)
    (w0 : (a0 = none ∧ len0 = 0 ∧ cap0 = 0 ∧ z0 = []) ∨ ∃ x, a0 = some x ∧ len0 ≤ cap0 ∧ cap0 ≤ maxLen ∧ z0.length = cap0 ∧ (∀ i, i < z0.length → w.cell? (x.add i) = some (.int .u8 (z0.getD i 0))) ∧ ∀ n ∈ z0, (Lit.int .u8 n).wf = true)
    (hm : ∃ n, w.cell? ⟨0, 0, none⟩ = some (.int .i64 n)) :
    Calls Tryz.prog 3 #[.slice a0 len0 cap0] w fun e w' => e = .returned (.bool true) ∧ Below w.heap.size w w' := by
  obtain ⟨l, rfl, h2, h3, h4⟩ := code_bytes a0 len0 cap0 z0 w w0
  exact lawCalls rfl (law_true l) w hm a0 cap0 h2 h3 h4
end Go.Dv
