/- strings.Index as a leaf of the trees. -/
import Derived.Test.YtbhkmhaapfbjhaaGreatDvP
import Derived.Test.YtbhkmhaapfbjhaaGreatEvX
import Derived.Shelf.Spec.SlicesGrow
import Derived.Test.YtbhkmhaapfbjhaaGreatProg
import Derived.KernelRfl
import Derived.Test.YtbhkmhaapfbjhaaGreatFoldC
import Derived.SizedLaws

set_option linter.unusedVariables false
set_option linter.unusedSimpArgs false
namespace Go.Dv
open Go.Proofs Go.RowKit

theorem leafIndex_ok {v r : PV} (h : indexP v = some r) : NameOk Tryz.prog 102 ⟨[.one (.pv .str), .one (.pv .str)], [.one (.pv (.int .i64))]⟩ v r := by
  unfold indexP at h
  split at h
  · rename_i s t
    split at h
    · rename_i hs
      simp only [Option.some.injEq] at h
      subst h
      intro p w vs own xs hx hp hpar hnd
      simp only [PV.agg.injEq] at hx
      subst hx
      simp only [ParsV, ParV, ClV] at hpar
      obtain ⟨x1, xs1, v1, vs1, o1, o2, e1, e2, e3, ⟨h1, -, h1'⟩, x2, xs2, v2, vs2, o3, o4, e4, e5, e6, ⟨h2, -, h2'⟩, h3, h4, h5⟩ := hpar
      simp only [List.cons.injEq] at e1 e4
      obtain ⟨rfl, rfl⟩ := e1
      simp only [List.cons.injEq] at e4
      obtain ⟨rfl, rfl⟩ := e4
      simp only [RV] at h1 h2
      subst h1 h2 h1' h2' h4 h5
      subst e5
      have hvs : vs = #[.string ⟨s.toArray⟩, .string ⟨t.toArray⟩] := Array.ext' e2
      subst hvs
      obtain ⟨m, hm⟩ := hp.2
      refine (X.index ⟨s.toArray⟩ ⟨t.toArray⟩ m w (by show s.toArray.size < _; simpa using hs) (hp.1 0 0 _ hm)).mono ?_
      rintro e w' ⟨rfl, rfl⟩
      refine ⟨[.int .i64 (Lib.index s t)], p, [], [], [.int .i64 (Lib.index s t)], [], rfl, rfl, ⟨rfl, rfl, rfl, Nat.le_refl _, Pins.le_refl p, fun _ _ _ => rfl, by simp, fun _ _ _ h => .inl h⟩, hp, List.nodup_nil, ?_, by simp [ptrPs, ptrAs, ParsV]⟩
      simp only [ParsV, ParV, ClV, RV]
      exact ⟨_, _, _, _, [], [], rfl, rfl, rfl, ⟨rfl, rfl, rfl⟩, rfl, rfl, rfl⟩
    · simp at h
  · simp at h
end Go.Dv

/- slices.Grow of no texts, off the shelf, as a leaf of the trees. -/
set_option linter.unusedVariables false
set_option linter.unusedSimpArgs false
namespace Go.Dv
open Go.Proofs Go.RowKit Go.Shelf Go.Lib

def growRen : Ren where
  f := fun n => if n = 4 then 89 else 0
  t := fun n => if n = 22 then 23 else if n = 25 then 9 else n
  g := fun _ => 0
theorem growLay : Lays8.n4 Tryz.prog growRen where
  mixed := by kernel_rfl
  f4 := ⟨"slices.Grow[[]string,string]", by decide, by kernel_rfl⟩
  t0 := by kernel_rfl
  a0 := fun w => Tryz.isAgg0 w
  z0 := fun w => Tryz.sizeOf0 w
  v0 := fun w => Tryz.zeroValue0 w
  t3 := by kernel_rfl
  a3 := fun w => Tryz.isAgg3 w
  z3 := fun w => Tryz.sizeOf3 w
  v3 := fun w => Tryz.zeroValue3 w
  t4 := by kernel_rfl
  a4 := fun w => Tryz.isAgg4 w
  z4 := fun w => Tryz.sizeOf4 w
  v4 := fun w => Tryz.zeroValue4 w
  t9 := by kernel_rfl
  a9 := fun w => Tryz.isAgg9 w
  z9 := fun w => Tryz.sizeOf9 w
  v9 := fun w => Tryz.zeroValue9 w
  t20 := by kernel_rfl
  a20 := fun w => Tryz.isAgg20 w
  z20 := fun w => Tryz.sizeOf20 w
  v20 := fun w => Tryz.zeroValue20 w
  t22 := by kernel_rfl
  a22 := fun w => Tryz.isAgg23 w
  z22 := fun w => Tryz.sizeOf23 w
  v22 := fun w => Tryz.zeroValue23 w

theorem str_info : (Tryz.prog.info? 9).map (fun i => (i.size, i.bytes)) = some (1, 16) := by kernel_rfl
theorem str_zero : ((Tryz.prog.info? 9).bind fun i => i.zero).map (fun z => z.cells.size) = some 1 := by kernel_rfl
theorem leafGrow_ok {v r : PV} (h : growP v = some r) : NameOk Tryz.prog 89 ⟨[.one (.nil 9), .one (.pv (.int .i64))], [.one (.own 9 false)]⟩ v r := by
  have sz9 : sizeA Tryz.prog 9 = some 1 := by kernel_rfl
  have ag9 : isAggA Tryz.prog 9 = some false := by kernel_rfl
  unfold growP at h
  split at h
  · rename_i n
    split at h
    · rename_i hn
      obtain ⟨h0, h1⟩ := hn
      simp only [Option.some.injEq] at h
      subst h
      intro p w vs own xs hx hp hpar hnd
      simp only [PV.agg.injEq] at hx
      subst hx
      simp only [ParsV, ParV, ClV] at hpar
      obtain ⟨x1, xs1, v1, vs1, o1, o2, e1, e2, e3, ⟨sz, ag, a1, a2, a3, a4, a5⟩, x2, xs2, v2, vs2, o3, o4, e4, e5, e6, ⟨g1, -, g3⟩, g4, g5, g6⟩ := hpar
      simp only [List.cons.injEq] at e1
      obtain ⟨rfl, rfl⟩ := e1
      simp only [List.cons.injEq] at e4
      obtain ⟨rfl, rfl⟩ := e4
      simp only [RV] at g1
      subst g1 a4 a5 g3 g5 g6
      subst e5
      have hown : own = [] := by rw [e3, e6]; rfl
      subst hown
      have hvs : vs = #[.slice none 0 0, .int .i64 n] := Array.ext' e2
      subst hvs
      obtain ⟨m, rfl⟩ : ∃ m : Nat, n = (m : Int) := ⟨n.toNat, by omega⟩
      by_cases hm : m = 0
      · subst hm
        refine (Any8.slices_Grow_room growLay none 0 0 0 w (Nat.le_refl _) (by omega) (by omega) (Nat.le_refl _)).mono ?_
        rintro e w' ⟨rfl, rfl⟩
        refine ⟨[.slice none 0 0], p, [], [], [.list 1 false []], [], rfl, rfl, ⟨rfl, rfl, rfl, Nat.le_refl _, Pins.le_refl p, fun _ _ _ => rfl, by simp, fun _ _ _ h => .inl h⟩, hp, List.nodup_nil, ?_, by simp [ptrPs, ptrAs, ParsV]⟩
        simp only [ParsV, ParV, ClV]
        exact ⟨_, _, _, _, [], [], rfl, rfl, rfl, ⟨none, 0, 1, false, [], none, rfl, sz9, ag9, by simp [wtEs], rfl, by simp, rfl, by decide, Nat.le_refl _, fun _ => rfl, fun b hb => by simp at hb⟩, rfl, rfl, rfl⟩
      · have hi := str_info
        have hz := str_zero
        cases hi0 : Tryz.prog.info? 9 with
        | none => rw [hi0] at hi; cases hi
        | some i0 =>
          rw [hi0] at hi hz
          simp only [Option.map_some, Option.some.injEq, Prod.mk.injEq] at hi
          obtain ⟨hs, hb⟩ := hi
          cases hz0 : i0.zero with
          | none => rw [Option.bind_some, hz0] at hz; cases hz
          | some z =>
            rw [Option.bind_some, hz0] at hz
            simp only [Option.map_some, Option.some.injEq] at hz
            refine (Any8.slices_Grow_grow growLay i0 z hi0 hz0 (by omega) none 0 0 m [] w (Nat.le_refl _) (by omega) (by rw [hb]; omega) (by omega) (by simp) (fun _ => rfl) (fun a ha => by cases ha)).mono ?_
            rintro e w' ⟨rfl, rfl⟩
            have hG : 0 + m ≤ grownCap w (0 + m) 0 (growRen.t 25) := grownCap_ge w _ _ _
            generalize grownCap w (0 + m) 0 (growRen.t 25) = G at hG ⊢
            have hpin : ∀ (b o : Nat) (v : Value), p b o = some v → b < w.heap.size := by
              intro b o v hv
              have := hp.1 b o v hv
              unfold World.cell? at this
              cases hb' : w.heap[b]? with
              | none => simp [hb'] at this
              | some ob => exact (Array.getElem?_eq_some_iff.1 hb').1
            refine ⟨[.slice (some ⟨w.heap.size, 0, none⟩) 0 G], p, [w.heap.size], [], [.list 1 false []], [], rfl, rfl, ?_, ?_, ?_, ?_, by simp [ptrPs, ptrAs, ParsV]⟩
            · exact ⟨rfl, rfl, rfl, by simp, Pins.le_refl p, fun b hb _ => heap_alloc_old w.drew _ hb, fun b hb => by simp at hb; exact .inr (by omega), fun _ _ _ h => .inl h⟩
            · refine ⟨fun b o v hv => ?_, hp.2⟩
              have h1 := hp.1 b o v hv
              have h2 := heap_alloc_old w.drew (.cells ((([] : List Value).toArray ++ Builtin.zeroCells z.cells (0 + m - 0)) ++ Builtin.zeroCells z.cells (G - (0 + m))) (growRen.t 25)) (hpin b o v hv)
              unfold World.cell? at h1 ⊢
              rw [h2]
              exact h1
            · simp
            · simp only [ParsV, ParV, ClV]
              refine ⟨_, _, _, _, [w.heap.size], [], rfl, rfl, rfl, ⟨some w.heap.size, G, 1, false, [], some ⟨w.heap.size, 0, none⟩, rfl, sz9, ag9, by simp [wtEs], rfl, fun _ => rfl, rfl, by decide, by simp, by simp, fun b hb => ?_⟩, rfl, rfl, rfl⟩
              simp only [Option.some.injEq] at hb
              subst hb
              refine ⟨_, heap_alloc_new w.drew _, ?_, by simp [REs], fun o v hv => absurd (hpin _ _ _ hv) (Nat.lt_irrefl _), fun h => by cases h⟩
              simp only [Array.size_append, List.size_toArray, List.length_nil, size_zeroCells, hz]
              omega
    · simp at h
  · simp at h
end Go.Dv

/- The law on names behind folding returns true: from its tree to its calls. -/
set_option linter.unusedVariables false
set_option linter.unusedSimpArgs false
namespace Go.Dv
open Go.Proofs Go.RowKit

theorem R_ok (n : Nat) : GOk Tryz.prog Stab (R n) := run_ok Stab_ok (fun f g sg v r h hs hr => by
  unfold Rleaf at h
  split at h
  · rename_i hf
    subst hf
    cases h
    have e : Stab.sig 102 = some ⟨[.one (.pv .str), .one (.pv .str)], [.one (.pv (.int .i64))]⟩ := rfl
    rw [e] at hs
    cases hs
    exact leafIndex_ok hr
  · split at h
    · rename_i hf
      subst hf
      cases h
      have e : Stab.sig 89 = some ⟨[.one (.nil 9), .one (.pv (.int .i64))], [.one (.own 9 false)]⟩ := rfl
      rw [e] at hs
      cases hs
      exact leafGrow_ok hr
    · cases h) Strees_ok n

theorem pars1 {P : Program} {p : Pins} {w : World} {k : Kn} {x : PV} {rvs : List Value} {o : List Nat} (h : ParsV P p w [.one (.pv k)] [x] rvs o) : ∃ v, rvs = [v] ∧ RV p x v := by
  simp only [ParsV, ParV, ClV] at h
  obtain ⟨x', xs', v, vs', o1, o2, e1, e2, -, h1, h2, h3, -⟩ := h
  simp only [List.cons.injEq] at e1
  obtain ⟨rfl, -⟩ := e1
  exact ⟨v, by rw [e2, h3], h1.1⟩
theorem mk1 {P : Program} {p : Pins} {w : World} {k : Kn} {x : PV} {v : Value} (h : RV p x v) (hw : wt P k x = true) : ParsV P p w [.one (.pv k)] [x] [v] [] := by
  simp only [ParsV, ParV, ClV]
  exact ⟨_, _, _, _, [], [], rfl, rfl, rfl, ⟨h, hw, rfl⟩, rfl, rfl, rfl⟩
theorem rv_bool {p : Pins} {b : Bool} {v : Value} (h : RV p (.bool b) v) : v = .bool b := by simpa only [RV] using h
theorem res_bl {p : Pins} {q : Nat → Option Value} : ∀ (l : List UInt8) (o : Nat), (∀ j, j < l.length → q (o + j) = some (.int .u8 (l.getD j 0).toNat)) → REs p q 1 false o (l.map fun c => .int .u8 c.toNat)
  | [], o, h => by simp [REs]
  | c :: l, o, h => by
    simp only [List.map_cons, REs, RE]
    refine ⟨⟨trivial, trivial, _, ?_, rfl⟩, res_bl l (o + 1) fun j hj => ?_⟩
    · have := h 0 (by simp)
      simpa using this
    · have := h (j + 1) (by simp; omega)
      rw [Nat.add_assoc, Nat.add_comm 1 j, this]
      simp
theorem wt_bl (l : List UInt8) : wt Tryz.prog (.list 5) (bl l) = true := by
  have e1 : sizeA Tryz.prog 5 = some 1 := by kernel_rfl
  have e2 : isAggA Tryz.prog 5 = some false := by kernel_rfl
  have e3 : cellK Tryz.prog 5 = some [.int .u8] := by kernel_rfl
  simp only [bl, wt, e1, e2, e3, beq_self_eq_true, Bool.true_and]
  induction l with
  | nil => rfl
  | cons c l ih => rw [List.map_cons, wtEs, ih]; simp [wtE]

theorem lawCalls {f : FuncId} (hsg : Stab.sig f = some ⟨[.one (.pv (.list 5))], [.one (.pv .bool)]⟩) {m : Nat} {l : List UInt8} {b : Bool} (h : R m f (.agg [bl l]) = some (.agg [.bool b])) (w : World) (base : ∃ n, w.cell? ⟨0, 0, none⟩ = some (.int .i64 n))
    (a : Option Addr) (c : Nat) (hc : l.length ≤ c) (ha : a = none → c = 0) (hcell : 0 < l.length → ∃ ad, a = some ad ∧ ∀ j, j < l.length → w.cell? (ad.add j) = some (.int .u8 (l.getD j 0).toNat)) :
    Calls Tryz.prog f #[.slice a l.length c] w fun e w' => e = .returned (.bool b) ∧ Below w.heap.size w w' := by
  let p : Pins := fun b o => w.cell? ⟨b, o, none⟩
  have hp : PinsOk p w := ⟨fun b o v hv => hv, base⟩
  have hrv : RV p (bl l) (.slice a l.length c) := by
    simp only [bl, RV, List.length_map]
    refine ⟨a, c, rfl, hc, by omega, ha, fun hl => ?_⟩
    obtain ⟨ad, rfl, hj⟩ := hcell hl
    have h0 := hj 0 hl
    have hsp : ad.spot = none := by
      simp only [Addr.add, if_true] at h0
      unfold World.cell? at h0
      split at h0
      · split at h0
        · simp at h0
        · rename_i hs; simpa using hs
      · simp at h0
    refine ⟨ad.block, ad.off, by cases ad; simp at hsp; subst hsp; rfl, res_bl l ad.off fun j hjl => ?_⟩
    have := hj j hjl
    show w.cell? ⟨ad.block, ad.off + j, none⟩ = _
    rw [← this]
    congr 1
    unfold Addr.add
    by_cases hj0 : j = 0
    · subst hj0; cases ad; simp at hsp; subst hsp; rfl
    · rw [if_neg hj0]
  refine (R_ok m f _ _ _ hsg h p w #[.slice a l.length c] [] _ rfl hp (mk1 hrv (wt_bl l)) List.nodup_nil).mono ?_
  rintro e w' ⟨rvs, p', o1, o2, rs', fs, rfl, hr, hs, -, -, h1, h2⟩
  simp only [ptrPs, ParsV] at h2
  obtain ⟨rfl, -, -⟩ := h2
  simp only [List.append_nil, PV.agg.injEq] at hr
  subst hr
  obtain ⟨v, rfl, h3⟩ := pars1 h1
  rw [rv_bool h3]
  exact ⟨rfl, hs.os, hs.tape, hs.output, hs.size, fun b hb => hs.keep b hb (by simp)⟩
/-- The bytes of a code slice. -/
theorem code_bytes (a0 : Option Addr) (len0 cap0 : Nat) (z0 : List Int) (w : World)
    (w0 : (a0 = none ∧ len0 = 0 ∧ cap0 = 0 ∧ z0 = []) ∨ ∃ x, a0 = some x ∧ len0 ≤ cap0 ∧ cap0 ≤ maxLen ∧ z0.length = cap0 ∧ (∀ i, i < z0.length → w.cell? (x.add i) = some (.int .u8 (z0.getD i 0))) ∧ ∀ n ∈ z0, (Lit.int .u8 n).wf = true) :
    ∃ l : List UInt8, len0 = l.length ∧ l.length ≤ cap0 ∧ (a0 = none → cap0 = 0) ∧ (0 < l.length → ∃ ad, a0 = some ad ∧ ∀ j, j < l.length → w.cell? (ad.add j) = some (.int .u8 (l.getD j 0).toNat)) := by
  rcases w0 with ⟨rfl, rfl, rfl, rfl⟩ | ⟨x, rfl, hl, hm', hz, hcell, hw⟩
  · exact ⟨[], rfl, Nat.zero_le _, fun _ => rfl, fun h => by simp at h⟩
  · have e : ((z0.take len0).map fun n => UInt8.ofNat n.toNat).length = len0 := by simp; omega
    refine ⟨(z0.take len0).map fun n => UInt8.ofNat n.toNat, e.symm, by rw [e]; exact hl, fun h => by simp at h, fun h => ⟨x, rfl, fun j hj => ?_⟩⟩
    rw [e] at hj
    rw [hcell j (by omega)]
    congr 2
    have hg : z0.getD j 0 = z0[j]'(by omega) := by
      rw [List.getD_eq_getElem?_getD, List.getElem?_eq_getElem (by omega)]; rfl
    have hmem := hw (z0[j]'(by omega)) (List.getElem_mem _)
    simp [Lit.wf, IntKind.min, IntKind.max, IntKind.signed, IntKind.bits] at hmem
    rw [hg, List.getD_eq_getElem?_getD, List.getElem?_map, List.getElem?_take_of_lt hj, List.getElem?_eq_getElem (by omega)]
    simp only [Option.map_some, Option.getD_some]
    rw [u8_of (by omega) (by omega)]


theorem exprFolded_walk (a0 : Option Addr) (len0 cap0 : Nat) (z0 : List Int) (w : World)
    (w0 : (a0 = none ∧ len0 = 0 ∧ cap0 = 0 ∧ z0 = []) ∨ ∃ x, a0 = some x ∧ len0 ≤ cap0 ∧ cap0 ≤ maxLen ∧ z0.length = cap0 ∧ (∀ i, i < z0.length → w.cell? (x.add i) = some (.int .u8 (z0.getD i 0))) ∧ ∀ n ∈ z0, (Lit.int .u8 n).wf = true)
    (hm : ∃ n, w.cell? ⟨0, 0, none⟩ = some (.int .i64 n)) :
    Calls Tryz.prog 4 #[.slice a0 len0 cap0] w fun e w' => e = .returned (.bool true) ∧ Below w.heap.size w w' := by
  obtain ⟨l, rfl, h2, h3, h4⟩ := code_bytes a0 len0 cap0 z0 w w0
  exact lawCalls rfl (law_true l) w hm a0 cap0 h2 h3 h4
end Go.Dv
