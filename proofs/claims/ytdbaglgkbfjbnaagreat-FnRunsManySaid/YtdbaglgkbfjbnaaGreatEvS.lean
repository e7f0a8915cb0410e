/- The drawing functions of TextAt, and TextAt itself: what each returns (after the print of the kit, without its monotony). -/
import Derived.Test.YtdbaglgkbfjbnaaGreatPFnRunsTextsx0
import Derived.Test.YtdbaglgkbfjbnaaGreatEvZ

namespace Go.Proofs.YtdbaglgkbfjbnaaGreat.PFnRunsTexts
open Go.RowKit Go.Proofs.YtdbaglgkbfjbnaaGreatW.PrintWords Go.Proofs.YtdbaglgkbfjbnaaGreatW.PrintLast Go.Proofs.YtdbaglgkbfjbnaaGreatW.PrintMore
attribute [local go_sem] max2_int min2_int max_two min_two max_three min_three max_four min_four   -- for this text's walks alone
set_option linter.unusedVariables false
set_option linter.unusedSimpArgs false

/-! ### spec_rnd_one: function 105 -/
def spec_rnd_one.f (s0_0 : List Int) (s0_1 : Int) (l1 : List Int) : Option (Int × Int) := (spec_rnd_pick.f s0_0 s0_1 (l1.length : Int)).bind fun bt410 => (if 0 ≤ bt410.1 then (if bt410.1 < (l1.length : Int) then (some (rd l1 bt410.1, bt410.2)) else (none)) else (none))
set_option maxHeartbeats 8000000 in
set_option maxRecDepth 100000 in
theorem spec_rnd_one.calls (g : Nat) (s0_0 : List Int) (s0_1 : Int) (A1 : Option Addr) (c1 : Nat) (l1 : List Int) (r1 : Int) (r2 : Int) (w0 w : World) (hI : IsS84 w0 w g s0_0 s0_1) (hB : Below w0.heap.size w0 w) (hr1 : Kd.C (Kd.int .i64) w A1 l1.length l1) (hc1 : l1.length ≤ c1) (hf1 : ∀ ad, A1 = some ad → 0 < l1.length → ad.block ≠ g) (h : spec_rnd_one.f s0_0 s0_1 l1 = some (r1, r2)) :
    Calls Tryz.prog 105 #[.pointer (some ⟨g, 0, none⟩), .slice A1 l1.length c1] w fun e w' => e = .returned (.int .i64 r1) ∧ IsS84 w0 w' g s0_0 r2 ∧ Below w0.heap.size w0 w' ∧ KeepBut w w' g none := by
  have HR1 := Aside0.mk hr1
  have HC1 := Aside0.mk hc1
  clear hr1 hc1
  have HI0 := Aside0.mk hI
  have HK := Aside0.mk (KeepBut.refl w g none)
  have HL := Aside0.mk hB.size
  clear hI
  have HW0 := Aside0.mk hB.size
  have HB := Aside0.mk hB
  clear hB
  have H : ((spec_rnd_pick.f s0_0 s0_1 (l1.length : Int)).bind fun bt410 => (if 0 ≤ bt410.1 then (if bt410.1 < (l1.length : Int) then (some (rd l1 bt410.1, bt410.2)) else (none)) else (none))) = some (r1, r2) := h
  clear h
  replace H := Option.bind_eq_some_iff.mp H
  obtain ⟨⟨t410, t411⟩, A30, H⟩ := H
  replace H : (if 0 ≤ t410 then (if t410 < (l1.length : Int) then (some (rd l1 t410, t411)) else (none)) else (none)) = some (r1, r2) := H
  have A3 := Aside0.mk A30
  clear A30
  by_cases c4 : 0 ≤ t410
  · rw [if_pos c4] at H
    have c4b0 : decide (0 ≤ t410) = true := decide_eq_true c4
    clear c4
    by_cases c5 : t410 < (l1.length : Int)
    · rw [if_pos c5] at H
      have c5b0 : decide (t410 < (l1.length : Int)) = true := decide_eq_true c5
      clear c5
      simp only [Option.some.injEq, Prod.mk.injEq] at H
      obtain ⟨rfl, rfl⟩ := H
      go_enter Tryz.func105, Tryz.ntmps105
      go_wp2_with (first | ((with_reducible refine gate_callee (f := 62) rfl ?_); refine goesL_ (some 9) rfl rfl Tryz.func62 (by kernel_rfl) rfl #[.pointer (some ⟨g, 0, none⟩), .int .i64 (l1.length : Int)] rfl (by (try simp only [List.map_toArray, List.map_cons, List.map_nil]); first | done | rfl | (simp only [List.length_drop, List.length_take]; rfl)) ?_; (with_reducible refine (spec_rnd_pick.calls g s0_0 s0_1 (l1.length : Int) t410 t411 w0 _ ?side1 ?side2 A3.out).mono ?_); (case side1 => repeat (first | (with_reducible first | exact HI0.out | apply IsS84.alloc | apply IsS84.drewN | apply IsS84.drew | apply IsS84.set_1) | exact HI0.out)); (case side2 => repeat (first | (with_reducible first | exact HB.out | apply below_alloc | apply pw_below_drewN | apply below_drew1 | refine below_set ?_ (IsS84.ge HI0.out)) | exact HB.out)); rintro e w6 ⟨rfl, hi, hb, hk⟩; refine ⟨_, rfl, ?_⟩; have n0_ := Aside0.mk (KeepBut.trans (by repeat (first | (with_reducible first | exact HK.out | apply KeepBut.set_ | apply keep_drewN | apply keep_drew | apply keep_alloc) | exact HK.out)) hk (.inl rfl)); have n1_ := Aside0.mk (hb); have n2_ := Aside0.mk (hi); clear HK; clear HB; clear HI0; have HK := n0_; have HB := n1_; have HI0 := n2_; clear n0_ n1_ n2_; (try clear hb); (try clear hb2); (try clear hk); (try clear hi); have p412 : 0 ≤ (t410 : Int) := of_decide_eq_true (by first | (with_reducible assumption) | assumption); have q412 : t410 < (l1.length : Int) := of_decide_eq_true (by first | (with_reducible assumption) | assumption); obtain ⟨ad412, e412, hx412_0⟩ := Kd.at_int HR1.out t410 p412 q412; cases e412; replace hx412_0 := keep_cell HK.out hx412_0 (by first | (rw [add_block]; exact hf1 _ rfl (by omega)) | exact hf1 _ rfl (by omega) | exact hf1 ad412 rfl (by omega)); replace p412 := eq_true p412; replace q412 := eq_true q412))
      go_ret
      exact ⟨by first | rfl | (simp [errW_none, errW_some] <;> rfl) | (simp [*, errW_none, errW_some] <;> rfl), by repeat (first | (with_reducible first | exact HI0.out | apply IsS84.alloc | apply IsS84.drewN | apply IsS84.drew | apply IsS84.set_1) | exact HI0.out), by repeat (first | (with_reducible first | exact HB.out | apply below_alloc | apply pw_below_drewN | apply below_drew1 | refine below_set ?_ (IsS84.ge HI0.out)) | exact HB.out), by repeat (first | (with_reducible first | exact HK.out | apply KeepBut.set_ | apply keep_drewN | apply keep_drew | apply keep_alloc) | exact HK.out)⟩
    · rw [if_neg c5] at H
      exact absurd H (by simp)
  · rw [if_neg c4] at H
    exact absurd H (by simp)

/-! ### spec_rnd_odd: function 97 -/
def spec_rnd_odd.f (s0_0 : List Int) (s0_1 : Int) : Option (Int × Int) := (spec_rnd_one.f s0_0 s0_1 (([(-1), 4611686018427387904, (-4611686018427387904), 1001, 7, 1000001, (-9223372036854775808), 9223372036854775807] : List Int))).bind fun bt416 => (some (bt416.1, bt416.2))
set_option maxHeartbeats 8000000 in
set_option maxRecDepth 100000 in
theorem spec_rnd_odd.calls (g : Nat) (s0_0 : List Int) (s0_1 : Int) (r1 : Int) (r2 : Int) (w0 w : World) (hI : IsS84 w0 w g s0_0 s0_1) (hB : Below w0.heap.size w0 w) (h : spec_rnd_odd.f s0_0 s0_1 = some (r1, r2)) :
    Calls Tryz.prog 97 #[.pointer (some ⟨g, 0, none⟩)] w fun e w' => e = .returned (.int .i64 r1) ∧ IsS84 w0 w' g s0_0 r2 ∧ Below w0.heap.size w0 w' ∧ KeepBut w w' g none := by
  have HI0 := Aside0.mk hI
  have HK := Aside0.mk (KeepBut.refl w g none)
  have HL := Aside0.mk hB.size
  clear hI
  have HW0 := Aside0.mk hB.size
  have HB := Aside0.mk hB
  clear hB
  have H : ((spec_rnd_one.f s0_0 s0_1 (([(-1), 4611686018427387904, (-4611686018427387904), 1001, 7, 1000001, (-9223372036854775808), 9223372036854775807] : List Int))).bind fun bt416 => (some (bt416.1, bt416.2))) = some (r1, r2) := h
  clear h
  obtain ⟨y413, hy413⟩ : ∃ y_ : List Int, y_ = (([(-1), 4611686018427387904, (-4611686018427387904), 1001, 7, 1000001, (-9223372036854775808), 9223372036854775807] : List Int)) := ⟨_, rfl⟩
  replace H : ((spec_rnd_one.f s0_0 s0_1 y413).bind fun bt416 => (some (bt416.1, bt416.2))) = some (r1, r2) := by first | (rw [hy413]; with_reducible exact H) | (have H2_ := (Option.bind_some _ _).symm.trans H; rw [hy413]; with_reducible exact H2_) | (have H2_ := (Option.bind_some _ _).symm.trans H; with_reducible exact H2_) | with_reducible exact H | (rw [hy413]; exact H) | exact H
  have Ny413 := Aside0.mk hy413
  clear hy413
  replace H := Option.bind_eq_some_iff.mp H
  obtain ⟨⟨t416, t417⟩, A20, H⟩ := H
  replace H : (some (t416, t417)) = some (r1, r2) := H
  have A2 := Aside0.mk A20
  clear A20
  simp only [Option.some.injEq, Prod.mk.injEq] at H
  obtain ⟨rfl, rfl⟩ := H
  go_enter Tryz.func97, Tryz.ntmps97
  go_wp2_with (first | ((with_reducible refine gate_dst (N := 4) rfl ?_); refine Kd.R_lit (Kd.int .i64) _ 3 ?hg (N := 4) ?hd (xs := ([(-1), 4611686018427387904, (-4611686018427387904), 1001, 7, 1000001, (-9223372036854775808), 9223372036854775807] : List Int)) (inner := [.int .i64 (-1), .int .i64 4611686018427387904, .int .i64 (-4611686018427387904), .int .i64 1001, .int .i64 7, .int .i64 1000001, .int .i64 (-9223372036854775808), .int .i64 9223372036854775807]) (ok := fun _ => True) (okp := fun _ => True) ?hr ?hp (fun _ hk => hk) trivial (Below.refl _ _) (Nat.le_refl _) (by simp) ?_; (case hd => rfl); (case hg => rfl); (case hr => first | (go_simp; done) | (go_simp; rfl)); (case hp => exact (Reps.one (show Kd.M (Kd.int .i64) _ _ _ (-1) [.int .i64 (-1)] from rfl) (Reps.one (show Kd.M (Kd.int .i64) _ _ _ 4611686018427387904 [.int .i64 4611686018427387904] from rfl) (Reps.one (show Kd.M (Kd.int .i64) _ _ _ (-4611686018427387904) [.int .i64 (-4611686018427387904)] from rfl) (Reps.one (show Kd.M (Kd.int .i64) _ _ _ 1001 [.int .i64 1001] from rfl) (Reps.one (show Kd.M (Kd.int .i64) _ _ _ 7 [.int .i64 7] from rfl) (Reps.one (show Kd.M (Kd.int .i64) _ _ _ 1000001 [.int .i64 1000001] from rfl) (Reps.one (show Kd.M (Kd.int .i64) _ _ _ (-9223372036854775808) [.int .i64 (-9223372036854775808)] from rfl) (Reps.one (show Kd.M (Kd.int .i64) _ _ _ 9223372036854775807 [.int .i64 9223372036854775807] from rfl) (Reps.none _ _)))))))))); intro v414 w3 ho4 hb hg_ hnew_; clear hg_ hnew_; (first | rw [← Ny413.out] at ho4 | (simp only [Int.reduceToNat] at ho4; rw [← Ny413.out] at ho4)); have n0_ := Aside0.mk (Kd.R_lower ho4 (keep_size (w := w) (g := g) (row := none) (by repeat (first | (with_reducible first | exact HK.out | apply KeepBut.set_ | apply keep_drewN | apply keep_drew | apply keep_alloc) | exact HK.out)))); have n1_ := Aside0.mk (IsS84.below (by repeat (first | (with_reducible first | exact HI0.out | apply IsS84.alloc | apply IsS84.drewN | apply IsS84.drew | apply IsS84.set_1) | exact HI0.out)) hb); have n2_ := Aside0.mk (KeepBut.trans (by repeat (first | (with_reducible first | exact HK.out | apply KeepBut.set_ | apply keep_drewN | apply keep_drew | apply keep_alloc) | exact HK.out)) (KeepBut.of_below hb g none) (.inl rfl)); have n3_ := Aside0.mk (below_step (by repeat (first | (with_reducible first | exact HB.out | apply below_alloc | apply pw_below_drewN | apply below_drew1 | refine below_set ?_ (IsS84.ge HI0.out)) | exact HB.out)) hb); clear HI0; clear HK; clear HB; have HO415 := n0_; have HI0 := n1_; have HK := n2_; have HB := n3_; clear n0_ n1_ n2_ n3_; clear hb ho4; obtain ⟨Ao5, co5, eo5⟩ := Kd.R_slice HO415.out; subst eo5) | ((with_reducible refine gate_callee (f := 105) rfl ?_); refine goesL_ (some 5) rfl rfl Tryz.func105 (by kernel_rfl) rfl #[.pointer (some ⟨g, 0, none⟩), .slice Ao5 y413.length co5] rfl (by (try simp only [List.map_toArray, List.map_cons, List.map_nil]); first | done | rfl | (simp only [List.length_drop, List.length_take]; rfl)) ?_; (with_reducible refine (spec_rnd_one.calls g s0_0 s0_1 _ _ y413 t416 t417 w0 _ ?side1 ?side2 ?side3 ?side4 ?side5 A2.out).mono ?_); (case side1 => repeat (first | (with_reducible first | exact HI0.out | apply IsS84.alloc | apply IsS84.drewN | apply IsS84.drew | apply IsS84.set_1) | exact HI0.out)); (case side2 => repeat (first | (with_reducible first | exact HB.out | apply below_alloc | apply pw_below_drewN | apply below_drew1 | refine below_set ?_ (IsS84.ge HI0.out)) | exact HB.out)); (case side3 => repeat (first | exact (Kd.R_reads' HO415.out).2.2 | (with_reducible refine Kd.C_alloc ?_ _) | (with_reducible refine Kd.C_drewN ?_ _) | (with_reducible refine Kd.C_drew ?_))); (case side4 => exact (Kd.R_reads' HO415.out).2.1); (case side5 => exact far_slice (IsS84.own_ne HI0.out HO415.out (by decide))); rintro e w6 ⟨rfl, hi, hb, hk⟩; refine ⟨_, rfl, ?_⟩; have n0_ := Aside0.mk (Kd.R_mono (Kd.R_keep (IsS84.apart (show IsS84 w0 _ g s0_0 s0_1 from by repeat (first | (with_reducible first | exact HI0.out | apply IsS84.alloc | apply IsS84.drewN | apply IsS84.drew | apply IsS84.set_1) | exact HI0.out)) (by (with_reducible repeat (first | apply Kd.R_alloc | apply Kd.R_drewN | apply Kd.R_drew)); exact HO415.out) (by decide)) hk (fun _ h => h.2)) (fun _ h => h.1)); have n1_ := Aside0.mk (KeepBut.trans (by repeat (first | (with_reducible first | exact HK.out | apply KeepBut.set_ | apply keep_drewN | apply keep_drew | apply keep_alloc) | exact HK.out)) hk (.inl rfl)); have n2_ := Aside0.mk (hb); have n3_ := Aside0.mk (hi); clear HO415; clear HK; clear HB; clear HI0; have HO415 := n0_; have HK := n1_; have HB := n2_; have HI0 := n3_; clear n0_ n1_ n2_ n3_; (try clear hb); (try clear hb2); (try clear hk); (try clear hi)))
  go_ret
  exact ⟨by first | rfl | (simp [errW_none, errW_some] <;> rfl) | (simp [*, errW_none, errW_some] <;> rfl), by repeat (first | (with_reducible first | exact HI0.out | apply IsS84.alloc | apply IsS84.drewN | apply IsS84.drew | apply IsS84.set_1) | exact HI0.out), by repeat (first | (with_reducible first | exact HB.out | apply below_alloc | apply pw_below_drewN | apply below_drew1 | refine below_set ?_ (IsS84.ge HI0.out)) | exact HB.out), by repeat (first | (with_reducible first | exact HK.out | apply KeepBut.set_ | apply keep_drewN | apply keep_drew | apply keep_alloc) | exact HK.out)⟩


/-! ### spec_rnd_often: function 61 -/
def spec_rnd_often.f (s0_0 : List Int) (s0_1 : Int) (a1 : Int) : Option (Int × Int) := (spec_rnd_pick.f s0_0 s0_1 16).bind fun bt418 => (if bt418.1 = 0 then ((spec_rnd_odd.f s0_0 bt418.2).bind fun bt420 => (some (bt420.1, bt420.2))) else (some (a1, bt418.2)))
set_option maxHeartbeats 8000000 in
set_option maxRecDepth 100000 in
theorem spec_rnd_often.calls (g : Nat) (s0_0 : List Int) (s0_1 : Int) (a1 : Int) (r1 : Int) (r2 : Int) (w0 w : World) (hI : IsS84 w0 w g s0_0 s0_1) (hB : Below w0.heap.size w0 w) (h : spec_rnd_often.f s0_0 s0_1 a1 = some (r1, r2)) :
    Calls Tryz.prog 61 #[.pointer (some ⟨g, 0, none⟩), .int .i64 a1] w fun e w' => e = .returned (.int .i64 r1) ∧ IsS84 w0 w' g s0_0 r2 ∧ Below w0.heap.size w0 w' ∧ KeepBut w w' g none := by
  have HI0 := Aside0.mk hI
  have HK := Aside0.mk (KeepBut.refl w g none)
  have HL := Aside0.mk hB.size
  clear hI
  have HW0 := Aside0.mk hB.size
  have HB := Aside0.mk hB
  clear hB
  have H : ((spec_rnd_pick.f s0_0 s0_1 16).bind fun bt418 => (if bt418.1 = 0 then ((spec_rnd_odd.f s0_0 bt418.2).bind fun bt420 => (some (bt420.1, bt420.2))) else (some (a1, bt418.2)))) = some (r1, r2) := h
  clear h
  replace H := Option.bind_eq_some_iff.mp H
  obtain ⟨⟨t418, t419⟩, A30, H⟩ := H
  replace H : (if t418 = 0 then ((spec_rnd_odd.f s0_0 t419).bind fun bt420 => (some (bt420.1, bt420.2))) else (some (a1, t419))) = some (r1, r2) := H
  have A3 := Aside0.mk A30
  clear A30
  by_cases c4 : t418 = 0
  · rw [if_pos c4] at H
    have c4b0 : (t418 == 0) = true := beq_iff_eq.mpr c4
    have c4b1 : (t418 != 0) = false := bne_eq_false_iff_eq.mpr c4
    clear c4
    replace H := Option.bind_eq_some_iff.mp H
    obtain ⟨⟨t420, t421⟩, A50, H⟩ := H
    replace H : (some (t420, t421)) = some (r1, r2) := H
    have A5 := Aside0.mk A50
    clear A50
    simp only [Option.some.injEq, Prod.mk.injEq] at H
    obtain ⟨rfl, rfl⟩ := H
    go_enter Tryz.func61, Tryz.ntmps61
    go_wp2_with (first | ((with_reducible refine gate_callee (f := 62) rfl ?_); refine goesL_ (some 6) rfl rfl Tryz.func62 (by kernel_rfl) rfl #[.pointer (some ⟨g, 0, none⟩), .int .i64 16] rfl (by (try simp only [List.map_toArray, List.map_cons, List.map_nil]); first | done | rfl | (simp only [List.length_drop, List.length_take]; rfl)) ?_; (with_reducible refine (spec_rnd_pick.calls g s0_0 s0_1 16 t418 t419 w0 _ ?side1 ?side2 A3.out).mono ?_); (case side1 => repeat (first | (with_reducible first | exact HI0.out | apply IsS84.alloc | apply IsS84.drewN | apply IsS84.drew | apply IsS84.set_1) | exact HI0.out)); (case side2 => repeat (first | (with_reducible first | exact HB.out | apply below_alloc | apply pw_below_drewN | apply below_drew1 | refine below_set ?_ (IsS84.ge HI0.out)) | exact HB.out)); rintro e w6 ⟨rfl, hi, hb, hk⟩; refine ⟨_, rfl, ?_⟩; have n0_ := Aside0.mk (KeepBut.trans (by repeat (first | (with_reducible first | exact HK.out | apply KeepBut.set_ | apply keep_drewN | apply keep_drew | apply keep_alloc) | exact HK.out)) hk (.inl rfl)); have n1_ := Aside0.mk (hb); have n2_ := Aside0.mk (hi); clear HK; clear HB; clear HI0; have HK := n0_; have HB := n1_; have HI0 := n2_; clear n0_ n1_ n2_; (try clear hb); (try clear hb2); (try clear hk); (try clear hi)) | ((with_reducible refine gate_callee (f := 97) rfl ?_); refine goesL_ (some 9) rfl rfl Tryz.func97 (by kernel_rfl) rfl #[.pointer (some ⟨g, 0, none⟩)] rfl (by (try simp only [List.map_toArray, List.map_cons, List.map_nil]); first | done | rfl | (simp only [List.length_drop, List.length_take]; rfl)) ?_; (with_reducible refine (spec_rnd_odd.calls g s0_0 t419 t420 t421 w0 _ ?side1 ?side2 A5.out).mono ?_); (case side1 => repeat (first | (with_reducible first | exact HI0.out | apply IsS84.alloc | apply IsS84.drewN | apply IsS84.drew | apply IsS84.set_1) | exact HI0.out)); (case side2 => repeat (first | (with_reducible first | exact HB.out | apply below_alloc | apply pw_below_drewN | apply below_drew1 | refine below_set ?_ (IsS84.ge HI0.out)) | exact HB.out)); rintro e w7 ⟨rfl, hi, hb, hk⟩; refine ⟨_, rfl, ?_⟩; have n0_ := Aside0.mk (KeepBut.trans (by repeat (first | (with_reducible first | exact HK.out | apply KeepBut.set_ | apply keep_drewN | apply keep_drew | apply keep_alloc) | exact HK.out)) hk (.inl rfl)); have n1_ := Aside0.mk (hb); have n2_ := Aside0.mk (hi); clear HK; clear HB; clear HI0; have HK := n0_; have HB := n1_; have HI0 := n2_; clear n0_ n1_ n2_; (try clear hb); (try clear hb2); (try clear hk); (try clear hi)))
    go_ret
    exact ⟨by first | rfl | (simp [errW_none, errW_some] <;> rfl) | (simp [*, errW_none, errW_some] <;> rfl), by repeat (first | (with_reducible first | exact HI0.out | apply IsS84.alloc | apply IsS84.drewN | apply IsS84.drew | apply IsS84.set_1) | exact HI0.out), by repeat (first | (with_reducible first | exact HB.out | apply below_alloc | apply pw_below_drewN | apply below_drew1 | refine below_set ?_ (IsS84.ge HI0.out)) | exact HB.out), by repeat (first | (with_reducible first | exact HK.out | apply KeepBut.set_ | apply keep_drewN | apply keep_drew | apply keep_alloc) | exact HK.out)⟩
  · rw [if_neg c4] at H
    have c4b0 : (t418 == 0) = false := beq_eq_false_iff_ne.mpr c4
    have c4b1 : (t418 != 0) = true := bne_iff_ne.mpr c4
    simp only [Option.some.injEq, Prod.mk.injEq] at H
    obtain ⟨rfl, rfl⟩ := H
    go_enter Tryz.func61, Tryz.ntmps61
    go_wp2_with (first | ((with_reducible refine gate_callee (f := 62) rfl ?_); refine goesL_ (some 6) rfl rfl Tryz.func62 (by kernel_rfl) rfl #[.pointer (some ⟨g, 0, none⟩), .int .i64 16] rfl (by (try simp only [List.map_toArray, List.map_cons, List.map_nil]); first | done | rfl | (simp only [List.length_drop, List.length_take]; rfl)) ?_; (with_reducible refine (spec_rnd_pick.calls g s0_0 s0_1 16 t418 t419 w0 _ ?side1 ?side2 A3.out).mono ?_); (case side1 => repeat (first | (with_reducible first | exact HI0.out | apply IsS84.alloc | apply IsS84.drewN | apply IsS84.drew | apply IsS84.set_1) | exact HI0.out)); (case side2 => repeat (first | (with_reducible first | exact HB.out | apply below_alloc | apply pw_below_drewN | apply below_drew1 | refine below_set ?_ (IsS84.ge HI0.out)) | exact HB.out)); rintro e w8 ⟨rfl, hi, hb, hk⟩; refine ⟨_, rfl, ?_⟩; have n0_ := Aside0.mk (KeepBut.trans (by repeat (first | (with_reducible first | exact HK.out | apply KeepBut.set_ | apply keep_drewN | apply keep_drew | apply keep_alloc) | exact HK.out)) hk (.inl rfl)); have n1_ := Aside0.mk (hb); have n2_ := Aside0.mk (hi); clear HK; clear HB; clear HI0; have HK := n0_; have HB := n1_; have HI0 := n2_; clear n0_ n1_ n2_; (try clear hb); (try clear hb2); (try clear hk); (try clear hi)))
    go_ret
    exact ⟨by first | rfl | (simp [errW_none, errW_some] <;> rfl) | (simp [*, errW_none, errW_some] <;> rfl), by repeat (first | (with_reducible first | exact HI0.out | apply IsS84.alloc | apply IsS84.drewN | apply IsS84.drew | apply IsS84.set_1) | exact HI0.out), by repeat (first | (with_reducible first | exact HB.out | apply below_alloc | apply pw_below_drewN | apply below_drew1 | refine below_set ?_ (IsS84.ge HI0.out)) | exact HB.out), by repeat (first | (with_reducible first | exact HK.out | apply KeepBut.set_ | apply keep_drewN | apply keep_drew | apply keep_alloc) | exact HK.out)⟩

/-! ### spec_DrawTextAt: function 23 -/
def spec_DrawTextAt.f (k : Nat) (l0 : List Int) : Option (ByteArray × Int) := (spec_newRnd.f l0).bind fun bt422 => ((spec_rnd_text.f k bt422.1 bt422.2).bind fun bt425 => ((spec_rnd_pick.f bt422.1 bt425.2 20).bind fun bt427 => ((spec_rnd_often.f bt422.1 bt427.2 (wrap64 (bt427.1 - 10))).bind fun bt429 => (some (bt425.1, bt429.1)))))
set_option maxHeartbeats 8000000 in
set_option maxRecDepth 100000 in
theorem spec_DrawTextAt.calls (k : Nat) (A0 : Option Addr) (c0 : Nat) (l0 : List Int) (r1 : ByteArray) (r2 : Int) (w : World) (hr0 : Kd.C (Kd.int .u8) w A0 l0.length l0) (hc0 : l0.length ≤ c0) (h : spec_DrawTextAt.f k l0 = some (r1, r2)) :
    Calls Tryz.prog 23 #[.slice A0 l0.length c0] w fun e w' => e = .returned (.tuple #[.string r1, .int .i64 r2]) ∧ Below w.heap.size w w' := by
  have HR0 := Aside0.mk hr0
  have HC0 := Aside0.mk hc0
  clear hr0 hc0
  have HB := Aside0.mk (Below.refl w.heap.size w)
  have H : ((spec_newRnd.f l0).bind fun bt422 => ((spec_rnd_text.f k bt422.1 bt422.2).bind fun bt425 => ((spec_rnd_pick.f bt422.1 bt425.2 20).bind fun bt427 => ((spec_rnd_often.f bt422.1 bt427.2 (wrap64 (bt427.1 - 10))).bind fun bt429 => (some (bt425.1, bt429.1)))))) = some (r1, r2) := h
  clear h
  replace H := Option.bind_eq_some_iff.mp H
  obtain ⟨⟨t422, t423⟩, A20, H⟩ := H
  replace H : ((spec_rnd_text.f k t422 t423).bind fun bt425 => ((spec_rnd_pick.f t422 bt425.2 20).bind fun bt427 => ((spec_rnd_often.f t422 bt427.2 (wrap64 (bt427.1 - 10))).bind fun bt429 => (some (bt425.1, bt429.1))))) = some (r1, r2) := H
  have A2 := Aside0.mk A20
  clear A20
  replace H := Option.bind_eq_some_iff.mp H
  obtain ⟨⟨t425, t426⟩, A30, H⟩ := H
  replace H : ((spec_rnd_pick.f t422 t426 20).bind fun bt427 => ((spec_rnd_often.f t422 bt427.2 (wrap64 (bt427.1 - 10))).bind fun bt429 => (some (t425, bt429.1)))) = some (r1, r2) := H
  have A3 := Aside0.mk A30
  clear A30
  replace H := Option.bind_eq_some_iff.mp H
  obtain ⟨⟨t427, t428⟩, A40, H⟩ := H
  replace H : ((spec_rnd_often.f t422 t428 (wrap64 (t427 - 10))).bind fun bt429 => (some (t425, bt429.1))) = some (r1, r2) := H
  have A4 := Aside0.mk A40
  clear A40
  replace H := Option.bind_eq_some_iff.mp H
  obtain ⟨⟨t429, t430⟩, A50, H⟩ := H
  replace H : (some (t425, t429)) = some (r1, r2) := H
  have A5 := Aside0.mk A50
  clear A50
  simp only [Option.some.injEq, Prod.mk.injEq] at H
  obtain ⟨rfl, rfl⟩ := H
  go_enter Tryz.func23, Tryz.ntmps23
  go_wp2_with (first | ((with_reducible refine gate_callee (f := 48) rfl ?_); refine goesL_ (some 7) rfl rfl Tryz.func48 (by kernel_rfl) rfl #[.slice A0 l0.length c0] rfl (by (try simp only [List.map_toArray, List.map_cons, List.map_nil]); first | done | rfl | (simp only [List.length_drop, List.length_take]; rfl)) ?_; (with_reducible refine (spec_newRnd.calls _ _ l0 t422 t423 w _ ?side1 ?side2 ?side3 A2.out).mono ?_); (case side1 => repeat (first | (with_reducible first | exact HB.out | apply below_alloc | apply pw_below_drewN | apply below_drew1) | exact HB.out)); (case side2 => exact HR0.out); (case side3 => exact HC0.out); rintro e w6 ⟨g424, rfl, hi, hb, hb2⟩; refine ⟨_, rfl, ?_⟩; have n0_ := Aside0.mk (hb); have n1_ := Aside0.mk (hi); clear HB; have HB := n0_; have HI424 := n1_; clear n0_ n1_; (try clear hb); (try clear hb2); (try clear hk); (try clear hi)) | ((with_reducible refine gate_callee (f := 49) rfl ?_); refine goesL_ (some 9) rfl rfl Tryz.func49 (by kernel_rfl) rfl #[.pointer (some ⟨g424, 0, none⟩)] rfl (by (try simp only [List.map_toArray, List.map_cons, List.map_nil]); first | done | rfl | (simp only [List.length_drop, List.length_take]; rfl)) ?_; (with_reducible refine (spec_rnd_text.calls k g424 t422 t423 t425 t426 w _ ?side1 ?side2 A3.out).mono ?_); (case side1 => repeat (first | (with_reducible first | exact HI424.out | apply IsS84.alloc | apply IsS84.drewN | apply IsS84.drew | apply IsS84.set_1) | exact HI424.out)); (case side2 => repeat (first | (with_reducible first | exact HB.out | apply below_alloc | apply pw_below_drewN | apply below_drew1 | refine below_set ?_ (IsS84.ge HI424.out)) | exact HB.out)); rintro e w7 ⟨rfl, hi, hb, hk⟩; refine ⟨_, rfl, ?_⟩; have n0_ := Aside0.mk (hb); have n1_ := Aside0.mk (hi); clear HB; clear HI424; have HB := n0_; have HI424 := n1_; clear n0_ n1_; (try clear hb); (try clear hb2); (try clear hk); (try clear hi)) | ((with_reducible refine gate_callee (f := 62) rfl ?_); refine goesL_ (some 13) rfl rfl Tryz.func62 (by kernel_rfl) rfl #[.pointer (some ⟨g424, 0, none⟩), .int .i64 20] rfl (by (try simp only [List.map_toArray, List.map_cons, List.map_nil]); first | done | rfl | (simp only [List.length_drop, List.length_take]; rfl)) ?_; (with_reducible refine (spec_rnd_pick.calls g424 t422 t426 20 t427 t428 w _ ?side1 ?side2 A4.out).mono ?_); (case side1 => repeat (first | (with_reducible first | exact HI424.out | apply IsS84.alloc | apply IsS84.drewN | apply IsS84.drew | apply IsS84.set_1) | exact HI424.out)); (case side2 => repeat (first | (with_reducible first | exact HB.out | apply below_alloc | apply pw_below_drewN | apply below_drew1 | refine below_set ?_ (IsS84.ge HI424.out)) | exact HB.out)); rintro e w8 ⟨rfl, hi, hb, hk⟩; refine ⟨_, rfl, ?_⟩; have n0_ := Aside0.mk (hb); have n1_ := Aside0.mk (hi); clear HB; clear HI424; have HB := n0_; have HI424 := n1_; clear n0_ n1_; (try clear hb); (try clear hb2); (try clear hk); (try clear hi)) | ((with_reducible refine gate_callee (f := 61) rfl ?_); refine goesL_ (some 15) rfl rfl Tryz.func61 (by kernel_rfl) rfl #[.pointer (some ⟨g424, 0, none⟩), .int .i64 (wrap64 (t427 - 10))] rfl (by (try simp only [List.map_toArray, List.map_cons, List.map_nil]); first | done | rfl | (simp only [List.length_drop, List.length_take]; rfl)) ?_; (with_reducible refine (spec_rnd_often.calls g424 t422 t428 (wrap64 (t427 - 10)) t429 t430 w _ ?side1 ?side2 A5.out).mono ?_); (case side1 => repeat (first | (with_reducible first | exact HI424.out | apply IsS84.alloc | apply IsS84.drewN | apply IsS84.drew | apply IsS84.set_1) | exact HI424.out)); (case side2 => repeat (first | (with_reducible first | exact HB.out | apply below_alloc | apply pw_below_drewN | apply below_drew1 | refine below_set ?_ (IsS84.ge HI424.out)) | exact HB.out)); rintro e w9 ⟨rfl, hi, hb, hk⟩; refine ⟨_, rfl, ?_⟩; have n0_ := Aside0.mk (hb); have n1_ := Aside0.mk (hi); clear HB; clear HI424; have HB := n0_; have HI424 := n1_; clear n0_ n1_; (try clear hb); (try clear hb2); (try clear hk); (try clear hi)))
  go_ret2
  exact ⟨by first | rfl | (simp [errW_none, errW_some] <;> rfl) | (simp [*, errW_none, errW_some] <;> rfl), by repeat (first | (with_reducible first | exact HB.out | apply below_alloc | apply pw_below_drewN | apply below_drew1 | refine below_set ?_ (IsS84.ge HI424.out)) | exact HB.out)⟩

/-! ### impl_TextAt: function 24 -/
def impl_TextAt.j0 : Nat → ByteArray → Int → Bool → Option (ByteArray × Bool)
  | 0, _, _, _ => none
  | k + 1, x0, x1, x21 => if x21 = true then (some ((⟨#[]⟩ : ByteArray), false)) else (if x1 < 0 then (if 0 ≤ (wrap64 (x1 + (x0.size : Int))) then (if (wrap64 (x1 + (x0.size : Int))) ≤ (wrap64 ((wrap64 (x1 + (x0.size : Int))) + 1)) then (if (wrap64 ((wrap64 (x1 + (x0.size : Int))) + 1)) ≤ (x0.size : Int) then (some (x0.extract ((wrap64 (x1 + (x0.size : Int))) : Int).toNat ((wrap64 ((wrap64 (x1 + (x0.size : Int))) + 1)) : Int).toNat, true)) else (none)) else (none)) else (none)) else (if 0 ≤ x1 then (if x1 ≤ (wrap64 (x1 + 1)) then (if (wrap64 (x1 + 1)) ≤ (x0.size : Int) then (some (x0.extract (x1 : Int).toNat ((wrap64 (x1 + 1)) : Int).toNat, true)) else (none)) else (none)) else (none)))
def impl_TextAt.f (k : Nat) (a0 : ByteArray) (a1 : Int) : Option (ByteArray × Bool) := if (a0.size : Int) > 400 then (impl_TextAt.j0 k a0 a1 true) else (if a1 < (wrap64 (-(a0.size : Int))) then (impl_TextAt.j0 k a0 a1 true) else (impl_TextAt.j0 k a0 a1 (decide (a1 ≥ (a0.size : Int)))))
set_option maxHeartbeats 8000000 in
set_option maxRecDepth 100000 in
theorem impl_TextAt.calls (k : Nat) (a0 : ByteArray) (a1 : Int) (r1 : ByteArray) (r2 : Bool) (w : World) (h : impl_TextAt.f k a0 a1 = some (r1, r2)) :
    Calls Tryz.prog 24 #[.string a0, .int .i64 a1] w fun e w' => e = .returned (.tuple #[.string r1, .bool r2]) ∧ Drawn0 w w' := by
  have H : (if (a0.size : Int) > 400 then (impl_TextAt.j0 k a0 a1 true) else (if a1 < (wrap64 (-(a0.size : Int))) then (impl_TextAt.j0 k a0 a1 true) else (impl_TextAt.j0 k a0 a1 (decide (a1 ≥ (a0.size : Int)))))) = some (r1, r2) := h
  clear h
  have HC3 := Aside0.mk H
  clear H
  go_enter Tryz.func24, Tryz.ntmps24
  go_upto_region 1 with (fail)
  go_cut [21] (fun v21 wc => ∃ (kq : Nat) (x21_2 : Bool), v21 = .bool x21_2 ∧ Aside0 (impl_TextAt.j0 kq a0 a1 x21_2 = some (r1, r2)) ∧ Aside0 (kq ≤ k) ∧ Drawn0 w wc)
  case first =>
    have H := HC3.out
    clear HC3
    by_cases c4 : (a0.size : Int) > 400
    · rw [if_pos c4] at H
      have c4b0 : decide (400 < (a0.size : Int)) = true := decide_eq_true c4
      have c4b1 : decide (400 < a0.size) = true := decide_eq_true (by omega)
      clear c4
      (first | rw [c4b0] | (simp only [i64_w, i32_w]; rw [c4b0]) | skip)
      have H' := Aside0.mk H
      clear H
      go_wp2
      go_meet
      case rel => exact ⟨_, (true), (by first | rfl | (simp; done) | (simp [*]; done)), H', ⟨by first | omega | exact Nat.le_refl _⟩, by repeat (first | exact Drawn0.refl _ | apply Drawn0.step)⟩
    · rw [if_neg c4] at H
      have c4b0 : decide (400 < (a0.size : Int)) = false := decide_eq_false c4
      have c4b1 : decide (400 < a0.size) = false := decide_eq_false (by omega)
      clear c4
      (first | rw [c4b0] | (simp only [i64_w, i32_w]; rw [c4b0]) | skip)
      by_cases c5 : a1 < (wrap64 (-(a0.size : Int)))
      · rw [if_pos c5] at H
        have c5b0 : decide (a1 < (wrap64 (-(a0.size : Int)))) = true := decide_eq_true c5
        clear c5
        have H' := Aside0.mk H
        clear H
        go_wp2
        go_meet
        case rel => exact ⟨_, (true), (by first | rfl | (simp; done) | (simp [*]; done)), H', ⟨by first | omega | exact Nat.le_refl _⟩, by repeat (first | exact Drawn0.refl _ | apply Drawn0.step)⟩
      · rw [if_neg c5] at H
        have c5b0 : decide (a1 < (wrap64 (-(a0.size : Int)))) = false := decide_eq_false c5
        clear c5
        have H' := Aside0.mk H
        clear H
        go_wp2
        go_meet
        case rel => exact ⟨_, (decide (a1 ≥ (a0.size : Int))), (by first | rfl | (simp; done) | (simp [*]; done)), H', ⟨by first | omega | exact Nat.le_refl _⟩, by repeat (first | exact Drawn0.refl _ | apply Drawn0.step)⟩
  case rest =>
    clear HC3
    try clear c2
    try clear p2
    try clear c4
    try clear c4b0
    try clear c4b1
    try clear c5
    try clear c5b0
    obtain ⟨kq, x21_2, rfl, HA, HJ2, ⟨mc2, rfl⟩⟩ := hcut
    cases kq with
    | zero => exact absurd HA.out (by simp [impl_TextAt.j0])
    | succ kj2 =>
      have H := HA.out
      clear HA
      simp only [impl_TextAt.j0] at H
      by_cases c6 : x21_2 = true
      · subst c6
        have H1 : (some ((⟨#[]⟩ : ByteArray), false)) = some (r1, r2) := by rw [if_pos rfl] at H; exact H
        clear H
        have H := H1
        clear H1
        simp only [Option.some.injEq, Prod.mk.injEq] at H
        obtain ⟨rfl, rfl⟩ := H
        go_wp2
        go_ret2
        exact ⟨by first | rfl | (simp; done) | (simp [*]; done), by repeat (first | exact Drawn0.refl _ | apply Drawn0.step)⟩
      · replace c6 := Bool.eq_false_iff.mpr c6
        subst c6
        have H1 : (if a1 < 0 then (if 0 ≤ (wrap64 (a1 + (a0.size : Int))) then (if (wrap64 (a1 + (a0.size : Int))) ≤ (wrap64 ((wrap64 (a1 + (a0.size : Int))) + 1)) then (if (wrap64 ((wrap64 (a1 + (a0.size : Int))) + 1)) ≤ (a0.size : Int) then (some (a0.extract ((wrap64 (a1 + (a0.size : Int))) : Int).toNat ((wrap64 ((wrap64 (a1 + (a0.size : Int))) + 1)) : Int).toNat, true)) else (none)) else (none)) else (none)) else (if 0 ≤ a1 then (if a1 ≤ (wrap64 (a1 + 1)) then (if (wrap64 (a1 + 1)) ≤ (a0.size : Int) then (some (a0.extract (a1 : Int).toNat ((wrap64 (a1 + 1)) : Int).toNat, true)) else (none)) else (none)) else (none))) = some (r1, r2) := by rw [if_neg (show ¬ (false = true) by decide)] at H; exact H
        clear H
        have H := H1
        clear H1
        by_cases c7 : a1 < 0
        · rw [if_pos c7] at H
          have c7b0 : decide (a1 < 0) = true := decide_eq_true c7
          clear c7
          obtain ⟨ji8, hji8⟩ : ∃ j_ : Int, (wrap64 (a1 + (a0.size : Int))) = j_ := ⟨_, rfl⟩
          replace H : (if 0 ≤ (ji8) then (if (ji8) ≤ (wrap64 ((ji8) + 1)) then (if (wrap64 ((ji8) + 1)) ≤ (a0.size : Int) then (some (a0.extract ((ji8) : Int).toNat ((wrap64 ((ji8) + 1)) : Int).toNat, true)) else (none)) else (none)) else (none)) = some (r1, r2) := by first | (rw [hji8] at H; exact H) | (simp only [hji8] at H ⊢; exact H)
          have hji8w : (IntKind.i64.wrap (a1 + (a0.size : Int))) = ji8 := (i64_w _).trans hji8
          by_cases c9 : 0 ≤ (ji8)
          · rw [if_pos c9] at H
            have c9b0 := eq_true c9
            have c9b1 : decide (0 ≤ (ji8)) = true := decide_eq_true c9
            clear c9
            by_cases c10 : (ji8) ≤ (wrap64 ((ji8) + 1))
            · rw [if_pos c10] at H
              have c10b0 := eq_true c10
              have c10b1 : decide ((ji8) ≤ (wrap64 ((ji8) + 1))) = true := decide_eq_true c10
              by_cases c11 : (wrap64 ((ji8) + 1)) ≤ (a0.size : Int)
              · rw [if_pos c11] at H
                have c11b0 := eq_true c11
                have c11b1 : decide ((wrap64 ((ji8) + 1)) ≤ (a0.size : Int)) = true := decide_eq_true c11
                simp only [Option.some.injEq, Prod.mk.injEq] at H
                obtain ⟨rfl, rfl⟩ := H
                go_wp2
                go_ret2
                exact ⟨by first | rfl | (simp; done) | (simp only [← hji8] <;> (first | rfl | simp)) | (simp [*]; done), by repeat (first | exact Drawn0.refl _ | apply Drawn0.step)⟩
              · rw [if_neg c11] at H
                exact absurd H (by simp)
            · rw [if_neg c10] at H
              exact absurd H (by simp)
          · rw [if_neg c9] at H
            exact absurd H (by simp)
        · rw [if_neg c7] at H
          have c7b0 : decide (a1 < 0) = false := decide_eq_false c7
          clear c7
          by_cases c12 : 0 ≤ a1
          · rw [if_pos c12] at H
            have c12b0 := eq_true c12
            have c12b1 : decide (0 ≤ a1) = true := decide_eq_true c12
            clear c12
            by_cases c13 : a1 ≤ (wrap64 (a1 + 1))
            · rw [if_pos c13] at H
              have c13b0 := eq_true c13
              have c13b1 : decide (a1 ≤ (wrap64 (a1 + 1))) = true := decide_eq_true c13
              by_cases c14 : (wrap64 (a1 + 1)) ≤ (a0.size : Int)
              · rw [if_pos c14] at H
                have c14b0 := eq_true c14
                have c14b1 : decide ((wrap64 (a1 + 1)) ≤ (a0.size : Int)) = true := decide_eq_true c14
                simp only [Option.some.injEq, Prod.mk.injEq] at H
                obtain ⟨rfl, rfl⟩ := H
                go_wp2
                go_ret2
                exact ⟨by first | rfl | (simp; done) | (simp [*]; done), by repeat (first | exact Drawn0.refl _ | apply Drawn0.step)⟩
              · rw [if_neg c14] at H
                exact absurd H (by simp)
            · rw [if_neg c13] at H
              exact absurd H (by simp)
          · rw [if_neg c12] at H
            exact absurd H (by simp)

/-! ### spec_inRange: function 66 -/
def spec_inRange.f (a0 : Int) (a1 : Int) (a2 : Int) : Option (Bool) := if a0 ≥ a1 then (some (decide (a0 ≤ a2))) else (some false)
set_option maxHeartbeats 8000000 in
set_option maxRecDepth 100000 in
theorem spec_inRange.calls (a0 : Int) (a1 : Int) (a2 : Int) (r : Bool) (w : World) (h : spec_inRange.f a0 a1 a2 = some r) :
    Calls Tryz.prog 66 #[.int .i64 a0, .int .i64 a1, .int .i64 a2] w fun e w' => e = .returned (.bool r) ∧ Drawn0 w w' := by
  have H : (if a0 ≥ a1 then (some (decide (a0 ≤ a2))) else (some false)) = some r := h
  clear h
  by_cases c4 : a0 ≥ a1
  · rw [if_pos c4] at H
    have c4b0 : decide (a1 ≤ a0) = true := decide_eq_true c4
    clear c4
    obtain rfl := Option.some.inj H
    go_enter Tryz.func66, Tryz.ntmps66
    go_wp2
    go_ret
    exact ⟨by first | rfl | (simp; done) | (simp [*]; done), by repeat (first | exact Drawn0.refl _ | apply Drawn0.step)⟩
  · rw [if_neg c4] at H
    have c4b0 : decide (a1 ≤ a0) = false := decide_eq_false c4
    clear c4
    obtain rfl := Option.some.inj H
    go_enter Tryz.func66, Tryz.ntmps66
    go_wp2
    go_ret
    exact ⟨by first | rfl | (simp; done) | (simp [*]; done), by repeat (first | exact Drawn0.refl _ | apply Drawn0.step)⟩

/-! ### spec_TextAt: function 25 -/
def spec_TextAt.j0 : Nat → ByteArray → Int → Bool → Option (ByteArray × Bool)
  | 0, _, _, _ => none
  | k + 1, x0, x1, x19 => if x19 = true then (some ((⟨#[]⟩ : ByteArray), false)) else (if x1 < 0 then (if 0 ≤ (wrap64 (x1 + (x0.size : Int))) then (if (wrap64 (x1 + (x0.size : Int))) ≤ (wrap64 ((wrap64 (x1 + (x0.size : Int))) + 1)) then (if (wrap64 ((wrap64 (x1 + (x0.size : Int))) + 1)) ≤ (x0.size : Int) then (some (x0.extract ((wrap64 (x1 + (x0.size : Int))) : Int).toNat ((wrap64 ((wrap64 (x1 + (x0.size : Int))) + 1)) : Int).toNat, true)) else (none)) else (none)) else (none)) else (if 0 ≤ x1 then (if x1 ≤ (wrap64 (x1 + 1)) then (if (wrap64 (x1 + 1)) ≤ (x0.size : Int) then (some (x0.extract (x1 : Int).toNat ((wrap64 (x1 + 1)) : Int).toNat, true)) else (none)) else (none)) else (none)))
def spec_TextAt.f (k : Nat) (a0 : ByteArray) (a1 : Int) : Option (ByteArray × Bool) := (spec_validText.f a0).bind fun t431 => (if t431 = true then ((spec_inRange.f a1 (wrap64 (-(a0.size : Int))) (wrap64 ((a0.size : Int) - 1))).bind fun t432 => (spec_TextAt.j0 k a0 a1 (!t432))) else (spec_TextAt.j0 k a0 a1 true))
set_option maxHeartbeats 8000000 in
set_option maxRecDepth 100000 in
theorem spec_TextAt.calls (k : Nat) (a0 : ByteArray) (a1 : Int) (r1 : ByteArray) (r2 : Bool) (w : World) (h : spec_TextAt.f k a0 a1 = some (r1, r2)) :
    Calls Tryz.prog 25 #[.string a0, .int .i64 a1] w fun e w' => e = .returned (.tuple #[.string r1, .bool r2]) ∧ Drawn0 w w' := by
  have H : ((spec_validText.f a0).bind fun t431 => (if t431 = true then ((spec_inRange.f a1 (wrap64 (-(a0.size : Int))) (wrap64 ((a0.size : Int) - 1))).bind fun t432 => (spec_TextAt.j0 k a0 a1 (!t432))) else (spec_TextAt.j0 k a0 a1 true))) = some (r1, r2) := h
  clear h
  have HC3 := Aside0.mk H
  clear H
  go_enter Tryz.func25, Tryz.ntmps25
  go_upto_region 1 with (fail)
  go_cut [19] (fun v19 wc => ∃ (kq : Nat) (x19_2 : Bool), v19 = .bool x19_2 ∧ Aside0 (spec_TextAt.j0 kq a0 a1 x19_2 = some (r1, r2)) ∧ Aside0 (kq ≤ k) ∧ Drawn0 w wc)
  case first =>
    have H := HC3.out
    clear HC3
    replace H := Option.bind_eq_some_iff.mp H
    obtain ⟨t431, A40, H⟩ := H
    replace H : (if t431 = true then ((spec_inRange.f a1 (wrap64 (-(a0.size : Int))) (wrap64 ((a0.size : Int) - 1))).bind fun t432 => (spec_TextAt.j0 k a0 a1 (!t432))) else (spec_TextAt.j0 k a0 a1 true)) = some (r1, r2) := H
    have A4 := Aside0.mk A40
    clear A40
    by_cases c5 : t431 = true
    · subst c5
      have H1 : ((spec_inRange.f a1 (wrap64 (-(a0.size : Int))) (wrap64 ((a0.size : Int) - 1))).bind fun t432 => (spec_TextAt.j0 k a0 a1 (!t432))) = some (r1, r2) := by rw [if_pos rfl] at H; exact H
      clear H
      have H := H1
      clear H1
      replace H := Option.bind_eq_some_iff.mp H
      obtain ⟨t432, A60, H⟩ := H
      replace H : (spec_TextAt.j0 k a0 a1 (!t432)) = some (r1, r2) := H
      have A6 := Aside0.mk A60
      clear A60
      have H' := Aside0.mk H
      clear H
      go_wp2_with (first | ((with_reducible refine gate_callee (f := 53) rfl ?_); refine goesL_ (some 7) rfl rfl Tryz.func53 (by kernel_rfl) rfl #[.string a0] rfl (by (try simp only [List.map_toArray, List.map_cons, List.map_nil]); first | done | rfl | (simp only [List.length_drop, List.length_take]; rfl)) ?_; (with_reducible refine (spec_validText.calls a0 true _ A4.out).mono ?_); rintro e w' ⟨rfl, ⟨nd, rfl⟩⟩; refine ⟨_, rfl, ?_⟩) | (go_at_call 66; (with_reducible refine (spec_inRange.calls a1 (wrap64 (-(a0.size : Int))) (wrap64 ((a0.size : Int) - 1)) t432 _ A6.out).mono ?_); rintro e w' ⟨rfl, ⟨nd, rfl⟩⟩))
      go_meet
      case rel => exact ⟨_, (!t432), (by first | rfl | (simp; done) | (simp [*]; done)), H', ⟨by first | omega | exact Nat.le_refl _⟩, by repeat (first | exact Drawn0.refl _ | apply Drawn0.step)⟩
    · replace c5 := Bool.eq_false_iff.mpr c5
      subst c5
      have H1 : (spec_TextAt.j0 k a0 a1 true) = some (r1, r2) := by rw [if_neg (show ¬ (false = true) by decide)] at H; exact H
      clear H
      have H := H1
      clear H1
      have H' := Aside0.mk H
      clear H
      go_wp2_with (first | ((with_reducible refine gate_callee (f := 53) rfl ?_); refine goesL_ (some 7) rfl rfl Tryz.func53 (by kernel_rfl) rfl #[.string a0] rfl (by (try simp only [List.map_toArray, List.map_cons, List.map_nil]); first | done | rfl | (simp only [List.length_drop, List.length_take]; rfl)) ?_; (with_reducible refine (spec_validText.calls a0 false _ A4.out).mono ?_); rintro e w' ⟨rfl, ⟨nd, rfl⟩⟩; refine ⟨_, rfl, ?_⟩))
      go_meet
      case rel => exact ⟨_, (true), (by first | rfl | (simp; done) | (simp [*]; done)), H', ⟨by first | omega | exact Nat.le_refl _⟩, by repeat (first | exact Drawn0.refl _ | apply Drawn0.step)⟩
  case rest =>
    clear HC3
    try clear c2
    try clear p2
    try clear c5
    try clear p6
    obtain ⟨kq, x19_2, rfl, HA, HJ2, ⟨mc2, rfl⟩⟩ := hcut
    cases kq with
    | zero => exact absurd HA.out (by simp [spec_TextAt.j0])
    | succ kj2 =>
      have H := HA.out
      clear HA
      simp only [spec_TextAt.j0] at H
      by_cases c7 : x19_2 = true
      · subst c7
        have H1 : (some ((⟨#[]⟩ : ByteArray), false)) = some (r1, r2) := by rw [if_pos rfl] at H; exact H
        clear H
        have H := H1
        clear H1
        simp only [Option.some.injEq, Prod.mk.injEq] at H
        obtain ⟨rfl, rfl⟩ := H
        go_wp2
        go_ret2
        exact ⟨by first | rfl | (simp; done) | (simp [*]; done), by repeat (first | exact Drawn0.refl _ | apply Drawn0.step)⟩
      · replace c7 := Bool.eq_false_iff.mpr c7
        subst c7
        have H1 : (if a1 < 0 then (if 0 ≤ (wrap64 (a1 + (a0.size : Int))) then (if (wrap64 (a1 + (a0.size : Int))) ≤ (wrap64 ((wrap64 (a1 + (a0.size : Int))) + 1)) then (if (wrap64 ((wrap64 (a1 + (a0.size : Int))) + 1)) ≤ (a0.size : Int) then (some (a0.extract ((wrap64 (a1 + (a0.size : Int))) : Int).toNat ((wrap64 ((wrap64 (a1 + (a0.size : Int))) + 1)) : Int).toNat, true)) else (none)) else (none)) else (none)) else (if 0 ≤ a1 then (if a1 ≤ (wrap64 (a1 + 1)) then (if (wrap64 (a1 + 1)) ≤ (a0.size : Int) then (some (a0.extract (a1 : Int).toNat ((wrap64 (a1 + 1)) : Int).toNat, true)) else (none)) else (none)) else (none))) = some (r1, r2) := by rw [if_neg (show ¬ (false = true) by decide)] at H; exact H
        clear H
        have H := H1
        clear H1
        by_cases c8 : a1 < 0
        · rw [if_pos c8] at H
          have c8b0 : decide (a1 < 0) = true := decide_eq_true c8
          clear c8
          obtain ⟨ji9, hji9⟩ : ∃ j_ : Int, (wrap64 (a1 + (a0.size : Int))) = j_ := ⟨_, rfl⟩
          replace H : (if 0 ≤ (ji9) then (if (ji9) ≤ (wrap64 ((ji9) + 1)) then (if (wrap64 ((ji9) + 1)) ≤ (a0.size : Int) then (some (a0.extract ((ji9) : Int).toNat ((wrap64 ((ji9) + 1)) : Int).toNat, true)) else (none)) else (none)) else (none)) = some (r1, r2) := by first | (rw [hji9] at H; exact H) | (simp only [hji9] at H ⊢; exact H)
          have hji9w : (IntKind.i64.wrap (a1 + (a0.size : Int))) = ji9 := (i64_w _).trans hji9
          by_cases c10 : 0 ≤ (ji9)
          · rw [if_pos c10] at H
            have c10b0 := eq_true c10
            have c10b1 : decide (0 ≤ (ji9)) = true := decide_eq_true c10
            clear c10
            by_cases c11 : (ji9) ≤ (wrap64 ((ji9) + 1))
            · rw [if_pos c11] at H
              have c11b0 := eq_true c11
              have c11b1 : decide ((ji9) ≤ (wrap64 ((ji9) + 1))) = true := decide_eq_true c11
              by_cases c12 : (wrap64 ((ji9) + 1)) ≤ (a0.size : Int)
              · rw [if_pos c12] at H
                have c12b0 := eq_true c12
                have c12b1 : decide ((wrap64 ((ji9) + 1)) ≤ (a0.size : Int)) = true := decide_eq_true c12
                simp only [Option.some.injEq, Prod.mk.injEq] at H
                obtain ⟨rfl, rfl⟩ := H
                go_wp2
                go_ret2
                exact ⟨by first | rfl | (simp; done) | (simp only [← hji9] <;> (first | rfl | simp)) | (simp [*]; done), by repeat (first | exact Drawn0.refl _ | apply Drawn0.step)⟩
              · rw [if_neg c12] at H
                exact absurd H (by simp)
            · rw [if_neg c11] at H
              exact absurd H (by simp)
          · rw [if_neg c10] at H
            exact absurd H (by simp)
        · rw [if_neg c8] at H
          have c8b0 : decide (a1 < 0) = false := decide_eq_false c8
          clear c8
          by_cases c13 : 0 ≤ a1
          · rw [if_pos c13] at H
            have c13b0 := eq_true c13
            have c13b1 : decide (0 ≤ a1) = true := decide_eq_true c13
            clear c13
            by_cases c14 : a1 ≤ (wrap64 (a1 + 1))
            · rw [if_pos c14] at H
              have c14b0 := eq_true c14
              have c14b1 : decide (a1 ≤ (wrap64 (a1 + 1))) = true := decide_eq_true c14
              by_cases c15 : (wrap64 (a1 + 1)) ≤ (a0.size : Int)
              · rw [if_pos c15] at H
                have c15b0 := eq_true c15
                have c15b1 : decide ((wrap64 (a1 + 1)) ≤ (a0.size : Int)) = true := decide_eq_true c15
                simp only [Option.some.injEq, Prod.mk.injEq] at H
                obtain ⟨rfl, rfl⟩ := H
                go_wp2
                go_ret2
                exact ⟨by first | rfl | (simp; done) | (simp [*]; done), by repeat (first | exact Drawn0.refl _ | apply Drawn0.step)⟩
              · rw [if_neg c15] at H
                exact absurd H (by simp)
            · rw [if_neg c14] at H
              exact absurd H (by simp)
          · rw [if_neg c13] at H
            exact absurd H (by simp)

-- NOT PRINTED: function 94 (spec_exprStmt)


end Go.Proofs.YtdbaglgkbfjbnaaGreat.PFnRunsTexts

/- The draw of TextAt ends: a text, and one of few indices; TextAt of the program and of the reference. -/
set_option linter.unusedVariables false
set_option linter.unusedSimpArgs false
namespace Go.Proofs.YtdbaglgkbfjbnaaGreat.PFnRunsTexts
open Go.RowKit Go.Proofs.YtdbaglgkbfjbnaaGreatW.PrintWords Go.Proofs.YtdbaglgkbfjbnaaGreatW.PrintLast Go.Proofs.YtdbaglgkbfjbnaaGreatW.PrintMore

theorem one_ok {l : List Int} (hl : Bytes l) (hlen : l.length ≤ 1000000) {n : Int} (hn : 0 ≤ n) (hn' : n ≤ 1000000) (ss : List Int) (h2 : 2 ≤ ss.length) (h3 : ss.length ≤ 256) :
    ∃ b, spec_rnd_one.f l n ss = some (b, n + 1) ∧ b ∈ ss := by
  obtain ⟨r, h, r0, r1⟩ := pick_ok hl hlen hn hn' (a := (ss.length : Int)) (by omega) (by omega)
  unfold spec_rnd_one.f
  rw [h]
  simp only [Option.bind_some]
  rw [if_pos r0, if_pos r1]
  have hlt : r.toNat < ss.length := by omega
  refine ⟨_, rfl, ?_⟩
  unfold rd
  simp [List.getD, List.getElem?_eq_getElem hlt]

def oddVals : List Int := [(-1), 4611686018427387904, (-4611686018427387904), 1001, 7, 1000001, (-9223372036854775808), 9223372036854775807]

theorem odd_ok {l : List Int} (hl : Bytes l) (hlen : l.length ≤ 1000000) {n : Int} (hn : 0 ≤ n) (hn' : n ≤ 1000000) :
    ∃ b, spec_rnd_odd.f l n = some (b, n + 1) ∧ b ∈ oddVals := by
  obtain ⟨b, h, hb⟩ := one_ok hl hlen hn hn' oddVals (by decide) (by decide)
  unfold oddVals at h
  refine ⟨b, ?_, hb⟩
  unfold spec_rnd_odd.f
  rw [h]
  rfl

theorem often_ok {l : List Int} (hl : Bytes l) (hlen : l.length ≤ 1000000) {n : Int} (hn : 0 ≤ n) (hn' : n ≤ 900000) (a : Int) :
    ∃ b n', spec_rnd_often.f l n a = some (b, n') ∧ (b = a ∨ b ∈ oddVals) ∧ n ≤ n' ∧ n' ≤ n + 2 := by
  obtain ⟨r, h, r0, r1⟩ := pick_ok hl hlen hn (by omega) (a := 16) (by omega) (by omega)
  obtain ⟨b, hb, hm⟩ := odd_ok hl hlen (n := n + 1) (by omega) (by omega)
  unfold spec_rnd_often.f
  rw [h]
  simp only [Option.bind_some]
  by_cases hr : r = 0
  · rw [if_pos hr, hb]
    exact ⟨b, n + 1 + 1, rfl, .inr hm, by omega, by omega⟩
  · rw [if_neg hr]
    exact ⟨a, n + 1, rfl, .inl rfl, by omega, by omega⟩

theorem newRnd_ok {l : List Int} (hl : Bytes l) : ∃ l', Bytes l' ∧ l'.length ≤ 1000000 ∧ spec_newRnd.f l = some (l', 0) := by
  unfold spec_newRnd.f
  have hm : 0 ≤ mn (l.length : Int) 4000 ∧ mn (l.length : Int) 4000 ≤ (l.length : Int) ∧ mn (l.length : Int) 4000 ≤ 4000 := by
    unfold mn; omega
  rw [if_pos hm.1, if_pos hm.2.1]
  exact ⟨_, fun x hx => hl x (List.mem_of_mem_take hx), by rw [List.length_take]; omega, rfl⟩

/-- The indices that are drawn. -/
def atVals : List Int := [-10, -9, -8, -7, -6, -5, -4, -3, -2, -1, 0, 1, 2, 3, 4, 5, 6, 7, 8, 9] ++ oddVals

theorem small_mem {i : Int} (h0 : -10 ≤ i) (h1 : i ≤ 9) : i ∈ atVals := by
  have : i = -10 ∨ i = -9 ∨ i = -8 ∨ i = -7 ∨ i = -6 ∨ i = -5 ∨ i = -4 ∨ i = -3 ∨ i = -2 ∨ i = -1 ∨ i = 0 ∨ i = 1 ∨ i = 2 ∨ i = 3 ∨ i = 4 ∨ i = 5 ∨ i = 6 ∨ i = 7 ∨ i = 8 ∨ i = 9 := by omega
  rcases this with h | h | h | h | h | h | h | h | h | h | h | h | h | h | h | h | h | h | h | h <;> subst h <;> decide

theorem drawTextAt_ok {l : List Int} (hl : Bytes l) : ∃ k s i, spec_DrawTextAt.f k l = some (s, i) ∧ s.size ≤ 500 ∧ i ∈ atVals := by
  obtain ⟨l', hl', hlen', hnew⟩ := newRnd_ok hl
  obtain ⟨s, n1, hs, a1, a2, h1⟩ := text_ok hl' hlen' (n := 0) (by omega) (by omega)
  obtain ⟨r, hp, r0, r1⟩ := pick_ok hl' hlen' (n := n1) (by omega) (by omega) (a := 20) (by omega) (by omega)
  obtain ⟨b, n2, ho, hb, _, _⟩ := often_ok hl' hlen' (n := n1 + 1) (by omega) (by omega) (wrap64 (r - 10))
  refine ⟨500, s, b, ?_, hs, ?_⟩
  · unfold spec_DrawTextAt.f
    rw [hnew]
    simp only [Option.bind_some]
    rw [h1 500 (by omega)]
    simp only [Option.bind_some]
    rw [hp]
    simp only [Option.bind_some]
    rw [ho]
    rfl
  · rcases hb with rfl | hb
    · rw [wrap_small (by omega) (by omega)]
      exact small_mem (by omega) (by omega)
    · exact List.mem_append_right _ hb

/-- Where an index leads. -/
def place (s : ByteArray) (i : Int) : Int := if i < 0 then i + s.size else i
def byteAt (s : ByteArray) (i : Int) : ByteArray := s.extract (place s i).toNat (place s i + 1).toNat
def atOut (s : ByteArray) (i : Int) : Bool := decide (i < -(s.size : Int) ∨ (s.size : Int) ≤ i)
def atRes (s : ByteArray) (i : Int) : ByteArray × Bool := if s.size ≤ 400 ∧ atOut s i = false then (byteAt s i, true) else (⟨#[]⟩, false)

theorem implAt_ok (s : ByteArray) (i : Int) (hs : s.size ≤ 500) : impl_TextAt.f 1 s i = some (atRes s i) := by
  have hw : wrap64 (-(s.size : Int)) = -(s.size : Int) := wrap_small (by omega) (by omega)
  unfold impl_TextAt.f atRes atOut
  rw [hw]
  by_cases h4 : (s.size : Int) > 400
  · rw [if_pos h4, if_neg (by omega)]; simp [impl_TextAt.j0]
  · rw [if_neg h4]
    by_cases h1 : i < -(s.size : Int)
    · rw [if_pos h1, if_neg (by simp [h1])]; simp [impl_TextAt.j0]
    · rw [if_neg h1]
      by_cases h2 : i ≥ (s.size : Int)
      · have e : decide (i ≥ (s.size : Int)) = true := decide_eq_true h2
        rw [e, if_neg (by simp; intro _ _; omega)]
        simp [impl_TextAt.j0]
      · have e : decide (i ≥ (s.size : Int)) = false := decide_eq_false h2
        rw [e, if_pos ⟨by omega, by simp; omega⟩]
        simp only [impl_TextAt.j0, Bool.false_eq_true, if_false]
        unfold byteAt place
        by_cases h0 : i < 0
        · rw [if_pos h0, if_pos h0]
          have e1 : wrap64 (i + (s.size : Int)) = i + s.size := wrap_small (by omega) (by omega)
          have e2 : wrap64 (i + (s.size : Int) + 1) = i + s.size + 1 := wrap_small (by omega) (by omega)
          rw [e1, e2, if_pos (by omega), if_pos (by omega), if_pos (by omega)]
        · rw [if_neg h0, if_neg h0]
          have e2 : wrap64 (i + 1) = i + 1 := wrap_small (by omega) (by omega)
          rw [e2, if_pos (by omega), if_pos (by omega), if_pos (by omega)]

theorem specAt_ok (s : ByteArray) (i : Int) (hs : s.size ≤ 500) : spec_TextAt.f 1 s i = some (atRes s i) := by
  have hw : wrap64 (-(s.size : Int)) = -(s.size : Int) := wrap_small (by omega) (by omega)
  have hw2 : wrap64 ((s.size : Int) - 1) = (s.size : Int) - 1 := wrap_small (by omega) (by omega)
  unfold spec_TextAt.f spec_validText.f spec_inRange.f atRes atOut
  rw [hw, hw2]
  simp only [Option.bind_some]
  by_cases h4 : (s.size : Int) ≤ 400
  · rw [decide_eq_true h4, if_pos rfl]
    by_cases h1 : i ≥ -(s.size : Int)
    · rw [if_pos h1]
      simp only [Option.bind_some]
      by_cases h2 : i ≤ (s.size : Int) - 1
      · have e : decide (i ≤ (s.size : Int) - 1) = true := decide_eq_true h2
        rw [e, if_pos ⟨by omega, by simp; omega⟩]
        simp only [spec_TextAt.j0, Bool.not_true, Bool.false_eq_true, if_false]
        unfold byteAt place
        by_cases h0 : i < 0
        · rw [if_pos h0, if_pos h0]
          have e1 : wrap64 (i + (s.size : Int)) = i + s.size := wrap_small (by omega) (by omega)
          have e2 : wrap64 (i + (s.size : Int) + 1) = i + s.size + 1 := wrap_small (by omega) (by omega)
          rw [e1, e2, if_pos (by omega), if_pos (by omega), if_pos (by omega)]
        · rw [if_neg h0, if_neg h0]
          have e2 : wrap64 (i + 1) = i + 1 := wrap_small (by omega) (by omega)
          rw [e2, if_pos (by omega), if_pos (by omega), if_pos (by omega)]
      · have e : decide (i ≤ (s.size : Int) - 1) = false := decide_eq_false h2
        rw [e, if_neg (by simp; intro _ _; omega)]
        simp [spec_TextAt.j0]
    · rw [if_neg h1, if_neg (by simp; intro _ _; omega)]
      simp [spec_TextAt.j0]
  · rw [decide_eq_false h4, if_neg (by simp), if_neg (by omega)]
    simp [spec_TextAt.j0]
end Go.Proofs.YtdbaglgkbfjbnaaGreat.PFnRunsTexts
