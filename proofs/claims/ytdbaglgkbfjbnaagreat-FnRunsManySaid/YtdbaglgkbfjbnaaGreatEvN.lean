/- strings.Repeat, off the shelf. -/
import Derived.Test.YtdbaglgkbfjbnaaGreatProg
import Derived.Shelf.Strings.Repeat
import Derived.KernelRfl
import Derived.Test.YtdbaglgkbfjbnaaGreatPFnRunsTextsx0
import Derived.Test.YtdbaglgkbfjbnaaGreatEvS
import Derived.Lib.Repeat

set_option linter.unusedVariables false
namespace Go.Proofs
open Go.Shelf Go.RowKit Go.Lib

def X.ren2 : Ren where
  f := fun n => if n = 105 then 63 else if n = 165 then 100 else if n = 166 then 101 else if n = 169 then 103 else if n = 170 then 102 else if n = 206 then 152 else if n = 212 then 98 else if n = 240 then 153 else if n = 241 then 154 else if n = 263 then 150 else if n = 264 then 151 else if n = 276 then 200 else if n = 277 then 201 else n
  t := fun n => if n = 37 then 22 else if n = 46 then 137 else if n = 51 then 196 else if n = 53 then 199 else if n = 70 then 141 else if n = 72 then 143 else if n = 75 then 146 else if n = 76 then 147 else if n = 80 then 44 else if n = 109 then 138 else if n = 127 then 202 else if n = 146 then 197 else if n = 148 then 200 else if n = 164 then 245 else n
  g := fun n => n

theorem X.lay2 : Lays.n105 Tryz.prog X.ren2 where
  mixed := by kernel_rfl
  f99 := by kernel_rfl
  f105 := by kernel_rfl
  f165 := by kernel_rfl
  f166 := by kernel_rfl
  f169 := by kernel_rfl
  f170 := by kernel_rfl
  f206 := by kernel_rfl
  f212 := by kernel_rfl
  f240 := by kernel_rfl
  f241 := by kernel_rfl
  f263 := by kernel_rfl
  f264 := by kernel_rfl
  f276 := by kernel_rfl
  f277 := by kernel_rfl
  t0 := by kernel_rfl
  a0 := fun w => Tryz.isAgg0 w
  z0 := fun w => Tryz.sizeOf0 w
  v0 := fun w => Tryz.zeroValue0 w
  t3 := by kernel_rfl
  a3 := fun w => Tryz.isAgg3 w
  z3 := fun w => Tryz.sizeOf3 w
  v3 := fun w => Tryz.zeroValue3 w
  t4 := by kernel_rfl
  a4 := fun w => Tryz.isAgg4 w
  z4 := fun w => Tryz.sizeOf4 w
  v4 := fun w => Tryz.zeroValue4 w
  t5 := by kernel_rfl
  a5 := fun w => Tryz.isAgg5 w
  z5 := fun w => Tryz.sizeOf5 w
  v5 := fun w => Tryz.zeroValue5 w
  t9 := by kernel_rfl
  a9 := fun w => Tryz.isAgg9 w
  z9 := fun w => Tryz.sizeOf9 w
  v9 := fun w => Tryz.zeroValue9 w
  t20 := by kernel_rfl
  a20 := fun w => Tryz.isAgg20 w
  z20 := fun w => Tryz.sizeOf20 w
  v20 := fun w => Tryz.zeroValue20 w
  t37 := by kernel_rfl
  a37 := fun w => Tryz.isAgg22 w
  z37 := fun w => Tryz.sizeOf22 w
  v37 := fun w => Tryz.zeroValue22 w
  t46 := by kernel_rfl
  a46 := fun w => Tryz.isAgg137 w
  z46 := fun w => Tryz.sizeOf137 w
  v46 := fun w => Tryz.zeroValue137 w
  t51 := by kernel_rfl
  a51 := fun w => Tryz.isAgg196 w
  z51 := fun w => Tryz.sizeOf196 w
  v51 := fun w => Tryz.zeroValue196 w
  t53 := by kernel_rfl
  a53 := fun w => Tryz.isAgg199 w
  z53 := fun w => Tryz.sizeOf199 w
  v53 := fun w => Tryz.zeroValue199 w
  t70 := by kernel_rfl
  a70 := fun w => Tryz.isAgg141 w
  z70 := fun w => Tryz.sizeOf141 w
  v70 := fun w => Tryz.zeroValue141 w
  t72 := by kernel_rfl
  a72 := fun w => Tryz.isAgg143 w
  z72 := fun w => Tryz.sizeOf143 w
  v72 := fun w => Tryz.zeroValue143 w
  t75 := by kernel_rfl
  a75 := fun w => Tryz.isAgg146 w
  z75 := fun w => Tryz.sizeOf146 w
  v75 := fun w => Tryz.zeroValue146 w
  t76 := by kernel_rfl
  a76 := fun w => Tryz.isAgg147 w
  z76 := fun w => Tryz.sizeOf147 w
  v76 := fun w => Tryz.zeroValue147 w
  t109 := by kernel_rfl
  a109 := fun w => Tryz.isAgg138 w
  z109 := fun w => Tryz.sizeOf138 w
  v109 := fun w => Tryz.zeroValue138 w
  t127 := by kernel_rfl
  a127 := fun w => Tryz.isAgg202 w
  z127 := fun w => Tryz.sizeOf202 w
  v127 := fun w => Tryz.zeroValue202 w
  t146 := by kernel_rfl
  a146 := fun w => Tryz.isAgg197 w
  z146 := fun w => Tryz.sizeOf197 w
  v146 := fun w => Tryz.zeroValue197 w
  t148 := by kernel_rfl
  a148 := fun w => Tryz.isAgg200 w
  z148 := fun w => Tryz.sizeOf200 w
  v148 := fun w => Tryz.zeroValue200 w
  t164 := by kernel_rfl
  a164 := fun w => Tryz.isAgg245 w
  z164 := fun w => Tryz.sizeOf245 w
  v164 := fun w => Tryz.zeroValue245 w

theorem X.extra2 : Builder.Extra Tryz.prog X.ren2 where
  sizeBuilder := by kernel_rfl
  liesBuilder := by kernel_rfl
  t5 := X.lay2.t5
  a5 := X.lay2.a5
  z5 := X.lay2.z5
  v5 := X.lay2.v5
  infoByte := by kernel_rfl
  cellsByte := by kernel_rfl
  sizeByte := by kernel_rfl
  neB5 := by decide

theorem X.repeats (s : ByteArray) (c : Nat) (w : World) (hc : c ≤ 9223372036854775807) (hlen : s.size * c ≤ 140737488355328) :
    Calls Tryz.prog 63 #[.string s, .int .i64 c] w fun e w' => e = .returned (.string ⟨(Lib.repeatL s.data.toList c).toArray⟩) ∧ Below w.heap.size w w' :=
  Any.strings_Repeat X.lay2 X.extra2 s c w hc hlen
end Go.Proofs

/- The draw of TextMany, and TextMany of the reference: what each returns (after the print of the kit, without its monotony). -/
namespace Go.Proofs.YtdbaglgkbfjbnaaGreat.PFnRunsTexts
open Go.RowKit Go.Proofs.YtdbaglgkbfjbnaaGreatW.PrintWords Go.Proofs.YtdbaglgkbfjbnaaGreatW.PrintLast Go.Proofs.YtdbaglgkbfjbnaaGreatW.PrintMore
attribute [local go_sem] max2_int min2_int max_two min_two max_three min_three max_four min_four   -- for this text's walks alone
set_option linter.unusedVariables false
set_option linter.unusedSimpArgs false

/-! ### spec_DrawTextMany: function 19 -/
def spec_DrawTextMany.f (k : Nat) (l0 : List Int) : Option (ByteArray × Int) := (spec_newRnd.f l0).bind fun bt422 => ((spec_rnd_text.f k bt422.1 bt422.2).bind fun bt425 => ((spec_rnd_pick.f bt422.1 bt425.2 60).bind fun bt427 => ((spec_rnd_often.f bt422.1 bt427.2 (wrap64 (bt427.1 - 3))).bind fun bt429 => (some (bt425.1, bt429.1)))))
set_option maxHeartbeats 8000000 in
set_option maxRecDepth 100000 in
theorem spec_DrawTextMany.calls (k : Nat) (A0 : Option Addr) (c0 : Nat) (l0 : List Int) (r1 : ByteArray) (r2 : Int) (w : World) (hr0 : Kd.C (Kd.int .u8) w A0 l0.length l0) (hc0 : l0.length ≤ c0) (h : spec_DrawTextMany.f k l0 = some (r1, r2)) :
    Calls Tryz.prog 19 #[.slice A0 l0.length c0] w fun e w' => e = .returned (.tuple #[.string r1, .int .i64 r2]) ∧ Below w.heap.size w w' := by
  have HR0 := Aside0.mk hr0
  have HC0 := Aside0.mk hc0
  clear hr0 hc0
  have HB := Aside0.mk (Below.refl w.heap.size w)
  have H : ((spec_newRnd.f l0).bind fun bt422 => ((spec_rnd_text.f k bt422.1 bt422.2).bind fun bt425 => ((spec_rnd_pick.f bt422.1 bt425.2 60).bind fun bt427 => ((spec_rnd_often.f bt422.1 bt427.2 (wrap64 (bt427.1 - 3))).bind fun bt429 => (some (bt425.1, bt429.1)))))) = some (r1, r2) := h
  clear h
  replace H := Option.bind_eq_some_iff.mp H
  obtain ⟨⟨t422, t423⟩, A20, H⟩ := H
  replace H : ((spec_rnd_text.f k t422 t423).bind fun bt425 => ((spec_rnd_pick.f t422 bt425.2 60).bind fun bt427 => ((spec_rnd_often.f t422 bt427.2 (wrap64 (bt427.1 - 3))).bind fun bt429 => (some (bt425.1, bt429.1))))) = some (r1, r2) := H
  have A2 := Aside0.mk A20
  clear A20
  replace H := Option.bind_eq_some_iff.mp H
  obtain ⟨⟨t425, t426⟩, A30, H⟩ := H
  replace H : ((spec_rnd_pick.f t422 t426 60).bind fun bt427 => ((spec_rnd_often.f t422 bt427.2 (wrap64 (bt427.1 - 3))).bind fun bt429 => (some (t425, bt429.1)))) = some (r1, r2) := H
  have A3 := Aside0.mk A30
  clear A30
  replace H := Option.bind_eq_some_iff.mp H
  obtain ⟨⟨t427, t428⟩, A40, H⟩ := H
  replace H : ((spec_rnd_often.f t422 t428 (wrap64 (t427 - 3))).bind fun bt429 => (some (t425, bt429.1))) = some (r1, r2) := H
  have A4 := Aside0.mk A40
  clear A40
  replace H := Option.bind_eq_some_iff.mp H
  obtain ⟨⟨t429, t430⟩, A50, H⟩ := H
  replace H : (some (t425, t429)) = some (r1, r2) := H
  have A5 := Aside0.mk A50
  clear A50
  simp only [Option.some.injEq, Prod.mk.injEq] at H
  obtain ⟨rfl, rfl⟩ := H
  go_enter Tryz.func19, Tryz.ntmps19
  go_wp2_with (first | ((with_reducible refine gate_callee (f := 48) rfl ?_); refine goesL_ (some 7) rfl rfl Tryz.func48 (by kernel_rfl) rfl #[.slice A0 l0.length c0] rfl (by (try simp only [List.map_toArray, List.map_cons, List.map_nil]); first | done | rfl | (simp only [List.length_drop, List.length_take]; rfl)) ?_; (with_reducible refine (spec_newRnd.calls _ _ l0 t422 t423 w _ ?side1 ?side2 ?side3 A2.out).mono ?_); (case side1 => repeat (first | (with_reducible first | exact HB.out | apply below_alloc | apply pw_below_drewN | apply below_drew1) | exact HB.out)); (case side2 => exact HR0.out); (case side3 => exact HC0.out); rintro e w6 ⟨g424, rfl, hi, hb, hb2⟩; refine ⟨_, rfl, ?_⟩; have n0_ := Aside0.mk (hb); have n1_ := Aside0.mk (hi); clear HB; have HB := n0_; have HI424 := n1_; clear n0_ n1_; (try clear hb); (try clear hb2); (try clear hk); (try clear hi)) | ((with_reducible refine gate_callee (f := 49) rfl ?_); refine goesL_ (some 9) rfl rfl Tryz.func49 (by kernel_rfl) rfl #[.pointer (some ⟨g424, 0, none⟩)] rfl (by (try simp only [List.map_toArray, List.map_cons, List.map_nil]); first | done | rfl | (simp only [List.length_drop, List.length_take]; rfl)) ?_; (with_reducible refine (spec_rnd_text.calls k g424 t422 t423 t425 t426 w _ ?side1 ?side2 A3.out).mono ?_); (case side1 => repeat (first | (with_reducible first | exact HI424.out | apply IsS84.alloc | apply IsS84.drewN | apply IsS84.drew | apply IsS84.set_1) | exact HI424.out)); (case side2 => repeat (first | (with_reducible first | exact HB.out | apply below_alloc | apply pw_below_drewN | apply below_drew1 | refine below_set ?_ (IsS84.ge HI424.out)) | exact HB.out)); rintro e w7 ⟨rfl, hi, hb, hk⟩; refine ⟨_, rfl, ?_⟩; have n0_ := Aside0.mk (hb); have n1_ := Aside0.mk (hi); clear HB; clear HI424; have HB := n0_; have HI424 := n1_; clear n0_ n1_; (try clear hb); (try clear hb2); (try clear hk); (try clear hi)) | ((with_reducible refine gate_callee (f := 62) rfl ?_); refine goesL_ (some 13) rfl rfl Tryz.func62 (by kernel_rfl) rfl #[.pointer (some ⟨g424, 0, none⟩), .int .i64 60] rfl (by (try simp only [List.map_toArray, List.map_cons, List.map_nil]); first | done | rfl | (simp only [List.length_drop, List.length_take]; rfl)) ?_; (with_reducible refine (spec_rnd_pick.calls g424 t422 t426 60 t427 t428 w _ ?side1 ?side2 A4.out).mono ?_); (case side1 => repeat (first | (with_reducible first | exact HI424.out | apply IsS84.alloc | apply IsS84.drewN | apply IsS84.drew | apply IsS84.set_1) | exact HI424.out)); (case side2 => repeat (first | (with_reducible first | exact HB.out | apply below_alloc | apply pw_below_drewN | apply below_drew1 | refine below_set ?_ (IsS84.ge HI424.out)) | exact HB.out)); rintro e w8 ⟨rfl, hi, hb, hk⟩; refine ⟨_, rfl, ?_⟩; have n0_ := Aside0.mk (hb); have n1_ := Aside0.mk (hi); clear HB; clear HI424; have HB := n0_; have HI424 := n1_; clear n0_ n1_; (try clear hb); (try clear hb2); (try clear hk); (try clear hi)) | ((with_reducible refine gate_callee (f := 61) rfl ?_); refine goesL_ (some 15) rfl rfl Tryz.func61 (by kernel_rfl) rfl #[.pointer (some ⟨g424, 0, none⟩), .int .i64 (wrap64 (t427 - 3))] rfl (by (try simp only [List.map_toArray, List.map_cons, List.map_nil]); first | done | rfl | (simp only [List.length_drop, List.length_take]; rfl)) ?_; (with_reducible refine (spec_rnd_often.calls g424 t422 t428 (wrap64 (t427 - 3)) t429 t430 w _ ?side1 ?side2 A5.out).mono ?_); (case side1 => repeat (first | (with_reducible first | exact HI424.out | apply IsS84.alloc | apply IsS84.drewN | apply IsS84.drew | apply IsS84.set_1) | exact HI424.out)); (case side2 => repeat (first | (with_reducible first | exact HB.out | apply below_alloc | apply pw_below_drewN | apply below_drew1 | refine below_set ?_ (IsS84.ge HI424.out)) | exact HB.out)); rintro e w9 ⟨rfl, hi, hb, hk⟩; refine ⟨_, rfl, ?_⟩; have n0_ := Aside0.mk (hb); have n1_ := Aside0.mk (hi); clear HB; clear HI424; have HB := n0_; have HI424 := n1_; clear n0_ n1_; (try clear hb); (try clear hb2); (try clear hk); (try clear hi)))
  go_ret2
  exact ⟨by first | rfl | (simp [errW_none, errW_some] <;> rfl) | (simp [*, errW_none, errW_some] <;> rfl), by repeat (first | (with_reducible first | exact HB.out | apply below_alloc | apply pw_below_drewN | apply below_drew1 | refine below_set ?_ (IsS84.ge HI424.out)) | exact HB.out)⟩

/-! ### spec_TextMany: function 21 -/
mutual
def spec_TextMany.j0 : Nat → ByteArray → Int → Bool → Option (ByteArray × Bool)
  | 0, _, _, _ => none
  | k + 1, x0, x1, x16 => if x16 = true then (some ((⟨#[]⟩ : ByteArray), true)) else (if (x0.size : Int) = 0 then (none) else (if x1 > ((400 : Int) / (x0.size : Int)) then (some ((⟨#[]⟩ : ByteArray), false)) else (spec_TextMany.l0 k x0 x1 (⟨#[]⟩ : ByteArray) 0)))
def spec_TextMany.l0 : Nat → ByteArray → Int → ByteArray → Int → Option (ByteArray × Bool)
  | 0, _, _, _, _ => none
  | k + 1, x0, x1, x6, x7 => if x7 < x1 then (if x6.size + x0.size ≤ 9223372036854775807 then (spec_TextMany.l0 k x0 x1 (x6 ++ x0) (wrap64 (x7 + 1))) else (none)) else (some (x6, true))
end
def spec_TextMany.f (k : Nat) (a0 : ByteArray) (a1 : Int) : Option (ByteArray × Bool) := (spec_validText.f a0).bind fun t439 => (if t439 = true then (if a1 ≤ 0 then (spec_TextMany.j0 k a0 a1 true) else (spec_TextMany.j0 k a0 a1 (a0.toList == ([] : List UInt8)))) else (some ((⟨#[]⟩ : ByteArray), false)))
set_option maxHeartbeats 8000000 in
set_option maxRecDepth 100000 in
theorem spec_TextMany.calls (k : Nat) (a0 : ByteArray) (a1 : Int) (r1 : ByteArray) (r2 : Bool) (w : World) (h : spec_TextMany.f k a0 a1 = some (r1, r2)) :
    Calls Tryz.prog 21 #[.string a0, .int .i64 a1] w fun e w' => e = .returned (.tuple #[.string r1, .bool r2]) ∧ Drawn0 w w' := by
  have H : ((spec_validText.f a0).bind fun t439 => (if t439 = true then (if a1 ≤ 0 then (spec_TextMany.j0 k a0 a1 true) else (spec_TextMany.j0 k a0 a1 (a0.toList == ([] : List UInt8)))) else (some ((⟨#[]⟩ : ByteArray), false)))) = some (r1, r2) := h
  clear h
  replace H := Option.bind_eq_some_iff.mp H
  obtain ⟨t439, A30, H⟩ := H
  replace H : (if t439 = true then (if a1 ≤ 0 then (spec_TextMany.j0 k a0 a1 true) else (spec_TextMany.j0 k a0 a1 (a0.toList == ([] : List UInt8)))) else (some ((⟨#[]⟩ : ByteArray), false))) = some (r1, r2) := H
  have A3 := Aside0.mk A30
  clear A30
  by_cases c4 : t439 = true
  · subst c4
    have H1 : (if a1 ≤ 0 then (spec_TextMany.j0 k a0 a1 true) else (spec_TextMany.j0 k a0 a1 (a0.toList == ([] : List UInt8)))) = some (r1, r2) := by rw [if_pos rfl] at H; exact H
    clear H
    have H := H1
    clear H1
    have HC5 := Aside0.mk H
    clear H
    go_enter Tryz.func21, Tryz.ntmps21
    go_upto_region 3 with (first | ((with_reducible refine gate_callee (f := 53) rfl ?_); refine goesL_ (some 9) rfl rfl Tryz.func53 (by kernel_rfl) rfl #[.string a0] rfl (by (try simp only [List.map_toArray, List.map_cons, List.map_nil]); first | done | rfl | (simp only [List.length_drop, List.length_take]; rfl)) ?_; (with_reducible refine (spec_validText.calls a0 true _ A3.out).mono ?_); rintro e w' ⟨rfl, ⟨nd, rfl⟩⟩; refine ⟨_, rfl, ?_⟩))
    (try simp only [Act.put, List.setIfInBounds_toArray, List.set_cons_zero, List.set_cons_succ])
    go_cut [16] (fun v16 wc => ∃ (kq : Nat) (x16_4 : Bool), v16 = .bool x16_4 ∧ Aside0 (spec_TextMany.j0 kq a0 a1 x16_4 = some (r1, r2)) ∧ Aside0 (kq ≤ k) ∧ Drawn0 w wc)
    case first =>
      have H := HC5.out
      clear HC5
      by_cases c6 : a1 ≤ 0
      · rw [if_pos c6] at H
        have c6b0 : decide (a1 ≤ 0) = true := decide_eq_true c6
        clear c6
        (first | rw [c6b0] | (simp only [i64_w, i32_w]; rw [c6b0]) | skip)
        have H' := Aside0.mk H
        clear H
        go_wp2
        go_meet
        case rel => exact ⟨_, (true), (by first | rfl | (simp; done) | (simp [*]; done)), H', ⟨by first | omega | exact Nat.le_refl _⟩, by repeat (first | exact Drawn0.refl _ | apply Drawn0.step)⟩
      · rw [if_neg c6] at H
        have c6b0 : decide (a1 ≤ 0) = false := decide_eq_false c6
        clear c6
        (first | rw [c6b0] | (simp only [i64_w, i32_w]; rw [c6b0]) | skip)
        have H' := Aside0.mk H
        clear H
        go_wp2
        go_meet
        case rel => exact ⟨_, ((a0.toList == ([] : List UInt8))), (by first | rfl | (simp; done) | (simp [*]; done)), H', ⟨by first | omega | exact Nat.le_refl _⟩, by repeat (first | exact Drawn0.refl _ | apply Drawn0.step)⟩
    case rest =>
      clear HC5
      try clear c2
      try clear p2
      try clear c4
      try clear c5
      try clear c6
      try clear c6b0
      obtain ⟨kq, x16_4, rfl, HA, HJ4, ⟨mc4, rfl⟩⟩ := hcut
      cases kq with
      | zero => exact absurd HA.out (by simp [spec_TextMany.j0])
      | succ kj4 =>
        have H := HA.out
        clear HA
        simp only [spec_TextMany.j0] at H
        by_cases c7 : x16_4 = true
        · subst c7
          have H1 : (some ((⟨#[]⟩ : ByteArray), true)) = some (r1, r2) := by rw [if_pos rfl] at H; exact H
          clear H
          have H := H1
          clear H1
          simp only [Option.some.injEq, Prod.mk.injEq] at H
          obtain ⟨rfl, rfl⟩ := H
          go_wp2
          go_ret2
          exact ⟨by first | rfl | (simp; done) | (simp [*]; done), by repeat (first | exact Drawn0.refl _ | apply Drawn0.step)⟩
        · replace c7 := Bool.eq_false_iff.mpr c7
          subst c7
          have H1 : (if (a0.size : Int) = 0 then (none) else (if a1 > ((400 : Int) / (a0.size : Int)) then (some ((⟨#[]⟩ : ByteArray), false)) else (spec_TextMany.l0 kj4 a0 a1 (⟨#[]⟩ : ByteArray) 0))) = some (r1, r2) := by rw [if_neg (show ¬ (false = true) by decide)] at H; exact H
          clear H
          have H := H1
          clear H1
          by_cases c8 : (a0.size : Int) = 0
          · rw [if_pos c8] at H
            exact absurd H (by simp)
          · rw [if_neg c8] at H
            have c8b0 : ((a0.size : Int) == 0) = false := beq_eq_false_iff_ne.mpr c8
            have c8b1 : ((a0.size : Int) != 0) = true := bne_iff_ne.mpr c8
            by_cases c9 : a1 > ((400 : Int) / (a0.size : Int))
            · rw [if_pos c9] at H
              have c9b0 : decide (((400 : Int) / (a0.size : Int)) < a1) = true := decide_eq_true c9
              clear c9
              simp only [Option.some.injEq, Prod.mk.injEq] at H
              obtain ⟨rfl, rfl⟩ := H
              go_wp2
              go_ret2
              exact ⟨by first | rfl | (simp; done) | (simp [*]; done), by repeat (first | exact Drawn0.refl _ | apply Drawn0.step)⟩
            · rw [if_neg c9] at H
              have c9b0 : decide (((400 : Int) / (a0.size : Int)) < a1) = false := decide_eq_false c9
              clear c9
              have H' := Aside0.mk H
              clear H
              go_wp2
              go_loopg [6, 7] kj4 (fun kq v6 v7 w' => ∃ (x6_2 : ByteArray) (x7_2 : Int), v6 = .string x6_2 ∧ v7 = .int .i64 x7_2 ∧ Aside0 (spec_TextMany.l0 kq a0 a1 x6_2 x7_2 = some (r1, r2)) ∧ Aside0 (kq ≤ kj4) ∧ Drawn0 w w')
              case atStart => exact ⟨((⟨#[]⟩ : ByteArray)), (0), (by first | rfl | (simp; done) | (simp [*]; done)), (by first | rfl | (simp; done) | (simp [*]; done)), H', ⟨Nat.le_refl _⟩, by repeat (first | exact Drawn0.refl _ | apply Drawn0.step)⟩
              case round =>
                clear H'
                try clear c2
                try clear p2
                try clear c4
                try clear c5
                try clear c6
                try clear c6b0
                try clear p6
                try clear c7
                try clear c8
                try clear c8b0
                try clear c8b1
                try clear c9
                try clear c9b0
                try clear p2
                obtain ⟨x6_2, x7_2, rfl, rfl, HA, HK2, ⟨m2, rfl⟩⟩ := hrel
                cases gk with
                | zero => exact absurd HA.out (by simp [spec_TextMany.l0])
                | succ k2 =>
                  have H := HA.out
                  clear HA
                  simp only [spec_TextMany.l0] at H
                  by_cases c10 : x7_2 < a1
                  · rw [if_pos c10] at H
                    have c10b0 : decide (x7_2 < a1) = true := decide_eq_true c10
                    clear c10
                    by_cases c11 : x6_2.size + a0.size ≤ 9223372036854775807
                    · rw [if_pos c11] at H
                      have c11b0 := eq_true c11
                      have c11b1 : decide (x6_2.size + a0.size ≤ 9223372036854775807) = true := decide_eq_true c11
                      try have c11b2 : (9223372036854775807 < x6_2.size + a0.size) = False := eq_false (Nat.not_lt.2 c11)
                      have H' := Aside0.mk H
                      clear H
                      go_wp2
                      go_roundg k2
                      case measure => have := HJ4.out; have := HK2.out; omega
                      case rel => exact ⟨(x6_2 ++ a0), (wrap64 (x7_2 + 1)), (by first | rfl | (simp; done) | (simp [*]; done)), (by first | rfl | (simp; done) | (simp [*]; done)), H', ⟨by have := HJ4.out; have := HK2.out; omega⟩, by repeat (first | exact Drawn0.refl _ | apply Drawn0.step)⟩
                    · rw [if_neg c11] at H
                      exact absurd H (by simp)
                  · rw [if_neg c10] at H
                    have c10b0 : decide (x7_2 < a1) = false := decide_eq_false c10
                    clear c10
                    simp only [Option.some.injEq, Prod.mk.injEq] at H
                    obtain ⟨rfl, rfl⟩ := H
                    go_wp2
                    go_ret2
                    exact ⟨by first | rfl | (simp; done) | (simp [*]; done), by repeat (first | exact Drawn0.refl _ | apply Drawn0.step)⟩
  · replace c4 := Bool.eq_false_iff.mpr c4
    subst c4
    have H1 : (some ((⟨#[]⟩ : ByteArray), false)) = some (r1, r2) := by rw [if_neg (show ¬ (false = true) by decide)] at H; exact H
    clear H
    have H := H1
    clear H1
    simp only [Option.some.injEq, Prod.mk.injEq] at H
    obtain ⟨rfl, rfl⟩ := H
    go_enter Tryz.func21, Tryz.ntmps21
    go_wp2_with (first | ((with_reducible refine gate_callee (f := 53) rfl ?_); refine goesL_ (some 9) rfl rfl Tryz.func53 (by kernel_rfl) rfl #[.string a0] rfl (by (try simp only [List.map_toArray, List.map_cons, List.map_nil]); first | done | rfl | (simp only [List.length_drop, List.length_take]; rfl)) ?_; (with_reducible refine (spec_validText.calls a0 false _ A3.out).mono ?_); rintro e w' ⟨rfl, ⟨nd, rfl⟩⟩; refine ⟨_, rfl, ?_⟩))
    go_ret2
    exact ⟨by first | rfl | (simp; done) | (simp [*]; done), by repeat (first | exact Drawn0.refl _ | apply Drawn0.step)⟩

-- NOT PRINTED: function 94 (spec_exprStmt)


end Go.Proofs.YtdbaglgkbfjbnaaGreat.PFnRunsTexts

/- The draw of TextMany ends: a text, and one of few numbers; TextMany of the reference. -/
set_option linter.unusedVariables false
set_option linter.unusedSimpArgs false
namespace Go.Proofs.YtdbaglgkbfjbnaaGreat.PFnRunsTexts
open Go.RowKit Go.Proofs.YtdbaglgkbfjbnaaGreatW.PrintWords Go.Proofs.YtdbaglgkbfjbnaaGreatW.PrintLast Go.Proofs.YtdbaglgkbfjbnaaGreatW.PrintMore

/-- The numbers that are drawn. -/
def manyVals : List Int := (List.range 60).map (fun (k : Nat) => (k : Int) - 3) ++ oddVals

theorem small_many {i : Int} (h0 : -3 ≤ i) (h1 : i ≤ 56) : i ∈ manyVals := by
  refine List.mem_append_left _ (List.mem_map.2 ⟨(i + 3).toNat, List.mem_range.2 (by omega), ?_⟩)
  show ((i + 3).toNat : Int) - 3 = i
  omega

theorem drawTextMany_ok {l : List Int} (hl : Bytes l) : ∃ k s i, spec_DrawTextMany.f k l = some (s, i) ∧ s.size ≤ 500 ∧ i ∈ manyVals := by
  obtain ⟨l', hl', hlen', hnew⟩ := newRnd_ok hl
  obtain ⟨s, n1, hs, a1, a2, h1⟩ := text_ok hl' hlen' (n := 0) (by omega) (by omega)
  obtain ⟨r, hp, r0, r1⟩ := pick_ok hl' hlen' (n := n1) (by omega) (by omega) (a := 60) (by omega) (by omega)
  obtain ⟨b, n2, ho, hb, _, _⟩ := often_ok hl' hlen' (n := n1 + 1) (by omega) (by omega) (wrap64 (r - 3))
  refine ⟨500, s, b, ?_, hs, ?_⟩
  · unfold spec_DrawTextMany.f
    rw [hnew]
    simp only [Option.bind_some]
    rw [h1 500 (by omega)]
    simp only [Option.bind_some]
    rw [hp]
    simp only [Option.bind_some]
    rw [ho]
    rfl
  · rcases hb with rfl | hb
    · rw [wrap_small (by omega) (by omega)]
      exact small_many (by omega) (by omega)
    · exact List.mem_append_right _ hb

def repB (s : ByteArray) (n : Nat) : ByteArray := ⟨(Lib.repeatL s.data.toList n).toArray⟩
def manyBig (s : ByteArray) (n : Int) : Bool := decide (n > 400 / (s.size : Int))
def manyRes (s : ByteArray) (n : Int) : ByteArray × Bool :=
  if s.size > 400 then (⟨#[]⟩, false) else if n ≤ 0 ∨ s.size = 0 then (⟨#[]⟩, true) else if manyBig s n = true then (⟨#[]⟩, false) else (repB s n.toNat, true)

theorem many_l0 (s : ByteArray) (n : Int) (hn : n ≤ 1000000) : ∀ (r : Nat) (x : ByteArray) (j : Int), j + r = n → 0 ≤ j → x.size + r * s.size ≤ 1000000000 → ∀ k, r < k →
    spec_TextMany.l0 k s n x j = some (⟨(x.data.toList ++ Lib.repeatL s.data.toList r).toArray⟩, true)
  | 0, x, j, h1, h2, h3, k, hk => by
    obtain ⟨k, rfl⟩ : ∃ m, k = m + 1 := ⟨k - 1, by omega⟩
    simp only [spec_TextMany.l0]
    rw [if_neg (by omega)]
    simp [Lib.repeatL]
  | r + 1, x, j, h1, h2, h3, k, hk => by
    obtain ⟨k, rfl⟩ : ∃ m, k = m + 1 := ⟨k - 1, by omega⟩
    simp only [spec_TextMany.l0]
    have hz : (x ++ s).size = x.size + s.size := ByteArray.size_append
    have h4 : (r + 1) * s.size = r * s.size + s.size := Nat.succ_mul _ _
    rw [if_pos (by omega), if_pos (by omega), wrap_small (by omega) (by omega)]
    rw [many_l0 s n hn r (x ++ s) (j + 1) (by omega) (by omega) (by omega) k (by omega)]
    simp [Lib.repeatL, ByteArray.data_append, List.append_assoc]

theorem size_zero (s : ByteArray) : (s.toList == ([] : List UInt8)) = decide (s.size = 0) := by
  rw [ByteArray.toList_eq, Bool.eq_iff_iff]
  simp only [decide_eq_true_eq]
  have : s.data.toList.length = s.size := by rw [Array.length_toList]; rfl
  rw [← this, List.length_eq_zero_iff]
  exact beq_iff_eq

theorem specMany_ok (s : ByteArray) (n : Int) (hs : s.size ≤ 500) (k : Nat) (hk : 450 < k) : spec_TextMany.f (k + 1) s n = some (manyRes s n) := by
  unfold spec_TextMany.f spec_validText.f manyRes
  simp only [Option.bind_some]
  by_cases h4 : (s.size : Int) ≤ 400
  · rw [decide_eq_true h4, if_pos rfl, if_neg (show ¬ s.size > 400 by omega)]
    by_cases h0 : n ≤ 0
    · rw [if_pos h0, if_pos (.inl h0)]
      simp [spec_TextMany.j0]
    · rw [if_neg h0, size_zero]
      by_cases hz : s.size = 0
      · rw [decide_eq_true hz, if_pos (.inr hz)]
        simp [spec_TextMany.j0]
      · rw [decide_eq_false hz, if_neg (by omega)]
        simp only [spec_TextMany.j0, Bool.false_eq_true, if_false]
        rw [if_neg (by omega)]
        unfold manyBig
        by_cases hb : n > 400 / (s.size : Int)
        · rw [if_pos hb, decide_eq_true hb, if_pos rfl]
        · rw [if_neg hb, decide_eq_false hb, if_neg (by simp)]
          have hpos : (0 : Int) < s.size := by omega
          have h5 : n * (s.size : Int) ≤ 400 := by
            have := Int.mul_le_of_le_ediv hpos (show n ≤ 400 / (s.size : Int) by omega)
            exact this
          have h6 : n ≤ 400 := by
            have : n * 1 ≤ n * (s.size : Int) := Int.mul_le_mul_of_nonneg_left (by omega) (by omega)
            omega
          obtain ⟨m, rfl⟩ := Int.eq_ofNat_of_zero_le (show 0 ≤ n by omega)
          have h7 : m * s.size ≤ 400 := Int.ofNat_le.mp (by rw [Int.natCast_mul]; exact h5)
          rw [many_l0 s (m : Int) (by omega) m ⟨#[]⟩ 0 (by omega) (by omega) (by show 0 + m * s.size ≤ _; omega) k (by omega)]
          simp [repB]
  · rw [decide_eq_false h4, if_neg (by simp), if_pos (by omega)]
end Go.Proofs.YtdbaglgkbfjbnaaGreat.PFnRunsTexts
