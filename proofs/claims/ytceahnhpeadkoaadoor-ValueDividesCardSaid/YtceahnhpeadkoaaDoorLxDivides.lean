/- The walk of the law ValueDivides, where it answers true. Written by a program of this work out of the translation. -/
import Derived.Test.YtceahnhpeadkoaaDoorLy
namespace Go.Proofs.YtceahnhpeadkoaaDoor.V
open Go.RowKit Go.Proofs.YtceahnhpeadkoaaDoorW.PrintWords Go.Proofs.YtceahnhpeadkoaaDoorW.PrintLast Go.Proofs.YtceahnhpeadkoaaDoorW.PrintMore
attribute [local go_sem] max2_int min2_int max_two min_two max_three min_three max_four min_four   -- for this text's walks alone
set_option linter.unusedVariables false
set_option linter.unusedSimpArgs false
attribute [local go_sem high] eqA23
/-! ### shucklaw14_ValueDivides: function 11 -/
def shucklaw14_ValueDivides.j0 : Nat → Int → Int → Bool → Option (Bool)
  | 0, _, _, _ => none
  | k + 1, x0, x1, x22 => if x22 = true then ((shucklaw14_known.f k).bind fun t518 => (some t518)) else ((shucklaw14_num.f x0).bind fun bt519 => ((shucklaw14_num.f x1).bind fun bt522 => ((value_Binary.f (⟨#[37]⟩ : ByteArray) bt519.1 bt519.2.1 bt519.2.2 bt522.1 bt522.2.1 bt522.2.2).bind fun bt525 => (if x1 = 0 then (if bt525.2.2.2.2 = 2 then (if (bt525.1 == 0 && (bt525.2.1 == 0 && (bt525.2.2.1.toList == ([] : List UInt8)))) = true then (if bt525.2.2.2.1.toList = ([] : List UInt8) then ((shucklaw14_known.f k).bind fun t531 => (some t531)) else (some false)) else (some false)) else (some false)) else (if bt525.2.2.2.2 = 0 then (if bt525.1 = 3 then (if (Int.tmod (wrap64 (x0 - bt525.2.1)) x1) = 0 then (if bt525.2.1 = 0 then (if bt525.2.1 < 0 then (if bt525.2.1 > 0 then ((shucklaw14_known.f k).bind fun t532 => (some t532)) else (if (wrap64 (-bt525.2.1)) < (mx x1 (wrap64 (-x1))) then ((shucklaw14_known.f k).bind fun t533 => (some t533)) else (some false))) else (if bt525.2.1 < (mx x1 (wrap64 (-x1))) then (if bt525.2.1 > 0 then ((shucklaw14_known.f k).bind fun t534 => (some t534)) else (if (wrap64 (-bt525.2.1)) < (mx x1 (wrap64 (-x1))) then ((shucklaw14_known.f k).bind fun t535 => (some t535)) else (some false))) else (some false))) else (if ((decide (bt525.2.1 < 0)) == (decide (x0 < 0))) = true then (if bt525.2.1 < 0 then (if bt525.2.1 > 0 then ((shucklaw14_known.f k).bind fun t536 => (some t536)) else (if (wrap64 (-bt525.2.1)) < (mx x1 (wrap64 (-x1))) then ((shucklaw14_known.f k).bind fun t537 => (some t537)) else (some false))) else (if bt525.2.1 < (mx x1 (wrap64 (-x1))) then (if bt525.2.1 > 0 then ((shucklaw14_known.f k).bind fun t538 => (some t538)) else (if (wrap64 (-bt525.2.1)) < (mx x1 (wrap64 (-x1))) then ((shucklaw14_known.f k).bind fun t539 => (some t539)) else (some false))) else (some false))) else (some false))) else (some false)) else (some false)) else (some false))))))
def shucklaw14_ValueDivides.f (k : Nat) (a0 : Int) (a1 : Int) : Option (Bool) := if a0 > 9007199254740991 then (shucklaw14_ValueDivides.j0 k a0 a1 true) else (if a0 < (-9007199254740991) then (shucklaw14_ValueDivides.j0 k a0 a1 true) else (if a1 > 9007199254740991 then (shucklaw14_ValueDivides.j0 k a0 a1 true) else (shucklaw14_ValueDivides.j0 k a0 a1 (decide (a1 < (-9007199254740991))))))
theorem shucklaw14_ValueDivides.mono_l : ∀ k, (∀ y0 y1 y2, LeO (shucklaw14_ValueDivides.j0 k y0 y1 y2) (shucklaw14_ValueDivides.j0 (k + 1) y0 y1 y2))
  | 0 => fun _ _ _ r h => by simp [shucklaw14_ValueDivides.j0] at h
  | k + 1 => by
    have ih0 := shucklaw14_ValueDivides.mono_l k
    · intro y0 y1 y2
      unfold shucklaw14_ValueDivides.j0
      repeat' first
      | (with_reducible exact ih0 _ _ _)
      | (with_reducible exact shucklaw14_known.mono _)
      | (with_reducible exact LeO.refl _)
      | (with_reducible exact LeO.none _)
      | (with_reducible refine LeO.ite ?_ ?_)
      | (with_reducible refine LeO.bind ?_ (fun _ => ?_))
      | exact ih0 _ _ _
      | exact shucklaw14_known.mono _
      | exact LeO.none _
      | refine LeO.ite ?_ ?_
      | refine LeO.bind ?_ (fun _ => ?_)
theorem shucklaw14_ValueDivides.mono : ∀ a0 a1 k, LeO (shucklaw14_ValueDivides.f k a0 a1) (shucklaw14_ValueDivides.f (k + 1) a0 a1) := by
  intro a0 a1 k
  have ih0 := shucklaw14_ValueDivides.mono_l k
  unfold shucklaw14_ValueDivides.f
  repeat' first
      | (with_reducible exact ih0 _ _ _)
      | (with_reducible exact shucklaw14_known.mono _)
      | (with_reducible exact LeO.refl _)
      | (with_reducible exact LeO.none _)
      | (with_reducible refine LeO.ite ?_ ?_)
      | (with_reducible refine LeO.bind ?_ (fun _ => ?_))
      | exact ih0 _ _ _
      | exact shucklaw14_known.mono _
      | exact LeO.none _
      | refine LeO.ite ?_ ?_
      | refine LeO.bind ?_ (fun _ => ?_)
set_option maxHeartbeats 8000000 in
set_option maxRecDepth 100000 in
theorem shucklaw14_ValueDivides.calls (k : Nat) (a0 : Int) (a1 : Int) (r : Bool) (w : World) (hT : TabOk w) (hr : r = true) (h : shucklaw14_ValueDivides.f k a0 a1 = some r) :
    Calls Tryd.prog 11 #[.int .i64 a0, .int .i64 a1] w fun e w' => e = .returned (.bool r) ∧ Below w.heap.size w w' := by
  have hu23 := Tryd.underlying23
  have HT := Aside0.mk hT
  clear hT
  have HB := Aside0.mk (Below.refl w.heap.size w)
  have H : (if a0 > 9007199254740991 then (shucklaw14_ValueDivides.j0 k a0 a1 true) else (if a0 < (-9007199254740991) then (shucklaw14_ValueDivides.j0 k a0 a1 true) else (if a1 > 9007199254740991 then (shucklaw14_ValueDivides.j0 k a0 a1 true) else (shucklaw14_ValueDivides.j0 k a0 a1 (decide (a1 < (-9007199254740991))))))) = some r := h
  clear h
  have HC3 := Aside0.mk H
  clear H
  go_enter Tryd.func11, Tryd.ntmps11
  go_upto_region 1 with (fail)
  go_cut [22] (fun v22 wc => ∃ (kq : Nat) (x22_2 : Bool), v22 = .bool x22_2 ∧ Aside0 (shucklaw14_ValueDivides.j0 kq a0 a1 x22_2 = some r) ∧ Aside0 (kq ≤ k) ∧ Aside0 (Below w.heap.size w wc))
  case first =>
    have H := HC3.out
    clear HC3
    by_cases c4 : a0 > 9007199254740991
    · rw [if_pos c4] at H
      have c4b0 : decide (9007199254740991 < a0) = true := decide_eq_true c4
      clear c4
      (first | rw [c4b0] | (simp only [i64_w, i32_w]; rw [c4b0]) | skip)
      have H' := Aside0.mk H
      clear H
      go_wp2
      go_meet
      case rel => exact ⟨_, (true), (by first | rfl | (simp; done) | (simp [*]; done)), H', ⟨by first | omega | exact Nat.le_refl _⟩, ⟨by repeat (first | (with_reducible first | exact HB.out | apply below_alloc | apply pw_below_drewN | apply below_drew1) | exact HB.out)⟩⟩
    · rw [if_neg c4] at H
      have c4b0 : decide (9007199254740991 < a0) = false := decide_eq_false c4
      clear c4
      (first | rw [c4b0] | (simp only [i64_w, i32_w]; rw [c4b0]) | skip)
      by_cases c5 : a0 < (-9007199254740991)
      · rw [if_pos c5] at H
        have c5b0 : decide (a0 < (-9007199254740991)) = true := decide_eq_true c5
        clear c5
        have H' := Aside0.mk H
        clear H
        go_wp2
        go_meet
        case rel => exact ⟨_, (true), (by first | rfl | (simp; done) | (simp [*]; done)), H', ⟨by first | omega | exact Nat.le_refl _⟩, ⟨by repeat (first | (with_reducible first | exact HB.out | apply below_alloc | apply pw_below_drewN | apply below_drew1) | exact HB.out)⟩⟩
      · rw [if_neg c5] at H
        have c5b0 : decide (a0 < (-9007199254740991)) = false := decide_eq_false c5
        clear c5
        by_cases c6 : a1 > 9007199254740991
        · rw [if_pos c6] at H
          have c6b0 : decide (9007199254740991 < a1) = true := decide_eq_true c6
          clear c6
          have H' := Aside0.mk H
          clear H
          go_wp2
          go_meet
          case rel => exact ⟨_, (true), (by first | rfl | (simp; done) | (simp [*]; done)), H', ⟨by first | omega | exact Nat.le_refl _⟩, ⟨by repeat (first | (with_reducible first | exact HB.out | apply below_alloc | apply pw_below_drewN | apply below_drew1) | exact HB.out)⟩⟩
        · rw [if_neg c6] at H
          have c6b0 : decide (9007199254740991 < a1) = false := decide_eq_false c6
          clear c6
          have H' := Aside0.mk H
          clear H
          go_wp2
          go_meet
          case rel => exact ⟨_, (decide (a1 < (-9007199254740991))), (by first | rfl | (simp; done) | (simp [*]; done)), H', ⟨by first | omega | exact Nat.le_refl _⟩, ⟨by repeat (first | (with_reducible first | exact HB.out | apply below_alloc | apply pw_below_drewN | apply below_drew1) | exact HB.out)⟩⟩
  case rest =>
    clear HC3
    try clear c1
    try clear p2
    try clear c4
    try clear c4b0
    try clear c5
    try clear c5b0
    try clear c6
    try clear c6b0
    obtain ⟨kq, x22_2, rfl, HA, HJ2, HB⟩ := hcut
    cases kq with
    | zero => exact absurd HA.out (by simp [shucklaw14_ValueDivides.j0])
    | succ kj2 =>
      have H := HA.out
      clear HA
      simp only [shucklaw14_ValueDivides.j0] at H
      by_cases c7 : x22_2 = true
      · subst c7
        have H1 : ((shucklaw14_known.f kj2).bind fun t518 => (some t518)) = some r := by rw [if_pos rfl] at H; exact H
        clear H
        have H := H1
        clear H1
        replace H := Option.bind_eq_some_iff.mp H
        obtain ⟨t518, A80, H⟩ := H
        replace H : (some t518) = some r := H
        have A8 := Aside0.mk A80
        clear A80
        obtain rfl := Option.some.inj H
        go_wp2_with (first | ((with_reducible refine gate_callee (f := 13) rfl ?_); refine goesL_ (some 23) rfl rfl Tryd.func13 (by kernel_rfl) rfl #[] rfl (by (try simp only [List.map_toArray, List.map_cons, List.map_nil]); first | done | rfl | (simp only [List.length_drop, List.length_take]; rfl)) ?_; (with_reducible refine (shucklaw14_known.calls kj2  t518 _ ?side1 A8.out).mono ?_); (case side1 => exact TabOk.of HT.out (by repeat (first | (with_reducible first | exact HB.out | apply below_alloc | apply pw_below_drewN | apply below_drew1) | exact HB.out))); rintro e w9 ⟨rfl, hb⟩; refine ⟨_, rfl, ?_⟩; have n0_ := Aside0.mk (below_step (by repeat (first | (with_reducible first | exact HB.out | apply below_alloc | apply pw_below_drewN | apply below_drew1) | exact HB.out)) hb); clear HB; have HB := n0_; clear n0_; (try clear hb); (try clear hb2); (try clear hk); (try clear hi)))
        go_ret
        exact ⟨by first | rfl | (simp [errW_none, errW_some] <;> rfl) | (simp [*, errW_none, errW_some] <;> rfl), by repeat (first | (with_reducible first | exact HB.out | apply below_alloc | apply pw_below_drewN | apply below_drew1) | exact HB.out)⟩
      · replace c7 := Bool.eq_false_iff.mpr c7
        subst c7
        have H1 : ((shucklaw14_num.f a0).bind fun bt519 => ((shucklaw14_num.f a1).bind fun bt522 => ((value_Binary.f (⟨#[37]⟩ : ByteArray) bt519.1 bt519.2.1 bt519.2.2 bt522.1 bt522.2.1 bt522.2.2).bind fun bt525 => (if a1 = 0 then (if bt525.2.2.2.2 = 2 then (if (bt525.1 == 0 && (bt525.2.1 == 0 && (bt525.2.2.1.toList == ([] : List UInt8)))) = true then (if bt525.2.2.2.1.toList = ([] : List UInt8) then ((shucklaw14_known.f kj2).bind fun t531 => (some t531)) else (some false)) else (some false)) else (some false)) else (if bt525.2.2.2.2 = 0 then (if bt525.1 = 3 then (if (Int.tmod (wrap64 (a0 - bt525.2.1)) a1) = 0 then (if bt525.2.1 = 0 then (if bt525.2.1 < 0 then (if bt525.2.1 > 0 then ((shucklaw14_known.f kj2).bind fun t532 => (some t532)) else (if (wrap64 (-bt525.2.1)) < (mx a1 (wrap64 (-a1))) then ((shucklaw14_known.f kj2).bind fun t533 => (some t533)) else (some false))) else (if bt525.2.1 < (mx a1 (wrap64 (-a1))) then (if bt525.2.1 > 0 then ((shucklaw14_known.f kj2).bind fun t534 => (some t534)) else (if (wrap64 (-bt525.2.1)) < (mx a1 (wrap64 (-a1))) then ((shucklaw14_known.f kj2).bind fun t535 => (some t535)) else (some false))) else (some false))) else (if ((decide (bt525.2.1 < 0)) == (decide (a0 < 0))) = true then (if bt525.2.1 < 0 then (if bt525.2.1 > 0 then ((shucklaw14_known.f kj2).bind fun t536 => (some t536)) else (if (wrap64 (-bt525.2.1)) < (mx a1 (wrap64 (-a1))) then ((shucklaw14_known.f kj2).bind fun t537 => (some t537)) else (some false))) else (if bt525.2.1 < (mx a1 (wrap64 (-a1))) then (if bt525.2.1 > 0 then ((shucklaw14_known.f kj2).bind fun t538 => (some t538)) else (if (wrap64 (-bt525.2.1)) < (mx a1 (wrap64 (-a1))) then ((shucklaw14_known.f kj2).bind fun t539 => (some t539)) else (some false))) else (some false))) else (some false))) else (some false)) else (some false)) else (some false)))))) = some r := by rw [if_neg (show ¬ (false = true) by decide)] at H; exact H
        clear H
        have H := H1
        clear H1
        replace H := Option.bind_eq_some_iff.mp H
        obtain ⟨⟨t519, t520, t521⟩, A100, H⟩ := H
        replace H : ((shucklaw14_num.f a1).bind fun bt522 => ((value_Binary.f (⟨#[37]⟩ : ByteArray) t519 t520 t521 bt522.1 bt522.2.1 bt522.2.2).bind fun bt525 => (if a1 = 0 then (if bt525.2.2.2.2 = 2 then (if (bt525.1 == 0 && (bt525.2.1 == 0 && (bt525.2.2.1.toList == ([] : List UInt8)))) = true then (if bt525.2.2.2.1.toList = ([] : List UInt8) then ((shucklaw14_known.f kj2).bind fun t531 => (some t531)) else (some false)) else (some false)) else (some false)) else (if bt525.2.2.2.2 = 0 then (if bt525.1 = 3 then (if (Int.tmod (wrap64 (a0 - bt525.2.1)) a1) = 0 then (if bt525.2.1 = 0 then (if bt525.2.1 < 0 then (if bt525.2.1 > 0 then ((shucklaw14_known.f kj2).bind fun t532 => (some t532)) else (if (wrap64 (-bt525.2.1)) < (mx a1 (wrap64 (-a1))) then ((shucklaw14_known.f kj2).bind fun t533 => (some t533)) else (some false))) else (if bt525.2.1 < (mx a1 (wrap64 (-a1))) then (if bt525.2.1 > 0 then ((shucklaw14_known.f kj2).bind fun t534 => (some t534)) else (if (wrap64 (-bt525.2.1)) < (mx a1 (wrap64 (-a1))) then ((shucklaw14_known.f kj2).bind fun t535 => (some t535)) else (some false))) else (some false))) else (if ((decide (bt525.2.1 < 0)) == (decide (a0 < 0))) = true then (if bt525.2.1 < 0 then (if bt525.2.1 > 0 then ((shucklaw14_known.f kj2).bind fun t536 => (some t536)) else (if (wrap64 (-bt525.2.1)) < (mx a1 (wrap64 (-a1))) then ((shucklaw14_known.f kj2).bind fun t537 => (some t537)) else (some false))) else (if bt525.2.1 < (mx a1 (wrap64 (-a1))) then (if bt525.2.1 > 0 then ((shucklaw14_known.f kj2).bind fun t538 => (some t538)) else (if (wrap64 (-bt525.2.1)) < (mx a1 (wrap64 (-a1))) then ((shucklaw14_known.f kj2).bind fun t539 => (some t539)) else (some false))) else (some false))) else (some false))) else (some false)) else (some false)) else (some false))))) = some r := H
        have A10 := Aside0.mk A100
        clear A100
        replace H := Option.bind_eq_some_iff.mp H
        obtain ⟨⟨t522, t523, t524⟩, A110, H⟩ := H
        replace H : ((value_Binary.f (⟨#[37]⟩ : ByteArray) t519 t520 t521 t522 t523 t524).bind fun bt525 => (if a1 = 0 then (if bt525.2.2.2.2 = 2 then (if (bt525.1 == 0 && (bt525.2.1 == 0 && (bt525.2.2.1.toList == ([] : List UInt8)))) = true then (if bt525.2.2.2.1.toList = ([] : List UInt8) then ((shucklaw14_known.f kj2).bind fun t531 => (some t531)) else (some false)) else (some false)) else (some false)) else (if bt525.2.2.2.2 = 0 then (if bt525.1 = 3 then (if (Int.tmod (wrap64 (a0 - bt525.2.1)) a1) = 0 then (if bt525.2.1 = 0 then (if bt525.2.1 < 0 then (if bt525.2.1 > 0 then ((shucklaw14_known.f kj2).bind fun t532 => (some t532)) else (if (wrap64 (-bt525.2.1)) < (mx a1 (wrap64 (-a1))) then ((shucklaw14_known.f kj2).bind fun t533 => (some t533)) else (some false))) else (if bt525.2.1 < (mx a1 (wrap64 (-a1))) then (if bt525.2.1 > 0 then ((shucklaw14_known.f kj2).bind fun t534 => (some t534)) else (if (wrap64 (-bt525.2.1)) < (mx a1 (wrap64 (-a1))) then ((shucklaw14_known.f kj2).bind fun t535 => (some t535)) else (some false))) else (some false))) else (if ((decide (bt525.2.1 < 0)) == (decide (a0 < 0))) = true then (if bt525.2.1 < 0 then (if bt525.2.1 > 0 then ((shucklaw14_known.f kj2).bind fun t536 => (some t536)) else (if (wrap64 (-bt525.2.1)) < (mx a1 (wrap64 (-a1))) then ((shucklaw14_known.f kj2).bind fun t537 => (some t537)) else (some false))) else (if bt525.2.1 < (mx a1 (wrap64 (-a1))) then (if bt525.2.1 > 0 then ((shucklaw14_known.f kj2).bind fun t538 => (some t538)) else (if (wrap64 (-bt525.2.1)) < (mx a1 (wrap64 (-a1))) then ((shucklaw14_known.f kj2).bind fun t539 => (some t539)) else (some false))) else (some false))) else (some false))) else (some false)) else (some false)) else (some false)))) = some r := H
        have A11 := Aside0.mk A110
        clear A110
        replace H := Option.bind_eq_some_iff.mp H
        obtain ⟨⟨t525, t526, t527, t528, t529⟩, A120, H⟩ := H
        replace H : (if a1 = 0 then (if t529 = 2 then (if (t525 == 0 && (t526 == 0 && (t527.toList == ([] : List UInt8)))) = true then (if t528.toList = ([] : List UInt8) then ((shucklaw14_known.f kj2).bind fun t531 => (some t531)) else (some false)) else (some false)) else (some false)) else (if t529 = 0 then (if t525 = 3 then (if (Int.tmod (wrap64 (a0 - t526)) a1) = 0 then (if t526 = 0 then (if t526 < 0 then (if t526 > 0 then ((shucklaw14_known.f kj2).bind fun t532 => (some t532)) else (if (wrap64 (-t526)) < (mx a1 (wrap64 (-a1))) then ((shucklaw14_known.f kj2).bind fun t533 => (some t533)) else (some false))) else (if t526 < (mx a1 (wrap64 (-a1))) then (if t526 > 0 then ((shucklaw14_known.f kj2).bind fun t534 => (some t534)) else (if (wrap64 (-t526)) < (mx a1 (wrap64 (-a1))) then ((shucklaw14_known.f kj2).bind fun t535 => (some t535)) else (some false))) else (some false))) else (if ((decide (t526 < 0)) == (decide (a0 < 0))) = true then (if t526 < 0 then (if t526 > 0 then ((shucklaw14_known.f kj2).bind fun t536 => (some t536)) else (if (wrap64 (-t526)) < (mx a1 (wrap64 (-a1))) then ((shucklaw14_known.f kj2).bind fun t537 => (some t537)) else (some false))) else (if t526 < (mx a1 (wrap64 (-a1))) then (if t526 > 0 then ((shucklaw14_known.f kj2).bind fun t538 => (some t538)) else (if (wrap64 (-t526)) < (mx a1 (wrap64 (-a1))) then ((shucklaw14_known.f kj2).bind fun t539 => (some t539)) else (some false))) else (some false))) else (some false))) else (some false)) else (some false)) else (some false))) = some r := H
        have A12 := Aside0.mk A120
        clear A120
        by_cases c13 : a1 = 0
        · rw [if_pos c13] at H
          have c13b0 : (a1 == 0) = true := beq_iff_eq.mpr c13
          have c13b1 : (a1 != 0) = false := bne_eq_false_iff_eq.mpr c13
          clear c13
          by_cases c14 : t529 = 2
          · rw [if_pos c14] at H
            have c14b0 : (t529 == 2) = true := beq_iff_eq.mpr c14
            have c14b1 : (t529 != 2) = false := bne_eq_false_iff_eq.mpr c14
            clear c14
            by_cases c15 : (t525 == 0 && (t526 == 0 && (t527.toList == ([] : List UInt8)))) = true
            · rw [if_pos c15] at H
              have c15b0 : (t525 == 0 && (t526 == 0 && (t527.toList == ([] : List UInt8)))) = true := c15
              (try (have c15b9 : (t525 = 0 ∧ t526 = 0 ∧ t527.toList = []) = True := eq_true (by simpa using c15)))
              (try (have c15b1 : decide (t525 = 0 && (t526 == 0 && (t527.toList == ([] : List UInt8)))) = true := by simpa using c15))
              (try (have c15b2 : (t525 == 0 && (t526 == 0 && (t527.toList == ([] : List UInt8)))) = true := by simpa using c15))
              clear c15
              by_cases c16 : t528.toList = ([] : List UInt8)
              · rw [if_pos c16] at H
                have c16b0 : (t528.toList == ([] : List UInt8)) = true := beq_iff_eq.mpr c16
                have c16b1 : (t528.toList != ([] : List UInt8)) = false := bne_eq_false_iff_eq.mpr c16
                clear c16
                replace H := Option.bind_eq_some_iff.mp H
                obtain ⟨t531, A170, H⟩ := H
                replace H : (some t531) = some r := H
                have A17 := Aside0.mk A170
                clear A170
                obtain rfl := Option.some.inj H
                go_wp2_with (first | ((with_reducible refine gate_callee (f := 24) rfl ?_); refine goesL_ (some 26) rfl rfl Tryd.func24 (by kernel_rfl) rfl #[.int .i64 a0] rfl (by (try simp only [List.map_toArray, List.map_cons, List.map_nil]); first | done | rfl | (simp only [List.length_drop, List.length_take]; rfl)) ?_; (with_reducible refine (shucklaw14_num.calls a0 t519 t520 t521 _ A10.out).mono ?_); rintro e w18 ⟨rfl, hb⟩; refine ⟨_, rfl, ?_⟩; have n0_ := Aside0.mk (below_step (by repeat (first | (with_reducible first | exact HB.out | apply below_alloc | apply pw_below_drewN | apply below_drew1) | exact HB.out)) hb); clear HB; have HB := n0_; clear n0_; (try clear hb); (try clear hb2); (try clear hk); (try clear hi)) | ((with_reducible refine gate_callee (f := 24) rfl ?_); refine goesL_ (some 28) rfl rfl Tryd.func24 (by kernel_rfl) rfl #[.int .i64 a1] rfl (by (try simp only [List.map_toArray, List.map_cons, List.map_nil]); first | done | rfl | (simp only [List.length_drop, List.length_take]; rfl)) ?_; (with_reducible refine (shucklaw14_num.calls a1 t522 t523 t524 _ A11.out).mono ?_); rintro e w19 ⟨rfl, hb⟩; refine ⟨_, rfl, ?_⟩; have n0_ := Aside0.mk (below_step (by repeat (first | (with_reducible first | exact HB.out | apply below_alloc | apply pw_below_drewN | apply below_drew1) | exact HB.out)) hb); clear HB; have HB := n0_; clear n0_; (try clear hb); (try clear hb2); (try clear hk); (try clear hi)) | ((with_reducible refine gate_callee (f := 16) rfl ?_); refine goesL_ (some 29) rfl rfl Tryd.func16 (by kernel_rfl) rfl #[.string (⟨#[37]⟩ : ByteArray), .agg #[.int .i64 t519, .int .i64 t520, .string t521], .agg #[.int .i64 t522, .int .i64 t523, .string t524]] rfl (by (try simp only [List.map_toArray, List.map_cons, List.map_nil]); first | done | rfl | (simp only [List.length_drop, List.length_take]; rfl)) ?_; (with_reducible refine (value_Binary.calls (⟨#[37]⟩ : ByteArray) t519 t520 t521 t522 t523 t524 t525 t526 t527 t528 t529 _ ?side1 A12.out).mono ?_); (case side1 => exact TabOk.of HT.out (by repeat (first | (with_reducible first | exact HB.out | apply below_alloc | apply pw_below_drewN | apply below_drew1) | exact HB.out))); rintro e w20 ⟨rfl, hb⟩; refine ⟨_, rfl, ?_⟩; have n0_ := Aside0.mk (below_step (by repeat (first | (with_reducible first | exact HB.out | apply below_alloc | apply pw_below_drewN | apply below_drew1) | exact HB.out)) hb); clear HB; have HB := n0_; clear n0_; (try clear hb); (try clear hb2); (try clear hk); (try clear hi)) | ((with_reducible refine gate_dst (N := 5) rfl ?_); (try (refine gate_guard (by rfl) ?_; dsimp only)); refine box_event ?hg (N := 5) ?hd (cs := #[.int .i64 0, .int .i64 0, .string (⟨#[]⟩ : ByteArray)]) (t := 23) ?hr ?_; (case hd => rfl); (case hg => rfl); (case hr => first | (go_simp; done) | (go_simp; rfl)); intro gb530 hg w21 hbox hb; have n0_ := Aside0.mk (below_step (by repeat (first | (with_reducible first | exact HB.out | apply below_alloc | apply pw_below_drewN | apply below_drew1) | exact HB.out)) hb); have n1_ := Aside0.mk (hbox); have n2_ := Aside0.mk ((by rw [hg]; exact (below_size (by repeat (first | (with_reducible first | exact HB.out | apply below_alloc | apply pw_below_drewN | apply below_drew1) | exact HB.out))) : w.heap.size ≤ gb530)); have n3_ := Aside0.mk ((by rw [hg]; exact (below_size (by repeat (first | (with_reducible first | exact HB.out | apply below_alloc | apply pw_below_drewN | apply below_drew1) | exact HB.out))) : w.heap.size ≤ gb530)); clear HB; have HB := n0_; have BK530 := n1_; have GW530 := n2_; have GE530 := n3_; clear n0_ n1_ n2_ n3_; clear hb hbox hg; have hcz22_0 : w21.cell? ⟨gb530, 0, none⟩ = some (.int .i64 0) := (blk_cell BK530.out 0).trans rfl; have hcz22_1 : w21.cell? ⟨gb530, 1, none⟩ = some (.int .i64 0) := (blk_cell BK530.out 1).trans rfl; have hcz22_2 : w21.cell? ⟨gb530, 2, none⟩ = some (.string (⟨#[]⟩ : ByteArray)) := (blk_cell BK530.out 2).trans rfl; have hfz22_0 := blk_frozen BK530.out 0; have hfz22_1 := blk_frozen BK530.out 1; have hfz22_2 := blk_frozen BK530.out 2) | (go_at_call 13; (with_reducible refine (shucklaw14_known.calls kj2  t531 _ ?side1 A17.out).mono ?_); (case side1 => exact TabOk.of HT.out (by repeat (first | (with_reducible first | exact HB.out | apply below_alloc | apply pw_below_drewN | apply below_drew1 | refine below_set ?_ GE530.out) | exact HB.out))); rintro e w23 ⟨rfl, hb⟩; have n0_ := Aside0.mk (blk_below (g := gb530) (o := .cells #[.int .i64 t525, .int .i64 t526, .string t527] 23 (0, 0)) (by (with_reducible repeat (first | refine blk_drewN ?_ _ | refine blk_drew ?_ | refine blk_alloc ?_ _)); refine blk_put (cs := #[.int .i64 t525, .int .i64 t526, .string (⟨#[]⟩ : ByteArray)]) ?_ 2 _ rfl; (with_reducible repeat (first | refine blk_drewN ?_ _ | refine blk_drew ?_ | refine blk_alloc ?_ _)); refine blk_put (cs := #[.int .i64 t525, .int .i64 0, .string (⟨#[]⟩ : ByteArray)]) ?_ 1 _ rfl; (with_reducible repeat (first | refine blk_drewN ?_ _ | refine blk_drew ?_ | refine blk_alloc ?_ _)); refine blk_put (cs := #[.int .i64 0, .int .i64 0, .string (⟨#[]⟩ : ByteArray)]) ?_ 0 _ rfl; (with_reducible repeat (first | refine blk_drewN ?_ _ | refine blk_drew ?_ | refine blk_alloc ?_ _)); exact BK530.out) hb); have n1_ := Aside0.mk (below_step (by repeat (first | (with_reducible first | exact HB.out | apply below_alloc | apply pw_below_drewN | apply below_drew1 | refine below_set ?_ GE530.out) | exact HB.out)) hb); clear BK530; clear HB; have BK530 := n0_; have HB := n1_; clear n0_ n1_; (try clear hb); (try clear hb2); (try clear hk); (try clear hi)))
                go_ret
                exact ⟨by first | rfl | (simp [errW_none, errW_some] <;> rfl) | (simp [*, errW_none, errW_some] <;> rfl), by repeat (first | (with_reducible first | exact HB.out | apply below_alloc | apply pw_below_drewN | apply below_drew1 | refine below_set ?_ GE530.out) | exact HB.out)⟩
              · rw [if_neg c16] at H
                have c16b0 : (t528.toList == ([] : List UInt8)) = false := beq_eq_false_iff_ne.mpr c16
                have c16b1 : (t528.toList != ([] : List UInt8)) = true := bne_iff_ne.mpr c16
                exact absurd ((Option.some.inj H).trans hr) (by decide)
            · rw [if_neg c15] at H
              have c15b0 : (t525 == 0 && (t526 == 0 && (t527.toList == ([] : List UInt8)))) = false := by simpa using c15
              (try (have c15b1 : decide (t525 = 0 && (t526 == 0 && (t527.toList == ([] : List UInt8)))) = false := by simpa using c15))
              (try (have c15b2 : (t525 == 0 && (t526 == 0 && (t527.toList == ([] : List UInt8)))) = false := by simpa using c15))
              (try (have c15b3 : ¬ (t525 = 0 && (t526 == 0 && (t527.toList == ([] : List UInt8)))) := by simpa using c15))
              clear c15
              exact absurd ((Option.some.inj H).trans hr) (by decide)
          · rw [if_neg c14] at H
            have c14b0 : (t529 == 2) = false := beq_eq_false_iff_ne.mpr c14
            have c14b1 : (t529 != 2) = true := bne_iff_ne.mpr c14
            exact absurd ((Option.some.inj H).trans hr) (by decide)
        · rw [if_neg c13] at H
          have c13b0 : (a1 == 0) = false := beq_eq_false_iff_ne.mpr c13
          have c13b1 : (a1 != 0) = true := bne_iff_ne.mpr c13
          by_cases c24 : t529 = 0
          · rw [if_pos c24] at H
            have c24b0 : (t529 == 0) = true := beq_iff_eq.mpr c24
            have c24b1 : (t529 != 0) = false := bne_eq_false_iff_eq.mpr c24
            clear c24
            by_cases c25 : t525 = 3
            · rw [if_pos c25] at H
              have c25b0 : (t525 == 3) = true := beq_iff_eq.mpr c25
              have c25b1 : (t525 != 3) = false := bne_eq_false_iff_eq.mpr c25
              clear c25
              by_cases c26 : (Int.tmod (wrap64 (a0 - t526)) a1) = 0
              · rw [if_pos c26] at H
                have c26b0 : ((Int.tmod (wrap64 (a0 - t526)) a1) == 0) = true := beq_iff_eq.mpr c26
                have c26b1 : ((Int.tmod (wrap64 (a0 - t526)) a1) != 0) = false := bne_eq_false_iff_eq.mpr c26
                clear c26
                by_cases c27 : t526 = 0
                · rw [if_pos c27] at H
                  have c27b0 : (t526 == 0) = true := beq_iff_eq.mpr c27
                  have c27b1 : (t526 != 0) = false := bne_eq_false_iff_eq.mpr c27
                  clear c27
                  by_cases c28 : t526 < 0
                  · exfalso
                    have z_ := eq_of_beq c27b0
                    omega
                  · rw [if_neg c28] at H
                    have c28b0 : decide (t526 < 0) = false := decide_eq_false c28
                    clear c28
                    obtain ⟨ji46, hji46⟩ : ∃ j_ : Int, (mx a1 (wrap64 (-a1))) = j_ := ⟨_, rfl⟩
                    replace H : (if t526 < (ji46) then (if t526 > 0 then ((shucklaw14_known.f kj2).bind fun t534 => (some t534)) else (if (wrap64 (-t526)) < (ji46) then ((shucklaw14_known.f kj2).bind fun t535 => (some t535)) else (some false))) else (some false)) = some r := by first | (rw [hji46] at H; exact H) | (simp only [hji46] at H ⊢; exact H)
                    (try rw [hji46] at A10)
                    (try rw [hji46] at A11)
                    (try rw [hji46] at A12)
                    have hji46_ : (if a1 < (wrap64 (-a1)) then (wrap64 (-a1)) else a1) = ji46 := hji46
                    by_cases c47 : t526 < (ji46)
                    · rw [if_pos c47] at H
                      have c47b0 : decide (t526 < (ji46)) = true := decide_eq_true c47
                      clear c47
                      by_cases c48 : t526 > 0
                      · exfalso
                        have z_ := eq_of_beq c27b0
                        omega
                      · rw [if_neg c48] at H
                        have c48b0 : decide (0 < t526) = false := decide_eq_false c48
                        clear c48
                        by_cases c57 : (wrap64 (-t526)) < (ji46)
                        · rw [if_pos c57] at H
                          have c57b0 : decide ((wrap64 (-t526)) < (ji46)) = true := decide_eq_true c57
                          clear c57
                          replace H := Option.bind_eq_some_iff.mp H
                          obtain ⟨t535, A580, H⟩ := H
                          replace H : (some t535) = some r := H
                          have A58 := Aside0.mk A580
                          clear A580
                          obtain rfl := Option.some.inj H
                          go_wp2_with (first | ((with_reducible refine gate_callee (f := 24) rfl ?_); refine goesL_ (some 26) rfl rfl Tryd.func24 (by kernel_rfl) rfl #[.int .i64 a0] rfl (by (try simp only [List.map_toArray, List.map_cons, List.map_nil]); first | done | rfl | (simp only [List.length_drop, List.length_take]; rfl)) ?_; (with_reducible refine (shucklaw14_num.calls a0 t519 t520 t521 _ A10.out).mono ?_); rintro e w59 ⟨rfl, hb⟩; refine ⟨_, rfl, ?_⟩; have n0_ := Aside0.mk (below_step (by repeat (first | (with_reducible first | exact HB.out | apply below_alloc | apply pw_below_drewN | apply below_drew1) | exact HB.out)) hb); clear HB; have HB := n0_; clear n0_; (try clear hb); (try clear hb2); (try clear hk); (try clear hi)) | ((with_reducible refine gate_callee (f := 24) rfl ?_); refine goesL_ (some 28) rfl rfl Tryd.func24 (by kernel_rfl) rfl #[.int .i64 a1] rfl (by (try simp only [List.map_toArray, List.map_cons, List.map_nil]); first | done | rfl | (simp only [List.length_drop, List.length_take]; rfl)) ?_; (with_reducible refine (shucklaw14_num.calls a1 t522 t523 t524 _ A11.out).mono ?_); rintro e w60 ⟨rfl, hb⟩; refine ⟨_, rfl, ?_⟩; have n0_ := Aside0.mk (below_step (by repeat (first | (with_reducible first | exact HB.out | apply below_alloc | apply pw_below_drewN | apply below_drew1) | exact HB.out)) hb); clear HB; have HB := n0_; clear n0_; (try clear hb); (try clear hb2); (try clear hk); (try clear hi)) | ((with_reducible refine gate_callee (f := 16) rfl ?_); refine goesL_ (some 29) rfl rfl Tryd.func16 (by kernel_rfl) rfl #[.string (⟨#[37]⟩ : ByteArray), .agg #[.int .i64 t519, .int .i64 t520, .string t521], .agg #[.int .i64 t522, .int .i64 t523, .string t524]] rfl (by (try simp only [List.map_toArray, List.map_cons, List.map_nil]); first | done | rfl | (simp only [List.length_drop, List.length_take]; rfl)) ?_; (with_reducible refine (value_Binary.calls (⟨#[37]⟩ : ByteArray) t519 t520 t521 t522 t523 t524 t525 t526 t527 t528 t529 _ ?side1 A12.out).mono ?_); (case side1 => exact TabOk.of HT.out (by repeat (first | (with_reducible first | exact HB.out | apply below_alloc | apply pw_below_drewN | apply below_drew1) | exact HB.out))); rintro e w61 ⟨rfl, hb⟩; refine ⟨_, rfl, ?_⟩; have n0_ := Aside0.mk (below_step (by repeat (first | (with_reducible first | exact HB.out | apply below_alloc | apply pw_below_drewN | apply below_drew1) | exact HB.out)) hb); clear HB; have HB := n0_; clear n0_; (try clear hb); (try clear hb2); (try clear hk); (try clear hi)) | ((with_reducible refine gate_dst (N := 5) rfl ?_); (try (refine gate_guard (by rfl) ?_; dsimp only)); refine box_event ?hg (N := 5) ?hd (cs := #[.int .i64 0, .int .i64 0, .string (⟨#[]⟩ : ByteArray)]) (t := 23) ?hr ?_; (case hd => rfl); (case hg => rfl); (case hr => first | (go_simp; done) | (go_simp; rfl)); intro gb530 hg w62 hbox hb; have n0_ := Aside0.mk (below_step (by repeat (first | (with_reducible first | exact HB.out | apply below_alloc | apply pw_below_drewN | apply below_drew1) | exact HB.out)) hb); have n1_ := Aside0.mk (hbox); have n2_ := Aside0.mk ((by rw [hg]; exact (below_size (by repeat (first | (with_reducible first | exact HB.out | apply below_alloc | apply pw_below_drewN | apply below_drew1) | exact HB.out))) : w.heap.size ≤ gb530)); have n3_ := Aside0.mk ((by rw [hg]; exact (below_size (by repeat (first | (with_reducible first | exact HB.out | apply below_alloc | apply pw_below_drewN | apply below_drew1) | exact HB.out))) : w.heap.size ≤ gb530)); clear HB; have HB := n0_; have BK530 := n1_; have GW530 := n2_; have GE530 := n3_; clear n0_ n1_ n2_ n3_; clear hb hbox hg; have hcz63_0 : w62.cell? ⟨gb530, 0, none⟩ = some (.int .i64 0) := (blk_cell BK530.out 0).trans rfl; have hcz63_1 : w62.cell? ⟨gb530, 1, none⟩ = some (.int .i64 0) := (blk_cell BK530.out 1).trans rfl; have hcz63_2 : w62.cell? ⟨gb530, 2, none⟩ = some (.string (⟨#[]⟩ : ByteArray)) := (blk_cell BK530.out 2).trans rfl; have hfz63_0 := blk_frozen BK530.out 0; have hfz63_1 := blk_frozen BK530.out 1; have hfz63_2 := blk_frozen BK530.out 2) | (go_at_call 13; (with_reducible refine (shucklaw14_known.calls kj2  t535 _ ?side1 A58.out).mono ?_); (case side1 => exact TabOk.of HT.out (by repeat (first | (with_reducible first | exact HB.out | apply below_alloc | apply pw_below_drewN | apply below_drew1 | refine below_set ?_ GE530.out) | exact HB.out))); rintro e w64 ⟨rfl, hb⟩; have n0_ := Aside0.mk (blk_below (g := gb530) (o := .cells #[.int .i64 t525, .int .i64 t526, .string t527] 23 (0, 0)) (by (with_reducible repeat (first | refine blk_drewN ?_ _ | refine blk_drew ?_ | refine blk_alloc ?_ _)); refine blk_put (cs := #[.int .i64 t525, .int .i64 t526, .string (⟨#[]⟩ : ByteArray)]) ?_ 2 _ rfl; (with_reducible repeat (first | refine blk_drewN ?_ _ | refine blk_drew ?_ | refine blk_alloc ?_ _)); refine blk_put (cs := #[.int .i64 t525, .int .i64 0, .string (⟨#[]⟩ : ByteArray)]) ?_ 1 _ rfl; (with_reducible repeat (first | refine blk_drewN ?_ _ | refine blk_drew ?_ | refine blk_alloc ?_ _)); refine blk_put (cs := #[.int .i64 0, .int .i64 0, .string (⟨#[]⟩ : ByteArray)]) ?_ 0 _ rfl; (with_reducible repeat (first | refine blk_drewN ?_ _ | refine blk_drew ?_ | refine blk_alloc ?_ _)); exact BK530.out) hb); have n1_ := Aside0.mk (below_step (by repeat (first | (with_reducible first | exact HB.out | apply below_alloc | apply pw_below_drewN | apply below_drew1 | refine below_set ?_ GE530.out) | exact HB.out)) hb); clear BK530; clear HB; have BK530 := n0_; have HB := n1_; clear n0_ n1_; (try clear hb); (try clear hb2); (try clear hk); (try clear hi)))
                          go_ret
                          exact ⟨by first | rfl | (simp [errW_none, errW_some] <;> rfl) | (simp only [← hji46]; first | rfl | (simp [errW_none, errW_some] <;> rfl)) | (simp [*, errW_none, errW_some] <;> rfl), by repeat (first | (with_reducible first | exact HB.out | apply below_alloc | apply pw_below_drewN | apply below_drew1 | refine below_set ?_ GE530.out) | exact HB.out)⟩
                        · rw [if_neg c57] at H
                          have c57b0 : decide ((wrap64 (-t526)) < (ji46)) = false := decide_eq_false c57
                          clear c57
                          exact absurd ((Option.some.inj H).trans hr) (by decide)
                    · rw [if_neg c47] at H
                      have c47b0 : decide (t526 < (ji46)) = false := decide_eq_false c47
                      clear c47
                      exact absurd ((Option.some.inj H).trans hr) (by decide)
                · rw [if_neg c27] at H
                  have c27b0 : (t526 == 0) = false := beq_eq_false_iff_ne.mpr c27
                  have c27b1 : (t526 != 0) = true := bne_iff_ne.mpr c27
                  by_cases c65 : ((decide (t526 < 0)) == (decide (a0 < 0))) = true
                  · rw [if_pos c65] at H
                    have c65b0 : ((decide (t526 < 0)) == (decide (a0 < 0))) = true := c65
                    (try (have c65b1 : decide ((decide (t526 < 0)) = (decide (a0 < 0))) = true := by simpa using c65))
                    (try (have c65b2 : ((decide (t526 < 0)) == (decide (a0 < 0))) = true := by simpa using c65))
                    clear c65
                    by_cases c66 : t526 < 0
                    · rw [if_pos c66] at H
                      have c66b0 : decide (t526 < 0) = true := decide_eq_true c66
                      have q66_ : decide (a0 < 0) = true := by
                        have e_ := eq_of_beq c65b0
                        rw [← e_]
                        exact c66b0
                      clear c66
                      by_cases c67 : t526 > 0
                      · exfalso
                        have z_ := of_decide_eq_true c66b0
                        omega
                      · rw [if_neg c67] at H
                        have c67b0 : decide (0 < t526) = false := decide_eq_false c67
                        clear c67
                        obtain ⟨ji75, hji75⟩ : ∃ j_ : Int, (mx a1 (wrap64 (-a1))) = j_ := ⟨_, rfl⟩
                        replace H : (if (wrap64 (-t526)) < (ji75) then ((shucklaw14_known.f kj2).bind fun t537 => (some t537)) else (some false)) = some r := by first | (rw [hji75] at H; exact H) | (simp only [hji75] at H ⊢; exact H)
                        (try rw [hji75] at A10)
                        (try rw [hji75] at A11)
                        (try rw [hji75] at A12)
                        have hji75_ : (if a1 < (wrap64 (-a1)) then (wrap64 (-a1)) else a1) = ji75 := hji75
                        by_cases c76 : (wrap64 (-t526)) < (ji75)
                        · rw [if_pos c76] at H
                          have c76b0 : decide ((wrap64 (-t526)) < (ji75)) = true := decide_eq_true c76
                          clear c76
                          replace H := Option.bind_eq_some_iff.mp H
                          obtain ⟨t537, A770, H⟩ := H
                          replace H : (some t537) = some r := H
                          have A77 := Aside0.mk A770
                          clear A770
                          obtain rfl := Option.some.inj H
                          go_wp2_with (first | ((with_reducible refine gate_callee (f := 24) rfl ?_); refine goesL_ (some 26) rfl rfl Tryd.func24 (by kernel_rfl) rfl #[.int .i64 a0] rfl (by (try simp only [List.map_toArray, List.map_cons, List.map_nil]); first | done | rfl | (simp only [List.length_drop, List.length_take]; rfl)) ?_; (with_reducible refine (shucklaw14_num.calls a0 t519 t520 t521 _ A10.out).mono ?_); rintro e w78 ⟨rfl, hb⟩; refine ⟨_, rfl, ?_⟩; have n0_ := Aside0.mk (below_step (by repeat (first | (with_reducible first | exact HB.out | apply below_alloc | apply pw_below_drewN | apply below_drew1) | exact HB.out)) hb); clear HB; have HB := n0_; clear n0_; (try clear hb); (try clear hb2); (try clear hk); (try clear hi)) | ((with_reducible refine gate_callee (f := 24) rfl ?_); refine goesL_ (some 28) rfl rfl Tryd.func24 (by kernel_rfl) rfl #[.int .i64 a1] rfl (by (try simp only [List.map_toArray, List.map_cons, List.map_nil]); first | done | rfl | (simp only [List.length_drop, List.length_take]; rfl)) ?_; (with_reducible refine (shucklaw14_num.calls a1 t522 t523 t524 _ A11.out).mono ?_); rintro e w79 ⟨rfl, hb⟩; refine ⟨_, rfl, ?_⟩; have n0_ := Aside0.mk (below_step (by repeat (first | (with_reducible first | exact HB.out | apply below_alloc | apply pw_below_drewN | apply below_drew1) | exact HB.out)) hb); clear HB; have HB := n0_; clear n0_; (try clear hb); (try clear hb2); (try clear hk); (try clear hi)) | ((with_reducible refine gate_callee (f := 16) rfl ?_); refine goesL_ (some 29) rfl rfl Tryd.func16 (by kernel_rfl) rfl #[.string (⟨#[37]⟩ : ByteArray), .agg #[.int .i64 t519, .int .i64 t520, .string t521], .agg #[.int .i64 t522, .int .i64 t523, .string t524]] rfl (by (try simp only [List.map_toArray, List.map_cons, List.map_nil]); first | done | rfl | (simp only [List.length_drop, List.length_take]; rfl)) ?_; (with_reducible refine (value_Binary.calls (⟨#[37]⟩ : ByteArray) t519 t520 t521 t522 t523 t524 t525 t526 t527 t528 t529 _ ?side1 A12.out).mono ?_); (case side1 => exact TabOk.of HT.out (by repeat (first | (with_reducible first | exact HB.out | apply below_alloc | apply pw_below_drewN | apply below_drew1) | exact HB.out))); rintro e w80 ⟨rfl, hb⟩; refine ⟨_, rfl, ?_⟩; have n0_ := Aside0.mk (below_step (by repeat (first | (with_reducible first | exact HB.out | apply below_alloc | apply pw_below_drewN | apply below_drew1) | exact HB.out)) hb); clear HB; have HB := n0_; clear n0_; (try clear hb); (try clear hb2); (try clear hk); (try clear hi)) | ((with_reducible refine gate_dst (N := 5) rfl ?_); (try (refine gate_guard (by rfl) ?_; dsimp only)); refine box_event ?hg (N := 5) ?hd (cs := #[.int .i64 0, .int .i64 0, .string (⟨#[]⟩ : ByteArray)]) (t := 23) ?hr ?_; (case hd => rfl); (case hg => rfl); (case hr => first | (go_simp; done) | (go_simp; rfl)); intro gb530 hg w81 hbox hb; have n0_ := Aside0.mk (below_step (by repeat (first | (with_reducible first | exact HB.out | apply below_alloc | apply pw_below_drewN | apply below_drew1) | exact HB.out)) hb); have n1_ := Aside0.mk (hbox); have n2_ := Aside0.mk ((by rw [hg]; exact (below_size (by repeat (first | (with_reducible first | exact HB.out | apply below_alloc | apply pw_below_drewN | apply below_drew1) | exact HB.out))) : w.heap.size ≤ gb530)); have n3_ := Aside0.mk ((by rw [hg]; exact (below_size (by repeat (first | (with_reducible first | exact HB.out | apply below_alloc | apply pw_below_drewN | apply below_drew1) | exact HB.out))) : w.heap.size ≤ gb530)); clear HB; have HB := n0_; have BK530 := n1_; have GW530 := n2_; have GE530 := n3_; clear n0_ n1_ n2_ n3_; clear hb hbox hg; have hcz82_0 : w81.cell? ⟨gb530, 0, none⟩ = some (.int .i64 0) := (blk_cell BK530.out 0).trans rfl; have hcz82_1 : w81.cell? ⟨gb530, 1, none⟩ = some (.int .i64 0) := (blk_cell BK530.out 1).trans rfl; have hcz82_2 : w81.cell? ⟨gb530, 2, none⟩ = some (.string (⟨#[]⟩ : ByteArray)) := (blk_cell BK530.out 2).trans rfl; have hfz82_0 := blk_frozen BK530.out 0; have hfz82_1 := blk_frozen BK530.out 1; have hfz82_2 := blk_frozen BK530.out 2) | (go_at_call 13; (with_reducible refine (shucklaw14_known.calls kj2  t537 _ ?side1 A77.out).mono ?_); (case side1 => exact TabOk.of HT.out (by repeat (first | (with_reducible first | exact HB.out | apply below_alloc | apply pw_below_drewN | apply below_drew1 | refine below_set ?_ GE530.out) | exact HB.out))); rintro e w83 ⟨rfl, hb⟩; have n0_ := Aside0.mk (blk_below (g := gb530) (o := .cells #[.int .i64 t525, .int .i64 t526, .string t527] 23 (0, 0)) (by (with_reducible repeat (first | refine blk_drewN ?_ _ | refine blk_drew ?_ | refine blk_alloc ?_ _)); refine blk_put (cs := #[.int .i64 t525, .int .i64 t526, .string (⟨#[]⟩ : ByteArray)]) ?_ 2 _ rfl; (with_reducible repeat (first | refine blk_drewN ?_ _ | refine blk_drew ?_ | refine blk_alloc ?_ _)); refine blk_put (cs := #[.int .i64 t525, .int .i64 0, .string (⟨#[]⟩ : ByteArray)]) ?_ 1 _ rfl; (with_reducible repeat (first | refine blk_drewN ?_ _ | refine blk_drew ?_ | refine blk_alloc ?_ _)); refine blk_put (cs := #[.int .i64 0, .int .i64 0, .string (⟨#[]⟩ : ByteArray)]) ?_ 0 _ rfl; (with_reducible repeat (first | refine blk_drewN ?_ _ | refine blk_drew ?_ | refine blk_alloc ?_ _)); exact BK530.out) hb); have n1_ := Aside0.mk (below_step (by repeat (first | (with_reducible first | exact HB.out | apply below_alloc | apply pw_below_drewN | apply below_drew1 | refine below_set ?_ GE530.out) | exact HB.out)) hb); clear BK530; clear HB; have BK530 := n0_; have HB := n1_; clear n0_ n1_; (try clear hb); (try clear hb2); (try clear hk); (try clear hi)))
                          go_ret
                          exact ⟨by first | rfl | (simp [errW_none, errW_some] <;> rfl) | (simp only [← hji75]; first | rfl | (simp [errW_none, errW_some] <;> rfl)) | (simp [*, errW_none, errW_some] <;> rfl), by repeat (first | (with_reducible first | exact HB.out | apply below_alloc | apply pw_below_drewN | apply below_drew1 | refine below_set ?_ GE530.out) | exact HB.out)⟩
                        · rw [if_neg c76] at H
                          have c76b0 : decide ((wrap64 (-t526)) < (ji75)) = false := decide_eq_false c76
                          clear c76
                          exact absurd ((Option.some.inj H).trans hr) (by decide)
                    · rw [if_neg c66] at H
                      have c66b0 : decide (t526 < 0) = false := decide_eq_false c66
                      have q66_ : decide (a0 < 0) = false := by
                        have e_ := eq_of_beq c65b0
                        rw [← e_]
                        exact c66b0
                      clear c66
                      obtain ⟨ji84, hji84⟩ : ∃ j_ : Int, (mx a1 (wrap64 (-a1))) = j_ := ⟨_, rfl⟩
                      replace H : (if t526 < (ji84) then (if t526 > 0 then ((shucklaw14_known.f kj2).bind fun t538 => (some t538)) else (if (wrap64 (-t526)) < (ji84) then ((shucklaw14_known.f kj2).bind fun t539 => (some t539)) else (some false))) else (some false)) = some r := by first | (rw [hji84] at H; exact H) | (simp only [hji84] at H ⊢; exact H)
                      (try rw [hji84] at A10)
                      (try rw [hji84] at A11)
                      (try rw [hji84] at A12)
                      have hji84_ : (if a1 < (wrap64 (-a1)) then (wrap64 (-a1)) else a1) = ji84 := hji84
                      by_cases c85 : t526 < (ji84)
                      · rw [if_pos c85] at H
                        have c85b0 : decide (t526 < (ji84)) = true := decide_eq_true c85
                        clear c85
                        by_cases c86 : t526 > 0
                        · rw [if_pos c86] at H
                          have c86b0 : decide (0 < t526) = true := decide_eq_true c86
                          clear c86
                          replace H := Option.bind_eq_some_iff.mp H
                          obtain ⟨t538, A870, H⟩ := H
                          replace H : (some t538) = some r := H
                          have A87 := Aside0.mk A870
                          clear A870
                          obtain rfl := Option.some.inj H
                          go_wp2_with (first | ((with_reducible refine gate_callee (f := 24) rfl ?_); refine goesL_ (some 26) rfl rfl Tryd.func24 (by kernel_rfl) rfl #[.int .i64 a0] rfl (by (try simp only [List.map_toArray, List.map_cons, List.map_nil]); first | done | rfl | (simp only [List.length_drop, List.length_take]; rfl)) ?_; (with_reducible refine (shucklaw14_num.calls a0 t519 t520 t521 _ A10.out).mono ?_); rintro e w88 ⟨rfl, hb⟩; refine ⟨_, rfl, ?_⟩; have n0_ := Aside0.mk (below_step (by repeat (first | (with_reducible first | exact HB.out | apply below_alloc | apply pw_below_drewN | apply below_drew1) | exact HB.out)) hb); clear HB; have HB := n0_; clear n0_; (try clear hb); (try clear hb2); (try clear hk); (try clear hi)) | ((with_reducible refine gate_callee (f := 24) rfl ?_); refine goesL_ (some 28) rfl rfl Tryd.func24 (by kernel_rfl) rfl #[.int .i64 a1] rfl (by (try simp only [List.map_toArray, List.map_cons, List.map_nil]); first | done | rfl | (simp only [List.length_drop, List.length_take]; rfl)) ?_; (with_reducible refine (shucklaw14_num.calls a1 t522 t523 t524 _ A11.out).mono ?_); rintro e w89 ⟨rfl, hb⟩; refine ⟨_, rfl, ?_⟩; have n0_ := Aside0.mk (below_step (by repeat (first | (with_reducible first | exact HB.out | apply below_alloc | apply pw_below_drewN | apply below_drew1) | exact HB.out)) hb); clear HB; have HB := n0_; clear n0_; (try clear hb); (try clear hb2); (try clear hk); (try clear hi)) | ((with_reducible refine gate_callee (f := 16) rfl ?_); refine goesL_ (some 29) rfl rfl Tryd.func16 (by kernel_rfl) rfl #[.string (⟨#[37]⟩ : ByteArray), .agg #[.int .i64 t519, .int .i64 t520, .string t521], .agg #[.int .i64 t522, .int .i64 t523, .string t524]] rfl (by (try simp only [List.map_toArray, List.map_cons, List.map_nil]); first | done | rfl | (simp only [List.length_drop, List.length_take]; rfl)) ?_; (with_reducible refine (value_Binary.calls (⟨#[37]⟩ : ByteArray) t519 t520 t521 t522 t523 t524 t525 t526 t527 t528 t529 _ ?side1 A12.out).mono ?_); (case side1 => exact TabOk.of HT.out (by repeat (first | (with_reducible first | exact HB.out | apply below_alloc | apply pw_below_drewN | apply below_drew1) | exact HB.out))); rintro e w90 ⟨rfl, hb⟩; refine ⟨_, rfl, ?_⟩; have n0_ := Aside0.mk (below_step (by repeat (first | (with_reducible first | exact HB.out | apply below_alloc | apply pw_below_drewN | apply below_drew1) | exact HB.out)) hb); clear HB; have HB := n0_; clear n0_; (try clear hb); (try clear hb2); (try clear hk); (try clear hi)) | ((with_reducible refine gate_dst (N := 5) rfl ?_); (try (refine gate_guard (by rfl) ?_; dsimp only)); refine box_event ?hg (N := 5) ?hd (cs := #[.int .i64 0, .int .i64 0, .string (⟨#[]⟩ : ByteArray)]) (t := 23) ?hr ?_; (case hd => rfl); (case hg => rfl); (case hr => first | (go_simp; done) | (go_simp; rfl)); intro gb530 hg w91 hbox hb; have n0_ := Aside0.mk (below_step (by repeat (first | (with_reducible first | exact HB.out | apply below_alloc | apply pw_below_drewN | apply below_drew1) | exact HB.out)) hb); have n1_ := Aside0.mk (hbox); have n2_ := Aside0.mk ((by rw [hg]; exact (below_size (by repeat (first | (with_reducible first | exact HB.out | apply below_alloc | apply pw_below_drewN | apply below_drew1) | exact HB.out))) : w.heap.size ≤ gb530)); have n3_ := Aside0.mk ((by rw [hg]; exact (below_size (by repeat (first | (with_reducible first | exact HB.out | apply below_alloc | apply pw_below_drewN | apply below_drew1) | exact HB.out))) : w.heap.size ≤ gb530)); clear HB; have HB := n0_; have BK530 := n1_; have GW530 := n2_; have GE530 := n3_; clear n0_ n1_ n2_ n3_; clear hb hbox hg; have hcz92_0 : w91.cell? ⟨gb530, 0, none⟩ = some (.int .i64 0) := (blk_cell BK530.out 0).trans rfl; have hcz92_1 : w91.cell? ⟨gb530, 1, none⟩ = some (.int .i64 0) := (blk_cell BK530.out 1).trans rfl; have hcz92_2 : w91.cell? ⟨gb530, 2, none⟩ = some (.string (⟨#[]⟩ : ByteArray)) := (blk_cell BK530.out 2).trans rfl; have hfz92_0 := blk_frozen BK530.out 0; have hfz92_1 := blk_frozen BK530.out 1; have hfz92_2 := blk_frozen BK530.out 2) | (go_at_call 13; (with_reducible refine (shucklaw14_known.calls kj2  t538 _ ?side1 A87.out).mono ?_); (case side1 => exact TabOk.of HT.out (by repeat (first | (with_reducible first | exact HB.out | apply below_alloc | apply pw_below_drewN | apply below_drew1 | refine below_set ?_ GE530.out) | exact HB.out))); rintro e w93 ⟨rfl, hb⟩; have n0_ := Aside0.mk (blk_below (g := gb530) (o := .cells #[.int .i64 t525, .int .i64 t526, .string t527] 23 (0, 0)) (by (with_reducible repeat (first | refine blk_drewN ?_ _ | refine blk_drew ?_ | refine blk_alloc ?_ _)); refine blk_put (cs := #[.int .i64 t525, .int .i64 t526, .string (⟨#[]⟩ : ByteArray)]) ?_ 2 _ rfl; (with_reducible repeat (first | refine blk_drewN ?_ _ | refine blk_drew ?_ | refine blk_alloc ?_ _)); refine blk_put (cs := #[.int .i64 t525, .int .i64 0, .string (⟨#[]⟩ : ByteArray)]) ?_ 1 _ rfl; (with_reducible repeat (first | refine blk_drewN ?_ _ | refine blk_drew ?_ | refine blk_alloc ?_ _)); refine blk_put (cs := #[.int .i64 0, .int .i64 0, .string (⟨#[]⟩ : ByteArray)]) ?_ 0 _ rfl; (with_reducible repeat (first | refine blk_drewN ?_ _ | refine blk_drew ?_ | refine blk_alloc ?_ _)); exact BK530.out) hb); have n1_ := Aside0.mk (below_step (by repeat (first | (with_reducible first | exact HB.out | apply below_alloc | apply pw_below_drewN | apply below_drew1 | refine below_set ?_ GE530.out) | exact HB.out)) hb); clear BK530; clear HB; have BK530 := n0_; have HB := n1_; clear n0_ n1_; (try clear hb); (try clear hb2); (try clear hk); (try clear hi)))
                          go_ret
                          exact ⟨by first | rfl | (simp [errW_none, errW_some] <;> rfl) | (simp only [← hji84]; first | rfl | (simp [errW_none, errW_some] <;> rfl)) | (simp [*, errW_none, errW_some] <;> rfl), by repeat (first | (with_reducible first | exact HB.out | apply below_alloc | apply pw_below_drewN | apply below_drew1 | refine below_set ?_ GE530.out) | exact HB.out)⟩
                        · exfalso
                          have z_ := of_decide_eq_false c66b0
                          have y_ := ne_of_beq_false c27b0
                          omega
                      · rw [if_neg c85] at H
                        have c85b0 : decide (t526 < (ji84)) = false := decide_eq_false c85
                        clear c85
                        exact absurd ((Option.some.inj H).trans hr) (by decide)
                  · rw [if_neg c65] at H
                    have c65b0 : ((decide (t526 < 0)) == (decide (a0 < 0))) = false := by simpa using c65
                    (try (have c65b1 : decide ((decide (t526 < 0)) = (decide (a0 < 0))) = false := by simpa using c65))
                    (try (have c65b2 : ((decide (t526 < 0)) == (decide (a0 < 0))) = false := by simpa using c65))
                    (try (have c65b3 : ¬ ((decide (t526 < 0)) = (decide (a0 < 0))) := by simpa using c65))
                    clear c65
                    exact absurd ((Option.some.inj H).trans hr) (by decide)
              · rw [if_neg c26] at H
                have c26b0 : ((Int.tmod (wrap64 (a0 - t526)) a1) == 0) = false := beq_eq_false_iff_ne.mpr c26
                have c26b1 : ((Int.tmod (wrap64 (a0 - t526)) a1) != 0) = true := bne_iff_ne.mpr c26
                exact absurd ((Option.some.inj H).trans hr) (by decide)
            · rw [if_neg c25] at H
              have c25b0 : (t525 == 3) = false := beq_eq_false_iff_ne.mpr c25
              have c25b1 : (t525 != 3) = true := bne_iff_ne.mpr c25
              exact absurd ((Option.some.inj H).trans hr) (by decide)
          · rw [if_neg c24] at H
            have c24b0 : (t529 == 0) = false := beq_eq_false_iff_ne.mpr c24
            have c24b1 : (t529 != 0) = true := bne_iff_ne.mpr c24
            exact absurd ((Option.some.inj H).trans hr) (by decide)
end Go.Proofs.YtceahnhpeadkoaaDoor.V
