/- The walk of the law ValueShifts, where it answers true. Written by a program of this work out of the translation. -/
import Derived.Test.YtceahnhpeadkoaaDoorLy
namespace Go.Proofs.YtceahnhpeadkoaaDoor.V
open Go.RowKit Go.Proofs.YtceahnhpeadkoaaDoorW.PrintWords Go.Proofs.YtceahnhpeadkoaaDoorW.PrintLast Go.Proofs.YtceahnhpeadkoaaDoorW.PrintMore
attribute [local go_sem] max2_int min2_int max_two min_two max_three min_three max_four min_four   -- for this text's walks alone
set_option linter.unusedVariables false
set_option linter.unusedSimpArgs false
attribute [local go_sem high] eqA23
/-! ### shucklaw14_ValueShifts: function 10 -/
def shucklaw14_ValueShifts.j0 : Nat → Int → Int → Bool → Option (Bool)
  | 0, _, _, _ => none
  | k + 1, x0, x1, x29 => if x29 = true then ((shucklaw14_known.f k).bind fun t471 => (some t471)) else ((shucklaw14_num.f x0).bind fun bt472 => ((shucklaw14_num.f x1).bind fun bt475 => ((value_Binary.f (⟨#[60, 60]⟩ : ByteArray) bt472.1 bt472.2.1 bt472.2.2 bt475.1 bt475.2.1 bt475.2.2).bind fun bt478 => ((shucklaw14_num.f x0).bind fun bt484 => ((shucklaw14_num.f x1).bind fun bt487 => ((value_Binary.f (⟨#[62, 62]⟩ : ByteArray) bt484.1 bt484.2.1 bt484.2.2 bt487.1 bt487.2.1 bt487.2.2).bind fun bt490 => ((shucklaw14_num.f x0).bind fun bt496 => ((shucklaw14_num.f x1).bind fun bt499 => ((value_Binary.f (⟨#[62, 62, 62]⟩ : ByteArray) bt496.1 bt496.2.1 bt496.2.2 bt499.1 bt499.2.1 bt499.2.2).bind fun bt502 => (if (wrap64 ((wrap64 (bt478.2.2.2.2 + bt490.2.2.2.2)) + bt502.2.2.2.2)) = 0 then (if 0 ≤ (Go.bits .and .u32 ((x1) % 4294967296) 31) then ((shucklaw14_num.f (wrap64 (wrap32 (shl .u32 ((x0) % 4294967296) (Go.bits .and .u32 ((x1) % 4294967296) 31))))).bind fun bt508 => (if (bt478.1 == bt508.1 && (bt478.2.1 == bt508.2.1 && (bt478.2.2.1.toList == bt508.2.2.toList))) = true then ((shucklaw14_num.f (wrap64 (shr .i32 (wrap32 ((x0) % 4294967296)) (Go.bits .and .u32 ((x1) % 4294967296) 31)))).bind fun bt511 => (if (bt490.1 == bt511.1 && (bt490.2.1 == bt511.2.1 && (bt490.2.2.1.toList == bt511.2.2.toList))) = true then ((shucklaw14_num.f (shr .u32 ((x0) % 4294967296) (Go.bits .and .u32 ((x1) % 4294967296) 31))).bind fun bt514 => (if (bt502.1 == bt514.1 && (bt502.2.1 == bt514.2.1 && (bt502.2.2.1.toList == bt514.2.2.toList))) = true then ((shucklaw14_known.f k).bind fun t517 => (some t517)) else (some false))) else (some false))) else (some false))) else (none)) else (some false)))))))))))
def shucklaw14_ValueShifts.f (k : Nat) (a0 : Int) (a1 : Int) : Option (Bool) := if a0 > 9007199254740991 then (shucklaw14_ValueShifts.j0 k a0 a1 true) else (if a0 < (-9007199254740991) then (shucklaw14_ValueShifts.j0 k a0 a1 true) else (if a1 > 9007199254740991 then (shucklaw14_ValueShifts.j0 k a0 a1 true) else (shucklaw14_ValueShifts.j0 k a0 a1 (decide (a1 < (-9007199254740991))))))
theorem shucklaw14_ValueShifts.mono_l : ∀ k, (∀ y0 y1 y2, LeO (shucklaw14_ValueShifts.j0 k y0 y1 y2) (shucklaw14_ValueShifts.j0 (k + 1) y0 y1 y2))
  | 0 => fun _ _ _ r h => by simp [shucklaw14_ValueShifts.j0] at h
  | k + 1 => by
    have ih0 := shucklaw14_ValueShifts.mono_l k
    · intro y0 y1 y2
      unfold shucklaw14_ValueShifts.j0
      repeat' first
      | (with_reducible exact ih0 _ _ _)
      | (with_reducible exact shucklaw14_known.mono _)
      | (with_reducible exact LeO.refl _)
      | (with_reducible exact LeO.none _)
      | (with_reducible refine LeO.ite ?_ ?_)
      | (with_reducible refine LeO.bind ?_ (fun _ => ?_))
      | exact ih0 _ _ _
      | exact shucklaw14_known.mono _
      | exact LeO.none _
      | refine LeO.ite ?_ ?_
      | refine LeO.bind ?_ (fun _ => ?_)
theorem shucklaw14_ValueShifts.mono : ∀ a0 a1 k, LeO (shucklaw14_ValueShifts.f k a0 a1) (shucklaw14_ValueShifts.f (k + 1) a0 a1) := by
  intro a0 a1 k
  have ih0 := shucklaw14_ValueShifts.mono_l k
  unfold shucklaw14_ValueShifts.f
  repeat' first
      | (with_reducible exact ih0 _ _ _)
      | (with_reducible exact shucklaw14_known.mono _)
      | (with_reducible exact LeO.refl _)
      | (with_reducible exact LeO.none _)
      | (with_reducible refine LeO.ite ?_ ?_)
      | (with_reducible refine LeO.bind ?_ (fun _ => ?_))
      | exact ih0 _ _ _
      | exact shucklaw14_known.mono _
      | exact LeO.none _
      | refine LeO.ite ?_ ?_
      | refine LeO.bind ?_ (fun _ => ?_)
def shucklaw14_ValueShifts.T8 : Bool × List (List Nat × List Nat) := (true, [([], []), ([], []), ([0, 1], [0, 1]), ([], []), ([2, 3], [2, 3]), ([4], [4]), ([5], [5]), ([6], [6]), ([6], [6]), ([6], [6]), ([8, 9, 6], [6, 8, 9]), ([10, 6], [6, 10]), ([11, 6], [6, 11]), ([12, 6, 6], [6, 12]), ([7, 13, 6], [6, 7, 13]), ([6, 14], [6, 14]), ([15, 13], [15]), ([16], [16]), ([16], [16]), ([18, 16], [16, 18]), ([16], [16]), ([19, 20, 16], [16, 19, 20]), ([21, 16], [16, 21]), ([22, 16, 16], [16, 22]), ([17, 23, 16], [16, 17, 23]), ([16, 24], [16, 24]), ([25, 23], [25]), ([26], [26]), ([26], [26]), ([26], [26]), ([28, 29, 26], [26, 28, 29]), ([30, 26], [26, 30]), ([31, 26, 26], [26, 31]), ([27, 32, 26], [26, 27, 32]), ([26, 33], [26, 33]), ([34, 32], [34]), ([35, 35], [35]), ([35, 36], [35, 36]), ([37, 36, 0, 1, 2, 3, 4, 5, 6, 7, 8, 9, 10, 11, 12, 13, 14, 15, 16, 17, 18, 19, 20, 21, 22, 23, 24, 25, 26, 27, 28, 29, 30, 31, 32, 33, 34, 35, 36, 37], [37])])
def shucklaw14_ValueShifts.B8 : List Nat := [0, 0, 3, 0, 15, 31, 63, 127, 127, 127, 895, 1919, 3967, 8063, 16383, 32767, 65535, 131071, 131071, 393215, 131071, 1966079, 4063231, 8257535, 16777215, 33554431, 67108863, 134217727, 134217727, 134217727, 939524095, 2013265919, 4160749567, 8589934591, 17179869183, 34359738367, 68719476735, 137438953471, 274877906943]
theorem shucklaw14_ValueShifts.tab8 : rtab .any (opsOf Tryd.f10 8) = shucklaw14_ValueShifts.T8 := by kernel_rfl
theorem shucklaw14_ValueShifts.bits8 : waitsOk shucklaw14_ValueShifts.T8.2 shucklaw14_ValueShifts.B8 = true := by kernel_rfl
set_option maxHeartbeats 8000000 in
set_option maxRecDepth 100000 in
theorem shucklaw14_ValueShifts.calls (k : Nat) (a0 : Int) (a1 : Int) (r : Bool) (w : World) (hT : TabOk w) (hr : r = true) (h : shucklaw14_ValueShifts.f k a0 a1 = some r) :
    Calls Tryd.prog 10 #[.int .i64 a0, .int .i64 a1] w fun e w' => e = .returned (.bool r) ∧ Below w.heap.size w w' := by
  have hu23 := Tryd.underlying23
  have HT := Aside0.mk hT
  clear hT
  have HB := Aside0.mk (Below.refl w.heap.size w)
  have H : (if a0 > 9007199254740991 then (shucklaw14_ValueShifts.j0 k a0 a1 true) else (if a0 < (-9007199254740991) then (shucklaw14_ValueShifts.j0 k a0 a1 true) else (if a1 > 9007199254740991 then (shucklaw14_ValueShifts.j0 k a0 a1 true) else (shucklaw14_ValueShifts.j0 k a0 a1 (decide (a1 < (-9007199254740991))))))) = some r := h
  clear h
  have HC3 := Aside0.mk H
  clear H
  go_enter Tryd.func10, Tryd.ntmps10
  go_upto_region 1 with (fail)
  go_cut [29] (fun v29 wc => ∃ (kq : Nat) (x29_2 : Bool), v29 = .bool x29_2 ∧ Aside0 (shucklaw14_ValueShifts.j0 kq a0 a1 x29_2 = some r) ∧ Aside0 (kq ≤ k) ∧ Aside0 (Below w.heap.size w wc))
  case first =>
    have H := HC3.out
    clear HC3
    by_cases c4 : a0 > 9007199254740991
    · rw [if_pos c4] at H
      have c4b0 : decide (9007199254740991 < a0) = true := decide_eq_true c4
      clear c4
      (first | rw [c4b0] | (simp only [i64_w, i32_w]; rw [c4b0]) | skip)
      have H' := Aside0.mk H
      clear H
      go_wp2
      go_meet
      case rel => exact ⟨_, (true), (by first | rfl | (simp; done) | (simp [*]; done)), H', ⟨by first | omega | exact Nat.le_refl _⟩, ⟨by repeat (first | (with_reducible first | exact HB.out | apply below_alloc | apply pw_below_drewN | apply below_drew1) | exact HB.out)⟩⟩
    · rw [if_neg c4] at H
      have c4b0 : decide (9007199254740991 < a0) = false := decide_eq_false c4
      clear c4
      (first | rw [c4b0] | (simp only [i64_w, i32_w]; rw [c4b0]) | skip)
      by_cases c5 : a0 < (-9007199254740991)
      · rw [if_pos c5] at H
        have c5b0 : decide (a0 < (-9007199254740991)) = true := decide_eq_true c5
        clear c5
        have H' := Aside0.mk H
        clear H
        go_wp2
        go_meet
        case rel => exact ⟨_, (true), (by first | rfl | (simp; done) | (simp [*]; done)), H', ⟨by first | omega | exact Nat.le_refl _⟩, ⟨by repeat (first | (with_reducible first | exact HB.out | apply below_alloc | apply pw_below_drewN | apply below_drew1) | exact HB.out)⟩⟩
      · rw [if_neg c5] at H
        have c5b0 : decide (a0 < (-9007199254740991)) = false := decide_eq_false c5
        clear c5
        by_cases c6 : a1 > 9007199254740991
        · rw [if_pos c6] at H
          have c6b0 : decide (9007199254740991 < a1) = true := decide_eq_true c6
          clear c6
          have H' := Aside0.mk H
          clear H
          go_wp2
          go_meet
          case rel => exact ⟨_, (true), (by first | rfl | (simp; done) | (simp [*]; done)), H', ⟨by first | omega | exact Nat.le_refl _⟩, ⟨by repeat (first | (with_reducible first | exact HB.out | apply below_alloc | apply pw_below_drewN | apply below_drew1) | exact HB.out)⟩⟩
        · rw [if_neg c6] at H
          have c6b0 : decide (9007199254740991 < a1) = false := decide_eq_false c6
          clear c6
          have H' := Aside0.mk H
          clear H
          go_wp2
          go_meet
          case rel => exact ⟨_, (decide (a1 < (-9007199254740991))), (by first | rfl | (simp; done) | (simp [*]; done)), H', ⟨by first | omega | exact Nat.le_refl _⟩, ⟨by repeat (first | (with_reducible first | exact HB.out | apply below_alloc | apply pw_below_drewN | apply below_drew1) | exact HB.out)⟩⟩
  case rest =>
    clear HC3
    try clear c1
    try clear p2
    try clear c4
    try clear c4b0
    try clear c5
    try clear c5b0
    try clear c6
    try clear c6b0
    obtain ⟨kq, x29_2, rfl, HA, HJ2, HB⟩ := hcut
    cases kq with
    | zero => exact absurd HA.out (by simp [shucklaw14_ValueShifts.j0])
    | succ kj2 =>
      have H := HA.out
      clear HA
      simp only [shucklaw14_ValueShifts.j0] at H
      by_cases c7 : x29_2 = true
      · subst c7
        have H1 : ((shucklaw14_known.f kj2).bind fun t471 => (some t471)) = some r := by rw [if_pos rfl] at H; exact H
        clear H
        have H := H1
        clear H1
        replace H := Option.bind_eq_some_iff.mp H
        obtain ⟨t471, A80, H⟩ := H
        replace H : (some t471) = some r := H
        have A8 := Aside0.mk A80
        clear A80
        obtain rfl := Option.some.inj H
        go_wp2_with (first | ((with_reducible refine gate_callee (f := 13) rfl ?_); refine goesL_ (some 30) rfl rfl Tryd.func13 (by kernel_rfl) rfl #[] rfl (by (try simp only [List.map_toArray, List.map_cons, List.map_nil]); first | done | rfl | (simp only [List.length_drop, List.length_take]; rfl)) ?_; (with_reducible refine (shucklaw14_known.calls kj2  t471 _ ?side1 A8.out).mono ?_); (case side1 => exact TabOk.of HT.out (by repeat (first | (with_reducible first | exact HB.out | apply below_alloc | apply pw_below_drewN | apply below_drew1) | exact HB.out))); rintro e w9 ⟨rfl, hb⟩; refine ⟨_, rfl, ?_⟩; have n0_ := Aside0.mk (below_step (by repeat (first | (with_reducible first | exact HB.out | apply below_alloc | apply pw_below_drewN | apply below_drew1) | exact HB.out)) hb); clear HB; have HB := n0_; clear n0_; (try clear hb); (try clear hb2); (try clear hk); (try clear hi)))
        go_ret
        exact ⟨by first | rfl | (simp [errW_none, errW_some] <;> rfl) | (simp [*, errW_none, errW_some] <;> rfl), by repeat (first | (with_reducible first | exact HB.out | apply below_alloc | apply pw_below_drewN | apply below_drew1) | exact HB.out)⟩
      · replace c7 := Bool.eq_false_iff.mpr c7
        subst c7
        have H1 : ((shucklaw14_num.f a0).bind fun bt472 => ((shucklaw14_num.f a1).bind fun bt475 => ((value_Binary.f (⟨#[60, 60]⟩ : ByteArray) bt472.1 bt472.2.1 bt472.2.2 bt475.1 bt475.2.1 bt475.2.2).bind fun bt478 => ((shucklaw14_num.f a0).bind fun bt484 => ((shucklaw14_num.f a1).bind fun bt487 => ((value_Binary.f (⟨#[62, 62]⟩ : ByteArray) bt484.1 bt484.2.1 bt484.2.2 bt487.1 bt487.2.1 bt487.2.2).bind fun bt490 => ((shucklaw14_num.f a0).bind fun bt496 => ((shucklaw14_num.f a1).bind fun bt499 => ((value_Binary.f (⟨#[62, 62, 62]⟩ : ByteArray) bt496.1 bt496.2.1 bt496.2.2 bt499.1 bt499.2.1 bt499.2.2).bind fun bt502 => (if (wrap64 ((wrap64 (bt478.2.2.2.2 + bt490.2.2.2.2)) + bt502.2.2.2.2)) = 0 then (if 0 ≤ (Go.bits .and .u32 ((a1) % 4294967296) 31) then ((shucklaw14_num.f (wrap64 (wrap32 (shl .u32 ((a0) % 4294967296) (Go.bits .and .u32 ((a1) % 4294967296) 31))))).bind fun bt508 => (if (bt478.1 == bt508.1 && (bt478.2.1 == bt508.2.1 && (bt478.2.2.1.toList == bt508.2.2.toList))) = true then ((shucklaw14_num.f (wrap64 (shr .i32 (wrap32 ((a0) % 4294967296)) (Go.bits .and .u32 ((a1) % 4294967296) 31)))).bind fun bt511 => (if (bt490.1 == bt511.1 && (bt490.2.1 == bt511.2.1 && (bt490.2.2.1.toList == bt511.2.2.toList))) = true then ((shucklaw14_num.f (shr .u32 ((a0) % 4294967296) (Go.bits .and .u32 ((a1) % 4294967296) 31))).bind fun bt514 => (if (bt502.1 == bt514.1 && (bt502.2.1 == bt514.2.1 && (bt502.2.2.1.toList == bt514.2.2.toList))) = true then ((shucklaw14_known.f kj2).bind fun t517 => (some t517)) else (some false))) else (some false))) else (some false))) else (none)) else (some false))))))))))) = some r := by rw [if_neg (show ¬ (false = true) by decide)] at H; exact H
        clear H
        have H := H1
        clear H1
        replace H := Option.bind_eq_some_iff.mp H
        obtain ⟨⟨t472, t473, t474⟩, A100, H⟩ := H
        replace H : ((shucklaw14_num.f a1).bind fun bt475 => ((value_Binary.f (⟨#[60, 60]⟩ : ByteArray) t472 t473 t474 bt475.1 bt475.2.1 bt475.2.2).bind fun bt478 => ((shucklaw14_num.f a0).bind fun bt484 => ((shucklaw14_num.f a1).bind fun bt487 => ((value_Binary.f (⟨#[62, 62]⟩ : ByteArray) bt484.1 bt484.2.1 bt484.2.2 bt487.1 bt487.2.1 bt487.2.2).bind fun bt490 => ((shucklaw14_num.f a0).bind fun bt496 => ((shucklaw14_num.f a1).bind fun bt499 => ((value_Binary.f (⟨#[62, 62, 62]⟩ : ByteArray) bt496.1 bt496.2.1 bt496.2.2 bt499.1 bt499.2.1 bt499.2.2).bind fun bt502 => (if (wrap64 ((wrap64 (bt478.2.2.2.2 + bt490.2.2.2.2)) + bt502.2.2.2.2)) = 0 then (if 0 ≤ (Go.bits .and .u32 ((a1) % 4294967296) 31) then ((shucklaw14_num.f (wrap64 (wrap32 (shl .u32 ((a0) % 4294967296) (Go.bits .and .u32 ((a1) % 4294967296) 31))))).bind fun bt508 => (if (bt478.1 == bt508.1 && (bt478.2.1 == bt508.2.1 && (bt478.2.2.1.toList == bt508.2.2.toList))) = true then ((shucklaw14_num.f (wrap64 (shr .i32 (wrap32 ((a0) % 4294967296)) (Go.bits .and .u32 ((a1) % 4294967296) 31)))).bind fun bt511 => (if (bt490.1 == bt511.1 && (bt490.2.1 == bt511.2.1 && (bt490.2.2.1.toList == bt511.2.2.toList))) = true then ((shucklaw14_num.f (shr .u32 ((a0) % 4294967296) (Go.bits .and .u32 ((a1) % 4294967296) 31))).bind fun bt514 => (if (bt502.1 == bt514.1 && (bt502.2.1 == bt514.2.1 && (bt502.2.2.1.toList == bt514.2.2.toList))) = true then ((shucklaw14_known.f kj2).bind fun t517 => (some t517)) else (some false))) else (some false))) else (some false))) else (none)) else (some false)))))))))) = some r := H
        have A10 := Aside0.mk A100
        clear A100
        replace H := Option.bind_eq_some_iff.mp H
        obtain ⟨⟨t475, t476, t477⟩, A110, H⟩ := H
        replace H : ((value_Binary.f (⟨#[60, 60]⟩ : ByteArray) t472 t473 t474 t475 t476 t477).bind fun bt478 => ((shucklaw14_num.f a0).bind fun bt484 => ((shucklaw14_num.f a1).bind fun bt487 => ((value_Binary.f (⟨#[62, 62]⟩ : ByteArray) bt484.1 bt484.2.1 bt484.2.2 bt487.1 bt487.2.1 bt487.2.2).bind fun bt490 => ((shucklaw14_num.f a0).bind fun bt496 => ((shucklaw14_num.f a1).bind fun bt499 => ((value_Binary.f (⟨#[62, 62, 62]⟩ : ByteArray) bt496.1 bt496.2.1 bt496.2.2 bt499.1 bt499.2.1 bt499.2.2).bind fun bt502 => (if (wrap64 ((wrap64 (bt478.2.2.2.2 + bt490.2.2.2.2)) + bt502.2.2.2.2)) = 0 then (if 0 ≤ (Go.bits .and .u32 ((a1) % 4294967296) 31) then ((shucklaw14_num.f (wrap64 (wrap32 (shl .u32 ((a0) % 4294967296) (Go.bits .and .u32 ((a1) % 4294967296) 31))))).bind fun bt508 => (if (bt478.1 == bt508.1 && (bt478.2.1 == bt508.2.1 && (bt478.2.2.1.toList == bt508.2.2.toList))) = true then ((shucklaw14_num.f (wrap64 (shr .i32 (wrap32 ((a0) % 4294967296)) (Go.bits .and .u32 ((a1) % 4294967296) 31)))).bind fun bt511 => (if (bt490.1 == bt511.1 && (bt490.2.1 == bt511.2.1 && (bt490.2.2.1.toList == bt511.2.2.toList))) = true then ((shucklaw14_num.f (shr .u32 ((a0) % 4294967296) (Go.bits .and .u32 ((a1) % 4294967296) 31))).bind fun bt514 => (if (bt502.1 == bt514.1 && (bt502.2.1 == bt514.2.1 && (bt502.2.2.1.toList == bt514.2.2.toList))) = true then ((shucklaw14_known.f kj2).bind fun t517 => (some t517)) else (some false))) else (some false))) else (some false))) else (none)) else (some false))))))))) = some r := H
        have A11 := Aside0.mk A110
        clear A110
        replace H := Option.bind_eq_some_iff.mp H
        obtain ⟨⟨t478, t479, t480, t481, t482⟩, A120, H⟩ := H
        replace H : ((shucklaw14_num.f a0).bind fun bt484 => ((shucklaw14_num.f a1).bind fun bt487 => ((value_Binary.f (⟨#[62, 62]⟩ : ByteArray) bt484.1 bt484.2.1 bt484.2.2 bt487.1 bt487.2.1 bt487.2.2).bind fun bt490 => ((shucklaw14_num.f a0).bind fun bt496 => ((shucklaw14_num.f a1).bind fun bt499 => ((value_Binary.f (⟨#[62, 62, 62]⟩ : ByteArray) bt496.1 bt496.2.1 bt496.2.2 bt499.1 bt499.2.1 bt499.2.2).bind fun bt502 => (if (wrap64 ((wrap64 (t482 + bt490.2.2.2.2)) + bt502.2.2.2.2)) = 0 then (if 0 ≤ (Go.bits .and .u32 ((a1) % 4294967296) 31) then ((shucklaw14_num.f (wrap64 (wrap32 (shl .u32 ((a0) % 4294967296) (Go.bits .and .u32 ((a1) % 4294967296) 31))))).bind fun bt508 => (if (t478 == bt508.1 && (t479 == bt508.2.1 && (t480.toList == bt508.2.2.toList))) = true then ((shucklaw14_num.f (wrap64 (shr .i32 (wrap32 ((a0) % 4294967296)) (Go.bits .and .u32 ((a1) % 4294967296) 31)))).bind fun bt511 => (if (bt490.1 == bt511.1 && (bt490.2.1 == bt511.2.1 && (bt490.2.2.1.toList == bt511.2.2.toList))) = true then ((shucklaw14_num.f (shr .u32 ((a0) % 4294967296) (Go.bits .and .u32 ((a1) % 4294967296) 31))).bind fun bt514 => (if (bt502.1 == bt514.1 && (bt502.2.1 == bt514.2.1 && (bt502.2.2.1.toList == bt514.2.2.toList))) = true then ((shucklaw14_known.f kj2).bind fun t517 => (some t517)) else (some false))) else (some false))) else (some false))) else (none)) else (some false)))))))) = some r := H
        have A12 := Aside0.mk A120
        clear A120
        replace H := Option.bind_eq_some_iff.mp H
        obtain ⟨⟨t484, t485, t486⟩, A130, H⟩ := H
        replace H : ((shucklaw14_num.f a1).bind fun bt487 => ((value_Binary.f (⟨#[62, 62]⟩ : ByteArray) t484 t485 t486 bt487.1 bt487.2.1 bt487.2.2).bind fun bt490 => ((shucklaw14_num.f a0).bind fun bt496 => ((shucklaw14_num.f a1).bind fun bt499 => ((value_Binary.f (⟨#[62, 62, 62]⟩ : ByteArray) bt496.1 bt496.2.1 bt496.2.2 bt499.1 bt499.2.1 bt499.2.2).bind fun bt502 => (if (wrap64 ((wrap64 (t482 + bt490.2.2.2.2)) + bt502.2.2.2.2)) = 0 then (if 0 ≤ (Go.bits .and .u32 ((a1) % 4294967296) 31) then ((shucklaw14_num.f (wrap64 (wrap32 (shl .u32 ((a0) % 4294967296) (Go.bits .and .u32 ((a1) % 4294967296) 31))))).bind fun bt508 => (if (t478 == bt508.1 && (t479 == bt508.2.1 && (t480.toList == bt508.2.2.toList))) = true then ((shucklaw14_num.f (wrap64 (shr .i32 (wrap32 ((a0) % 4294967296)) (Go.bits .and .u32 ((a1) % 4294967296) 31)))).bind fun bt511 => (if (bt490.1 == bt511.1 && (bt490.2.1 == bt511.2.1 && (bt490.2.2.1.toList == bt511.2.2.toList))) = true then ((shucklaw14_num.f (shr .u32 ((a0) % 4294967296) (Go.bits .and .u32 ((a1) % 4294967296) 31))).bind fun bt514 => (if (bt502.1 == bt514.1 && (bt502.2.1 == bt514.2.1 && (bt502.2.2.1.toList == bt514.2.2.toList))) = true then ((shucklaw14_known.f kj2).bind fun t517 => (some t517)) else (some false))) else (some false))) else (some false))) else (none)) else (some false))))))) = some r := H
        have A13 := Aside0.mk A130
        clear A130
        replace H := Option.bind_eq_some_iff.mp H
        obtain ⟨⟨t487, t488, t489⟩, A140, H⟩ := H
        replace H : ((value_Binary.f (⟨#[62, 62]⟩ : ByteArray) t484 t485 t486 t487 t488 t489).bind fun bt490 => ((shucklaw14_num.f a0).bind fun bt496 => ((shucklaw14_num.f a1).bind fun bt499 => ((value_Binary.f (⟨#[62, 62, 62]⟩ : ByteArray) bt496.1 bt496.2.1 bt496.2.2 bt499.1 bt499.2.1 bt499.2.2).bind fun bt502 => (if (wrap64 ((wrap64 (t482 + bt490.2.2.2.2)) + bt502.2.2.2.2)) = 0 then (if 0 ≤ (Go.bits .and .u32 ((a1) % 4294967296) 31) then ((shucklaw14_num.f (wrap64 (wrap32 (shl .u32 ((a0) % 4294967296) (Go.bits .and .u32 ((a1) % 4294967296) 31))))).bind fun bt508 => (if (t478 == bt508.1 && (t479 == bt508.2.1 && (t480.toList == bt508.2.2.toList))) = true then ((shucklaw14_num.f (wrap64 (shr .i32 (wrap32 ((a0) % 4294967296)) (Go.bits .and .u32 ((a1) % 4294967296) 31)))).bind fun bt511 => (if (bt490.1 == bt511.1 && (bt490.2.1 == bt511.2.1 && (bt490.2.2.1.toList == bt511.2.2.toList))) = true then ((shucklaw14_num.f (shr .u32 ((a0) % 4294967296) (Go.bits .and .u32 ((a1) % 4294967296) 31))).bind fun bt514 => (if (bt502.1 == bt514.1 && (bt502.2.1 == bt514.2.1 && (bt502.2.2.1.toList == bt514.2.2.toList))) = true then ((shucklaw14_known.f kj2).bind fun t517 => (some t517)) else (some false))) else (some false))) else (some false))) else (none)) else (some false)))))) = some r := H
        have A14 := Aside0.mk A140
        clear A140
        replace H := Option.bind_eq_some_iff.mp H
        obtain ⟨⟨t490, t491, t492, t493, t494⟩, A150, H⟩ := H
        replace H : ((shucklaw14_num.f a0).bind fun bt496 => ((shucklaw14_num.f a1).bind fun bt499 => ((value_Binary.f (⟨#[62, 62, 62]⟩ : ByteArray) bt496.1 bt496.2.1 bt496.2.2 bt499.1 bt499.2.1 bt499.2.2).bind fun bt502 => (if (wrap64 ((wrap64 (t482 + t494)) + bt502.2.2.2.2)) = 0 then (if 0 ≤ (Go.bits .and .u32 ((a1) % 4294967296) 31) then ((shucklaw14_num.f (wrap64 (wrap32 (shl .u32 ((a0) % 4294967296) (Go.bits .and .u32 ((a1) % 4294967296) 31))))).bind fun bt508 => (if (t478 == bt508.1 && (t479 == bt508.2.1 && (t480.toList == bt508.2.2.toList))) = true then ((shucklaw14_num.f (wrap64 (shr .i32 (wrap32 ((a0) % 4294967296)) (Go.bits .and .u32 ((a1) % 4294967296) 31)))).bind fun bt511 => (if (t490 == bt511.1 && (t491 == bt511.2.1 && (t492.toList == bt511.2.2.toList))) = true then ((shucklaw14_num.f (shr .u32 ((a0) % 4294967296) (Go.bits .and .u32 ((a1) % 4294967296) 31))).bind fun bt514 => (if (bt502.1 == bt514.1 && (bt502.2.1 == bt514.2.1 && (bt502.2.2.1.toList == bt514.2.2.toList))) = true then ((shucklaw14_known.f kj2).bind fun t517 => (some t517)) else (some false))) else (some false))) else (some false))) else (none)) else (some false))))) = some r := H
        have A15 := Aside0.mk A150
        clear A150
        replace H := Option.bind_eq_some_iff.mp H
        obtain ⟨⟨t496, t497, t498⟩, A160, H⟩ := H
        replace H : ((shucklaw14_num.f a1).bind fun bt499 => ((value_Binary.f (⟨#[62, 62, 62]⟩ : ByteArray) t496 t497 t498 bt499.1 bt499.2.1 bt499.2.2).bind fun bt502 => (if (wrap64 ((wrap64 (t482 + t494)) + bt502.2.2.2.2)) = 0 then (if 0 ≤ (Go.bits .and .u32 ((a1) % 4294967296) 31) then ((shucklaw14_num.f (wrap64 (wrap32 (shl .u32 ((a0) % 4294967296) (Go.bits .and .u32 ((a1) % 4294967296) 31))))).bind fun bt508 => (if (t478 == bt508.1 && (t479 == bt508.2.1 && (t480.toList == bt508.2.2.toList))) = true then ((shucklaw14_num.f (wrap64 (shr .i32 (wrap32 ((a0) % 4294967296)) (Go.bits .and .u32 ((a1) % 4294967296) 31)))).bind fun bt511 => (if (t490 == bt511.1 && (t491 == bt511.2.1 && (t492.toList == bt511.2.2.toList))) = true then ((shucklaw14_num.f (shr .u32 ((a0) % 4294967296) (Go.bits .and .u32 ((a1) % 4294967296) 31))).bind fun bt514 => (if (bt502.1 == bt514.1 && (bt502.2.1 == bt514.2.1 && (bt502.2.2.1.toList == bt514.2.2.toList))) = true then ((shucklaw14_known.f kj2).bind fun t517 => (some t517)) else (some false))) else (some false))) else (some false))) else (none)) else (some false)))) = some r := H
        have A16 := Aside0.mk A160
        clear A160
        replace H := Option.bind_eq_some_iff.mp H
        obtain ⟨⟨t499, t500, t501⟩, A170, H⟩ := H
        replace H : ((value_Binary.f (⟨#[62, 62, 62]⟩ : ByteArray) t496 t497 t498 t499 t500 t501).bind fun bt502 => (if (wrap64 ((wrap64 (t482 + t494)) + bt502.2.2.2.2)) = 0 then (if 0 ≤ (Go.bits .and .u32 ((a1) % 4294967296) 31) then ((shucklaw14_num.f (wrap64 (wrap32 (shl .u32 ((a0) % 4294967296) (Go.bits .and .u32 ((a1) % 4294967296) 31))))).bind fun bt508 => (if (t478 == bt508.1 && (t479 == bt508.2.1 && (t480.toList == bt508.2.2.toList))) = true then ((shucklaw14_num.f (wrap64 (shr .i32 (wrap32 ((a0) % 4294967296)) (Go.bits .and .u32 ((a1) % 4294967296) 31)))).bind fun bt511 => (if (t490 == bt511.1 && (t491 == bt511.2.1 && (t492.toList == bt511.2.2.toList))) = true then ((shucklaw14_num.f (shr .u32 ((a0) % 4294967296) (Go.bits .and .u32 ((a1) % 4294967296) 31))).bind fun bt514 => (if (bt502.1 == bt514.1 && (bt502.2.1 == bt514.2.1 && (bt502.2.2.1.toList == bt514.2.2.toList))) = true then ((shucklaw14_known.f kj2).bind fun t517 => (some t517)) else (some false))) else (some false))) else (some false))) else (none)) else (some false))) = some r := H
        have A17 := Aside0.mk A170
        clear A170
        replace H := Option.bind_eq_some_iff.mp H
        obtain ⟨⟨t502, t503, t504, t505, t506⟩, A180, H⟩ := H
        replace H : (if (wrap64 ((wrap64 (t482 + t494)) + t506)) = 0 then (if 0 ≤ (Go.bits .and .u32 ((a1) % 4294967296) 31) then ((shucklaw14_num.f (wrap64 (wrap32 (shl .u32 ((a0) % 4294967296) (Go.bits .and .u32 ((a1) % 4294967296) 31))))).bind fun bt508 => (if (t478 == bt508.1 && (t479 == bt508.2.1 && (t480.toList == bt508.2.2.toList))) = true then ((shucklaw14_num.f (wrap64 (shr .i32 (wrap32 ((a0) % 4294967296)) (Go.bits .and .u32 ((a1) % 4294967296) 31)))).bind fun bt511 => (if (t490 == bt511.1 && (t491 == bt511.2.1 && (t492.toList == bt511.2.2.toList))) = true then ((shucklaw14_num.f (shr .u32 ((a0) % 4294967296) (Go.bits .and .u32 ((a1) % 4294967296) 31))).bind fun bt514 => (if (t502 == bt514.1 && (t503 == bt514.2.1 && (t504.toList == bt514.2.2.toList))) = true then ((shucklaw14_known.f kj2).bind fun t517 => (some t517)) else (some false))) else (some false))) else (some false))) else (none)) else (some false)) = some r := H
        have A18 := Aside0.mk A180
        clear A180
        by_cases c19 : (wrap64 ((wrap64 (t482 + t494)) + t506)) = 0
        · rw [if_pos c19] at H
          have c19b0 : ((wrap64 ((wrap64 (t482 + t494)) + t506)) == 0) = true := beq_iff_eq.mpr c19
          have c19b1 : ((wrap64 ((wrap64 (t482 + t494)) + t506)) != 0) = false := bne_eq_false_iff_eq.mpr c19
          clear c19
          obtain ⟨ji20, hji20⟩ : ∃ j_ : Int, (Go.bits .and .u32 ((a1) % 4294967296) 31) = j_ := ⟨_, rfl⟩
          replace H : (if 0 ≤ (ji20) then ((shucklaw14_num.f (wrap64 (wrap32 (shl .u32 ((a0) % 4294967296) (ji20))))).bind fun bt508 => (if (t478 == bt508.1 && (t479 == bt508.2.1 && (t480.toList == bt508.2.2.toList))) = true then ((shucklaw14_num.f (wrap64 (shr .i32 (wrap32 ((a0) % 4294967296)) (ji20)))).bind fun bt511 => (if (t490 == bt511.1 && (t491 == bt511.2.1 && (t492.toList == bt511.2.2.toList))) = true then ((shucklaw14_num.f (shr .u32 ((a0) % 4294967296) (ji20))).bind fun bt514 => (if (t502 == bt514.1 && (t503 == bt514.2.1 && (t504.toList == bt514.2.2.toList))) = true then ((shucklaw14_known.f kj2).bind fun t517 => (some t517)) else (some false))) else (some false))) else (some false))) else (none)) = some r := by first | (rw [hji20] at H; exact H) | (simp only [hji20] at H ⊢; exact H)
          (try rw [hji20] at A10)
          (try rw [hji20] at A11)
          (try rw [hji20] at A12)
          (try rw [hji20] at A13)
          (try rw [hji20] at A14)
          (try rw [hji20] at A15)
          (try rw [hji20] at A16)
          (try rw [hji20] at A17)
          (try rw [hji20] at A18)
          by_cases c21 : 0 ≤ (ji20)
          · rw [if_pos c21] at H
            have c21b0 := eq_true c21
            have c21b1 : decide (0 ≤ (ji20)) = true := decide_eq_true c21
            clear c21
            obtain ⟨ji22, hji22⟩ : ∃ j_ : Int, (shl .u32 ((a0) % 4294967296) (ji20)) = j_ := ⟨_, rfl⟩
            replace H : ((shucklaw14_num.f (wrap64 (wrap32 (ji22)))).bind fun bt508 => (if (t478 == bt508.1 && (t479 == bt508.2.1 && (t480.toList == bt508.2.2.toList))) = true then ((shucklaw14_num.f (wrap64 (shr .i32 (wrap32 ((a0) % 4294967296)) (ji20)))).bind fun bt511 => (if (t490 == bt511.1 && (t491 == bt511.2.1 && (t492.toList == bt511.2.2.toList))) = true then ((shucklaw14_num.f (shr .u32 ((a0) % 4294967296) (ji20))).bind fun bt514 => (if (t502 == bt514.1 && (t503 == bt514.2.1 && (t504.toList == bt514.2.2.toList))) = true then ((shucklaw14_known.f kj2).bind fun t517 => (some t517)) else (some false))) else (some false))) else (some false))) = some r := by first | (rw [hji22] at H; exact H) | (simp only [hji22] at H ⊢; exact H)
            (try rw [hji22] at A10)
            (try rw [hji22] at A11)
            (try rw [hji22] at A12)
            (try rw [hji22] at A13)
            (try rw [hji22] at A14)
            (try rw [hji22] at A15)
            (try rw [hji22] at A16)
            (try rw [hji22] at A17)
            (try rw [hji22] at A18)
            have hji22_ : (IntKind.u32.wrap (((a0) % 4294967296) * 2 ^ min (ji20).toNat 32)) = ji22 := hji22
            have hji22z : (ji20) ≤ 32 → (IntKind.u32.wrap (((a0) % 4294967296) * 2 ^ (ji20).toNat)) = ji22 := shl_small hji22
            replace H := Option.bind_eq_some_iff.mp H
            obtain ⟨⟨t508, t509, t510⟩, A230, H⟩ := H
            replace H : (if (t478 == t508 && (t479 == t509 && (t480.toList == t510.toList))) = true then ((shucklaw14_num.f (wrap64 (shr .i32 (wrap32 ((a0) % 4294967296)) (ji20)))).bind fun bt511 => (if (t490 == bt511.1 && (t491 == bt511.2.1 && (t492.toList == bt511.2.2.toList))) = true then ((shucklaw14_num.f (shr .u32 ((a0) % 4294967296) (ji20))).bind fun bt514 => (if (t502 == bt514.1 && (t503 == bt514.2.1 && (t504.toList == bt514.2.2.toList))) = true then ((shucklaw14_known.f kj2).bind fun t517 => (some t517)) else (some false))) else (some false))) else (some false)) = some r := H
            have A23 := Aside0.mk A230
            clear A230
            by_cases c24 : (t478 == t508 && (t479 == t509 && (t480.toList == t510.toList))) = true
            · rw [if_pos c24] at H
              have c24b0 : (t478 == t508 && (t479 == t509 && (t480.toList == t510.toList))) = true := c24
              (try (have c24b9 : (t478 = t508 ∧ t479 = t509 ∧ t480.toList = t510.toList) = True := eq_true (by simpa using c24)))
              (try (have c24b1 : decide (t478 = t508 && (t479 == t509 && (t480.toList == t510.toList))) = true := by simpa using c24))
              (try (have c24b2 : (t478 == t508 && (t479 == t509 && (t480.toList == t510.toList))) = true := by simpa using c24))
              clear c24
              have c25b0 := eq_true (of_decide_eq_true (by first | (with_reducible assumption) | assumption) : 0 ≤ (ji20))
              obtain ⟨ji26, hji26⟩ : ∃ j_ : Int, (shr .i32 (wrap32 ((a0) % 4294967296)) (ji20)) = j_ := ⟨_, rfl⟩
              replace H : ((shucklaw14_num.f (wrap64 (ji26))).bind fun bt511 => (if (t490 == bt511.1 && (t491 == bt511.2.1 && (t492.toList == bt511.2.2.toList))) = true then ((shucklaw14_num.f (shr .u32 ((a0) % 4294967296) (ji20))).bind fun bt514 => (if (t502 == bt514.1 && (t503 == bt514.2.1 && (t504.toList == bt514.2.2.toList))) = true then ((shucklaw14_known.f kj2).bind fun t517 => (some t517)) else (some false))) else (some false))) = some r := by first | (rw [hji26] at H; exact H) | (simp only [hji26] at H ⊢; exact H)
              (try rw [hji26] at A10)
              (try rw [hji26] at A11)
              (try rw [hji26] at A12)
              (try rw [hji26] at A13)
              (try rw [hji26] at A14)
              (try rw [hji26] at A15)
              (try rw [hji26] at A16)
              (try rw [hji26] at A17)
              (try rw [hji26] at A18)
              (try rw [hji26] at A23)
              have hji26_ : ((wrap32 ((a0) % 4294967296)) / 2 ^ min (ji20).toNat 32) = ji26 := hji26
              have hji26z : (ji20) ≤ 32 → ((wrap32 ((a0) % 4294967296)) / 2 ^ (ji20).toNat) = ji26 := shr_small hji26
              replace H := Option.bind_eq_some_iff.mp H
              obtain ⟨⟨t511, t512, t513⟩, A270, H⟩ := H
              replace H : (if (t490 == t511 && (t491 == t512 && (t492.toList == t513.toList))) = true then ((shucklaw14_num.f (shr .u32 ((a0) % 4294967296) (ji20))).bind fun bt514 => (if (t502 == bt514.1 && (t503 == bt514.2.1 && (t504.toList == bt514.2.2.toList))) = true then ((shucklaw14_known.f kj2).bind fun t517 => (some t517)) else (some false))) else (some false)) = some r := H
              have A27 := Aside0.mk A270
              clear A270
              by_cases c28 : (t490 == t511 && (t491 == t512 && (t492.toList == t513.toList))) = true
              · rw [if_pos c28] at H
                have c28b0 : (t490 == t511 && (t491 == t512 && (t492.toList == t513.toList))) = true := c28
                (try (have c28b9 : (t490 = t511 ∧ t491 = t512 ∧ t492.toList = t513.toList) = True := eq_true (by simpa using c28)))
                (try (have c28b1 : decide (t490 = t511 && (t491 == t512 && (t492.toList == t513.toList))) = true := by simpa using c28))
                (try (have c28b2 : (t490 == t511 && (t491 == t512 && (t492.toList == t513.toList))) = true := by simpa using c28))
                clear c28
                have c29b0 := eq_true (of_decide_eq_true (by first | (with_reducible assumption) | assumption) : 0 ≤ (ji20))
                obtain ⟨ji30, hji30⟩ : ∃ j_ : Int, (shr .u32 ((a0) % 4294967296) (ji20)) = j_ := ⟨_, rfl⟩
                replace H : ((shucklaw14_num.f (ji30)).bind fun bt514 => (if (t502 == bt514.1 && (t503 == bt514.2.1 && (t504.toList == bt514.2.2.toList))) = true then ((shucklaw14_known.f kj2).bind fun t517 => (some t517)) else (some false))) = some r := by first | (rw [hji30] at H; exact H) | (simp only [hji30] at H ⊢; exact H)
                (try rw [hji30] at A10)
                (try rw [hji30] at A11)
                (try rw [hji30] at A12)
                (try rw [hji30] at A13)
                (try rw [hji30] at A14)
                (try rw [hji30] at A15)
                (try rw [hji30] at A16)
                (try rw [hji30] at A17)
                (try rw [hji30] at A18)
                (try rw [hji30] at A23)
                (try rw [hji30] at A27)
                have hji30_ : (((a0) % 4294967296) / 2 ^ min (ji20).toNat 32) = ji30 := hji30
                have hji30z : (ji20) ≤ 32 → (((a0) % 4294967296) / 2 ^ (ji20).toNat) = ji30 := shr_small hji30
                have w30_ := Aside0.mk (show wrap64 ji30 = ji30 by
                  have hp_ : (0 : Int) < 2 ^ min ji20.toNat 32 := Int.pow_pos (by omega)
                  have b1_ : ji30 ≤ a0 % 4294967296 := by rw [← hji30_]; exact Int.ediv_le_self _ (by omega)
                  have b0_ : 0 ≤ ji30 := by rw [← hji30_]; exact Int.ediv_nonneg (by omega) (by omega)
                  unfold wrap64
                  omega)
                replace H := Option.bind_eq_some_iff.mp H
                obtain ⟨⟨t514, t515, t516⟩, A310, H⟩ := H
                replace H : (if (t502 == t514 && (t503 == t515 && (t504.toList == t516.toList))) = true then ((shucklaw14_known.f kj2).bind fun t517 => (some t517)) else (some false)) = some r := H
                have A31 := Aside0.mk A310
                clear A310
                by_cases c32 : (t502 == t514 && (t503 == t515 && (t504.toList == t516.toList))) = true
                · rw [if_pos c32] at H
                  have c32b0 : (t502 == t514 && (t503 == t515 && (t504.toList == t516.toList))) = true := c32
                  (try (have c32b9 : (t502 = t514 ∧ t503 = t515 ∧ t504.toList = t516.toList) = True := eq_true (by simpa using c32)))
                  (try (have c32b1 : decide (t502 = t514 && (t503 == t515 && (t504.toList == t516.toList))) = true := by simpa using c32))
                  (try (have c32b2 : (t502 == t514 && (t503 == t515 && (t504.toList == t516.toList))) = true := by simpa using c32))
                  clear c32
                  replace H := Option.bind_eq_some_iff.mp H
                  obtain ⟨t517, A330, H⟩ := H
                  replace H : (some t517) = some r := H
                  have A33 := Aside0.mk A330
                  clear A330
                  obtain rfl := Option.some.inj H
                  try go_wp2_with (first | ((with_reducible refine gate_callee (f := 24) rfl ?_); refine goesL_ (some 38) rfl rfl Tryd.func24 (by kernel_rfl) rfl #[.int .i64 a0] rfl (by (try simp only [List.map_toArray, List.map_cons, List.map_nil]); first | done | rfl | (simp only [List.length_drop, List.length_take]; rfl)) ?_; (with_reducible refine (shucklaw14_num.calls a0 t472 t473 t474 _ A10.out).mono ?_); rintro e w34 ⟨rfl, hb⟩; refine ⟨_, rfl, ?_⟩; have n0_ := Aside0.mk (below_step (by repeat (first | (with_reducible first | exact HB.out | apply below_alloc | apply pw_below_drewN | apply below_drew1) | exact HB.out)) hb); clear HB; have HB := n0_; clear n0_; (try clear hb); (try clear hb2); (try clear hk); (try clear hi)) | ((with_reducible refine gate_callee (f := 24) rfl ?_); refine goesL_ (some 40) rfl rfl Tryd.func24 (by kernel_rfl) rfl #[.int .i64 a1] rfl (by (try simp only [List.map_toArray, List.map_cons, List.map_nil]); first | done | rfl | (simp only [List.length_drop, List.length_take]; rfl)) ?_; (with_reducible refine (shucklaw14_num.calls a1 t475 t476 t477 _ A11.out).mono ?_); rintro e w35 ⟨rfl, hb⟩; refine ⟨_, rfl, ?_⟩; have n0_ := Aside0.mk (below_step (by repeat (first | (with_reducible first | exact HB.out | apply below_alloc | apply pw_below_drewN | apply below_drew1) | exact HB.out)) hb); clear HB; have HB := n0_; clear n0_; (try clear hb); (try clear hb2); (try clear hk); (try clear hi)) | ((with_reducible refine gate_callee (f := 16) rfl ?_); refine goesL_ (some 41) rfl rfl Tryd.func16 (by kernel_rfl) rfl #[.string (⟨#[60, 60]⟩ : ByteArray), .agg #[.int .i64 t472, .int .i64 t473, .string t474], .agg #[.int .i64 t475, .int .i64 t476, .string t477]] rfl (by (try simp only [List.map_toArray, List.map_cons, List.map_nil]); first | done | rfl | (simp only [List.length_drop, List.length_take]; rfl)) ?_; (with_reducible refine (value_Binary.calls (⟨#[60, 60]⟩ : ByteArray) t472 t473 t474 t475 t476 t477 t478 t479 t480 t481 t482 _ ?side1 A12.out).mono ?_); (case side1 => exact TabOk.of HT.out (by repeat (first | (with_reducible first | exact HB.out | apply below_alloc | apply pw_below_drewN | apply below_drew1) | exact HB.out))); rintro e w36 ⟨rfl, hb⟩; refine ⟨_, rfl, ?_⟩; have n0_ := Aside0.mk (below_step (by repeat (first | (with_reducible first | exact HB.out | apply below_alloc | apply pw_below_drewN | apply below_drew1) | exact HB.out)) hb); clear HB; have HB := n0_; clear n0_; (try clear hb); (try clear hb2); (try clear hk); (try clear hi)) | ((with_reducible refine gate_dst (N := 7) rfl ?_); refine box_event ?hg (N := 7) ?hd (cs := #[.int .i64 0, .int .i64 0, .string (⟨#[]⟩ : ByteArray)]) (t := 23) ?hr ?_; (case hd => rfl); (case hg => rfl); (case hr => first | (go_simp; done) | (go_simp; rfl)); intro gb483 hg w37 hbox hb; have n0_ := Aside0.mk (below_step (by repeat (first | (with_reducible first | exact HB.out | apply below_alloc | apply pw_below_drewN | apply below_drew1) | exact HB.out)) hb); have n1_ := Aside0.mk (hbox); have n2_ := Aside0.mk ((by rw [hg]; exact (below_size (by repeat (first | (with_reducible first | exact HB.out | apply below_alloc | apply pw_below_drewN | apply below_drew1) | exact HB.out))) : w.heap.size ≤ gb483)); have n3_ := Aside0.mk ((by rw [hg]; exact (below_size (by repeat (first | (with_reducible first | exact HB.out | apply below_alloc | apply pw_below_drewN | apply below_drew1) | exact HB.out))) : w.heap.size ≤ gb483)); clear HB; have HB := n0_; have BK483 := n1_; have GW483 := n2_; have GE483 := n3_; clear n0_ n1_ n2_ n3_; clear hb hbox hg; have hcz38_0 : w37.cell? ⟨gb483, 0, none⟩ = some (.int .i64 0) := (blk_cell BK483.out 0).trans rfl; have hcz38_1 : w37.cell? ⟨gb483, 1, none⟩ = some (.int .i64 0) := (blk_cell BK483.out 1).trans rfl; have hcz38_2 : w37.cell? ⟨gb483, 2, none⟩ = some (.string (⟨#[]⟩ : ByteArray)) := (blk_cell BK483.out 2).trans rfl; have hfz38_0 := blk_frozen BK483.out 0; have hfz38_1 := blk_frozen BK483.out 1; have hfz38_2 := blk_frozen BK483.out 2) | ((with_reducible refine gate_callee (f := 24) rfl ?_); refine goesL_ (some 47) rfl rfl Tryd.func24 (by kernel_rfl) rfl #[.int .i64 a0] rfl (by (try simp only [List.map_toArray, List.map_cons, List.map_nil]); first | done | rfl | (simp only [List.length_drop, List.length_take]; rfl)) ?_; (with_reducible refine (shucklaw14_num.calls a0 t484 t485 t486 _ A13.out).mono ?_); rintro e w39 ⟨rfl, hb⟩; refine ⟨_, rfl, ?_⟩; have n0_ := Aside0.mk (blk_below (g := gb483) (o := .cells #[.int .i64 t478, .int .i64 t479, .string t480] 23 (0, 0)) (by (with_reducible repeat (first | refine blk_drewN ?_ _ | refine blk_drew ?_ | refine blk_alloc ?_ _)); refine blk_put (cs := #[.int .i64 t478, .int .i64 t479, .string (⟨#[]⟩ : ByteArray)]) ?_ 2 _ rfl; (with_reducible repeat (first | refine blk_drewN ?_ _ | refine blk_drew ?_ | refine blk_alloc ?_ _)); refine blk_put (cs := #[.int .i64 t478, .int .i64 0, .string (⟨#[]⟩ : ByteArray)]) ?_ 1 _ rfl; (with_reducible repeat (first | refine blk_drewN ?_ _ | refine blk_drew ?_ | refine blk_alloc ?_ _)); refine blk_put (cs := #[.int .i64 0, .int .i64 0, .string (⟨#[]⟩ : ByteArray)]) ?_ 0 _ rfl; (with_reducible repeat (first | refine blk_drewN ?_ _ | refine blk_drew ?_ | refine blk_alloc ?_ _)); exact BK483.out) hb); have n1_ := Aside0.mk (below_step (by repeat (first | (with_reducible first | exact HB.out | apply below_alloc | apply pw_below_drewN | apply below_drew1 | refine below_set ?_ GE483.out) | exact HB.out)) hb); clear BK483; clear HB; have BK483 := n0_; have HB := n1_; clear n0_ n1_; (try clear hb); (try clear hb2); (try clear hk); (try clear hi)) | ((with_reducible refine gate_callee (f := 24) rfl ?_); refine goesL_ (some 49) rfl rfl Tryd.func24 (by kernel_rfl) rfl #[.int .i64 a1] rfl (by (try simp only [List.map_toArray, List.map_cons, List.map_nil]); first | done | rfl | (simp only [List.length_drop, List.length_take]; rfl)) ?_; (with_reducible refine (shucklaw14_num.calls a1 t487 t488 t489 _ A14.out).mono ?_); rintro e w40 ⟨rfl, hb⟩; refine ⟨_, rfl, ?_⟩; have n0_ := Aside0.mk (blk_below (g := gb483) (o := .cells #[.int .i64 t478, .int .i64 t479, .string t480] 23 (0, 0)) (by (with_reducible repeat (first | refine blk_drewN ?_ _ | refine blk_drew ?_ | refine blk_alloc ?_ _)); exact BK483.out) hb); have n1_ := Aside0.mk (below_step (by repeat (first | (with_reducible first | exact HB.out | apply below_alloc | apply pw_below_drewN | apply below_drew1 | refine below_set ?_ GE483.out) | exact HB.out)) hb); clear BK483; clear HB; have BK483 := n0_; have HB := n1_; clear n0_ n1_; (try clear hb); (try clear hb2); (try clear hk); (try clear hi)) | ((with_reducible refine gate_callee (f := 16) rfl ?_); refine goesL_ (some 50) rfl rfl Tryd.func16 (by kernel_rfl) rfl #[.string (⟨#[62, 62]⟩ : ByteArray), .agg #[.int .i64 t484, .int .i64 t485, .string t486], .agg #[.int .i64 t487, .int .i64 t488, .string t489]] rfl (by (try simp only [List.map_toArray, List.map_cons, List.map_nil]); first | done | rfl | (simp only [List.length_drop, List.length_take]; rfl)) ?_; (with_reducible refine (value_Binary.calls (⟨#[62, 62]⟩ : ByteArray) t484 t485 t486 t487 t488 t489 t490 t491 t492 t493 t494 _ ?side1 A15.out).mono ?_); (case side1 => exact TabOk.of HT.out (by repeat (first | (with_reducible first | exact HB.out | apply below_alloc | apply pw_below_drewN | apply below_drew1 | refine below_set ?_ GE483.out) | exact HB.out))); rintro e w41 ⟨rfl, hb⟩; refine ⟨_, rfl, ?_⟩; have n0_ := Aside0.mk (blk_below (g := gb483) (o := .cells #[.int .i64 t478, .int .i64 t479, .string t480] 23 (0, 0)) (by (with_reducible repeat (first | refine blk_drewN ?_ _ | refine blk_drew ?_ | refine blk_alloc ?_ _)); exact BK483.out) hb); have n1_ := Aside0.mk (below_step (by repeat (first | (with_reducible first | exact HB.out | apply below_alloc | apply pw_below_drewN | apply below_drew1 | refine below_set ?_ GE483.out) | exact HB.out)) hb); clear BK483; clear HB; have BK483 := n0_; have HB := n1_; clear n0_ n1_; (try clear hb); (try clear hb2); (try clear hk); (try clear hi)) | ((with_reducible refine gate_dst (N := 10) rfl ?_); refine box_event ?hg (N := 10) ?hd (cs := #[.int .i64 0, .int .i64 0, .string (⟨#[]⟩ : ByteArray)]) (t := 23) ?hr ?_; (case hd => rfl); (case hg => rfl); (case hr => first | (go_simp; done) | (go_simp; rfl)); intro gb495 hg w42 hbox hb; have n0_ := Aside0.mk (blk_below (g := gb483) (o := .cells #[.int .i64 t478, .int .i64 t479, .string t480] 23 (0, 0)) (by (with_reducible repeat (first | refine blk_drewN ?_ _ | refine blk_drew ?_ | refine blk_alloc ?_ _)); exact BK483.out) hb); have n1_ := Aside0.mk (below_step (by repeat (first | (with_reducible first | exact HB.out | apply below_alloc | apply pw_below_drewN | apply below_drew1 | refine below_set ?_ GE483.out) | exact HB.out)) hb); have n2_ := Aside0.mk (hbox); have n3_ := Aside0.mk ((by rw [hg]; exact (below_size (by repeat (first | (with_reducible first | exact HB.out | apply below_alloc | apply pw_below_drewN | apply below_drew1 | refine below_set ?_ GE483.out) | exact HB.out))) : w.heap.size ≤ gb495)); have n4_ := Aside0.mk ((by rw [hg]; exact (below_size (by repeat (first | (with_reducible first | exact HB.out | apply below_alloc | apply pw_below_drewN | apply below_drew1 | refine below_set ?_ GE483.out) | exact HB.out))) : w.heap.size ≤ gb495)); have n5_ := Aside0.mk ((by rw [hg]; exact Nat.ne_of_lt (blk_lt (g := gb483) (o := .cells #[.int .i64 t478, .int .i64 t479, .string t480] 23 (0, 0)) (by (with_reducible repeat (first | refine blk_drewN ?_ _ | refine blk_drew ?_ | refine blk_alloc ?_ _)); exact BK483.out)) : gb483 ≠ gb495)); have n6_ := Aside0.mk ((by rw [hg]; exact Nat.ne_of_gt (blk_lt (g := gb483) (o := .cells #[.int .i64 t478, .int .i64 t479, .string t480] 23 (0, 0)) (by (with_reducible repeat (first | refine blk_drewN ?_ _ | refine blk_drew ?_ | refine blk_alloc ?_ _)); exact BK483.out)) : gb495 ≠ gb483)); clear BK483; clear HB; have BK483 := n0_; have HB := n1_; have BK495 := n2_; have GW495 := n3_; have GE495 := n4_; have NB483_495 := n5_; have NB495_483 := n6_; clear n0_ n1_ n2_ n3_ n4_ n5_ n6_; clear hb hbox hg; have hnb43 := NB495_483.out; have hnc43 := NB483_495.out; have hcz44_0 : w42.cell? ⟨gb495, 0, none⟩ = some (.int .i64 0) := (blk_cell BK495.out 0).trans rfl; have hcz44_1 : w42.cell? ⟨gb495, 1, none⟩ = some (.int .i64 0) := (blk_cell BK495.out 1).trans rfl; have hcz44_2 : w42.cell? ⟨gb495, 2, none⟩ = some (.string (⟨#[]⟩ : ByteArray)) := (blk_cell BK495.out 2).trans rfl; have hfz44_0 := blk_frozen BK495.out 0; have hfz44_1 := blk_frozen BK495.out 1; have hfz44_2 := blk_frozen BK495.out 2) | ((with_reducible refine gate_callee (f := 24) rfl ?_); refine goesL_ (some 56) rfl rfl Tryd.func24 (by kernel_rfl) rfl #[.int .i64 a0] rfl (by (try simp only [List.map_toArray, List.map_cons, List.map_nil]); first | done | rfl | (simp only [List.length_drop, List.length_take]; rfl)) ?_; (with_reducible refine (shucklaw14_num.calls a0 t496 t497 t498 _ A16.out).mono ?_); rintro e w45 ⟨rfl, hb⟩; refine ⟨_, rfl, ?_⟩; have n0_ := Aside0.mk (blk_below (g := gb483) (o := .cells #[.int .i64 t478, .int .i64 t479, .string t480] 23 (0, 0)) (by (with_reducible repeat (first | refine blk_drewN ?_ _ | refine blk_drew ?_ | refine blk_alloc ?_ _)); refine blk_far ?_ NB483_495.out _; (with_reducible repeat (first | refine blk_drewN ?_ _ | refine blk_drew ?_ | refine blk_alloc ?_ _)); refine blk_far ?_ NB483_495.out _; (with_reducible repeat (first | refine blk_drewN ?_ _ | refine blk_drew ?_ | refine blk_alloc ?_ _)); refine blk_far ?_ NB483_495.out _; (with_reducible repeat (first | refine blk_drewN ?_ _ | refine blk_drew ?_ | refine blk_alloc ?_ _)); exact BK483.out) hb); have n1_ := Aside0.mk (blk_below (g := gb495) (o := .cells #[.int .i64 t490, .int .i64 t491, .string t492] 23 (0, 0)) (by (with_reducible repeat (first | refine blk_drewN ?_ _ | refine blk_drew ?_ | refine blk_alloc ?_ _)); refine blk_put (cs := #[.int .i64 t490, .int .i64 t491, .string (⟨#[]⟩ : ByteArray)]) ?_ 2 _ rfl; (with_reducible repeat (first | refine blk_drewN ?_ _ | refine blk_drew ?_ | refine blk_alloc ?_ _)); refine blk_put (cs := #[.int .i64 t490, .int .i64 0, .string (⟨#[]⟩ : ByteArray)]) ?_ 1 _ rfl; (with_reducible repeat (first | refine blk_drewN ?_ _ | refine blk_drew ?_ | refine blk_alloc ?_ _)); refine blk_put (cs := #[.int .i64 0, .int .i64 0, .string (⟨#[]⟩ : ByteArray)]) ?_ 0 _ rfl; (with_reducible repeat (first | refine blk_drewN ?_ _ | refine blk_drew ?_ | refine blk_alloc ?_ _)); exact BK495.out) hb); have n2_ := Aside0.mk (below_step (by repeat (first | (with_reducible first | exact HB.out | apply below_alloc | apply pw_below_drewN | apply below_drew1 | refine below_set ?_ GE483.out | refine below_set ?_ GE495.out) | exact HB.out)) hb); clear BK483; clear BK495; clear HB; have BK483 := n0_; have BK495 := n1_; have HB := n2_; clear n0_ n1_ n2_; (try clear hb); (try clear hb2); (try clear hk); (try clear hi)) | ((with_reducible refine gate_callee (f := 24) rfl ?_); refine goesL_ (some 58) rfl rfl Tryd.func24 (by kernel_rfl) rfl #[.int .i64 a1] rfl (by (try simp only [List.map_toArray, List.map_cons, List.map_nil]); first | done | rfl | (simp only [List.length_drop, List.length_take]; rfl)) ?_; (with_reducible refine (shucklaw14_num.calls a1 t499 t500 t501 _ A17.out).mono ?_); rintro e w46 ⟨rfl, hb⟩; refine ⟨_, rfl, ?_⟩; have n0_ := Aside0.mk (blk_below (g := gb483) (o := .cells #[.int .i64 t478, .int .i64 t479, .string t480] 23 (0, 0)) (by (with_reducible repeat (first | refine blk_drewN ?_ _ | refine blk_drew ?_ | refine blk_alloc ?_ _)); exact BK483.out) hb); have n1_ := Aside0.mk (blk_below (g := gb495) (o := .cells #[.int .i64 t490, .int .i64 t491, .string t492] 23 (0, 0)) (by (with_reducible repeat (first | refine blk_drewN ?_ _ | refine blk_drew ?_ | refine blk_alloc ?_ _)); exact BK495.out) hb); have n2_ := Aside0.mk (below_step (by repeat (first | (with_reducible first | exact HB.out | apply below_alloc | apply pw_below_drewN | apply below_drew1 | refine below_set ?_ GE483.out | refine below_set ?_ GE495.out) | exact HB.out)) hb); clear BK483; clear BK495; clear HB; have BK483 := n0_; have BK495 := n1_; have HB := n2_; clear n0_ n1_ n2_; (try clear hb); (try clear hb2); (try clear hk); (try clear hi)) | ((with_reducible refine gate_callee (f := 16) rfl ?_); refine goesL_ (some 59) rfl rfl Tryd.func16 (by kernel_rfl) rfl #[.string (⟨#[62, 62, 62]⟩ : ByteArray), .agg #[.int .i64 t496, .int .i64 t497, .string t498], .agg #[.int .i64 t499, .int .i64 t500, .string t501]] rfl (by (try simp only [List.map_toArray, List.map_cons, List.map_nil]); first | done | rfl | (simp only [List.length_drop, List.length_take]; rfl)) ?_; (with_reducible refine (value_Binary.calls (⟨#[62, 62, 62]⟩ : ByteArray) t496 t497 t498 t499 t500 t501 t502 t503 t504 t505 t506 _ ?side1 A18.out).mono ?_); (case side1 => exact TabOk.of HT.out (by repeat (first | (with_reducible first | exact HB.out | apply below_alloc | apply pw_below_drewN | apply below_drew1 | refine below_set ?_ GE483.out | refine below_set ?_ GE495.out) | exact HB.out))); rintro e w47 ⟨rfl, hb⟩; refine ⟨_, rfl, ?_⟩; have n0_ := Aside0.mk (blk_below (g := gb483) (o := .cells #[.int .i64 t478, .int .i64 t479, .string t480] 23 (0, 0)) (by (with_reducible repeat (first | refine blk_drewN ?_ _ | refine blk_drew ?_ | refine blk_alloc ?_ _)); exact BK483.out) hb); have n1_ := Aside0.mk (blk_below (g := gb495) (o := .cells #[.int .i64 t490, .int .i64 t491, .string t492] 23 (0, 0)) (by (with_reducible repeat (first | refine blk_drewN ?_ _ | refine blk_drew ?_ | refine blk_alloc ?_ _)); exact BK495.out) hb); have n2_ := Aside0.mk (below_step (by repeat (first | (with_reducible first | exact HB.out | apply below_alloc | apply pw_below_drewN | apply below_drew1 | refine below_set ?_ GE483.out | refine below_set ?_ GE495.out) | exact HB.out)) hb); clear BK483; clear BK495; clear HB; have BK483 := n0_; have BK495 := n1_; have HB := n2_; clear n0_ n1_ n2_; (try clear hb); (try clear hb2); (try clear hk); (try clear hi)) | ((with_reducible refine gate_dst (N := 13) rfl ?_); refine box_event ?hg (N := 13) ?hd (cs := #[.int .i64 0, .int .i64 0, .string (⟨#[]⟩ : ByteArray)]) (t := 23) ?hr ?_; (case hd => rfl); (case hg => rfl); (case hr => first | (go_simp; done) | (go_simp; rfl)); intro gb507 hg w48 hbox hb; have n0_ := Aside0.mk (blk_below (g := gb483) (o := .cells #[.int .i64 t478, .int .i64 t479, .string t480] 23 (0, 0)) (by (with_reducible repeat (first | refine blk_drewN ?_ _ | refine blk_drew ?_ | refine blk_alloc ?_ _)); exact BK483.out) hb); have n1_ := Aside0.mk (blk_below (g := gb495) (o := .cells #[.int .i64 t490, .int .i64 t491, .string t492] 23 (0, 0)) (by (with_reducible repeat (first | refine blk_drewN ?_ _ | refine blk_drew ?_ | refine blk_alloc ?_ _)); exact BK495.out) hb); have n2_ := Aside0.mk (below_step (by repeat (first | (with_reducible first | exact HB.out | apply below_alloc | apply pw_below_drewN | apply below_drew1 | refine below_set ?_ GE483.out | refine below_set ?_ GE495.out) | exact HB.out)) hb); have n3_ := Aside0.mk (hbox); have n4_ := Aside0.mk ((by rw [hg]; exact (below_size (by repeat (first | (with_reducible first | exact HB.out | apply below_alloc | apply pw_below_drewN | apply below_drew1 | refine below_set ?_ GE483.out | refine below_set ?_ GE495.out) | exact HB.out))) : w.heap.size ≤ gb507)); have n5_ := Aside0.mk ((by rw [hg]; exact (below_size (by repeat (first | (with_reducible first | exact HB.out | apply below_alloc | apply pw_below_drewN | apply below_drew1 | refine below_set ?_ GE483.out | refine below_set ?_ GE495.out) | exact HB.out))) : w.heap.size ≤ gb507)); have n6_ := Aside0.mk ((by rw [hg]; exact Nat.ne_of_lt (blk_lt (g := gb483) (o := .cells #[.int .i64 t478, .int .i64 t479, .string t480] 23 (0, 0)) (by (with_reducible repeat (first | refine blk_drewN ?_ _ | refine blk_drew ?_ | refine blk_alloc ?_ _)); exact BK483.out)) : gb483 ≠ gb507)); have n7_ := Aside0.mk ((by rw [hg]; exact Nat.ne_of_gt (blk_lt (g := gb483) (o := .cells #[.int .i64 t478, .int .i64 t479, .string t480] 23 (0, 0)) (by (with_reducible repeat (first | refine blk_drewN ?_ _ | refine blk_drew ?_ | refine blk_alloc ?_ _)); exact BK483.out)) : gb507 ≠ gb483)); have n8_ := Aside0.mk ((by rw [hg]; exact Nat.ne_of_lt (blk_lt (g := gb495) (o := .cells #[.int .i64 t490, .int .i64 t491, .string t492] 23 (0, 0)) (by (with_reducible repeat (first | refine blk_drewN ?_ _ | refine blk_drew ?_ | refine blk_alloc ?_ _)); exact BK495.out)) : gb495 ≠ gb507)); have n9_ := Aside0.mk ((by rw [hg]; exact Nat.ne_of_gt (blk_lt (g := gb495) (o := .cells #[.int .i64 t490, .int .i64 t491, .string t492] 23 (0, 0)) (by (with_reducible repeat (first | refine blk_drewN ?_ _ | refine blk_drew ?_ | refine blk_alloc ?_ _)); exact BK495.out)) : gb507 ≠ gb495)); clear BK483; clear BK495; clear HB; have BK483 := n0_; have BK495 := n1_; have HB := n2_; have BK507 := n3_; have GW507 := n4_; have GE507 := n5_; have NB483_507 := n6_; have NB507_483 := n7_; have NB495_507 := n8_; have NB507_495 := n9_; clear n0_ n1_ n2_ n3_ n4_ n5_ n6_ n7_ n8_ n9_; clear hb hbox hg; have hnb49 := NB507_483.out; have hnc49 := NB483_507.out; have hnb50 := NB507_495.out; have hnc50 := NB495_507.out; have hcz51_0 : w48.cell? ⟨gb507, 0, none⟩ = some (.int .i64 0) := (blk_cell BK507.out 0).trans rfl; have hcz51_1 : w48.cell? ⟨gb507, 1, none⟩ = some (.int .i64 0) := (blk_cell BK507.out 1).trans rfl; have hcz51_2 : w48.cell? ⟨gb507, 2, none⟩ = some (.string (⟨#[]⟩ : ByteArray)) := (blk_cell BK507.out 2).trans rfl; have hfz51_0 := blk_frozen BK507.out 0; have hfz51_1 := blk_frozen BK507.out 1; have hfz51_2 := blk_frozen BK507.out 2))
                  have n0_ : Aside0 ((((w48.setCell ⟨gb507, 0, none⟩ (.int .i64 t502)).setCell ⟨gb507, 1, none⟩ (.int .i64 t503)).setCell ⟨gb507, 2, none⟩ (.string t504)).heap[gb483]? = some (.cells #[.int .i64 t478, .int .i64 t479, .string t480] 23 (0, 0))) := ⟨by (with_reducible repeat (first | refine blk_drewN ?_ _ | refine blk_drew ?_ | refine blk_alloc ?_ _)); refine blk_far ?_ NB483_507.out _; (with_reducible repeat (first | refine blk_drewN ?_ _ | refine blk_drew ?_ | refine blk_alloc ?_ _)); refine blk_far ?_ NB483_507.out _; (with_reducible repeat (first | refine blk_drewN ?_ _ | refine blk_drew ?_ | refine blk_alloc ?_ _)); refine blk_far ?_ NB483_507.out _; (with_reducible repeat (first | refine blk_drewN ?_ _ | refine blk_drew ?_ | refine blk_alloc ?_ _)); exact BK483.out⟩
                  have n1_ : Aside0 ((((w48.setCell ⟨gb507, 0, none⟩ (.int .i64 t502)).setCell ⟨gb507, 1, none⟩ (.int .i64 t503)).setCell ⟨gb507, 2, none⟩ (.string t504)).heap[gb495]? = some (.cells #[.int .i64 t490, .int .i64 t491, .string t492] 23 (0, 0))) := ⟨by (with_reducible repeat (first | refine blk_drewN ?_ _ | refine blk_drew ?_ | refine blk_alloc ?_ _)); refine blk_far ?_ NB495_507.out _; (with_reducible repeat (first | refine blk_drewN ?_ _ | refine blk_drew ?_ | refine blk_alloc ?_ _)); refine blk_far ?_ NB495_507.out _; (with_reducible repeat (first | refine blk_drewN ?_ _ | refine blk_drew ?_ | refine blk_alloc ?_ _)); refine blk_far ?_ NB495_507.out _; (with_reducible repeat (first | refine blk_drewN ?_ _ | refine blk_drew ?_ | refine blk_alloc ?_ _)); exact BK495.out⟩
                  have n2_ : Aside0 ((((w48.setCell ⟨gb507, 0, none⟩ (.int .i64 t502)).setCell ⟨gb507, 1, none⟩ (.int .i64 t503)).setCell ⟨gb507, 2, none⟩ (.string t504)).heap[gb507]? = some (.cells #[.int .i64 t502, .int .i64 t503, .string t504] 23 (0, 0))) := ⟨by (with_reducible repeat (first | refine blk_drewN ?_ _ | refine blk_drew ?_ | refine blk_alloc ?_ _)); refine blk_put (cs := #[.int .i64 t502, .int .i64 t503, .string (⟨#[]⟩ : ByteArray)]) ?_ 2 _ rfl; (with_reducible repeat (first | refine blk_drewN ?_ _ | refine blk_drew ?_ | refine blk_alloc ?_ _)); refine blk_put (cs := #[.int .i64 t502, .int .i64 0, .string (⟨#[]⟩ : ByteArray)]) ?_ 1 _ rfl; (with_reducible repeat (first | refine blk_drewN ?_ _ | refine blk_drew ?_ | refine blk_alloc ?_ _)); refine blk_put (cs := #[.int .i64 0, .int .i64 0, .string (⟨#[]⟩ : ByteArray)]) ?_ 0 _ rfl; (with_reducible repeat (first | refine blk_drewN ?_ _ | refine blk_drew ?_ | refine blk_alloc ?_ _)); exact BK507.out⟩
                  have n3_ : Aside0 (Below w.heap.size w (((w48.setCell ⟨gb507, 0, none⟩ (.int .i64 t502)).setCell ⟨gb507, 1, none⟩ (.int .i64 t503)).setCell ⟨gb507, 2, none⟩ (.string t504))) := ⟨by repeat (first | (with_reducible first | exact HB.out | apply below_alloc | apply pw_below_drewN | apply below_drew1 | refine below_set ?_ GE483.out | refine below_set ?_ GE495.out | refine below_set ?_ GE507.out) | exact HB.out)⟩
                  (try clear BK483)
                  (try clear BK495)
                  (try clear BK507)
                  (try clear HB)
                  generalize (((w48.setCell ⟨gb507, 0, none⟩ (.int .i64 t502)).setCell ⟨gb507, 1, none⟩ (.int .i64 t503)).setCell ⟨gb507, 2, none⟩ (.string t504)) = w52 at n0_ n1_ n2_ n3_ ⊢
                  have BK483 := n0_
                  have BK495 := n1_
                  have BK507 := n2_
                  have HB := n3_
                  clear n0_ n1_ n2_ n3_
                  have n0_ := Aside0.mk (blk_drew BK483.out)
                  have n1_ := Aside0.mk (blk_drew BK495.out)
                  have n2_ := Aside0.mk (blk_drew BK507.out)
                  have n3_ := Aside0.mk (below_drew1 HB.out)
                  clear BK483
                  clear BK495
                  clear BK507
                  clear HB
                  have BK483 := n0_
                  have BK495 := n1_
                  have BK507 := n2_
                  have HB := n3_
                  clear n0_ n1_ n2_ n3_
                  refine start_ (n := 39) (S := fun w' => w'.cell? ⟨gb483, 0, none⟩ = some (.int .i64 t478) ∧ w'.cell? ⟨gb483, 1, none⟩ = some (.int .i64 t479) ∧ w'.cell? ⟨gb483, 2, none⟩ = some (.string t480) ∧ w'.cell? ⟨gb495, 0, none⟩ = some (.int .i64 t490) ∧ w'.cell? ⟨gb495, 1, none⟩ = some (.int .i64 t491) ∧ w'.cell? ⟨gb495, 2, none⟩ = some (.string t492) ∧ w'.cell? ⟨gb507, 0, none⟩ = some (.int .i64 t502) ∧ w'.cell? ⟨gb507, 1, none⟩ = some (.int .i64 t503) ∧ w'.cell? ⟨gb507, 2, none⟩ = some (.string t504)) (ds := []) #[false, false, false, false, false, false, false, false, false, false, false, false, false, false, false, false, false, false, false, false, false, false, false, false, false, false, false, false, false, false, false, false, false, false, false, false, false, false, false] (by kernel_rfl) rfl rfl ⟨(blk_cell BK483.out 0).trans rfl, (blk_cell BK483.out 1).trans rfl, (blk_cell BK483.out 2).trans rfl, (blk_cell BK495.out 0).trans rfl, (blk_cell BK495.out 1).trans rfl, (blk_cell BK495.out 2).trans rfl, (blk_cell BK507.out 0).trans rfl, (blk_cell BK507.out 1).trans rfl, (blk_cell BK507.out 2).trans rfl⟩ (fun hHeld => ?_); refine with_tabW shucklaw14_ValueShifts.tab8 shucklaw14_ValueShifts.bits8 (fun HT_ HW_ => ?_)
                  generalize w52.drew = w53 at BK483 BK495 BK507 HB hHeld ⊢
                  refine pure_ (i := 0) (N := some 63) (v := ?_) (a' := ?_) #[true, false, false, false, false, false, false, false, false, false, false, false, false, false, false, false, false, false, false, false, false, false, false, false, false, false, false, false, false, false, false, false, false, false, false, false, false, false, false] rfl rfl (any_of HT_.out (by kernel_rfl)) (fun _ _ _ h => h) (Or.inl ⟨by rfl, ?_⟩) ?_ ?_
                  rotate_left
                  · intro w'
                    go_simp
                    with_reducible rfl
                  rotate_left
                  · simp only [Act.put, List.setIfInBounds_toArray, List.set_cons_zero, List.set_cons_succ, i64_w, i32_w]
                    rfl
                  refine pure_ (i := 1) (N := some 64) (v := ?_) (a' := ?_) #[true, true, false, false, false, false, false, false, false, false, false, false, false, false, false, false, false, false, false, false, false, false, false, false, false, false, false, false, false, false, false, false, false, false, false, false, false, false, false] rfl rfl (any_of HT_.out (by kernel_rfl)) (fun _ _ _ h => h) (Or.inl ⟨by rfl, ?_⟩) ?_ ?_
                  rotate_left
                  · intro w'
                    go_simp
                    with_reducible rfl
                  rotate_left
                  · simp only [Act.put, List.setIfInBounds_toArray, List.set_cons_zero, List.set_cons_succ, i64_w, i32_w]
                    rfl
                  refine pure_ (i := 2) (N := some 65) (v := ?_) (a' := ?_) #[true, true, true, false, false, false, false, false, false, false, false, false, false, false, false, false, false, false, false, false, false, false, false, false, false, false, false, false, false, false, false, false, false, false, false, false, false, false, false] rfl rfl (any_of HT_.out (by kernel_rfl)) (fun _ _ _ h => h) (Or.inl ⟨by rfl, ?_⟩) ?_ ?_
                  rotate_left
                  · intro w'
                    go_simp
                    with_reducible rfl
                  rotate_left
                  · simp only [Act.put, List.setIfInBounds_toArray, List.set_cons_zero, List.set_cons_succ, i64_w, i32_w]
                    rfl
                  refine pure_ (i := 3) (N := some 66) (v := ?_) (a' := ?_) #[true, true, true, true, false, false, false, false, false, false, false, false, false, false, false, false, false, false, false, false, false, false, false, false, false, false, false, false, false, false, false, false, false, false, false, false, false, false, false] rfl rfl (any_of HT_.out (by kernel_rfl)) (fun _ _ _ h => h) (Or.inl ⟨by rfl, ?_⟩) ?_ ?_
                  rotate_left
                  · intro w'
                    go_simp
                    with_reducible rfl
                  rotate_left
                  · simp only [Act.put, List.setIfInBounds_toArray, List.set_cons_zero, List.set_cons_succ, i64_w, i32_w]
                    rfl
                  refine pure_ (i := 4) (N := some 67) (v := ?_) (a' := ?_) #[true, true, true, true, true, false, false, false, false, false, false, false, false, false, false, false, false, false, false, false, false, false, false, false, false, false, false, false, false, false, false, false, false, false, false, false, false, false, false] rfl rfl (any_of HT_.out (by kernel_rfl)) (fun _ _ _ h => h) (Or.inl ⟨by rfl, ?_⟩) ?_ ?_
                  rotate_left
                  · intro w'
                    go_simp
                    with_reducible rfl
                  rotate_left
                  · simp only [Act.put, List.setIfInBounds_toArray, List.set_cons_zero, List.set_cons_succ, i64_w, i32_w]
                    rfl
                  refine pure_ (i := 5) (N := some 68) (v := ?_) (a' := ?_) #[true, true, true, true, true, true, false, false, false, false, false, false, false, false, false, false, false, false, false, false, false, false, false, false, false, false, false, false, false, false, false, false, false, false, false, false, false, false, false] rfl rfl (any_of HT_.out (by kernel_rfl)) (fun _ _ _ h => h) (Or.inl ⟨by rfl, ?_⟩) ?_ ?_
                  rotate_left
                  · intro w'
                    go_simp
                    with_reducible rfl
                  rotate_left
                  · simp only [Act.put, List.setIfInBounds_toArray, List.set_cons_zero, List.set_cons_succ, i64_w, i32_w]
                    rfl
                  refine pure_ (i := 6) (N := some 69) (v := ?_) (a' := ?_) #[true, true, true, true, true, true, true, false, false, false, false, false, false, false, false, false, false, false, false, false, false, false, false, false, false, false, false, false, false, false, false, false, false, false, false, false, false, false, false] rfl rfl (any_of HT_.out (by kernel_rfl)) (fun _ _ _ h => h) (Or.inl ⟨by rfl, ?_⟩) ?_ ?_
                  rotate_left
                  · intro w'
                    go_simp
                    with_reducible rfl
                  rotate_left
                  · simp only [Act.put, List.setIfInBounds_toArray, List.set_cons_zero, List.set_cons_succ, i64_w, i32_w]
                    rfl
                  refine pure_ (i := 8) (N := some 71) (v := ?_) (a' := ?_) #[true, true, true, true, true, true, true, false, true, false, false, false, false, false, false, false, false, false, false, false, false, false, false, false, false, false, false, false, false, false, false, false, false, false, false, false, false, false, false] rfl rfl (any_of HT_.out (by kernel_rfl)) (fun _ _ _ h => h) (Or.inl ⟨by rfl, ?_⟩) ?_ ?_
                  rotate_left
                  · intro w'
                    go_simp
                    with_reducible rfl
                  rotate_left
                  · simp only [Act.put, List.setIfInBounds_toArray, List.set_cons_zero, List.set_cons_succ, i64_w, i32_w]
                    rfl
                  refine pure_ (i := 9) (N := some 72) (v := ?_) (a' := ?_) #[true, true, true, true, true, true, true, false, true, true, false, false, false, false, false, false, false, false, false, false, false, false, false, false, false, false, false, false, false, false, false, false, false, false, false, false, false, false, false] rfl rfl (any_of HT_.out (by kernel_rfl)) (fun _ _ _ h => h) (Or.inl ⟨by rfl, ?_⟩) ?_ ?_
                  rotate_left
                  · intro w'
                    go_simp
                    with_reducible rfl
                  rotate_left
                  · simp only [Act.put, List.setIfInBounds_toArray, List.set_cons_zero, List.set_cons_succ, i64_w, i32_w]
                    rfl
                  refine pure_ (i := 10) (N := some 73) (v := ?_) (a' := ?_) #[true, true, true, true, true, true, true, false, true, true, true, false, false, false, false, false, false, false, false, false, false, false, false, false, false, false, false, false, false, false, false, false, false, false, false, false, false, false, false] rfl rfl (any_of HT_.out (by kernel_rfl)) (fun _ _ _ h => h) (Or.inl ⟨by rfl, ?_⟩) ?_ ?_
                  rotate_left
                  · intro w'
                    go_simp
                    with_reducible rfl
                  rotate_left
                  · simp only [Act.put, List.setIfInBounds_toArray, List.set_cons_zero, List.set_cons_succ, i64_w, i32_w]
                    rfl
                  refine pure_ (i := 11) (N := some 74) (v := ?_) (a' := ?_) #[true, true, true, true, true, true, true, false, true, true, true, true, false, false, false, false, false, false, false, false, false, false, false, false, false, false, false, false, false, false, false, false, false, false, false, false, false, false, false] rfl rfl (any_of HT_.out (by kernel_rfl)) (fun _ _ _ h => h) (Or.inl ⟨by rfl, ?_⟩) ?_ ?_
                  rotate_left
                  · intro w'
                    go_simp
                    with_reducible rfl
                  rotate_left
                  · simp only [Act.put, List.setIfInBounds_toArray, List.set_cons_zero, List.set_cons_succ, i64_w, i32_w]
                    rfl
                  refine pure_ (i := 12) (N := some 75) (v := ?_) (a' := ?_) #[true, true, true, true, true, true, true, false, true, true, true, true, true, false, false, false, false, false, false, false, false, false, false, false, false, false, false, false, false, false, false, false, false, false, false, false, false, false, false] rfl rfl (any_of HT_.out (by kernel_rfl)) (fun _ _ _ h => h) (Or.inl ⟨by rfl, ?_⟩) ?_ ?_
                  rotate_left
                  · intro w'
                    go_simp
                    with_reducible rfl
                  rotate_left
                  · simp only [Act.put, List.setIfInBounds_toArray, List.set_cons_zero, List.set_cons_succ, i64_w, i32_w]
                    rfl
                  refine take_ (i := 7) (N := some 70) (v := ?_) (a' := ?_) #[true, true, true, true, true, true, true, true, true, true, true, true, true, false, false, false, false, false, false, false, false, false, false, false, false, false, false, false, false, false, false, false, false, false, false, false, false, false, false] rfl rfl (take_ofW HT_.out HW_.out (by kernel_rfl)) (fun _ _ _ h => h) (Or.inl ⟨by rfl, ?_⟩) hHeld ?_ ?_
                  rotate_left
                  · rintro w' ⟨s0, s1, s2, s3, s4, s5, s6, s7, s8⟩
                    go_simp
                    with_reducible rfl
                  rotate_left
                  · simp only [Act.put, List.setIfInBounds_toArray, List.set_cons_zero, List.set_cons_succ, i64_w, i32_w]
                    rfl
                  refine one_ (i := 13) (N := some 76) #[true, true, true, true, true, true, true, true, true, true, true, true, true, true, false, false, false, false, false, false, false, false, false, false, false, false, false, false, false, false, false, false, false, false, false, false, false, false, false] rfl rfl (one_of HT_.out (by kernel_rfl)) (by decide) (fun K hK => ?_)
                  refine goes_ Tryd.func24 (by kernel_rfl) rfl #[.int .i64 (wrap64 (wrap32 (ji22)))] (by rfl) rfl rfl (by (try simp only [List.map_toArray, List.map_cons, List.map_nil]); first | done | (simp only [hji22]; rfl) | rfl | (simp only [List.length_drop, List.length_take]; rfl)) ?_
                  with_reducible refine (shucklaw14_num.calls (wrap64 (wrap32 (ji22))) t508 t509 t510 _ A23.out).mono ?_
                  rintro e w54 ⟨rfl, hb⟩
                  refine ⟨_, rfl, ?_⟩
                  have n0_ := Aside0.mk (blk_below (g := gb483) (o := .cells #[.int .i64 t478, .int .i64 t479, .string t480] 23 (0, 0)) (by (with_reducible repeat (first | refine blk_drewN ?_ _ | refine blk_drew ?_ | refine blk_alloc ?_ _)); exact BK483.out) hb)
                  have n1_ := Aside0.mk (blk_below (g := gb495) (o := .cells #[.int .i64 t490, .int .i64 t491, .string t492] 23 (0, 0)) (by (with_reducible repeat (first | refine blk_drewN ?_ _ | refine blk_drew ?_ | refine blk_alloc ?_ _)); exact BK495.out) hb)
                  have n2_ := Aside0.mk (blk_below (g := gb507) (o := .cells #[.int .i64 t502, .int .i64 t503, .string t504] 23 (0, 0)) (by (with_reducible repeat (first | refine blk_drewN ?_ _ | refine blk_drew ?_ | refine blk_alloc ?_ _)); exact BK507.out) hb)
                  have n3_ := Aside0.mk (below_step (by repeat (first | (with_reducible first | exact HB.out | apply below_alloc | apply pw_below_drewN | apply below_drew1 | refine below_set ?_ GE483.out | refine below_set ?_ GE495.out | refine below_set ?_ GE507.out) | exact HB.out)) hb)
                  clear BK483
                  clear BK495
                  clear BK507
                  clear HB
                  have BK483 := n0_
                  have BK495 := n1_
                  have BK507 := n2_
                  have HB := n3_
                  clear n0_ n1_ n2_ n3_
                  (try clear hb)
                  (try clear hb2)
                  (try clear hk)
                  (try clear hi)
                  refine hK.out _ _ ⟨(blk_cell BK483.out 0).trans rfl, (blk_cell BK483.out 1).trans rfl, (blk_cell BK483.out 2).trans rfl, (blk_cell BK495.out 0).trans rfl, (blk_cell BK495.out 1).trans rfl, (blk_cell BK495.out 2).trans rfl, (blk_cell BK507.out 0).trans rfl, (blk_cell BK507.out 1).trans rfl, (blk_cell BK507.out 2).trans rfl⟩ (fun hHeld => ?_)
                  clear hK K
                  refine norm_ (a' := ?_) ?_ ?_
                  rotate_left
                  · show Act.put _ (some 76) _ = _
                    simp only [Act.put, List.setIfInBounds_toArray, List.set_cons_zero, List.set_cons_succ, i64_w, i32_w]
                    rfl
                  refine pure_ (i := 14) (N := some 77) (v := ?_) (a' := ?_) #[true, true, true, true, true, true, true, true, true, true, true, true, true, true, true, false, false, false, false, false, false, false, false, false, false, false, false, false, false, false, false, false, false, false, false, false, false, false, false] rfl rfl (any_of HT_.out (by kernel_rfl)) (fun _ _ _ h => h) (Or.inl ⟨by rfl, ?_⟩) ?_ ?_
                  rotate_left
                  · intro w'
                    go_simp
                    with_reducible rfl
                  rotate_left
                  · simp only [Act.put, List.setIfInBounds_toArray, List.set_cons_zero, List.set_cons_succ, i64_w, i32_w]
                    rfl
                  refine pure_ (i := 15) (N := some 78) (v := ?_) (a' := ?_) #[true, true, true, true, true, true, true, true, true, true, true, true, true, true, true, true, false, false, false, false, false, false, false, false, false, false, false, false, false, false, false, false, false, false, false, false, false, false, false] rfl rfl (any_of HT_.out (by kernel_rfl)) (fun _ _ _ h => h) (Or.inl ⟨by rfl, ?_⟩) ?_ ?_
                  rotate_left
                  · intro w'
                    go_simp
                    with_reducible rfl
                  rotate_left
                  · simp only [Act.put, List.setIfInBounds_toArray, List.set_cons_zero, List.set_cons_succ, i64_w, i32_w]
                    rfl
                  refine pure_ (i := 16) (N := some 79) (v := ?_) (a' := ?_) #[true, true, true, true, true, true, true, true, true, true, true, true, true, true, true, true, true, false, false, false, false, false, false, false, false, false, false, false, false, false, false, false, false, false, false, false, false, false, false] rfl rfl (any_of HT_.out (by kernel_rfl)) (fun _ _ _ h => h) (Or.inl ⟨by rfl, ?_⟩) ?_ ?_
                  rotate_left
                  · intro w'
                    go_simp
                    with_reducible rfl
                  rotate_left
                  · simp only [Act.put, List.setIfInBounds_toArray, List.set_cons_zero, List.set_cons_succ, i64_w, i32_w]
                    rfl
                  refine pure_ (i := 18) (N := some 81) (v := ?_) (a' := ?_) #[true, true, true, true, true, true, true, true, true, true, true, true, true, true, true, true, true, false, true, false, false, false, false, false, false, false, false, false, false, false, false, false, false, false, false, false, false, false, false] rfl rfl (any_of HT_.out (by kernel_rfl)) (fun _ _ _ h => h) (Or.inl ⟨by rfl, ?_⟩) ?_ ?_
                  rotate_left
                  · intro w'
                    go_simp
                    with_reducible rfl
                  rotate_left
                  · simp only [Act.put, List.setIfInBounds_toArray, List.set_cons_zero, List.set_cons_succ, i64_w, i32_w]
                    rfl
                  refine pure_ (i := 19) (N := some 82) (v := ?_) (a' := ?_) #[true, true, true, true, true, true, true, true, true, true, true, true, true, true, true, true, true, false, true, true, false, false, false, false, false, false, false, false, false, false, false, false, false, false, false, false, false, false, false] rfl rfl (any_of HT_.out (by kernel_rfl)) (fun _ _ _ h => h) (Or.inl ⟨by rfl, ?_⟩) ?_ ?_
                  rotate_left
                  · intro w'
                    go_simp
                    with_reducible rfl
                  rotate_left
                  · simp only [Act.put, List.setIfInBounds_toArray, List.set_cons_zero, List.set_cons_succ, i64_w, i32_w]
                    rfl
                  refine pure_ (i := 20) (N := some 83) (v := ?_) (a' := ?_) #[true, true, true, true, true, true, true, true, true, true, true, true, true, true, true, true, true, false, true, true, true, false, false, false, false, false, false, false, false, false, false, false, false, false, false, false, false, false, false] rfl rfl (any_of HT_.out (by kernel_rfl)) (fun _ _ _ h => h) (Or.inl ⟨by rfl, ?_⟩) ?_ ?_
                  rotate_left
                  · intro w'
                    go_simp
                    with_reducible rfl
                  rotate_left
                  · simp only [Act.put, List.setIfInBounds_toArray, List.set_cons_zero, List.set_cons_succ, i64_w, i32_w]
                    rfl
                  refine pure_ (i := 21) (N := some 84) (v := ?_) (a' := ?_) #[true, true, true, true, true, true, true, true, true, true, true, true, true, true, true, true, true, false, true, true, true, true, false, false, false, false, false, false, false, false, false, false, false, false, false, false, false, false, false] rfl rfl (any_of HT_.out (by kernel_rfl)) (fun _ _ _ h => h) (Or.inl ⟨by rfl, ?_⟩) ?_ ?_
                  rotate_left
                  · intro w'
                    go_simp
                    with_reducible rfl
                  rotate_left
                  · simp only [Act.put, List.setIfInBounds_toArray, List.set_cons_zero, List.set_cons_succ, i64_w, i32_w]
                    rfl
                  refine pure_ (i := 22) (N := some 85) (v := ?_) (a' := ?_) #[true, true, true, true, true, true, true, true, true, true, true, true, true, true, true, true, true, false, true, true, true, true, true, false, false, false, false, false, false, false, false, false, false, false, false, false, false, false, false] rfl rfl (any_of HT_.out (by kernel_rfl)) (fun _ _ _ h => h) (Or.inl ⟨by rfl, ?_⟩) ?_ ?_
                  rotate_left
                  · intro w'
                    go_simp
                    with_reducible rfl
                  rotate_left
                  · simp only [Act.put, List.setIfInBounds_toArray, List.set_cons_zero, List.set_cons_succ, i64_w, i32_w]
                    rfl
                  refine take_ (i := 17) (N := some 80) (v := ?_) (a' := ?_) #[true, true, true, true, true, true, true, true, true, true, true, true, true, true, true, true, true, true, true, true, true, true, true, false, false, false, false, false, false, false, false, false, false, false, false, false, false, false, false] rfl rfl (take_ofW HT_.out HW_.out (by kernel_rfl)) (fun _ _ _ h => h) (Or.inl ⟨by rfl, ?_⟩) hHeld ?_ ?_
                  rotate_left
                  · rintro w' ⟨s0, s1, s2, s3, s4, s5, s6, s7, s8⟩
                    go_simp
                    with_reducible rfl
                  rotate_left
                  · simp only [Act.put, List.setIfInBounds_toArray, List.set_cons_zero, List.set_cons_succ, i64_w, i32_w]
                    rfl
                  refine one_ (i := 23) (N := some 86) #[true, true, true, true, true, true, true, true, true, true, true, true, true, true, true, true, true, true, true, true, true, true, true, true, false, false, false, false, false, false, false, false, false, false, false, false, false, false, false] rfl rfl (one_of HT_.out (by kernel_rfl)) (by decide) (fun K hK => ?_)
                  refine goes_ Tryd.func24 (by kernel_rfl) rfl #[.int .i64 (wrap64 (ji26))] (by rfl) rfl rfl (by (try simp only [List.map_toArray, List.map_cons, List.map_nil]); first | done | (simp only [hji26]; rfl) | rfl | (simp only [List.length_drop, List.length_take]; rfl)) ?_
                  with_reducible refine (shucklaw14_num.calls (wrap64 (ji26)) t511 t512 t513 _ A27.out).mono ?_
                  rintro e w55 ⟨rfl, hb⟩
                  refine ⟨_, rfl, ?_⟩
                  have n0_ := Aside0.mk (blk_below (g := gb483) (o := .cells #[.int .i64 t478, .int .i64 t479, .string t480] 23 (0, 0)) (by (with_reducible repeat (first | refine blk_drewN ?_ _ | refine blk_drew ?_ | refine blk_alloc ?_ _)); exact BK483.out) hb)
                  have n1_ := Aside0.mk (blk_below (g := gb495) (o := .cells #[.int .i64 t490, .int .i64 t491, .string t492] 23 (0, 0)) (by (with_reducible repeat (first | refine blk_drewN ?_ _ | refine blk_drew ?_ | refine blk_alloc ?_ _)); exact BK495.out) hb)
                  have n2_ := Aside0.mk (blk_below (g := gb507) (o := .cells #[.int .i64 t502, .int .i64 t503, .string t504] 23 (0, 0)) (by (with_reducible repeat (first | refine blk_drewN ?_ _ | refine blk_drew ?_ | refine blk_alloc ?_ _)); exact BK507.out) hb)
                  have n3_ := Aside0.mk (below_step (by repeat (first | (with_reducible first | exact HB.out | apply below_alloc | apply pw_below_drewN | apply below_drew1 | refine below_set ?_ GE483.out | refine below_set ?_ GE495.out | refine below_set ?_ GE507.out) | exact HB.out)) hb)
                  clear BK483
                  clear BK495
                  clear BK507
                  clear HB
                  have BK483 := n0_
                  have BK495 := n1_
                  have BK507 := n2_
                  have HB := n3_
                  clear n0_ n1_ n2_ n3_
                  (try clear hb)
                  (try clear hb2)
                  (try clear hk)
                  (try clear hi)
                  refine hK.out _ _ ⟨(blk_cell BK483.out 0).trans rfl, (blk_cell BK483.out 1).trans rfl, (blk_cell BK483.out 2).trans rfl, (blk_cell BK495.out 0).trans rfl, (blk_cell BK495.out 1).trans rfl, (blk_cell BK495.out 2).trans rfl, (blk_cell BK507.out 0).trans rfl, (blk_cell BK507.out 1).trans rfl, (blk_cell BK507.out 2).trans rfl⟩ (fun hHeld => ?_)
                  clear hK K
                  refine norm_ (a' := ?_) ?_ ?_
                  rotate_left
                  · show Act.put _ (some 86) _ = _
                    simp only [Act.put, List.setIfInBounds_toArray, List.set_cons_zero, List.set_cons_succ, i64_w, i32_w]
                    rfl
                  refine pure_ (i := 24) (N := some 87) (v := ?_) (a' := ?_) #[true, true, true, true, true, true, true, true, true, true, true, true, true, true, true, true, true, true, true, true, true, true, true, true, true, false, false, false, false, false, false, false, false, false, false, false, false, false, false] rfl rfl (any_of HT_.out (by kernel_rfl)) (fun _ _ _ h => h) (Or.inl ⟨by rfl, ?_⟩) ?_ ?_
                  rotate_left
                  · intro w'
                    go_simp
                    with_reducible rfl
                  rotate_left
                  · simp only [Act.put, List.setIfInBounds_toArray, List.set_cons_zero, List.set_cons_succ, i64_w, i32_w]
                    rfl
                  refine pure_ (i := 25) (N := some 88) (v := ?_) (a' := ?_) #[true, true, true, true, true, true, true, true, true, true, true, true, true, true, true, true, true, true, true, true, true, true, true, true, true, true, false, false, false, false, false, false, false, false, false, false, false, false, false] rfl rfl (any_of HT_.out (by kernel_rfl)) (fun _ _ _ h => h) (Or.inl ⟨by rfl, ?_⟩) ?_ ?_
                  rotate_left
                  · intro w'
                    go_simp
                    with_reducible rfl
                  rotate_left
                  · simp only [Act.put, List.setIfInBounds_toArray, List.set_cons_zero, List.set_cons_succ, i64_w, i32_w]
                    rfl
                  refine pure_ (i := 26) (N := some 89) (v := ?_) (a' := ?_) #[true, true, true, true, true, true, true, true, true, true, true, true, true, true, true, true, true, true, true, true, true, true, true, true, true, true, true, false, false, false, false, false, false, false, false, false, false, false, false] rfl rfl (any_of HT_.out (by kernel_rfl)) (fun _ _ _ h => h) (Or.inl ⟨by rfl, ?_⟩) ?_ ?_
                  rotate_left
                  · intro w'
                    go_simp
                    with_reducible rfl
                  rotate_left
                  · simp only [Act.put, List.setIfInBounds_toArray, List.set_cons_zero, List.set_cons_succ, i64_w, i32_w]
                    rfl
                  refine pure_ (i := 28) (N := some 91) (v := ?_) (a' := ?_) #[true, true, true, true, true, true, true, true, true, true, true, true, true, true, true, true, true, true, true, true, true, true, true, true, true, true, true, false, true, false, false, false, false, false, false, false, false, false, false] rfl rfl (any_of HT_.out (by kernel_rfl)) (fun _ _ _ h => h) (Or.inl ⟨by rfl, ?_⟩) ?_ ?_
                  rotate_left
                  · intro w'
                    go_simp
                    with_reducible rfl
                  rotate_left
                  · simp only [Act.put, List.setIfInBounds_toArray, List.set_cons_zero, List.set_cons_succ, i64_w, i32_w]
                    rfl
                  refine pure_ (i := 29) (N := some 92) (v := ?_) (a' := ?_) #[true, true, true, true, true, true, true, true, true, true, true, true, true, true, true, true, true, true, true, true, true, true, true, true, true, true, true, false, true, true, false, false, false, false, false, false, false, false, false] rfl rfl (any_of HT_.out (by kernel_rfl)) (fun _ _ _ h => h) (Or.inl ⟨by rfl, ?_⟩) ?_ ?_
                  rotate_left
                  · intro w'
                    go_simp
                    with_reducible rfl
                  rotate_left
                  · simp only [Act.put, List.setIfInBounds_toArray, List.set_cons_zero, List.set_cons_succ, i64_w, i32_w]
                    rfl
                  refine pure_ (i := 30) (N := some 93) (v := ?_) (a' := ?_) #[true, true, true, true, true, true, true, true, true, true, true, true, true, true, true, true, true, true, true, true, true, true, true, true, true, true, true, false, true, true, true, false, false, false, false, false, false, false, false] rfl rfl (any_of HT_.out (by kernel_rfl)) (fun _ _ _ h => h) (Or.inl ⟨by rfl, ?_⟩) ?_ ?_
                  rotate_left
                  · intro w'
                    go_simp
                    with_reducible rfl
                  rotate_left
                  · simp only [Act.put, List.setIfInBounds_toArray, List.set_cons_zero, List.set_cons_succ, i64_w, i32_w]
                    rfl
                  refine pure_ (i := 31) (N := some 94) (v := ?_) (a' := ?_) #[true, true, true, true, true, true, true, true, true, true, true, true, true, true, true, true, true, true, true, true, true, true, true, true, true, true, true, false, true, true, true, true, false, false, false, false, false, false, false] rfl rfl (any_of HT_.out (by kernel_rfl)) (fun _ _ _ h => h) (Or.inl ⟨by rfl, ?_⟩) ?_ ?_
                  rotate_left
                  · intro w'
                    go_simp
                    with_reducible rfl
                  rotate_left
                  · simp only [Act.put, List.setIfInBounds_toArray, List.set_cons_zero, List.set_cons_succ, i64_w, i32_w]
                    rfl
                  refine take_ (i := 27) (N := some 90) (v := ?_) (a' := ?_) #[true, true, true, true, true, true, true, true, true, true, true, true, true, true, true, true, true, true, true, true, true, true, true, true, true, true, true, true, true, true, true, true, false, false, false, false, false, false, false] rfl rfl (take_ofW HT_.out HW_.out (by kernel_rfl)) (fun _ _ _ h => h) (Or.inl ⟨by rfl, ?_⟩) hHeld ?_ ?_
                  rotate_left
                  · rintro w' ⟨s0, s1, s2, s3, s4, s5, s6, s7, s8⟩
                    go_simp
                    with_reducible rfl
                  rotate_left
                  · simp only [Act.put, List.setIfInBounds_toArray, List.set_cons_zero, List.set_cons_succ, i64_w, i32_w]
                    rfl
                  refine one_ (i := 32) (N := some 95) #[true, true, true, true, true, true, true, true, true, true, true, true, true, true, true, true, true, true, true, true, true, true, true, true, true, true, true, true, true, true, true, true, true, false, false, false, false, false, false] rfl rfl (one_of HT_.out (by kernel_rfl)) (by decide) (fun K hK => ?_)
                  refine goes_ Tryd.func24 (by kernel_rfl) rfl #[.int .i64 ji30] (by rfl) rfl rfl (by (try simp only [List.map_toArray, List.map_cons, List.map_nil]); first | done | exact congrArg (fun x => #[Value.int .i64 x]) w30_.out | (simp only [hji30]; rfl) | rfl | (simp only [List.length_drop, List.length_take]; rfl)) ?_
                  with_reducible refine (shucklaw14_num.calls ji30 t514 t515 t516 _ A31.out).mono ?_
                  rintro e w56 ⟨rfl, hb⟩
                  refine ⟨_, rfl, ?_⟩
                  have n0_ := Aside0.mk (blk_below (g := gb483) (o := .cells #[.int .i64 t478, .int .i64 t479, .string t480] 23 (0, 0)) (by (with_reducible repeat (first | refine blk_drewN ?_ _ | refine blk_drew ?_ | refine blk_alloc ?_ _)); exact BK483.out) hb)
                  have n1_ := Aside0.mk (blk_below (g := gb495) (o := .cells #[.int .i64 t490, .int .i64 t491, .string t492] 23 (0, 0)) (by (with_reducible repeat (first | refine blk_drewN ?_ _ | refine blk_drew ?_ | refine blk_alloc ?_ _)); exact BK495.out) hb)
                  have n2_ := Aside0.mk (blk_below (g := gb507) (o := .cells #[.int .i64 t502, .int .i64 t503, .string t504] 23 (0, 0)) (by (with_reducible repeat (first | refine blk_drewN ?_ _ | refine blk_drew ?_ | refine blk_alloc ?_ _)); exact BK507.out) hb)
                  have n3_ := Aside0.mk (below_step (by repeat (first | (with_reducible first | exact HB.out | apply below_alloc | apply pw_below_drewN | apply below_drew1 | refine below_set ?_ GE483.out | refine below_set ?_ GE495.out | refine below_set ?_ GE507.out) | exact HB.out)) hb)
                  clear BK483
                  clear BK495
                  clear BK507
                  clear HB
                  have BK483 := n0_
                  have BK495 := n1_
                  have BK507 := n2_
                  have HB := n3_
                  clear n0_ n1_ n2_ n3_
                  (try clear hb)
                  (try clear hb2)
                  (try clear hk)
                  (try clear hi)
                  refine hK.out _ _ ⟨(blk_cell BK483.out 0).trans rfl, (blk_cell BK483.out 1).trans rfl, (blk_cell BK483.out 2).trans rfl, (blk_cell BK495.out 0).trans rfl, (blk_cell BK495.out 1).trans rfl, (blk_cell BK495.out 2).trans rfl, (blk_cell BK507.out 0).trans rfl, (blk_cell BK507.out 1).trans rfl, (blk_cell BK507.out 2).trans rfl⟩ (fun hHeld => ?_)
                  clear hK K
                  refine norm_ (a' := ?_) ?_ ?_
                  rotate_left
                  · show Act.put _ (some 95) _ = _
                    simp only [Act.put, List.setIfInBounds_toArray, List.set_cons_zero, List.set_cons_succ, i64_w, i32_w]
                    rfl
                  refine pure_ (i := 33) (N := some 96) (v := ?_) (a' := ?_) #[true, true, true, true, true, true, true, true, true, true, true, true, true, true, true, true, true, true, true, true, true, true, true, true, true, true, true, true, true, true, true, true, true, true, false, false, false, false, false] rfl rfl (any_of HT_.out (by kernel_rfl)) (fun _ _ _ h => h) (Or.inl ⟨by rfl, ?_⟩) ?_ ?_
                  rotate_left
                  · intro w'
                    go_simp
                    with_reducible rfl
                  rotate_left
                  · simp only [Act.put, List.setIfInBounds_toArray, List.set_cons_zero, List.set_cons_succ, i64_w, i32_w]
                    rfl
                  refine pure_ (i := 34) (N := some 97) (v := ?_) (a' := ?_) #[true, true, true, true, true, true, true, true, true, true, true, true, true, true, true, true, true, true, true, true, true, true, true, true, true, true, true, true, true, true, true, true, true, true, true, false, false, false, false] rfl rfl (any_of HT_.out (by kernel_rfl)) (fun _ _ _ h => h) (Or.inl ⟨by rfl, ?_⟩) ?_ ?_
                  rotate_left
                  · intro w'
                    go_simp
                    with_reducible rfl
                  rotate_left
                  · simp only [Act.put, List.setIfInBounds_toArray, List.set_cons_zero, List.set_cons_succ, i64_w, i32_w]
                    rfl
                  refine pure_ (i := 35) (N := some 98) (v := ?_) (a' := ?_) #[true, true, true, true, true, true, true, true, true, true, true, true, true, true, true, true, true, true, true, true, true, true, true, true, true, true, true, true, true, true, true, true, true, true, true, true, false, false, false] rfl rfl (any_of HT_.out (by kernel_rfl)) (fun _ _ _ h => h) (Or.inl ⟨by rfl, ?_⟩) ?_ ?_
                  rotate_left
                  · intro w'
                    go_simp
                    with_reducible rfl
                  rotate_left
                  · simp only [Act.put, List.setIfInBounds_toArray, List.set_cons_zero, List.set_cons_succ, i64_w, i32_w]
                    rfl
                  refine one_ (i := 36) (N := some 99) #[true, true, true, true, true, true, true, true, true, true, true, true, true, true, true, true, true, true, true, true, true, true, true, true, true, true, true, true, true, true, true, true, true, true, true, true, true, false, false] rfl rfl (one_of HT_.out (by kernel_rfl)) (by decide) (fun K hK => ?_)
                  refine goes_ Tryd.func13 (by kernel_rfl) rfl #[] (by rfl) rfl rfl (by (try simp only [List.map_toArray, List.map_cons, List.map_nil]); first | done | rfl | (simp only [List.length_drop, List.length_take]; rfl)) ?_
                  with_reducible refine (shucklaw14_known.calls kj2  t517 _ ?side1 A33.out).mono ?_
                  (case side1 => exact TabOk.of HT.out (by repeat (first | (with_reducible first | exact HB.out | apply below_alloc | apply pw_below_drewN | apply below_drew1 | refine below_set ?_ GE483.out | refine below_set ?_ GE495.out | refine below_set ?_ GE507.out) | exact HB.out)))
                  rintro e w57 ⟨rfl, hb⟩
                  refine ⟨_, rfl, ?_⟩
                  have n0_ := Aside0.mk (blk_below (g := gb483) (o := .cells #[.int .i64 t478, .int .i64 t479, .string t480] 23 (0, 0)) (by (with_reducible repeat (first | refine blk_drewN ?_ _ | refine blk_drew ?_ | refine blk_alloc ?_ _)); exact BK483.out) hb)
                  have n1_ := Aside0.mk (blk_below (g := gb495) (o := .cells #[.int .i64 t490, .int .i64 t491, .string t492] 23 (0, 0)) (by (with_reducible repeat (first | refine blk_drewN ?_ _ | refine blk_drew ?_ | refine blk_alloc ?_ _)); exact BK495.out) hb)
                  have n2_ := Aside0.mk (blk_below (g := gb507) (o := .cells #[.int .i64 t502, .int .i64 t503, .string t504] 23 (0, 0)) (by (with_reducible repeat (first | refine blk_drewN ?_ _ | refine blk_drew ?_ | refine blk_alloc ?_ _)); exact BK507.out) hb)
                  have n3_ := Aside0.mk (below_step (by repeat (first | (with_reducible first | exact HB.out | apply below_alloc | apply pw_below_drewN | apply below_drew1 | refine below_set ?_ GE483.out | refine below_set ?_ GE495.out | refine below_set ?_ GE507.out) | exact HB.out)) hb)
                  clear BK483
                  clear BK495
                  clear BK507
                  clear HB
                  have BK483 := n0_
                  have BK495 := n1_
                  have BK507 := n2_
                  have HB := n3_
                  clear n0_ n1_ n2_ n3_
                  (try clear hb)
                  (try clear hb2)
                  (try clear hk)
                  (try clear hi)
                  refine hK.out _ _ ⟨(blk_cell BK483.out 0).trans rfl, (blk_cell BK483.out 1).trans rfl, (blk_cell BK483.out 2).trans rfl, (blk_cell BK495.out 0).trans rfl, (blk_cell BK495.out 1).trans rfl, (blk_cell BK495.out 2).trans rfl, (blk_cell BK507.out 0).trans rfl, (blk_cell BK507.out 1).trans rfl, (blk_cell BK507.out 2).trans rfl⟩ (fun hHeld => ?_)
                  clear hK K
                  refine norm_ (a' := ?_) ?_ ?_
                  rotate_left
                  · show Act.put _ (some 99) _ = _
                    simp only [Act.put, List.setIfInBounds_toArray, List.set_cons_zero, List.set_cons_succ, i64_w, i32_w]
                    rfl
                  refine pure_ (i := 37) (N := some 100) (v := ?_) (a' := ?_) #[true, true, true, true, true, true, true, true, true, true, true, true, true, true, true, true, true, true, true, true, true, true, true, true, true, true, true, true, true, true, true, true, true, true, true, true, true, true, false] rfl rfl (any_of HT_.out (by kernel_rfl)) (fun _ _ _ h => h) (Or.inl ⟨by rfl, ?_⟩) ?_ ?_
                  rotate_left
                  · intro w'
                    go_simp
                    with_reducible rfl
                  rotate_left
                  · simp only [Act.put, List.setIfInBounds_toArray, List.set_cons_zero, List.set_cons_succ, i64_w, i32_w]
                    rfl
                  refine pure_ (i := 38) (N := some 4) (v := ?_) (a' := ?_) #[true, true, true, true, true, true, true, true, true, true, true, true, true, true, true, true, true, true, true, true, true, true, true, true, true, true, true, true, true, true, true, true, true, true, true, true, true, true, true] rfl rfl (any_of HT_.out (by kernel_rfl)) (fun _ _ _ h => h) (Or.inl ⟨by rfl, ?_⟩) ?_ ?_
                  rotate_left
                  · intro w'
                    go_simp
                    with_reducible rfl
                  rotate_left
                  · simp only [Act.put, List.setIfInBounds_toArray, List.set_cons_zero, List.set_cons_succ, i64_w, i32_w]
                    rfl
                  refine done_ (done_of HT_.out (by kernel_rfl)) ?_
                  try go_wp2
                  go_ret
                  exact ⟨by first | rfl | (simp [errW_none, errW_some] <;> rfl) | (simp only [← hji20, ← hji22, ← hji26, ← hji30]; first | rfl | (simp [errW_none, errW_some] <;> rfl)) | (simp [*, errW_none, errW_some] <;> rfl), by repeat (first | (with_reducible first | exact HB.out | apply below_alloc | apply pw_below_drewN | apply below_drew1 | refine below_set ?_ GE483.out | refine below_set ?_ GE495.out | refine below_set ?_ GE507.out) | exact HB.out)⟩
                · rw [if_neg c32] at H
                  have c32b0 : (t502 == t514 && (t503 == t515 && (t504.toList == t516.toList))) = false := by simpa using c32
                  (try (have c32b1 : decide (t502 = t514 && (t503 == t515 && (t504.toList == t516.toList))) = false := by simpa using c32))
                  (try (have c32b2 : (t502 == t514 && (t503 == t515 && (t504.toList == t516.toList))) = false := by simpa using c32))
                  (try (have c32b3 : ¬ (t502 = t514 && (t503 == t515 && (t504.toList == t516.toList))) := by simpa using c32))
                  clear c32
                  exact absurd ((Option.some.inj H).trans hr) (by decide)
              · rw [if_neg c28] at H
                have c28b0 : (t490 == t511 && (t491 == t512 && (t492.toList == t513.toList))) = false := by simpa using c28
                (try (have c28b1 : decide (t490 = t511 && (t491 == t512 && (t492.toList == t513.toList))) = false := by simpa using c28))
                (try (have c28b2 : (t490 == t511 && (t491 == t512 && (t492.toList == t513.toList))) = false := by simpa using c28))
                (try (have c28b3 : ¬ (t490 = t511 && (t491 == t512 && (t492.toList == t513.toList))) := by simpa using c28))
                clear c28
                exact absurd ((Option.some.inj H).trans hr) (by decide)
            · rw [if_neg c24] at H
              have c24b0 : (t478 == t508 && (t479 == t509 && (t480.toList == t510.toList))) = false := by simpa using c24
              (try (have c24b1 : decide (t478 = t508 && (t479 == t509 && (t480.toList == t510.toList))) = false := by simpa using c24))
              (try (have c24b2 : (t478 == t508 && (t479 == t509 && (t480.toList == t510.toList))) = false := by simpa using c24))
              (try (have c24b3 : ¬ (t478 = t508 && (t479 == t509 && (t480.toList == t510.toList))) := by simpa using c24))
              clear c24
              exact absurd ((Option.some.inj H).trans hr) (by decide)
          · rw [if_neg c21] at H
            exact absurd H (by simp)
        · rw [if_neg c19] at H
          have c19b0 : ((wrap64 ((wrap64 (t482 + t494)) + t506)) == 0) = false := beq_eq_false_iff_ne.mpr c19
          have c19b1 : ((wrap64 ((wrap64 (t482 + t494)) + t506)) != 0) = true := bne_iff_ne.mpr c19
          exact absurd ((Option.some.inj H).trans hr) (by decide)
end Go.Proofs.YtceahnhpeadkoaaDoor.V
