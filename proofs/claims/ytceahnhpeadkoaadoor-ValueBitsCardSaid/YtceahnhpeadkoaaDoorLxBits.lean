/- The walk of the law ValueBits, where it answers true. Written by a program of this work out of the translation. -/
import Derived.Test.YtceahnhpeadkoaaDoorLy
namespace Go.Proofs.YtceahnhpeadkoaaDoor.V
open Go.RowKit Go.Proofs.YtceahnhpeadkoaaDoorW.PrintWords Go.Proofs.YtceahnhpeadkoaaDoorW.PrintLast Go.Proofs.YtceahnhpeadkoaaDoorW.PrintMore
attribute [local go_sem] max2_int min2_int max_two min_two max_three min_three max_four min_four   -- for this text's walks alone
set_option linter.unusedVariables false
set_option linter.unusedSimpArgs false
attribute [local go_sem high] eqA23
/-! ### shucklaw14_ValueBits: function 9 -/
def shucklaw14_ValueBits.j0 : Nat → Int → Int → Bool → Option (Bool)
  | 0, _, _, _ => none
  | k + 1, x0, x1, x32 => if x32 = true then ((shucklaw14_known.f k).bind fun t412 => (some t412)) else ((shucklaw14_num.f x0).bind fun bt413 => ((shucklaw14_num.f x1).bind fun bt416 => ((value_Binary.f (⟨#[38]⟩ : ByteArray) bt413.1 bt413.2.1 bt413.2.2 bt416.1 bt416.2.1 bt416.2.2).bind fun bt419 => ((shucklaw14_num.f x0).bind fun bt425 => ((shucklaw14_num.f x1).bind fun bt428 => ((value_Binary.f (⟨#[124]⟩ : ByteArray) bt425.1 bt425.2.1 bt425.2.2 bt428.1 bt428.2.1 bt428.2.2).bind fun bt431 => ((shucklaw14_num.f x0).bind fun bt437 => ((shucklaw14_num.f x1).bind fun bt440 => ((value_Binary.f (⟨#[94]⟩ : ByteArray) bt437.1 bt437.2.1 bt437.2.2 bt440.1 bt440.2.1 bt440.2.2).bind fun bt443 => ((shucklaw14_num.f x0).bind fun bt449 => ((value_Unary.f k (⟨#[126]⟩ : ByteArray) bt449.1 bt449.2.1 bt449.2.2).bind fun bt452 => (if (wrap64 ((wrap64 ((wrap64 (bt419.2.2.2.2 + bt431.2.2.2.2)) + bt443.2.2.2.2)) + bt452.2.2.2.2)) = 0 then ((shucklaw14_num.f (wrap64 (Go.bits .and .i32 (wrap32 ((x0) % 4294967296)) (wrap32 ((x1) % 4294967296))))).bind fun bt458 => (if (bt419.1 == bt458.1 && (bt419.2.1 == bt458.2.1 && (bt419.2.2.1.toList == bt458.2.2.toList))) = true then ((shucklaw14_num.f (wrap64 (Go.bits .or .i32 (wrap32 ((x0) % 4294967296)) (wrap32 ((x1) % 4294967296))))).bind fun bt461 => (if (bt431.1 == bt461.1 && (bt431.2.1 == bt461.2.1 && (bt431.2.2.1.toList == bt461.2.2.toList))) = true then ((shucklaw14_num.f (wrap64 (Go.bits .xor .i32 (wrap32 ((x0) % 4294967296)) (wrap32 ((x1) % 4294967296))))).bind fun bt464 => (if (bt443.1 == bt464.1 && (bt443.2.1 == bt464.2.1 && (bt443.2.2.1.toList == bt464.2.2.toList))) = true then ((shucklaw14_num.f (wrap64 (Go.bits .xor .i32 (-1) (wrap32 ((x0) % 4294967296))))).bind fun bt467 => (if (bt452.1 == bt467.1 && (bt452.2.1 == bt467.2.1 && (bt452.2.2.1.toList == bt467.2.2.toList))) = true then ((shucklaw14_known.f k).bind fun t470 => (some t470)) else (some false))) else (some false))) else (some false))) else (some false))) else (some false)))))))))))))
def shucklaw14_ValueBits.f (k : Nat) (a0 : Int) (a1 : Int) : Option (Bool) := if a0 > 9007199254740991 then (shucklaw14_ValueBits.j0 k a0 a1 true) else (if a0 < (-9007199254740991) then (shucklaw14_ValueBits.j0 k a0 a1 true) else (if a1 > 9007199254740991 then (shucklaw14_ValueBits.j0 k a0 a1 true) else (shucklaw14_ValueBits.j0 k a0 a1 (decide (a1 < (-9007199254740991))))))
theorem shucklaw14_ValueBits.mono_l : ∀ k, (∀ y0 y1 y2, LeO (shucklaw14_ValueBits.j0 k y0 y1 y2) (shucklaw14_ValueBits.j0 (k + 1) y0 y1 y2))
  | 0 => fun _ _ _ r h => by simp [shucklaw14_ValueBits.j0] at h
  | k + 1 => by
    have ih0 := shucklaw14_ValueBits.mono_l k
    · intro y0 y1 y2
      unfold shucklaw14_ValueBits.j0
      repeat' first
      | (with_reducible exact ih0 _ _ _)
      | (with_reducible exact shucklaw14_known.mono _)
      | (with_reducible exact value_Unary.mono _ _ _ _ _)
      | (with_reducible exact LeO.refl _)
      | (with_reducible exact LeO.none _)
      | (with_reducible refine LeO.ite ?_ ?_)
      | (with_reducible refine LeO.bind ?_ (fun _ => ?_))
      | exact ih0 _ _ _
      | exact shucklaw14_known.mono _
      | exact value_Unary.mono _ _ _ _ _
      | exact LeO.none _
      | refine LeO.ite ?_ ?_
      | refine LeO.bind ?_ (fun _ => ?_)
theorem shucklaw14_ValueBits.mono : ∀ a0 a1 k, LeO (shucklaw14_ValueBits.f k a0 a1) (shucklaw14_ValueBits.f (k + 1) a0 a1) := by
  intro a0 a1 k
  have ih0 := shucklaw14_ValueBits.mono_l k
  unfold shucklaw14_ValueBits.f
  repeat' first
      | (with_reducible exact ih0 _ _ _)
      | (with_reducible exact shucklaw14_known.mono _)
      | (with_reducible exact value_Unary.mono _ _ _ _ _)
      | (with_reducible exact LeO.refl _)
      | (with_reducible exact LeO.none _)
      | (with_reducible refine LeO.ite ?_ ?_)
      | (with_reducible refine LeO.bind ?_ (fun _ => ?_))
      | exact ih0 _ _ _
      | exact shucklaw14_known.mono _
      | exact value_Unary.mono _ _ _ _ _
      | exact LeO.none _
      | refine LeO.ite ?_ ?_
      | refine LeO.bind ?_ (fun _ => ?_)
def shucklaw14_ValueBits.T9 : Bool × List (List Nat × List Nat) := (true, [([], []), ([], []), ([0, 1], [0, 1]), ([], []), ([2, 3], [2, 3]), ([], []), ([4, 5], [4, 5]), ([6], [6]), ([7], [7]), ([8], [8]), ([8], [8]), ([8], [8]), ([10, 11, 8], [8, 10, 11]), ([12, 8], [8, 12]), ([13, 8, 8], [8, 13]), ([9, 14, 8], [8, 9, 14]), ([8, 15], [8, 15]), ([16, 14], [16]), ([17], [17]), ([17], [17]), ([17], [17]), ([19, 20, 17], [17, 19, 20]), ([21, 17], [17, 21]), ([22, 17, 17], [17, 22]), ([18, 23, 17], [17, 18, 23]), ([17, 24], [17, 24]), ([25, 23], [25]), ([26], [26]), ([26], [26]), ([26], [26]), ([28, 29, 26], [26, 28, 29]), ([30, 26], [26, 30]), ([31, 26, 26], [26, 31]), ([27, 32, 26], [26, 27, 32]), ([26, 33], [26, 33]), ([34, 32], [34]), ([35], [35]), ([35], [35]), ([37, 35], [35, 37]), ([38, 35], [35, 38]), ([39, 35, 35], [35, 39]), ([36, 40, 35], [35, 36, 40]), ([35, 41], [35, 41]), ([42, 40], [42]), ([43, 43], [43]), ([43, 44], [43, 44]), ([45, 44, 0, 1, 2, 3, 4, 5, 6, 7, 8, 9, 10, 11, 12, 13, 14, 15, 16, 17, 18, 19, 20, 21, 22, 23, 24, 25, 26, 27, 28, 29, 30, 31, 32, 33, 34, 35, 36, 37, 38, 39, 40, 41, 42, 43, 44, 45], [45])])
def shucklaw14_ValueBits.B9 : List Nat := [0, 0, 3, 0, 15, 0, 63, 127, 255, 511, 511, 511, 3583, 7679, 15871, 32767, 65535, 131071, 262143, 262143, 262143, 1835007, 3932159, 8126463, 16777215, 33554431, 67108863, 134217727, 134217727, 134217727, 939524095, 2013265919, 4160749567, 8589934591, 17179869183, 34359738367, 68719476735, 68719476735, 206158430207, 481036337151, 1030792151039, 2199023255551, 4398046511103, 8796093022207, 17592186044415, 35184372088831, 70368744177663]
theorem shucklaw14_ValueBits.tab9 : rtab .any (opsOf Tryd.f9 9) = shucklaw14_ValueBits.T9 := by kernel_rfl
theorem shucklaw14_ValueBits.bits9 : waitsOk shucklaw14_ValueBits.T9.2 shucklaw14_ValueBits.B9 = true := by kernel_rfl
set_option maxHeartbeats 8000000 in
set_option maxRecDepth 100000 in
theorem shucklaw14_ValueBits.calls (k : Nat) (a0 : Int) (a1 : Int) (r : Bool) (w : World) (hT : TabOk w) (hr : r = true) (h : shucklaw14_ValueBits.f k a0 a1 = some r) :
    Calls Tryd.prog 9 #[.int .i64 a0, .int .i64 a1] w fun e w' => e = .returned (.bool r) ∧ Below w.heap.size w w' := by
  have hu23 := Tryd.underlying23
  have HT := Aside0.mk hT
  clear hT
  have HB := Aside0.mk (Below.refl w.heap.size w)
  have H : (if a0 > 9007199254740991 then (shucklaw14_ValueBits.j0 k a0 a1 true) else (if a0 < (-9007199254740991) then (shucklaw14_ValueBits.j0 k a0 a1 true) else (if a1 > 9007199254740991 then (shucklaw14_ValueBits.j0 k a0 a1 true) else (shucklaw14_ValueBits.j0 k a0 a1 (decide (a1 < (-9007199254740991))))))) = some r := h
  clear h
  have HC3 := Aside0.mk H
  clear H
  go_enter Tryd.func9, Tryd.ntmps9
  go_upto_region 1 with (fail)
  go_cut [32] (fun v32 wc => ∃ (kq : Nat) (x32_2 : Bool), v32 = .bool x32_2 ∧ Aside0 (shucklaw14_ValueBits.j0 kq a0 a1 x32_2 = some r) ∧ Aside0 (kq ≤ k) ∧ Aside0 (Below w.heap.size w wc))
  case first =>
    have H := HC3.out
    clear HC3
    by_cases c4 : a0 > 9007199254740991
    · rw [if_pos c4] at H
      have c4b0 : decide (9007199254740991 < a0) = true := decide_eq_true c4
      clear c4
      (first | rw [c4b0] | (simp only [i64_w, i32_w]; rw [c4b0]) | skip)
      have H' := Aside0.mk H
      clear H
      go_wp2
      go_meet
      case rel => exact ⟨_, (true), (by first | rfl | (simp; done) | (simp [*]; done)), H', ⟨by first | omega | exact Nat.le_refl _⟩, ⟨by repeat (first | (with_reducible first | exact HB.out | apply below_alloc | apply pw_below_drewN | apply below_drew1) | exact HB.out)⟩⟩
    · rw [if_neg c4] at H
      have c4b0 : decide (9007199254740991 < a0) = false := decide_eq_false c4
      clear c4
      (first | rw [c4b0] | (simp only [i64_w, i32_w]; rw [c4b0]) | skip)
      by_cases c5 : a0 < (-9007199254740991)
      · rw [if_pos c5] at H
        have c5b0 : decide (a0 < (-9007199254740991)) = true := decide_eq_true c5
        clear c5
        have H' := Aside0.mk H
        clear H
        go_wp2
        go_meet
        case rel => exact ⟨_, (true), (by first | rfl | (simp; done) | (simp [*]; done)), H', ⟨by first | omega | exact Nat.le_refl _⟩, ⟨by repeat (first | (with_reducible first | exact HB.out | apply below_alloc | apply pw_below_drewN | apply below_drew1) | exact HB.out)⟩⟩
      · rw [if_neg c5] at H
        have c5b0 : decide (a0 < (-9007199254740991)) = false := decide_eq_false c5
        clear c5
        by_cases c6 : a1 > 9007199254740991
        · rw [if_pos c6] at H
          have c6b0 : decide (9007199254740991 < a1) = true := decide_eq_true c6
          clear c6
          have H' := Aside0.mk H
          clear H
          go_wp2
          go_meet
          case rel => exact ⟨_, (true), (by first | rfl | (simp; done) | (simp [*]; done)), H', ⟨by first | omega | exact Nat.le_refl _⟩, ⟨by repeat (first | (with_reducible first | exact HB.out | apply below_alloc | apply pw_below_drewN | apply below_drew1) | exact HB.out)⟩⟩
        · rw [if_neg c6] at H
          have c6b0 : decide (9007199254740991 < a1) = false := decide_eq_false c6
          clear c6
          have H' := Aside0.mk H
          clear H
          go_wp2
          go_meet
          case rel => exact ⟨_, (decide (a1 < (-9007199254740991))), (by first | rfl | (simp; done) | (simp [*]; done)), H', ⟨by first | omega | exact Nat.le_refl _⟩, ⟨by repeat (first | (with_reducible first | exact HB.out | apply below_alloc | apply pw_below_drewN | apply below_drew1) | exact HB.out)⟩⟩
  case rest =>
    clear HC3
    try clear p2
    try clear c4
    try clear c4b0
    try clear c5
    try clear c5b0
    try clear c6
    try clear c6b0
    obtain ⟨kq, x32_2, rfl, HA, HJ2, HB⟩ := hcut
    cases kq with
    | zero => exact absurd HA.out (by simp [shucklaw14_ValueBits.j0])
    | succ kj2 =>
      have H := HA.out
      clear HA
      simp only [shucklaw14_ValueBits.j0] at H
      by_cases c7 : x32_2 = true
      · subst c7
        have H1 : ((shucklaw14_known.f kj2).bind fun t412 => (some t412)) = some r := by rw [if_pos rfl] at H; exact H
        clear H
        have H := H1
        clear H1
        replace H := Option.bind_eq_some_iff.mp H
        obtain ⟨t412, A80, H⟩ := H
        replace H : (some t412) = some r := H
        have A8 := Aside0.mk A80
        clear A80
        obtain rfl := Option.some.inj H
        go_wp2_with (first | ((with_reducible refine gate_callee (f := 13) rfl ?_); refine goesL_ (some 33) rfl rfl Tryd.func13 (by kernel_rfl) rfl #[] rfl (by (try simp only [List.map_toArray, List.map_cons, List.map_nil]); first | done | rfl | (simp only [List.length_drop, List.length_take]; rfl)) ?_; (with_reducible refine (shucklaw14_known.calls kj2  t412 _ ?side1 A8.out).mono ?_); (case side1 => exact TabOk.of HT.out (by repeat (first | (with_reducible first | exact HB.out | apply below_alloc | apply pw_below_drewN | apply below_drew1) | exact HB.out))); rintro e w9 ⟨rfl, hb⟩; refine ⟨_, rfl, ?_⟩; have n0_ := Aside0.mk (below_step (by repeat (first | (with_reducible first | exact HB.out | apply below_alloc | apply pw_below_drewN | apply below_drew1) | exact HB.out)) hb); clear HB; have HB := n0_; clear n0_; (try clear hb); (try clear hb2); (try clear hk); (try clear hi)))
        go_ret
        exact ⟨by first | rfl | (simp [errW_none, errW_some] <;> rfl) | (simp [*, errW_none, errW_some] <;> rfl), by repeat (first | (with_reducible first | exact HB.out | apply below_alloc | apply pw_below_drewN | apply below_drew1) | exact HB.out)⟩
      · replace c7 := Bool.eq_false_iff.mpr c7
        subst c7
        have H1 : ((shucklaw14_num.f a0).bind fun bt413 => ((shucklaw14_num.f a1).bind fun bt416 => ((value_Binary.f (⟨#[38]⟩ : ByteArray) bt413.1 bt413.2.1 bt413.2.2 bt416.1 bt416.2.1 bt416.2.2).bind fun bt419 => ((shucklaw14_num.f a0).bind fun bt425 => ((shucklaw14_num.f a1).bind fun bt428 => ((value_Binary.f (⟨#[124]⟩ : ByteArray) bt425.1 bt425.2.1 bt425.2.2 bt428.1 bt428.2.1 bt428.2.2).bind fun bt431 => ((shucklaw14_num.f a0).bind fun bt437 => ((shucklaw14_num.f a1).bind fun bt440 => ((value_Binary.f (⟨#[94]⟩ : ByteArray) bt437.1 bt437.2.1 bt437.2.2 bt440.1 bt440.2.1 bt440.2.2).bind fun bt443 => ((shucklaw14_num.f a0).bind fun bt449 => ((value_Unary.f kj2 (⟨#[126]⟩ : ByteArray) bt449.1 bt449.2.1 bt449.2.2).bind fun bt452 => (if (wrap64 ((wrap64 ((wrap64 (bt419.2.2.2.2 + bt431.2.2.2.2)) + bt443.2.2.2.2)) + bt452.2.2.2.2)) = 0 then ((shucklaw14_num.f (wrap64 (Go.bits .and .i32 (wrap32 ((a0) % 4294967296)) (wrap32 ((a1) % 4294967296))))).bind fun bt458 => (if (bt419.1 == bt458.1 && (bt419.2.1 == bt458.2.1 && (bt419.2.2.1.toList == bt458.2.2.toList))) = true then ((shucklaw14_num.f (wrap64 (Go.bits .or .i32 (wrap32 ((a0) % 4294967296)) (wrap32 ((a1) % 4294967296))))).bind fun bt461 => (if (bt431.1 == bt461.1 && (bt431.2.1 == bt461.2.1 && (bt431.2.2.1.toList == bt461.2.2.toList))) = true then ((shucklaw14_num.f (wrap64 (Go.bits .xor .i32 (wrap32 ((a0) % 4294967296)) (wrap32 ((a1) % 4294967296))))).bind fun bt464 => (if (bt443.1 == bt464.1 && (bt443.2.1 == bt464.2.1 && (bt443.2.2.1.toList == bt464.2.2.toList))) = true then ((shucklaw14_num.f (wrap64 (Go.bits .xor .i32 (-1) (wrap32 ((a0) % 4294967296))))).bind fun bt467 => (if (bt452.1 == bt467.1 && (bt452.2.1 == bt467.2.1 && (bt452.2.2.1.toList == bt467.2.2.toList))) = true then ((shucklaw14_known.f kj2).bind fun t470 => (some t470)) else (some false))) else (some false))) else (some false))) else (some false))) else (some false))))))))))))) = some r := by rw [if_neg (show ¬ (false = true) by decide)] at H; exact H
        clear H
        have H := H1
        clear H1
        replace H := Option.bind_eq_some_iff.mp H
        obtain ⟨⟨t413, t414, t415⟩, A100, H⟩ := H
        replace H : ((shucklaw14_num.f a1).bind fun bt416 => ((value_Binary.f (⟨#[38]⟩ : ByteArray) t413 t414 t415 bt416.1 bt416.2.1 bt416.2.2).bind fun bt419 => ((shucklaw14_num.f a0).bind fun bt425 => ((shucklaw14_num.f a1).bind fun bt428 => ((value_Binary.f (⟨#[124]⟩ : ByteArray) bt425.1 bt425.2.1 bt425.2.2 bt428.1 bt428.2.1 bt428.2.2).bind fun bt431 => ((shucklaw14_num.f a0).bind fun bt437 => ((shucklaw14_num.f a1).bind fun bt440 => ((value_Binary.f (⟨#[94]⟩ : ByteArray) bt437.1 bt437.2.1 bt437.2.2 bt440.1 bt440.2.1 bt440.2.2).bind fun bt443 => ((shucklaw14_num.f a0).bind fun bt449 => ((value_Unary.f kj2 (⟨#[126]⟩ : ByteArray) bt449.1 bt449.2.1 bt449.2.2).bind fun bt452 => (if (wrap64 ((wrap64 ((wrap64 (bt419.2.2.2.2 + bt431.2.2.2.2)) + bt443.2.2.2.2)) + bt452.2.2.2.2)) = 0 then ((shucklaw14_num.f (wrap64 (Go.bits .and .i32 (wrap32 ((a0) % 4294967296)) (wrap32 ((a1) % 4294967296))))).bind fun bt458 => (if (bt419.1 == bt458.1 && (bt419.2.1 == bt458.2.1 && (bt419.2.2.1.toList == bt458.2.2.toList))) = true then ((shucklaw14_num.f (wrap64 (Go.bits .or .i32 (wrap32 ((a0) % 4294967296)) (wrap32 ((a1) % 4294967296))))).bind fun bt461 => (if (bt431.1 == bt461.1 && (bt431.2.1 == bt461.2.1 && (bt431.2.2.1.toList == bt461.2.2.toList))) = true then ((shucklaw14_num.f (wrap64 (Go.bits .xor .i32 (wrap32 ((a0) % 4294967296)) (wrap32 ((a1) % 4294967296))))).bind fun bt464 => (if (bt443.1 == bt464.1 && (bt443.2.1 == bt464.2.1 && (bt443.2.2.1.toList == bt464.2.2.toList))) = true then ((shucklaw14_num.f (wrap64 (Go.bits .xor .i32 (-1) (wrap32 ((a0) % 4294967296))))).bind fun bt467 => (if (bt452.1 == bt467.1 && (bt452.2.1 == bt467.2.1 && (bt452.2.2.1.toList == bt467.2.2.toList))) = true then ((shucklaw14_known.f kj2).bind fun t470 => (some t470)) else (some false))) else (some false))) else (some false))) else (some false))) else (some false)))))))))))) = some r := H
        have A10 := Aside0.mk A100
        clear A100
        replace H := Option.bind_eq_some_iff.mp H
        obtain ⟨⟨t416, t417, t418⟩, A110, H⟩ := H
        replace H : ((value_Binary.f (⟨#[38]⟩ : ByteArray) t413 t414 t415 t416 t417 t418).bind fun bt419 => ((shucklaw14_num.f a0).bind fun bt425 => ((shucklaw14_num.f a1).bind fun bt428 => ((value_Binary.f (⟨#[124]⟩ : ByteArray) bt425.1 bt425.2.1 bt425.2.2 bt428.1 bt428.2.1 bt428.2.2).bind fun bt431 => ((shucklaw14_num.f a0).bind fun bt437 => ((shucklaw14_num.f a1).bind fun bt440 => ((value_Binary.f (⟨#[94]⟩ : ByteArray) bt437.1 bt437.2.1 bt437.2.2 bt440.1 bt440.2.1 bt440.2.2).bind fun bt443 => ((shucklaw14_num.f a0).bind fun bt449 => ((value_Unary.f kj2 (⟨#[126]⟩ : ByteArray) bt449.1 bt449.2.1 bt449.2.2).bind fun bt452 => (if (wrap64 ((wrap64 ((wrap64 (bt419.2.2.2.2 + bt431.2.2.2.2)) + bt443.2.2.2.2)) + bt452.2.2.2.2)) = 0 then ((shucklaw14_num.f (wrap64 (Go.bits .and .i32 (wrap32 ((a0) % 4294967296)) (wrap32 ((a1) % 4294967296))))).bind fun bt458 => (if (bt419.1 == bt458.1 && (bt419.2.1 == bt458.2.1 && (bt419.2.2.1.toList == bt458.2.2.toList))) = true then ((shucklaw14_num.f (wrap64 (Go.bits .or .i32 (wrap32 ((a0) % 4294967296)) (wrap32 ((a1) % 4294967296))))).bind fun bt461 => (if (bt431.1 == bt461.1 && (bt431.2.1 == bt461.2.1 && (bt431.2.2.1.toList == bt461.2.2.toList))) = true then ((shucklaw14_num.f (wrap64 (Go.bits .xor .i32 (wrap32 ((a0) % 4294967296)) (wrap32 ((a1) % 4294967296))))).bind fun bt464 => (if (bt443.1 == bt464.1 && (bt443.2.1 == bt464.2.1 && (bt443.2.2.1.toList == bt464.2.2.toList))) = true then ((shucklaw14_num.f (wrap64 (Go.bits .xor .i32 (-1) (wrap32 ((a0) % 4294967296))))).bind fun bt467 => (if (bt452.1 == bt467.1 && (bt452.2.1 == bt467.2.1 && (bt452.2.2.1.toList == bt467.2.2.toList))) = true then ((shucklaw14_known.f kj2).bind fun t470 => (some t470)) else (some false))) else (some false))) else (some false))) else (some false))) else (some false))))))))))) = some r := H
        have A11 := Aside0.mk A110
        clear A110
        replace H := Option.bind_eq_some_iff.mp H
        obtain ⟨⟨t419, t420, t421, t422, t423⟩, A120, H⟩ := H
        replace H : ((shucklaw14_num.f a0).bind fun bt425 => ((shucklaw14_num.f a1).bind fun bt428 => ((value_Binary.f (⟨#[124]⟩ : ByteArray) bt425.1 bt425.2.1 bt425.2.2 bt428.1 bt428.2.1 bt428.2.2).bind fun bt431 => ((shucklaw14_num.f a0).bind fun bt437 => ((shucklaw14_num.f a1).bind fun bt440 => ((value_Binary.f (⟨#[94]⟩ : ByteArray) bt437.1 bt437.2.1 bt437.2.2 bt440.1 bt440.2.1 bt440.2.2).bind fun bt443 => ((shucklaw14_num.f a0).bind fun bt449 => ((value_Unary.f kj2 (⟨#[126]⟩ : ByteArray) bt449.1 bt449.2.1 bt449.2.2).bind fun bt452 => (if (wrap64 ((wrap64 ((wrap64 (t423 + bt431.2.2.2.2)) + bt443.2.2.2.2)) + bt452.2.2.2.2)) = 0 then ((shucklaw14_num.f (wrap64 (Go.bits .and .i32 (wrap32 ((a0) % 4294967296)) (wrap32 ((a1) % 4294967296))))).bind fun bt458 => (if (t419 == bt458.1 && (t420 == bt458.2.1 && (t421.toList == bt458.2.2.toList))) = true then ((shucklaw14_num.f (wrap64 (Go.bits .or .i32 (wrap32 ((a0) % 4294967296)) (wrap32 ((a1) % 4294967296))))).bind fun bt461 => (if (bt431.1 == bt461.1 && (bt431.2.1 == bt461.2.1 && (bt431.2.2.1.toList == bt461.2.2.toList))) = true then ((shucklaw14_num.f (wrap64 (Go.bits .xor .i32 (wrap32 ((a0) % 4294967296)) (wrap32 ((a1) % 4294967296))))).bind fun bt464 => (if (bt443.1 == bt464.1 && (bt443.2.1 == bt464.2.1 && (bt443.2.2.1.toList == bt464.2.2.toList))) = true then ((shucklaw14_num.f (wrap64 (Go.bits .xor .i32 (-1) (wrap32 ((a0) % 4294967296))))).bind fun bt467 => (if (bt452.1 == bt467.1 && (bt452.2.1 == bt467.2.1 && (bt452.2.2.1.toList == bt467.2.2.toList))) = true then ((shucklaw14_known.f kj2).bind fun t470 => (some t470)) else (some false))) else (some false))) else (some false))) else (some false))) else (some false)))))))))) = some r := H
        have A12 := Aside0.mk A120
        clear A120
        replace H := Option.bind_eq_some_iff.mp H
        obtain ⟨⟨t425, t426, t427⟩, A130, H⟩ := H
        replace H : ((shucklaw14_num.f a1).bind fun bt428 => ((value_Binary.f (⟨#[124]⟩ : ByteArray) t425 t426 t427 bt428.1 bt428.2.1 bt428.2.2).bind fun bt431 => ((shucklaw14_num.f a0).bind fun bt437 => ((shucklaw14_num.f a1).bind fun bt440 => ((value_Binary.f (⟨#[94]⟩ : ByteArray) bt437.1 bt437.2.1 bt437.2.2 bt440.1 bt440.2.1 bt440.2.2).bind fun bt443 => ((shucklaw14_num.f a0).bind fun bt449 => ((value_Unary.f kj2 (⟨#[126]⟩ : ByteArray) bt449.1 bt449.2.1 bt449.2.2).bind fun bt452 => (if (wrap64 ((wrap64 ((wrap64 (t423 + bt431.2.2.2.2)) + bt443.2.2.2.2)) + bt452.2.2.2.2)) = 0 then ((shucklaw14_num.f (wrap64 (Go.bits .and .i32 (wrap32 ((a0) % 4294967296)) (wrap32 ((a1) % 4294967296))))).bind fun bt458 => (if (t419 == bt458.1 && (t420 == bt458.2.1 && (t421.toList == bt458.2.2.toList))) = true then ((shucklaw14_num.f (wrap64 (Go.bits .or .i32 (wrap32 ((a0) % 4294967296)) (wrap32 ((a1) % 4294967296))))).bind fun bt461 => (if (bt431.1 == bt461.1 && (bt431.2.1 == bt461.2.1 && (bt431.2.2.1.toList == bt461.2.2.toList))) = true then ((shucklaw14_num.f (wrap64 (Go.bits .xor .i32 (wrap32 ((a0) % 4294967296)) (wrap32 ((a1) % 4294967296))))).bind fun bt464 => (if (bt443.1 == bt464.1 && (bt443.2.1 == bt464.2.1 && (bt443.2.2.1.toList == bt464.2.2.toList))) = true then ((shucklaw14_num.f (wrap64 (Go.bits .xor .i32 (-1) (wrap32 ((a0) % 4294967296))))).bind fun bt467 => (if (bt452.1 == bt467.1 && (bt452.2.1 == bt467.2.1 && (bt452.2.2.1.toList == bt467.2.2.toList))) = true then ((shucklaw14_known.f kj2).bind fun t470 => (some t470)) else (some false))) else (some false))) else (some false))) else (some false))) else (some false))))))))) = some r := H
        have A13 := Aside0.mk A130
        clear A130
        replace H := Option.bind_eq_some_iff.mp H
        obtain ⟨⟨t428, t429, t430⟩, A140, H⟩ := H
        replace H : ((value_Binary.f (⟨#[124]⟩ : ByteArray) t425 t426 t427 t428 t429 t430).bind fun bt431 => ((shucklaw14_num.f a0).bind fun bt437 => ((shucklaw14_num.f a1).bind fun bt440 => ((value_Binary.f (⟨#[94]⟩ : ByteArray) bt437.1 bt437.2.1 bt437.2.2 bt440.1 bt440.2.1 bt440.2.2).bind fun bt443 => ((shucklaw14_num.f a0).bind fun bt449 => ((value_Unary.f kj2 (⟨#[126]⟩ : ByteArray) bt449.1 bt449.2.1 bt449.2.2).bind fun bt452 => (if (wrap64 ((wrap64 ((wrap64 (t423 + bt431.2.2.2.2)) + bt443.2.2.2.2)) + bt452.2.2.2.2)) = 0 then ((shucklaw14_num.f (wrap64 (Go.bits .and .i32 (wrap32 ((a0) % 4294967296)) (wrap32 ((a1) % 4294967296))))).bind fun bt458 => (if (t419 == bt458.1 && (t420 == bt458.2.1 && (t421.toList == bt458.2.2.toList))) = true then ((shucklaw14_num.f (wrap64 (Go.bits .or .i32 (wrap32 ((a0) % 4294967296)) (wrap32 ((a1) % 4294967296))))).bind fun bt461 => (if (bt431.1 == bt461.1 && (bt431.2.1 == bt461.2.1 && (bt431.2.2.1.toList == bt461.2.2.toList))) = true then ((shucklaw14_num.f (wrap64 (Go.bits .xor .i32 (wrap32 ((a0) % 4294967296)) (wrap32 ((a1) % 4294967296))))).bind fun bt464 => (if (bt443.1 == bt464.1 && (bt443.2.1 == bt464.2.1 && (bt443.2.2.1.toList == bt464.2.2.toList))) = true then ((shucklaw14_num.f (wrap64 (Go.bits .xor .i32 (-1) (wrap32 ((a0) % 4294967296))))).bind fun bt467 => (if (bt452.1 == bt467.1 && (bt452.2.1 == bt467.2.1 && (bt452.2.2.1.toList == bt467.2.2.toList))) = true then ((shucklaw14_known.f kj2).bind fun t470 => (some t470)) else (some false))) else (some false))) else (some false))) else (some false))) else (some false)))))))) = some r := H
        have A14 := Aside0.mk A140
        clear A140
        replace H := Option.bind_eq_some_iff.mp H
        obtain ⟨⟨t431, t432, t433, t434, t435⟩, A150, H⟩ := H
        replace H : ((shucklaw14_num.f a0).bind fun bt437 => ((shucklaw14_num.f a1).bind fun bt440 => ((value_Binary.f (⟨#[94]⟩ : ByteArray) bt437.1 bt437.2.1 bt437.2.2 bt440.1 bt440.2.1 bt440.2.2).bind fun bt443 => ((shucklaw14_num.f a0).bind fun bt449 => ((value_Unary.f kj2 (⟨#[126]⟩ : ByteArray) bt449.1 bt449.2.1 bt449.2.2).bind fun bt452 => (if (wrap64 ((wrap64 ((wrap64 (t423 + t435)) + bt443.2.2.2.2)) + bt452.2.2.2.2)) = 0 then ((shucklaw14_num.f (wrap64 (Go.bits .and .i32 (wrap32 ((a0) % 4294967296)) (wrap32 ((a1) % 4294967296))))).bind fun bt458 => (if (t419 == bt458.1 && (t420 == bt458.2.1 && (t421.toList == bt458.2.2.toList))) = true then ((shucklaw14_num.f (wrap64 (Go.bits .or .i32 (wrap32 ((a0) % 4294967296)) (wrap32 ((a1) % 4294967296))))).bind fun bt461 => (if (t431 == bt461.1 && (t432 == bt461.2.1 && (t433.toList == bt461.2.2.toList))) = true then ((shucklaw14_num.f (wrap64 (Go.bits .xor .i32 (wrap32 ((a0) % 4294967296)) (wrap32 ((a1) % 4294967296))))).bind fun bt464 => (if (bt443.1 == bt464.1 && (bt443.2.1 == bt464.2.1 && (bt443.2.2.1.toList == bt464.2.2.toList))) = true then ((shucklaw14_num.f (wrap64 (Go.bits .xor .i32 (-1) (wrap32 ((a0) % 4294967296))))).bind fun bt467 => (if (bt452.1 == bt467.1 && (bt452.2.1 == bt467.2.1 && (bt452.2.2.1.toList == bt467.2.2.toList))) = true then ((shucklaw14_known.f kj2).bind fun t470 => (some t470)) else (some false))) else (some false))) else (some false))) else (some false))) else (some false))))))) = some r := H
        have A15 := Aside0.mk A150
        clear A150
        replace H := Option.bind_eq_some_iff.mp H
        obtain ⟨⟨t437, t438, t439⟩, A160, H⟩ := H
        replace H : ((shucklaw14_num.f a1).bind fun bt440 => ((value_Binary.f (⟨#[94]⟩ : ByteArray) t437 t438 t439 bt440.1 bt440.2.1 bt440.2.2).bind fun bt443 => ((shucklaw14_num.f a0).bind fun bt449 => ((value_Unary.f kj2 (⟨#[126]⟩ : ByteArray) bt449.1 bt449.2.1 bt449.2.2).bind fun bt452 => (if (wrap64 ((wrap64 ((wrap64 (t423 + t435)) + bt443.2.2.2.2)) + bt452.2.2.2.2)) = 0 then ((shucklaw14_num.f (wrap64 (Go.bits .and .i32 (wrap32 ((a0) % 4294967296)) (wrap32 ((a1) % 4294967296))))).bind fun bt458 => (if (t419 == bt458.1 && (t420 == bt458.2.1 && (t421.toList == bt458.2.2.toList))) = true then ((shucklaw14_num.f (wrap64 (Go.bits .or .i32 (wrap32 ((a0) % 4294967296)) (wrap32 ((a1) % 4294967296))))).bind fun bt461 => (if (t431 == bt461.1 && (t432 == bt461.2.1 && (t433.toList == bt461.2.2.toList))) = true then ((shucklaw14_num.f (wrap64 (Go.bits .xor .i32 (wrap32 ((a0) % 4294967296)) (wrap32 ((a1) % 4294967296))))).bind fun bt464 => (if (bt443.1 == bt464.1 && (bt443.2.1 == bt464.2.1 && (bt443.2.2.1.toList == bt464.2.2.toList))) = true then ((shucklaw14_num.f (wrap64 (Go.bits .xor .i32 (-1) (wrap32 ((a0) % 4294967296))))).bind fun bt467 => (if (bt452.1 == bt467.1 && (bt452.2.1 == bt467.2.1 && (bt452.2.2.1.toList == bt467.2.2.toList))) = true then ((shucklaw14_known.f kj2).bind fun t470 => (some t470)) else (some false))) else (some false))) else (some false))) else (some false))) else (some false)))))) = some r := H
        have A16 := Aside0.mk A160
        clear A160
        replace H := Option.bind_eq_some_iff.mp H
        obtain ⟨⟨t440, t441, t442⟩, A170, H⟩ := H
        replace H : ((value_Binary.f (⟨#[94]⟩ : ByteArray) t437 t438 t439 t440 t441 t442).bind fun bt443 => ((shucklaw14_num.f a0).bind fun bt449 => ((value_Unary.f kj2 (⟨#[126]⟩ : ByteArray) bt449.1 bt449.2.1 bt449.2.2).bind fun bt452 => (if (wrap64 ((wrap64 ((wrap64 (t423 + t435)) + bt443.2.2.2.2)) + bt452.2.2.2.2)) = 0 then ((shucklaw14_num.f (wrap64 (Go.bits .and .i32 (wrap32 ((a0) % 4294967296)) (wrap32 ((a1) % 4294967296))))).bind fun bt458 => (if (t419 == bt458.1 && (t420 == bt458.2.1 && (t421.toList == bt458.2.2.toList))) = true then ((shucklaw14_num.f (wrap64 (Go.bits .or .i32 (wrap32 ((a0) % 4294967296)) (wrap32 ((a1) % 4294967296))))).bind fun bt461 => (if (t431 == bt461.1 && (t432 == bt461.2.1 && (t433.toList == bt461.2.2.toList))) = true then ((shucklaw14_num.f (wrap64 (Go.bits .xor .i32 (wrap32 ((a0) % 4294967296)) (wrap32 ((a1) % 4294967296))))).bind fun bt464 => (if (bt443.1 == bt464.1 && (bt443.2.1 == bt464.2.1 && (bt443.2.2.1.toList == bt464.2.2.toList))) = true then ((shucklaw14_num.f (wrap64 (Go.bits .xor .i32 (-1) (wrap32 ((a0) % 4294967296))))).bind fun bt467 => (if (bt452.1 == bt467.1 && (bt452.2.1 == bt467.2.1 && (bt452.2.2.1.toList == bt467.2.2.toList))) = true then ((shucklaw14_known.f kj2).bind fun t470 => (some t470)) else (some false))) else (some false))) else (some false))) else (some false))) else (some false))))) = some r := H
        have A17 := Aside0.mk A170
        clear A170
        replace H := Option.bind_eq_some_iff.mp H
        obtain ⟨⟨t443, t444, t445, t446, t447⟩, A180, H⟩ := H
        replace H : ((shucklaw14_num.f a0).bind fun bt449 => ((value_Unary.f kj2 (⟨#[126]⟩ : ByteArray) bt449.1 bt449.2.1 bt449.2.2).bind fun bt452 => (if (wrap64 ((wrap64 ((wrap64 (t423 + t435)) + t447)) + bt452.2.2.2.2)) = 0 then ((shucklaw14_num.f (wrap64 (Go.bits .and .i32 (wrap32 ((a0) % 4294967296)) (wrap32 ((a1) % 4294967296))))).bind fun bt458 => (if (t419 == bt458.1 && (t420 == bt458.2.1 && (t421.toList == bt458.2.2.toList))) = true then ((shucklaw14_num.f (wrap64 (Go.bits .or .i32 (wrap32 ((a0) % 4294967296)) (wrap32 ((a1) % 4294967296))))).bind fun bt461 => (if (t431 == bt461.1 && (t432 == bt461.2.1 && (t433.toList == bt461.2.2.toList))) = true then ((shucklaw14_num.f (wrap64 (Go.bits .xor .i32 (wrap32 ((a0) % 4294967296)) (wrap32 ((a1) % 4294967296))))).bind fun bt464 => (if (t443 == bt464.1 && (t444 == bt464.2.1 && (t445.toList == bt464.2.2.toList))) = true then ((shucklaw14_num.f (wrap64 (Go.bits .xor .i32 (-1) (wrap32 ((a0) % 4294967296))))).bind fun bt467 => (if (bt452.1 == bt467.1 && (bt452.2.1 == bt467.2.1 && (bt452.2.2.1.toList == bt467.2.2.toList))) = true then ((shucklaw14_known.f kj2).bind fun t470 => (some t470)) else (some false))) else (some false))) else (some false))) else (some false))) else (some false)))) = some r := H
        have A18 := Aside0.mk A180
        clear A180
        replace H := Option.bind_eq_some_iff.mp H
        obtain ⟨⟨t449, t450, t451⟩, A190, H⟩ := H
        replace H : ((value_Unary.f kj2 (⟨#[126]⟩ : ByteArray) t449 t450 t451).bind fun bt452 => (if (wrap64 ((wrap64 ((wrap64 (t423 + t435)) + t447)) + bt452.2.2.2.2)) = 0 then ((shucklaw14_num.f (wrap64 (Go.bits .and .i32 (wrap32 ((a0) % 4294967296)) (wrap32 ((a1) % 4294967296))))).bind fun bt458 => (if (t419 == bt458.1 && (t420 == bt458.2.1 && (t421.toList == bt458.2.2.toList))) = true then ((shucklaw14_num.f (wrap64 (Go.bits .or .i32 (wrap32 ((a0) % 4294967296)) (wrap32 ((a1) % 4294967296))))).bind fun bt461 => (if (t431 == bt461.1 && (t432 == bt461.2.1 && (t433.toList == bt461.2.2.toList))) = true then ((shucklaw14_num.f (wrap64 (Go.bits .xor .i32 (wrap32 ((a0) % 4294967296)) (wrap32 ((a1) % 4294967296))))).bind fun bt464 => (if (t443 == bt464.1 && (t444 == bt464.2.1 && (t445.toList == bt464.2.2.toList))) = true then ((shucklaw14_num.f (wrap64 (Go.bits .xor .i32 (-1) (wrap32 ((a0) % 4294967296))))).bind fun bt467 => (if (bt452.1 == bt467.1 && (bt452.2.1 == bt467.2.1 && (bt452.2.2.1.toList == bt467.2.2.toList))) = true then ((shucklaw14_known.f kj2).bind fun t470 => (some t470)) else (some false))) else (some false))) else (some false))) else (some false))) else (some false))) = some r := H
        have A19 := Aside0.mk A190
        clear A190
        replace H := Option.bind_eq_some_iff.mp H
        obtain ⟨⟨t452, t453, t454, t455, t456⟩, A200, H⟩ := H
        replace H : (if (wrap64 ((wrap64 ((wrap64 (t423 + t435)) + t447)) + t456)) = 0 then ((shucklaw14_num.f (wrap64 (Go.bits .and .i32 (wrap32 ((a0) % 4294967296)) (wrap32 ((a1) % 4294967296))))).bind fun bt458 => (if (t419 == bt458.1 && (t420 == bt458.2.1 && (t421.toList == bt458.2.2.toList))) = true then ((shucklaw14_num.f (wrap64 (Go.bits .or .i32 (wrap32 ((a0) % 4294967296)) (wrap32 ((a1) % 4294967296))))).bind fun bt461 => (if (t431 == bt461.1 && (t432 == bt461.2.1 && (t433.toList == bt461.2.2.toList))) = true then ((shucklaw14_num.f (wrap64 (Go.bits .xor .i32 (wrap32 ((a0) % 4294967296)) (wrap32 ((a1) % 4294967296))))).bind fun bt464 => (if (t443 == bt464.1 && (t444 == bt464.2.1 && (t445.toList == bt464.2.2.toList))) = true then ((shucklaw14_num.f (wrap64 (Go.bits .xor .i32 (-1) (wrap32 ((a0) % 4294967296))))).bind fun bt467 => (if (t452 == bt467.1 && (t453 == bt467.2.1 && (t454.toList == bt467.2.2.toList))) = true then ((shucklaw14_known.f kj2).bind fun t470 => (some t470)) else (some false))) else (some false))) else (some false))) else (some false))) else (some false)) = some r := H
        have A20 := Aside0.mk A200
        clear A200
        by_cases c21 : (wrap64 ((wrap64 ((wrap64 (t423 + t435)) + t447)) + t456)) = 0
        · rw [if_pos c21] at H
          have c21b0 : ((wrap64 ((wrap64 ((wrap64 (t423 + t435)) + t447)) + t456)) == 0) = true := beq_iff_eq.mpr c21
          have c21b1 : ((wrap64 ((wrap64 ((wrap64 (t423 + t435)) + t447)) + t456)) != 0) = false := bne_eq_false_iff_eq.mpr c21
          clear c21
          replace H := Option.bind_eq_some_iff.mp H
          obtain ⟨⟨t458, t459, t460⟩, A220, H⟩ := H
          replace H : (if (t419 == t458 && (t420 == t459 && (t421.toList == t460.toList))) = true then ((shucklaw14_num.f (wrap64 (Go.bits .or .i32 (wrap32 ((a0) % 4294967296)) (wrap32 ((a1) % 4294967296))))).bind fun bt461 => (if (t431 == bt461.1 && (t432 == bt461.2.1 && (t433.toList == bt461.2.2.toList))) = true then ((shucklaw14_num.f (wrap64 (Go.bits .xor .i32 (wrap32 ((a0) % 4294967296)) (wrap32 ((a1) % 4294967296))))).bind fun bt464 => (if (t443 == bt464.1 && (t444 == bt464.2.1 && (t445.toList == bt464.2.2.toList))) = true then ((shucklaw14_num.f (wrap64 (Go.bits .xor .i32 (-1) (wrap32 ((a0) % 4294967296))))).bind fun bt467 => (if (t452 == bt467.1 && (t453 == bt467.2.1 && (t454.toList == bt467.2.2.toList))) = true then ((shucklaw14_known.f kj2).bind fun t470 => (some t470)) else (some false))) else (some false))) else (some false))) else (some false)) = some r := H
          have A22 := Aside0.mk A220
          clear A220
          by_cases c23 : (t419 == t458 && (t420 == t459 && (t421.toList == t460.toList))) = true
          · rw [if_pos c23] at H
            have c23b0 : (t419 == t458 && (t420 == t459 && (t421.toList == t460.toList))) = true := c23
            (try (have c23b9 : (t419 = t458 ∧ t420 = t459 ∧ t421.toList = t460.toList) = True := eq_true (by simpa using c23)))
            (try (have c23b1 : decide (t419 = t458 && (t420 == t459 && (t421.toList == t460.toList))) = true := by simpa using c23))
            (try (have c23b2 : (t419 == t458 && (t420 == t459 && (t421.toList == t460.toList))) = true := by simpa using c23))
            clear c23
            replace H := Option.bind_eq_some_iff.mp H
            obtain ⟨⟨t461, t462, t463⟩, A240, H⟩ := H
            replace H : (if (t431 == t461 && (t432 == t462 && (t433.toList == t463.toList))) = true then ((shucklaw14_num.f (wrap64 (Go.bits .xor .i32 (wrap32 ((a0) % 4294967296)) (wrap32 ((a1) % 4294967296))))).bind fun bt464 => (if (t443 == bt464.1 && (t444 == bt464.2.1 && (t445.toList == bt464.2.2.toList))) = true then ((shucklaw14_num.f (wrap64 (Go.bits .xor .i32 (-1) (wrap32 ((a0) % 4294967296))))).bind fun bt467 => (if (t452 == bt467.1 && (t453 == bt467.2.1 && (t454.toList == bt467.2.2.toList))) = true then ((shucklaw14_known.f kj2).bind fun t470 => (some t470)) else (some false))) else (some false))) else (some false)) = some r := H
            have A24 := Aside0.mk A240
            clear A240
            by_cases c25 : (t431 == t461 && (t432 == t462 && (t433.toList == t463.toList))) = true
            · rw [if_pos c25] at H
              have c25b0 : (t431 == t461 && (t432 == t462 && (t433.toList == t463.toList))) = true := c25
              (try (have c25b9 : (t431 = t461 ∧ t432 = t462 ∧ t433.toList = t463.toList) = True := eq_true (by simpa using c25)))
              (try (have c25b1 : decide (t431 = t461 && (t432 == t462 && (t433.toList == t463.toList))) = true := by simpa using c25))
              (try (have c25b2 : (t431 == t461 && (t432 == t462 && (t433.toList == t463.toList))) = true := by simpa using c25))
              clear c25
              replace H := Option.bind_eq_some_iff.mp H
              obtain ⟨⟨t464, t465, t466⟩, A260, H⟩ := H
              replace H : (if (t443 == t464 && (t444 == t465 && (t445.toList == t466.toList))) = true then ((shucklaw14_num.f (wrap64 (Go.bits .xor .i32 (-1) (wrap32 ((a0) % 4294967296))))).bind fun bt467 => (if (t452 == bt467.1 && (t453 == bt467.2.1 && (t454.toList == bt467.2.2.toList))) = true then ((shucklaw14_known.f kj2).bind fun t470 => (some t470)) else (some false))) else (some false)) = some r := H
              have A26 := Aside0.mk A260
              clear A260
              by_cases c27 : (t443 == t464 && (t444 == t465 && (t445.toList == t466.toList))) = true
              · rw [if_pos c27] at H
                have c27b0 : (t443 == t464 && (t444 == t465 && (t445.toList == t466.toList))) = true := c27
                (try (have c27b9 : (t443 = t464 ∧ t444 = t465 ∧ t445.toList = t466.toList) = True := eq_true (by simpa using c27)))
                (try (have c27b1 : decide (t443 = t464 && (t444 == t465 && (t445.toList == t466.toList))) = true := by simpa using c27))
                (try (have c27b2 : (t443 == t464 && (t444 == t465 && (t445.toList == t466.toList))) = true := by simpa using c27))
                clear c27
                replace H := Option.bind_eq_some_iff.mp H
                obtain ⟨⟨t467, t468, t469⟩, A280, H⟩ := H
                replace H : (if (t452 == t467 && (t453 == t468 && (t454.toList == t469.toList))) = true then ((shucklaw14_known.f kj2).bind fun t470 => (some t470)) else (some false)) = some r := H
                have A28 := Aside0.mk A280
                clear A280
                by_cases c29 : (t452 == t467 && (t453 == t468 && (t454.toList == t469.toList))) = true
                · rw [if_pos c29] at H
                  have c29b0 : (t452 == t467 && (t453 == t468 && (t454.toList == t469.toList))) = true := c29
                  (try (have c29b9 : (t452 = t467 ∧ t453 = t468 ∧ t454.toList = t469.toList) = True := eq_true (by simpa using c29)))
                  (try (have c29b1 : decide (t452 = t467 && (t453 == t468 && (t454.toList == t469.toList))) = true := by simpa using c29))
                  (try (have c29b2 : (t452 == t467 && (t453 == t468 && (t454.toList == t469.toList))) = true := by simpa using c29))
                  clear c29
                  replace H := Option.bind_eq_some_iff.mp H
                  obtain ⟨t470, A300, H⟩ := H
                  replace H : (some t470) = some r := H
                  have A30 := Aside0.mk A300
                  clear A300
                  obtain rfl := Option.some.inj H
                  try go_wp2_with (first | ((with_reducible refine gate_callee (f := 24) rfl ?_); refine goesL_ (some 42) rfl rfl Tryd.func24 (by kernel_rfl) rfl #[.int .i64 a0] rfl (by (try simp only [List.map_toArray, List.map_cons, List.map_nil]); first | done | rfl | (simp only [List.length_drop, List.length_take]; rfl)) ?_; (with_reducible refine (shucklaw14_num.calls a0 t413 t414 t415 _ A10.out).mono ?_); rintro e w31 ⟨rfl, hb⟩; refine ⟨_, rfl, ?_⟩; have n0_ := Aside0.mk (below_step (by repeat (first | (with_reducible first | exact HB.out | apply below_alloc | apply pw_below_drewN | apply below_drew1) | exact HB.out)) hb); clear HB; have HB := n0_; clear n0_; (try clear hb); (try clear hb2); (try clear hk); (try clear hi)) | ((with_reducible refine gate_callee (f := 24) rfl ?_); refine goesL_ (some 44) rfl rfl Tryd.func24 (by kernel_rfl) rfl #[.int .i64 a1] rfl (by (try simp only [List.map_toArray, List.map_cons, List.map_nil]); first | done | rfl | (simp only [List.length_drop, List.length_take]; rfl)) ?_; (with_reducible refine (shucklaw14_num.calls a1 t416 t417 t418 _ A11.out).mono ?_); rintro e w32 ⟨rfl, hb⟩; refine ⟨_, rfl, ?_⟩; have n0_ := Aside0.mk (below_step (by repeat (first | (with_reducible first | exact HB.out | apply below_alloc | apply pw_below_drewN | apply below_drew1) | exact HB.out)) hb); clear HB; have HB := n0_; clear n0_; (try clear hb); (try clear hb2); (try clear hk); (try clear hi)) | ((with_reducible refine gate_callee (f := 16) rfl ?_); refine goesL_ (some 45) rfl rfl Tryd.func16 (by kernel_rfl) rfl #[.string (⟨#[38]⟩ : ByteArray), .agg #[.int .i64 t413, .int .i64 t414, .string t415], .agg #[.int .i64 t416, .int .i64 t417, .string t418]] rfl (by (try simp only [List.map_toArray, List.map_cons, List.map_nil]); first | done | rfl | (simp only [List.length_drop, List.length_take]; rfl)) ?_; (with_reducible refine (value_Binary.calls (⟨#[38]⟩ : ByteArray) t413 t414 t415 t416 t417 t418 t419 t420 t421 t422 t423 _ ?side1 A12.out).mono ?_); (case side1 => exact TabOk.of HT.out (by repeat (first | (with_reducible first | exact HB.out | apply below_alloc | apply pw_below_drewN | apply below_drew1) | exact HB.out))); rintro e w33 ⟨rfl, hb⟩; refine ⟨_, rfl, ?_⟩; have n0_ := Aside0.mk (below_step (by repeat (first | (with_reducible first | exact HB.out | apply below_alloc | apply pw_below_drewN | apply below_drew1) | exact HB.out)) hb); clear HB; have HB := n0_; clear n0_; (try clear hb); (try clear hb2); (try clear hk); (try clear hi)) | ((with_reducible refine gate_dst (N := 7) rfl ?_); refine box_event ?hg (N := 7) ?hd (cs := #[.int .i64 0, .int .i64 0, .string (⟨#[]⟩ : ByteArray)]) (t := 23) ?hr ?_; (case hd => rfl); (case hg => rfl); (case hr => first | (go_simp; done) | (go_simp; rfl)); intro gb424 hg w34 hbox hb; have n0_ := Aside0.mk (below_step (by repeat (first | (with_reducible first | exact HB.out | apply below_alloc | apply pw_below_drewN | apply below_drew1) | exact HB.out)) hb); have n1_ := Aside0.mk (hbox); have n2_ := Aside0.mk ((by rw [hg]; exact (below_size (by repeat (first | (with_reducible first | exact HB.out | apply below_alloc | apply pw_below_drewN | apply below_drew1) | exact HB.out))) : w.heap.size ≤ gb424)); have n3_ := Aside0.mk ((by rw [hg]; exact (below_size (by repeat (first | (with_reducible first | exact HB.out | apply below_alloc | apply pw_below_drewN | apply below_drew1) | exact HB.out))) : w.heap.size ≤ gb424)); clear HB; have HB := n0_; have BK424 := n1_; have GW424 := n2_; have GE424 := n3_; clear n0_ n1_ n2_ n3_; clear hb hbox hg; have hcz35_0 : w34.cell? ⟨gb424, 0, none⟩ = some (.int .i64 0) := (blk_cell BK424.out 0).trans rfl; have hcz35_1 : w34.cell? ⟨gb424, 1, none⟩ = some (.int .i64 0) := (blk_cell BK424.out 1).trans rfl; have hcz35_2 : w34.cell? ⟨gb424, 2, none⟩ = some (.string (⟨#[]⟩ : ByteArray)) := (blk_cell BK424.out 2).trans rfl; have hfz35_0 := blk_frozen BK424.out 0; have hfz35_1 := blk_frozen BK424.out 1; have hfz35_2 := blk_frozen BK424.out 2) | ((with_reducible refine gate_callee (f := 24) rfl ?_); refine goesL_ (some 51) rfl rfl Tryd.func24 (by kernel_rfl) rfl #[.int .i64 a0] rfl (by (try simp only [List.map_toArray, List.map_cons, List.map_nil]); first | done | rfl | (simp only [List.length_drop, List.length_take]; rfl)) ?_; (with_reducible refine (shucklaw14_num.calls a0 t425 t426 t427 _ A13.out).mono ?_); rintro e w36 ⟨rfl, hb⟩; refine ⟨_, rfl, ?_⟩; have n0_ := Aside0.mk (blk_below (g := gb424) (o := .cells #[.int .i64 t419, .int .i64 t420, .string t421] 23 (0, 0)) (by (with_reducible repeat (first | refine blk_drewN ?_ _ | refine blk_drew ?_ | refine blk_alloc ?_ _)); refine blk_put (cs := #[.int .i64 t419, .int .i64 t420, .string (⟨#[]⟩ : ByteArray)]) ?_ 2 _ rfl; (with_reducible repeat (first | refine blk_drewN ?_ _ | refine blk_drew ?_ | refine blk_alloc ?_ _)); refine blk_put (cs := #[.int .i64 t419, .int .i64 0, .string (⟨#[]⟩ : ByteArray)]) ?_ 1 _ rfl; (with_reducible repeat (first | refine blk_drewN ?_ _ | refine blk_drew ?_ | refine blk_alloc ?_ _)); refine blk_put (cs := #[.int .i64 0, .int .i64 0, .string (⟨#[]⟩ : ByteArray)]) ?_ 0 _ rfl; (with_reducible repeat (first | refine blk_drewN ?_ _ | refine blk_drew ?_ | refine blk_alloc ?_ _)); exact BK424.out) hb); have n1_ := Aside0.mk (below_step (by repeat (first | (with_reducible first | exact HB.out | apply below_alloc | apply pw_below_drewN | apply below_drew1 | refine below_set ?_ GE424.out) | exact HB.out)) hb); clear BK424; clear HB; have BK424 := n0_; have HB := n1_; clear n0_ n1_; (try clear hb); (try clear hb2); (try clear hk); (try clear hi)) | ((with_reducible refine gate_callee (f := 24) rfl ?_); refine goesL_ (some 53) rfl rfl Tryd.func24 (by kernel_rfl) rfl #[.int .i64 a1] rfl (by (try simp only [List.map_toArray, List.map_cons, List.map_nil]); first | done | rfl | (simp only [List.length_drop, List.length_take]; rfl)) ?_; (with_reducible refine (shucklaw14_num.calls a1 t428 t429 t430 _ A14.out).mono ?_); rintro e w37 ⟨rfl, hb⟩; refine ⟨_, rfl, ?_⟩; have n0_ := Aside0.mk (blk_below (g := gb424) (o := .cells #[.int .i64 t419, .int .i64 t420, .string t421] 23 (0, 0)) (by (with_reducible repeat (first | refine blk_drewN ?_ _ | refine blk_drew ?_ | refine blk_alloc ?_ _)); exact BK424.out) hb); have n1_ := Aside0.mk (below_step (by repeat (first | (with_reducible first | exact HB.out | apply below_alloc | apply pw_below_drewN | apply below_drew1 | refine below_set ?_ GE424.out) | exact HB.out)) hb); clear BK424; clear HB; have BK424 := n0_; have HB := n1_; clear n0_ n1_; (try clear hb); (try clear hb2); (try clear hk); (try clear hi)) | ((with_reducible refine gate_callee (f := 16) rfl ?_); refine goesL_ (some 54) rfl rfl Tryd.func16 (by kernel_rfl) rfl #[.string (⟨#[124]⟩ : ByteArray), .agg #[.int .i64 t425, .int .i64 t426, .string t427], .agg #[.int .i64 t428, .int .i64 t429, .string t430]] rfl (by (try simp only [List.map_toArray, List.map_cons, List.map_nil]); first | done | rfl | (simp only [List.length_drop, List.length_take]; rfl)) ?_; (with_reducible refine (value_Binary.calls (⟨#[124]⟩ : ByteArray) t425 t426 t427 t428 t429 t430 t431 t432 t433 t434 t435 _ ?side1 A15.out).mono ?_); (case side1 => exact TabOk.of HT.out (by repeat (first | (with_reducible first | exact HB.out | apply below_alloc | apply pw_below_drewN | apply below_drew1 | refine below_set ?_ GE424.out) | exact HB.out))); rintro e w38 ⟨rfl, hb⟩; refine ⟨_, rfl, ?_⟩; have n0_ := Aside0.mk (blk_below (g := gb424) (o := .cells #[.int .i64 t419, .int .i64 t420, .string t421] 23 (0, 0)) (by (with_reducible repeat (first | refine blk_drewN ?_ _ | refine blk_drew ?_ | refine blk_alloc ?_ _)); exact BK424.out) hb); have n1_ := Aside0.mk (below_step (by repeat (first | (with_reducible first | exact HB.out | apply below_alloc | apply pw_below_drewN | apply below_drew1 | refine below_set ?_ GE424.out) | exact HB.out)) hb); clear BK424; clear HB; have BK424 := n0_; have HB := n1_; clear n0_ n1_; (try clear hb); (try clear hb2); (try clear hk); (try clear hi)) | ((with_reducible refine gate_dst (N := 10) rfl ?_); refine box_event ?hg (N := 10) ?hd (cs := #[.int .i64 0, .int .i64 0, .string (⟨#[]⟩ : ByteArray)]) (t := 23) ?hr ?_; (case hd => rfl); (case hg => rfl); (case hr => first | (go_simp; done) | (go_simp; rfl)); intro gb436 hg w39 hbox hb; have n0_ := Aside0.mk (blk_below (g := gb424) (o := .cells #[.int .i64 t419, .int .i64 t420, .string t421] 23 (0, 0)) (by (with_reducible repeat (first | refine blk_drewN ?_ _ | refine blk_drew ?_ | refine blk_alloc ?_ _)); exact BK424.out) hb); have n1_ := Aside0.mk (below_step (by repeat (first | (with_reducible first | exact HB.out | apply below_alloc | apply pw_below_drewN | apply below_drew1 | refine below_set ?_ GE424.out) | exact HB.out)) hb); have n2_ := Aside0.mk (hbox); have n3_ := Aside0.mk ((by rw [hg]; exact (below_size (by repeat (first | (with_reducible first | exact HB.out | apply below_alloc | apply pw_below_drewN | apply below_drew1 | refine below_set ?_ GE424.out) | exact HB.out))) : w.heap.size ≤ gb436)); have n4_ := Aside0.mk ((by rw [hg]; exact (below_size (by repeat (first | (with_reducible first | exact HB.out | apply below_alloc | apply pw_below_drewN | apply below_drew1 | refine below_set ?_ GE424.out) | exact HB.out))) : w.heap.size ≤ gb436)); have n5_ := Aside0.mk ((by rw [hg]; exact Nat.ne_of_lt (blk_lt (g := gb424) (o := .cells #[.int .i64 t419, .int .i64 t420, .string t421] 23 (0, 0)) (by (with_reducible repeat (first | refine blk_drewN ?_ _ | refine blk_drew ?_ | refine blk_alloc ?_ _)); exact BK424.out)) : gb424 ≠ gb436)); have n6_ := Aside0.mk ((by rw [hg]; exact Nat.ne_of_gt (blk_lt (g := gb424) (o := .cells #[.int .i64 t419, .int .i64 t420, .string t421] 23 (0, 0)) (by (with_reducible repeat (first | refine blk_drewN ?_ _ | refine blk_drew ?_ | refine blk_alloc ?_ _)); exact BK424.out)) : gb436 ≠ gb424)); clear BK424; clear HB; have BK424 := n0_; have HB := n1_; have BK436 := n2_; have GW436 := n3_; have GE436 := n4_; have NB424_436 := n5_; have NB436_424 := n6_; clear n0_ n1_ n2_ n3_ n4_ n5_ n6_; clear hb hbox hg; have hnb40 := NB436_424.out; have hnc40 := NB424_436.out; have hcz41_0 : w39.cell? ⟨gb436, 0, none⟩ = some (.int .i64 0) := (blk_cell BK436.out 0).trans rfl; have hcz41_1 : w39.cell? ⟨gb436, 1, none⟩ = some (.int .i64 0) := (blk_cell BK436.out 1).trans rfl; have hcz41_2 : w39.cell? ⟨gb436, 2, none⟩ = some (.string (⟨#[]⟩ : ByteArray)) := (blk_cell BK436.out 2).trans rfl; have hfz41_0 := blk_frozen BK436.out 0; have hfz41_1 := blk_frozen BK436.out 1; have hfz41_2 := blk_frozen BK436.out 2) | ((with_reducible refine gate_callee (f := 24) rfl ?_); refine goesL_ (some 60) rfl rfl Tryd.func24 (by kernel_rfl) rfl #[.int .i64 a0] rfl (by (try simp only [List.map_toArray, List.map_cons, List.map_nil]); first | done | rfl | (simp only [List.length_drop, List.length_take]; rfl)) ?_; (with_reducible refine (shucklaw14_num.calls a0 t437 t438 t439 _ A16.out).mono ?_); rintro e w42 ⟨rfl, hb⟩; refine ⟨_, rfl, ?_⟩; have n0_ := Aside0.mk (blk_below (g := gb424) (o := .cells #[.int .i64 t419, .int .i64 t420, .string t421] 23 (0, 0)) (by (with_reducible repeat (first | refine blk_drewN ?_ _ | refine blk_drew ?_ | refine blk_alloc ?_ _)); refine blk_far ?_ NB424_436.out _; (with_reducible repeat (first | refine blk_drewN ?_ _ | refine blk_drew ?_ | refine blk_alloc ?_ _)); refine blk_far ?_ NB424_436.out _; (with_reducible repeat (first | refine blk_drewN ?_ _ | refine blk_drew ?_ | refine blk_alloc ?_ _)); refine blk_far ?_ NB424_436.out _; (with_reducible repeat (first | refine blk_drewN ?_ _ | refine blk_drew ?_ | refine blk_alloc ?_ _)); exact BK424.out) hb); have n1_ := Aside0.mk (blk_below (g := gb436) (o := .cells #[.int .i64 t431, .int .i64 t432, .string t433] 23 (0, 0)) (by (with_reducible repeat (first | refine blk_drewN ?_ _ | refine blk_drew ?_ | refine blk_alloc ?_ _)); refine blk_put (cs := #[.int .i64 t431, .int .i64 t432, .string (⟨#[]⟩ : ByteArray)]) ?_ 2 _ rfl; (with_reducible repeat (first | refine blk_drewN ?_ _ | refine blk_drew ?_ | refine blk_alloc ?_ _)); refine blk_put (cs := #[.int .i64 t431, .int .i64 0, .string (⟨#[]⟩ : ByteArray)]) ?_ 1 _ rfl; (with_reducible repeat (first | refine blk_drewN ?_ _ | refine blk_drew ?_ | refine blk_alloc ?_ _)); refine blk_put (cs := #[.int .i64 0, .int .i64 0, .string (⟨#[]⟩ : ByteArray)]) ?_ 0 _ rfl; (with_reducible repeat (first | refine blk_drewN ?_ _ | refine blk_drew ?_ | refine blk_alloc ?_ _)); exact BK436.out) hb); have n2_ := Aside0.mk (below_step (by repeat (first | (with_reducible first | exact HB.out | apply below_alloc | apply pw_below_drewN | apply below_drew1 | refine below_set ?_ GE424.out | refine below_set ?_ GE436.out) | exact HB.out)) hb); clear BK424; clear BK436; clear HB; have BK424 := n0_; have BK436 := n1_; have HB := n2_; clear n0_ n1_ n2_; (try clear hb); (try clear hb2); (try clear hk); (try clear hi)) | ((with_reducible refine gate_callee (f := 24) rfl ?_); refine goesL_ (some 62) rfl rfl Tryd.func24 (by kernel_rfl) rfl #[.int .i64 a1] rfl (by (try simp only [List.map_toArray, List.map_cons, List.map_nil]); first | done | rfl | (simp only [List.length_drop, List.length_take]; rfl)) ?_; (with_reducible refine (shucklaw14_num.calls a1 t440 t441 t442 _ A17.out).mono ?_); rintro e w43 ⟨rfl, hb⟩; refine ⟨_, rfl, ?_⟩; have n0_ := Aside0.mk (blk_below (g := gb424) (o := .cells #[.int .i64 t419, .int .i64 t420, .string t421] 23 (0, 0)) (by (with_reducible repeat (first | refine blk_drewN ?_ _ | refine blk_drew ?_ | refine blk_alloc ?_ _)); exact BK424.out) hb); have n1_ := Aside0.mk (blk_below (g := gb436) (o := .cells #[.int .i64 t431, .int .i64 t432, .string t433] 23 (0, 0)) (by (with_reducible repeat (first | refine blk_drewN ?_ _ | refine blk_drew ?_ | refine blk_alloc ?_ _)); exact BK436.out) hb); have n2_ := Aside0.mk (below_step (by repeat (first | (with_reducible first | exact HB.out | apply below_alloc | apply pw_below_drewN | apply below_drew1 | refine below_set ?_ GE424.out | refine below_set ?_ GE436.out) | exact HB.out)) hb); clear BK424; clear BK436; clear HB; have BK424 := n0_; have BK436 := n1_; have HB := n2_; clear n0_ n1_ n2_; (try clear hb); (try clear hb2); (try clear hk); (try clear hi)) | ((with_reducible refine gate_callee (f := 16) rfl ?_); refine goesL_ (some 63) rfl rfl Tryd.func16 (by kernel_rfl) rfl #[.string (⟨#[94]⟩ : ByteArray), .agg #[.int .i64 t437, .int .i64 t438, .string t439], .agg #[.int .i64 t440, .int .i64 t441, .string t442]] rfl (by (try simp only [List.map_toArray, List.map_cons, List.map_nil]); first | done | rfl | (simp only [List.length_drop, List.length_take]; rfl)) ?_; (with_reducible refine (value_Binary.calls (⟨#[94]⟩ : ByteArray) t437 t438 t439 t440 t441 t442 t443 t444 t445 t446 t447 _ ?side1 A18.out).mono ?_); (case side1 => exact TabOk.of HT.out (by repeat (first | (with_reducible first | exact HB.out | apply below_alloc | apply pw_below_drewN | apply below_drew1 | refine below_set ?_ GE424.out | refine below_set ?_ GE436.out) | exact HB.out))); rintro e w44 ⟨rfl, hb⟩; refine ⟨_, rfl, ?_⟩; have n0_ := Aside0.mk (blk_below (g := gb424) (o := .cells #[.int .i64 t419, .int .i64 t420, .string t421] 23 (0, 0)) (by (with_reducible repeat (first | refine blk_drewN ?_ _ | refine blk_drew ?_ | refine blk_alloc ?_ _)); exact BK424.out) hb); have n1_ := Aside0.mk (blk_below (g := gb436) (o := .cells #[.int .i64 t431, .int .i64 t432, .string t433] 23 (0, 0)) (by (with_reducible repeat (first | refine blk_drewN ?_ _ | refine blk_drew ?_ | refine blk_alloc ?_ _)); exact BK436.out) hb); have n2_ := Aside0.mk (below_step (by repeat (first | (with_reducible first | exact HB.out | apply below_alloc | apply pw_below_drewN | apply below_drew1 | refine below_set ?_ GE424.out | refine below_set ?_ GE436.out) | exact HB.out)) hb); clear BK424; clear BK436; clear HB; have BK424 := n0_; have BK436 := n1_; have HB := n2_; clear n0_ n1_ n2_; (try clear hb); (try clear hb2); (try clear hk); (try clear hi)) | ((with_reducible refine gate_dst (N := 13) rfl ?_); refine box_event ?hg (N := 13) ?hd (cs := #[.int .i64 0, .int .i64 0, .string (⟨#[]⟩ : ByteArray)]) (t := 23) ?hr ?_; (case hd => rfl); (case hg => rfl); (case hr => first | (go_simp; done) | (go_simp; rfl)); intro gb448 hg w45 hbox hb; have n0_ := Aside0.mk (blk_below (g := gb424) (o := .cells #[.int .i64 t419, .int .i64 t420, .string t421] 23 (0, 0)) (by (with_reducible repeat (first | refine blk_drewN ?_ _ | refine blk_drew ?_ | refine blk_alloc ?_ _)); exact BK424.out) hb); have n1_ := Aside0.mk (blk_below (g := gb436) (o := .cells #[.int .i64 t431, .int .i64 t432, .string t433] 23 (0, 0)) (by (with_reducible repeat (first | refine blk_drewN ?_ _ | refine blk_drew ?_ | refine blk_alloc ?_ _)); exact BK436.out) hb); have n2_ := Aside0.mk (below_step (by repeat (first | (with_reducible first | exact HB.out | apply below_alloc | apply pw_below_drewN | apply below_drew1 | refine below_set ?_ GE424.out | refine below_set ?_ GE436.out) | exact HB.out)) hb); have n3_ := Aside0.mk (hbox); have n4_ := Aside0.mk ((by rw [hg]; exact (below_size (by repeat (first | (with_reducible first | exact HB.out | apply below_alloc | apply pw_below_drewN | apply below_drew1 | refine below_set ?_ GE424.out | refine below_set ?_ GE436.out) | exact HB.out))) : w.heap.size ≤ gb448)); have n5_ := Aside0.mk ((by rw [hg]; exact (below_size (by repeat (first | (with_reducible first | exact HB.out | apply below_alloc | apply pw_below_drewN | apply below_drew1 | refine below_set ?_ GE424.out | refine below_set ?_ GE436.out) | exact HB.out))) : w.heap.size ≤ gb448)); have n6_ := Aside0.mk ((by rw [hg]; exact Nat.ne_of_lt (blk_lt (g := gb424) (o := .cells #[.int .i64 t419, .int .i64 t420, .string t421] 23 (0, 0)) (by (with_reducible repeat (first | refine blk_drewN ?_ _ | refine blk_drew ?_ | refine blk_alloc ?_ _)); exact BK424.out)) : gb424 ≠ gb448)); have n7_ := Aside0.mk ((by rw [hg]; exact Nat.ne_of_gt (blk_lt (g := gb424) (o := .cells #[.int .i64 t419, .int .i64 t420, .string t421] 23 (0, 0)) (by (with_reducible repeat (first | refine blk_drewN ?_ _ | refine blk_drew ?_ | refine blk_alloc ?_ _)); exact BK424.out)) : gb448 ≠ gb424)); have n8_ := Aside0.mk ((by rw [hg]; exact Nat.ne_of_lt (blk_lt (g := gb436) (o := .cells #[.int .i64 t431, .int .i64 t432, .string t433] 23 (0, 0)) (by (with_reducible repeat (first | refine blk_drewN ?_ _ | refine blk_drew ?_ | refine blk_alloc ?_ _)); exact BK436.out)) : gb436 ≠ gb448)); have n9_ := Aside0.mk ((by rw [hg]; exact Nat.ne_of_gt (blk_lt (g := gb436) (o := .cells #[.int .i64 t431, .int .i64 t432, .string t433] 23 (0, 0)) (by (with_reducible repeat (first | refine blk_drewN ?_ _ | refine blk_drew ?_ | refine blk_alloc ?_ _)); exact BK436.out)) : gb448 ≠ gb436)); clear BK424; clear BK436; clear HB; have BK424 := n0_; have BK436 := n1_; have HB := n2_; have BK448 := n3_; have GW448 := n4_; have GE448 := n5_; have NB424_448 := n6_; have NB448_424 := n7_; have NB436_448 := n8_; have NB448_436 := n9_; clear n0_ n1_ n2_ n3_ n4_ n5_ n6_ n7_ n8_ n9_; clear hb hbox hg; have hnb46 := NB448_424.out; have hnc46 := NB424_448.out; have hnb47 := NB448_436.out; have hnc47 := NB436_448.out; have hcz48_0 : w45.cell? ⟨gb448, 0, none⟩ = some (.int .i64 0) := (blk_cell BK448.out 0).trans rfl; have hcz48_1 : w45.cell? ⟨gb448, 1, none⟩ = some (.int .i64 0) := (blk_cell BK448.out 1).trans rfl; have hcz48_2 : w45.cell? ⟨gb448, 2, none⟩ = some (.string (⟨#[]⟩ : ByteArray)) := (blk_cell BK448.out 2).trans rfl; have hfz48_0 := blk_frozen BK448.out 0; have hfz48_1 := blk_frozen BK448.out 1; have hfz48_2 := blk_frozen BK448.out 2) | ((with_reducible refine gate_callee (f := 24) rfl ?_); refine goesL_ (some 69) rfl rfl Tryd.func24 (by kernel_rfl) rfl #[.int .i64 a0] rfl (by (try simp only [List.map_toArray, List.map_cons, List.map_nil]); first | done | rfl | (simp only [List.length_drop, List.length_take]; rfl)) ?_; (with_reducible refine (shucklaw14_num.calls a0 t449 t450 t451 _ A19.out).mono ?_); rintro e w49 ⟨rfl, hb⟩; refine ⟨_, rfl, ?_⟩; have n0_ := Aside0.mk (blk_below (g := gb424) (o := .cells #[.int .i64 t419, .int .i64 t420, .string t421] 23 (0, 0)) (by (with_reducible repeat (first | refine blk_drewN ?_ _ | refine blk_drew ?_ | refine blk_alloc ?_ _)); refine blk_far ?_ NB424_448.out _; (with_reducible repeat (first | refine blk_drewN ?_ _ | refine blk_drew ?_ | refine blk_alloc ?_ _)); refine blk_far ?_ NB424_448.out _; (with_reducible repeat (first | refine blk_drewN ?_ _ | refine blk_drew ?_ | refine blk_alloc ?_ _)); refine blk_far ?_ NB424_448.out _; (with_reducible repeat (first | refine blk_drewN ?_ _ | refine blk_drew ?_ | refine blk_alloc ?_ _)); exact BK424.out) hb); have n1_ := Aside0.mk (blk_below (g := gb436) (o := .cells #[.int .i64 t431, .int .i64 t432, .string t433] 23 (0, 0)) (by (with_reducible repeat (first | refine blk_drewN ?_ _ | refine blk_drew ?_ | refine blk_alloc ?_ _)); refine blk_far ?_ NB436_448.out _; (with_reducible repeat (first | refine blk_drewN ?_ _ | refine blk_drew ?_ | refine blk_alloc ?_ _)); refine blk_far ?_ NB436_448.out _; (with_reducible repeat (first | refine blk_drewN ?_ _ | refine blk_drew ?_ | refine blk_alloc ?_ _)); refine blk_far ?_ NB436_448.out _; (with_reducible repeat (first | refine blk_drewN ?_ _ | refine blk_drew ?_ | refine blk_alloc ?_ _)); exact BK436.out) hb); have n2_ := Aside0.mk (blk_below (g := gb448) (o := .cells #[.int .i64 t443, .int .i64 t444, .string t445] 23 (0, 0)) (by (with_reducible repeat (first | refine blk_drewN ?_ _ | refine blk_drew ?_ | refine blk_alloc ?_ _)); refine blk_put (cs := #[.int .i64 t443, .int .i64 t444, .string (⟨#[]⟩ : ByteArray)]) ?_ 2 _ rfl; (with_reducible repeat (first | refine blk_drewN ?_ _ | refine blk_drew ?_ | refine blk_alloc ?_ _)); refine blk_put (cs := #[.int .i64 t443, .int .i64 0, .string (⟨#[]⟩ : ByteArray)]) ?_ 1 _ rfl; (with_reducible repeat (first | refine blk_drewN ?_ _ | refine blk_drew ?_ | refine blk_alloc ?_ _)); refine blk_put (cs := #[.int .i64 0, .int .i64 0, .string (⟨#[]⟩ : ByteArray)]) ?_ 0 _ rfl; (with_reducible repeat (first | refine blk_drewN ?_ _ | refine blk_drew ?_ | refine blk_alloc ?_ _)); exact BK448.out) hb); have n3_ := Aside0.mk (below_step (by repeat (first | (with_reducible first | exact HB.out | apply below_alloc | apply pw_below_drewN | apply below_drew1 | refine below_set ?_ GE424.out | refine below_set ?_ GE436.out | refine below_set ?_ GE448.out) | exact HB.out)) hb); clear BK424; clear BK436; clear BK448; clear HB; have BK424 := n0_; have BK436 := n1_; have BK448 := n2_; have HB := n3_; clear n0_ n1_ n2_ n3_; (try clear hb); (try clear hb2); (try clear hk); (try clear hi)) | ((with_reducible refine gate_callee (f := 14) rfl ?_); refine goesL_ (some 70) rfl rfl Tryd.func14 (by kernel_rfl) rfl #[.string (⟨#[126]⟩ : ByteArray), .agg #[.int .i64 t449, .int .i64 t450, .string t451]] rfl (by (try simp only [List.map_toArray, List.map_cons, List.map_nil]); first | done | rfl | (simp only [List.length_drop, List.length_take]; rfl)) ?_; (with_reducible refine (value_Unary.calls kj2 (⟨#[126]⟩ : ByteArray) t449 t450 t451 t452 t453 t454 t455 t456 _ A20.out).mono ?_); rintro e w50 ⟨rfl, hb⟩; refine ⟨_, rfl, ?_⟩; have n0_ := Aside0.mk (blk_below (g := gb424) (o := .cells #[.int .i64 t419, .int .i64 t420, .string t421] 23 (0, 0)) (by (with_reducible repeat (first | refine blk_drewN ?_ _ | refine blk_drew ?_ | refine blk_alloc ?_ _)); exact BK424.out) hb); have n1_ := Aside0.mk (blk_below (g := gb436) (o := .cells #[.int .i64 t431, .int .i64 t432, .string t433] 23 (0, 0)) (by (with_reducible repeat (first | refine blk_drewN ?_ _ | refine blk_drew ?_ | refine blk_alloc ?_ _)); exact BK436.out) hb); have n2_ := Aside0.mk (blk_below (g := gb448) (o := .cells #[.int .i64 t443, .int .i64 t444, .string t445] 23 (0, 0)) (by (with_reducible repeat (first | refine blk_drewN ?_ _ | refine blk_drew ?_ | refine blk_alloc ?_ _)); exact BK448.out) hb); have n3_ := Aside0.mk (below_step (by repeat (first | (with_reducible first | exact HB.out | apply below_alloc | apply pw_below_drewN | apply below_drew1 | refine below_set ?_ GE424.out | refine below_set ?_ GE436.out | refine below_set ?_ GE448.out) | exact HB.out)) hb); clear BK424; clear BK436; clear BK448; clear HB; have BK424 := n0_; have BK436 := n1_; have BK448 := n2_; have HB := n3_; clear n0_ n1_ n2_ n3_; (try clear hb); (try clear hb2); (try clear hk); (try clear hi)) | ((with_reducible refine gate_dst (N := 16) rfl ?_); refine box_event ?hg (N := 16) ?hd (cs := #[.int .i64 0, .int .i64 0, .string (⟨#[]⟩ : ByteArray)]) (t := 23) ?hr ?_; (case hd => rfl); (case hg => rfl); (case hr => first | (go_simp; done) | (go_simp; rfl)); intro gb457 hg w51 hbox hb; have n0_ := Aside0.mk (blk_below (g := gb424) (o := .cells #[.int .i64 t419, .int .i64 t420, .string t421] 23 (0, 0)) (by (with_reducible repeat (first | refine blk_drewN ?_ _ | refine blk_drew ?_ | refine blk_alloc ?_ _)); exact BK424.out) hb); have n1_ := Aside0.mk (blk_below (g := gb436) (o := .cells #[.int .i64 t431, .int .i64 t432, .string t433] 23 (0, 0)) (by (with_reducible repeat (first | refine blk_drewN ?_ _ | refine blk_drew ?_ | refine blk_alloc ?_ _)); exact BK436.out) hb); have n2_ := Aside0.mk (blk_below (g := gb448) (o := .cells #[.int .i64 t443, .int .i64 t444, .string t445] 23 (0, 0)) (by (with_reducible repeat (first | refine blk_drewN ?_ _ | refine blk_drew ?_ | refine blk_alloc ?_ _)); exact BK448.out) hb); have n3_ := Aside0.mk (below_step (by repeat (first | (with_reducible first | exact HB.out | apply below_alloc | apply pw_below_drewN | apply below_drew1 | refine below_set ?_ GE424.out | refine below_set ?_ GE436.out | refine below_set ?_ GE448.out) | exact HB.out)) hb); have n4_ := Aside0.mk (hbox); have n5_ := Aside0.mk ((by rw [hg]; exact (below_size (by repeat (first | (with_reducible first | exact HB.out | apply below_alloc | apply pw_below_drewN | apply below_drew1 | refine below_set ?_ GE424.out | refine below_set ?_ GE436.out | refine below_set ?_ GE448.out) | exact HB.out))) : w.heap.size ≤ gb457)); have n6_ := Aside0.mk ((by rw [hg]; exact (below_size (by repeat (first | (with_reducible first | exact HB.out | apply below_alloc | apply pw_below_drewN | apply below_drew1 | refine below_set ?_ GE424.out | refine below_set ?_ GE436.out | refine below_set ?_ GE448.out) | exact HB.out))) : w.heap.size ≤ gb457)); have n7_ := Aside0.mk ((by rw [hg]; exact Nat.ne_of_lt (blk_lt (g := gb424) (o := .cells #[.int .i64 t419, .int .i64 t420, .string t421] 23 (0, 0)) (by (with_reducible repeat (first | refine blk_drewN ?_ _ | refine blk_drew ?_ | refine blk_alloc ?_ _)); exact BK424.out)) : gb424 ≠ gb457)); have n8_ := Aside0.mk ((by rw [hg]; exact Nat.ne_of_gt (blk_lt (g := gb424) (o := .cells #[.int .i64 t419, .int .i64 t420, .string t421] 23 (0, 0)) (by (with_reducible repeat (first | refine blk_drewN ?_ _ | refine blk_drew ?_ | refine blk_alloc ?_ _)); exact BK424.out)) : gb457 ≠ gb424)); have n9_ := Aside0.mk ((by rw [hg]; exact Nat.ne_of_lt (blk_lt (g := gb436) (o := .cells #[.int .i64 t431, .int .i64 t432, .string t433] 23 (0, 0)) (by (with_reducible repeat (first | refine blk_drewN ?_ _ | refine blk_drew ?_ | refine blk_alloc ?_ _)); exact BK436.out)) : gb436 ≠ gb457)); have n10_ := Aside0.mk ((by rw [hg]; exact Nat.ne_of_gt (blk_lt (g := gb436) (o := .cells #[.int .i64 t431, .int .i64 t432, .string t433] 23 (0, 0)) (by (with_reducible repeat (first | refine blk_drewN ?_ _ | refine blk_drew ?_ | refine blk_alloc ?_ _)); exact BK436.out)) : gb457 ≠ gb436)); have n11_ := Aside0.mk ((by rw [hg]; exact Nat.ne_of_lt (blk_lt (g := gb448) (o := .cells #[.int .i64 t443, .int .i64 t444, .string t445] 23 (0, 0)) (by (with_reducible repeat (first | refine blk_drewN ?_ _ | refine blk_drew ?_ | refine blk_alloc ?_ _)); exact BK448.out)) : gb448 ≠ gb457)); have n12_ := Aside0.mk ((by rw [hg]; exact Nat.ne_of_gt (blk_lt (g := gb448) (o := .cells #[.int .i64 t443, .int .i64 t444, .string t445] 23 (0, 0)) (by (with_reducible repeat (first | refine blk_drewN ?_ _ | refine blk_drew ?_ | refine blk_alloc ?_ _)); exact BK448.out)) : gb457 ≠ gb448)); clear BK424; clear BK436; clear BK448; clear HB; have BK424 := n0_; have BK436 := n1_; have BK448 := n2_; have HB := n3_; have BK457 := n4_; have GW457 := n5_; have GE457 := n6_; have NB424_457 := n7_; have NB457_424 := n8_; have NB436_457 := n9_; have NB457_436 := n10_; have NB448_457 := n11_; have NB457_448 := n12_; clear n0_ n1_ n2_ n3_ n4_ n5_ n6_ n7_ n8_ n9_ n10_ n11_ n12_; clear hb hbox hg; have hnb52 := NB457_424.out; have hnc52 := NB424_457.out; have hnb53 := NB457_436.out; have hnc53 := NB436_457.out; have hnb54 := NB457_448.out; have hnc54 := NB448_457.out; have hcz55_0 : w51.cell? ⟨gb457, 0, none⟩ = some (.int .i64 0) := (blk_cell BK457.out 0).trans rfl; have hcz55_1 : w51.cell? ⟨gb457, 1, none⟩ = some (.int .i64 0) := (blk_cell BK457.out 1).trans rfl; have hcz55_2 : w51.cell? ⟨gb457, 2, none⟩ = some (.string (⟨#[]⟩ : ByteArray)) := (blk_cell BK457.out 2).trans rfl; have hfz55_0 := blk_frozen BK457.out 0; have hfz55_1 := blk_frozen BK457.out 1; have hfz55_2 := blk_frozen BK457.out 2))
                  have n0_ : Aside0 ((((w51.setCell ⟨gb457, 0, none⟩ (.int .i64 t452)).setCell ⟨gb457, 1, none⟩ (.int .i64 t453)).setCell ⟨gb457, 2, none⟩ (.string t454)).heap[gb424]? = some (.cells #[.int .i64 t419, .int .i64 t420, .string t421] 23 (0, 0))) := ⟨by (with_reducible repeat (first | refine blk_drewN ?_ _ | refine blk_drew ?_ | refine blk_alloc ?_ _)); refine blk_far ?_ NB424_457.out _; (with_reducible repeat (first | refine blk_drewN ?_ _ | refine blk_drew ?_ | refine blk_alloc ?_ _)); refine blk_far ?_ NB424_457.out _; (with_reducible repeat (first | refine blk_drewN ?_ _ | refine blk_drew ?_ | refine blk_alloc ?_ _)); refine blk_far ?_ NB424_457.out _; (with_reducible repeat (first | refine blk_drewN ?_ _ | refine blk_drew ?_ | refine blk_alloc ?_ _)); exact BK424.out⟩
                  have n1_ : Aside0 ((((w51.setCell ⟨gb457, 0, none⟩ (.int .i64 t452)).setCell ⟨gb457, 1, none⟩ (.int .i64 t453)).setCell ⟨gb457, 2, none⟩ (.string t454)).heap[gb436]? = some (.cells #[.int .i64 t431, .int .i64 t432, .string t433] 23 (0, 0))) := ⟨by (with_reducible repeat (first | refine blk_drewN ?_ _ | refine blk_drew ?_ | refine blk_alloc ?_ _)); refine blk_far ?_ NB436_457.out _; (with_reducible repeat (first | refine blk_drewN ?_ _ | refine blk_drew ?_ | refine blk_alloc ?_ _)); refine blk_far ?_ NB436_457.out _; (with_reducible repeat (first | refine blk_drewN ?_ _ | refine blk_drew ?_ | refine blk_alloc ?_ _)); refine blk_far ?_ NB436_457.out _; (with_reducible repeat (first | refine blk_drewN ?_ _ | refine blk_drew ?_ | refine blk_alloc ?_ _)); exact BK436.out⟩
                  have n2_ : Aside0 ((((w51.setCell ⟨gb457, 0, none⟩ (.int .i64 t452)).setCell ⟨gb457, 1, none⟩ (.int .i64 t453)).setCell ⟨gb457, 2, none⟩ (.string t454)).heap[gb448]? = some (.cells #[.int .i64 t443, .int .i64 t444, .string t445] 23 (0, 0))) := ⟨by (with_reducible repeat (first | refine blk_drewN ?_ _ | refine blk_drew ?_ | refine blk_alloc ?_ _)); refine blk_far ?_ NB448_457.out _; (with_reducible repeat (first | refine blk_drewN ?_ _ | refine blk_drew ?_ | refine blk_alloc ?_ _)); refine blk_far ?_ NB448_457.out _; (with_reducible repeat (first | refine blk_drewN ?_ _ | refine blk_drew ?_ | refine blk_alloc ?_ _)); refine blk_far ?_ NB448_457.out _; (with_reducible repeat (first | refine blk_drewN ?_ _ | refine blk_drew ?_ | refine blk_alloc ?_ _)); exact BK448.out⟩
                  have n3_ : Aside0 ((((w51.setCell ⟨gb457, 0, none⟩ (.int .i64 t452)).setCell ⟨gb457, 1, none⟩ (.int .i64 t453)).setCell ⟨gb457, 2, none⟩ (.string t454)).heap[gb457]? = some (.cells #[.int .i64 t452, .int .i64 t453, .string t454] 23 (0, 0))) := ⟨by (with_reducible repeat (first | refine blk_drewN ?_ _ | refine blk_drew ?_ | refine blk_alloc ?_ _)); refine blk_put (cs := #[.int .i64 t452, .int .i64 t453, .string (⟨#[]⟩ : ByteArray)]) ?_ 2 _ rfl; (with_reducible repeat (first | refine blk_drewN ?_ _ | refine blk_drew ?_ | refine blk_alloc ?_ _)); refine blk_put (cs := #[.int .i64 t452, .int .i64 0, .string (⟨#[]⟩ : ByteArray)]) ?_ 1 _ rfl; (with_reducible repeat (first | refine blk_drewN ?_ _ | refine blk_drew ?_ | refine blk_alloc ?_ _)); refine blk_put (cs := #[.int .i64 0, .int .i64 0, .string (⟨#[]⟩ : ByteArray)]) ?_ 0 _ rfl; (with_reducible repeat (first | refine blk_drewN ?_ _ | refine blk_drew ?_ | refine blk_alloc ?_ _)); exact BK457.out⟩
                  have n4_ : Aside0 (Below w.heap.size w (((w51.setCell ⟨gb457, 0, none⟩ (.int .i64 t452)).setCell ⟨gb457, 1, none⟩ (.int .i64 t453)).setCell ⟨gb457, 2, none⟩ (.string t454))) := ⟨by repeat (first | (with_reducible first | exact HB.out | apply below_alloc | apply pw_below_drewN | apply below_drew1 | refine below_set ?_ GE424.out | refine below_set ?_ GE436.out | refine below_set ?_ GE448.out | refine below_set ?_ GE457.out) | exact HB.out)⟩
                  (try clear BK424)
                  (try clear BK436)
                  (try clear BK448)
                  (try clear BK457)
                  (try clear HB)
                  generalize (((w51.setCell ⟨gb457, 0, none⟩ (.int .i64 t452)).setCell ⟨gb457, 1, none⟩ (.int .i64 t453)).setCell ⟨gb457, 2, none⟩ (.string t454)) = w56 at n0_ n1_ n2_ n3_ n4_ ⊢
                  have BK424 := n0_
                  have BK436 := n1_
                  have BK448 := n2_
                  have BK457 := n3_
                  have HB := n4_
                  clear n0_ n1_ n2_ n3_ n4_
                  have n0_ := Aside0.mk (blk_drew BK424.out)
                  have n1_ := Aside0.mk (blk_drew BK436.out)
                  have n2_ := Aside0.mk (blk_drew BK448.out)
                  have n3_ := Aside0.mk (blk_drew BK457.out)
                  have n4_ := Aside0.mk (below_drew1 HB.out)
                  clear BK424
                  clear BK436
                  clear BK448
                  clear BK457
                  clear HB
                  have BK424 := n0_
                  have BK436 := n1_
                  have BK448 := n2_
                  have BK457 := n3_
                  have HB := n4_
                  clear n0_ n1_ n2_ n3_ n4_
                  refine start_ (n := 47) (S := fun w' => w'.cell? ⟨gb424, 0, none⟩ = some (.int .i64 t419) ∧ w'.cell? ⟨gb424, 1, none⟩ = some (.int .i64 t420) ∧ w'.cell? ⟨gb424, 2, none⟩ = some (.string t421) ∧ w'.cell? ⟨gb436, 0, none⟩ = some (.int .i64 t431) ∧ w'.cell? ⟨gb436, 1, none⟩ = some (.int .i64 t432) ∧ w'.cell? ⟨gb436, 2, none⟩ = some (.string t433) ∧ w'.cell? ⟨gb448, 0, none⟩ = some (.int .i64 t443) ∧ w'.cell? ⟨gb448, 1, none⟩ = some (.int .i64 t444) ∧ w'.cell? ⟨gb448, 2, none⟩ = some (.string t445) ∧ w'.cell? ⟨gb457, 0, none⟩ = some (.int .i64 t452) ∧ w'.cell? ⟨gb457, 1, none⟩ = some (.int .i64 t453) ∧ w'.cell? ⟨gb457, 2, none⟩ = some (.string t454)) (ds := []) #[false, false, false, false, false, false, false, false, false, false, false, false, false, false, false, false, false, false, false, false, false, false, false, false, false, false, false, false, false, false, false, false, false, false, false, false, false, false, false, false, false, false, false, false, false, false, false] (by kernel_rfl) rfl rfl ⟨(blk_cell BK424.out 0).trans rfl, (blk_cell BK424.out 1).trans rfl, (blk_cell BK424.out 2).trans rfl, (blk_cell BK436.out 0).trans rfl, (blk_cell BK436.out 1).trans rfl, (blk_cell BK436.out 2).trans rfl, (blk_cell BK448.out 0).trans rfl, (blk_cell BK448.out 1).trans rfl, (blk_cell BK448.out 2).trans rfl, (blk_cell BK457.out 0).trans rfl, (blk_cell BK457.out 1).trans rfl, (blk_cell BK457.out 2).trans rfl⟩ (fun hHeld => ?_); refine with_tabW shucklaw14_ValueBits.tab9 shucklaw14_ValueBits.bits9 (fun HT_ HW_ => ?_)
                  generalize w56.drew = w57 at BK424 BK436 BK448 BK457 HB hHeld ⊢
                  refine pure_ (i := 0) (N := some 74) (v := ?_) (a' := ?_) #[true, false, false, false, false, false, false, false, false, false, false, false, false, false, false, false, false, false, false, false, false, false, false, false, false, false, false, false, false, false, false, false, false, false, false, false, false, false, false, false, false, false, false, false, false, false, false] rfl rfl (any_of HT_.out (by kernel_rfl)) (fun _ _ _ h => h) (Or.inl ⟨by rfl, ?_⟩) ?_ ?_
                  rotate_left
                  · intro w'
                    go_simp
                    with_reducible rfl
                  rotate_left
                  · simp only [Act.put, List.setIfInBounds_toArray, List.set_cons_zero, List.set_cons_succ, i64_w, i32_w]
                    rfl
                  refine pure_ (i := 1) (N := some 75) (v := ?_) (a' := ?_) #[true, true, false, false, false, false, false, false, false, false, false, false, false, false, false, false, false, false, false, false, false, false, false, false, false, false, false, false, false, false, false, false, false, false, false, false, false, false, false, false, false, false, false, false, false, false, false] rfl rfl (any_of HT_.out (by kernel_rfl)) (fun _ _ _ h => h) (Or.inl ⟨by rfl, ?_⟩) ?_ ?_
                  rotate_left
                  · intro w'
                    go_simp
                    with_reducible rfl
                  rotate_left
                  · simp only [Act.put, List.setIfInBounds_toArray, List.set_cons_zero, List.set_cons_succ, i64_w, i32_w]
                    rfl
                  refine pure_ (i := 2) (N := some 76) (v := ?_) (a' := ?_) #[true, true, true, false, false, false, false, false, false, false, false, false, false, false, false, false, false, false, false, false, false, false, false, false, false, false, false, false, false, false, false, false, false, false, false, false, false, false, false, false, false, false, false, false, false, false, false] rfl rfl (any_of HT_.out (by kernel_rfl)) (fun _ _ _ h => h) (Or.inl ⟨by rfl, ?_⟩) ?_ ?_
                  rotate_left
                  · intro w'
                    go_simp
                    with_reducible rfl
                  rotate_left
                  · simp only [Act.put, List.setIfInBounds_toArray, List.set_cons_zero, List.set_cons_succ, i64_w, i32_w]
                    rfl
                  refine pure_ (i := 3) (N := some 77) (v := ?_) (a' := ?_) #[true, true, true, true, false, false, false, false, false, false, false, false, false, false, false, false, false, false, false, false, false, false, false, false, false, false, false, false, false, false, false, false, false, false, false, false, false, false, false, false, false, false, false, false, false, false, false] rfl rfl (any_of HT_.out (by kernel_rfl)) (fun _ _ _ h => h) (Or.inl ⟨by rfl, ?_⟩) ?_ ?_
                  rotate_left
                  · intro w'
                    go_simp
                    with_reducible rfl
                  rotate_left
                  · simp only [Act.put, List.setIfInBounds_toArray, List.set_cons_zero, List.set_cons_succ, i64_w, i32_w]
                    rfl
                  refine pure_ (i := 4) (N := some 78) (v := ?_) (a' := ?_) #[true, true, true, true, true, false, false, false, false, false, false, false, false, false, false, false, false, false, false, false, false, false, false, false, false, false, false, false, false, false, false, false, false, false, false, false, false, false, false, false, false, false, false, false, false, false, false] rfl rfl (any_of HT_.out (by kernel_rfl)) (fun _ _ _ h => h) (Or.inl ⟨by rfl, ?_⟩) ?_ ?_
                  rotate_left
                  · intro w'
                    go_simp
                    with_reducible rfl
                  rotate_left
                  · simp only [Act.put, List.setIfInBounds_toArray, List.set_cons_zero, List.set_cons_succ, i64_w, i32_w]
                    rfl
                  refine pure_ (i := 5) (N := some 79) (v := ?_) (a' := ?_) #[true, true, true, true, true, true, false, false, false, false, false, false, false, false, false, false, false, false, false, false, false, false, false, false, false, false, false, false, false, false, false, false, false, false, false, false, false, false, false, false, false, false, false, false, false, false, false] rfl rfl (any_of HT_.out (by kernel_rfl)) (fun _ _ _ h => h) (Or.inl ⟨by rfl, ?_⟩) ?_ ?_
                  rotate_left
                  · intro w'
                    go_simp
                    with_reducible rfl
                  rotate_left
                  · simp only [Act.put, List.setIfInBounds_toArray, List.set_cons_zero, List.set_cons_succ, i64_w, i32_w]
                    rfl
                  refine pure_ (i := 6) (N := some 80) (v := ?_) (a' := ?_) #[true, true, true, true, true, true, true, false, false, false, false, false, false, false, false, false, false, false, false, false, false, false, false, false, false, false, false, false, false, false, false, false, false, false, false, false, false, false, false, false, false, false, false, false, false, false, false] rfl rfl (any_of HT_.out (by kernel_rfl)) (fun _ _ _ h => h) (Or.inl ⟨by rfl, ?_⟩) ?_ ?_
                  rotate_left
                  · intro w'
                    go_simp
                    with_reducible rfl
                  rotate_left
                  · simp only [Act.put, List.setIfInBounds_toArray, List.set_cons_zero, List.set_cons_succ, i64_w, i32_w]
                    rfl
                  refine pure_ (i := 7) (N := some 81) (v := ?_) (a' := ?_) #[true, true, true, true, true, true, true, true, false, false, false, false, false, false, false, false, false, false, false, false, false, false, false, false, false, false, false, false, false, false, false, false, false, false, false, false, false, false, false, false, false, false, false, false, false, false, false] rfl rfl (any_of HT_.out (by kernel_rfl)) (fun _ _ _ h => h) (Or.inl ⟨by rfl, ?_⟩) ?_ ?_
                  rotate_left
                  · intro w'
                    go_simp
                    with_reducible rfl
                  rotate_left
                  · simp only [Act.put, List.setIfInBounds_toArray, List.set_cons_zero, List.set_cons_succ, i64_w, i32_w]
                    rfl
                  refine pure_ (i := 8) (N := some 82) (v := ?_) (a' := ?_) #[true, true, true, true, true, true, true, true, true, false, false, false, false, false, false, false, false, false, false, false, false, false, false, false, false, false, false, false, false, false, false, false, false, false, false, false, false, false, false, false, false, false, false, false, false, false, false] rfl rfl (any_of HT_.out (by kernel_rfl)) (fun _ _ _ h => h) (Or.inl ⟨by rfl, ?_⟩) ?_ ?_
                  rotate_left
                  · intro w'
                    go_simp
                    with_reducible rfl
                  rotate_left
                  · simp only [Act.put, List.setIfInBounds_toArray, List.set_cons_zero, List.set_cons_succ, i64_w, i32_w]
                    rfl
                  refine pure_ (i := 10) (N := some 84) (v := ?_) (a' := ?_) #[true, true, true, true, true, true, true, true, true, false, true, false, false, false, false, false, false, false, false, false, false, false, false, false, false, false, false, false, false, false, false, false, false, false, false, false, false, false, false, false, false, false, false, false, false, false, false] rfl rfl (any_of HT_.out (by kernel_rfl)) (fun _ _ _ h => h) (Or.inl ⟨by rfl, ?_⟩) ?_ ?_
                  rotate_left
                  · intro w'
                    go_simp
                    with_reducible rfl
                  rotate_left
                  · simp only [Act.put, List.setIfInBounds_toArray, List.set_cons_zero, List.set_cons_succ, i64_w, i32_w]
                    rfl
                  refine pure_ (i := 11) (N := some 85) (v := ?_) (a' := ?_) #[true, true, true, true, true, true, true, true, true, false, true, true, false, false, false, false, false, false, false, false, false, false, false, false, false, false, false, false, false, false, false, false, false, false, false, false, false, false, false, false, false, false, false, false, false, false, false] rfl rfl (any_of HT_.out (by kernel_rfl)) (fun _ _ _ h => h) (Or.inl ⟨by rfl, ?_⟩) ?_ ?_
                  rotate_left
                  · intro w'
                    go_simp
                    with_reducible rfl
                  rotate_left
                  · simp only [Act.put, List.setIfInBounds_toArray, List.set_cons_zero, List.set_cons_succ, i64_w, i32_w]
                    rfl
                  refine pure_ (i := 12) (N := some 86) (v := ?_) (a' := ?_) #[true, true, true, true, true, true, true, true, true, false, true, true, true, false, false, false, false, false, false, false, false, false, false, false, false, false, false, false, false, false, false, false, false, false, false, false, false, false, false, false, false, false, false, false, false, false, false] rfl rfl (any_of HT_.out (by kernel_rfl)) (fun _ _ _ h => h) (Or.inl ⟨by rfl, ?_⟩) ?_ ?_
                  rotate_left
                  · intro w'
                    go_simp
                    with_reducible rfl
                  rotate_left
                  · simp only [Act.put, List.setIfInBounds_toArray, List.set_cons_zero, List.set_cons_succ, i64_w, i32_w]
                    rfl
                  refine pure_ (i := 13) (N := some 87) (v := ?_) (a' := ?_) #[true, true, true, true, true, true, true, true, true, false, true, true, true, true, false, false, false, false, false, false, false, false, false, false, false, false, false, false, false, false, false, false, false, false, false, false, false, false, false, false, false, false, false, false, false, false, false] rfl rfl (any_of HT_.out (by kernel_rfl)) (fun _ _ _ h => h) (Or.inl ⟨by rfl, ?_⟩) ?_ ?_
                  rotate_left
                  · intro w'
                    go_simp
                    with_reducible rfl
                  rotate_left
                  · simp only [Act.put, List.setIfInBounds_toArray, List.set_cons_zero, List.set_cons_succ, i64_w, i32_w]
                    rfl
                  refine take_ (i := 9) (N := some 83) (v := ?_) (a' := ?_) #[true, true, true, true, true, true, true, true, true, true, true, true, true, true, false, false, false, false, false, false, false, false, false, false, false, false, false, false, false, false, false, false, false, false, false, false, false, false, false, false, false, false, false, false, false, false, false] rfl rfl (take_ofW HT_.out HW_.out (by kernel_rfl)) (fun _ _ _ h => h) (Or.inl ⟨by rfl, ?_⟩) hHeld ?_ ?_
                  rotate_left
                  · rintro w' ⟨s0, s1, s2, s3, s4, s5, s6, s7, s8, s9, s10, s11⟩
                    go_simp
                    with_reducible rfl
                  rotate_left
                  · simp only [Act.put, List.setIfInBounds_toArray, List.set_cons_zero, List.set_cons_succ, i64_w, i32_w]
                    rfl
                  refine one_ (i := 14) (N := some 88) #[true, true, true, true, true, true, true, true, true, true, true, true, true, true, true, false, false, false, false, false, false, false, false, false, false, false, false, false, false, false, false, false, false, false, false, false, false, false, false, false, false, false, false, false, false, false, false] rfl rfl (one_of HT_.out (by kernel_rfl)) (by decide) (fun K hK => ?_)
                  refine goes_ Tryd.func24 (by kernel_rfl) rfl #[.int .i64 (wrap64 (Go.bits .and .i32 (wrap32 ((a0) % 4294967296)) (wrap32 ((a1) % 4294967296))))] (by rfl) rfl rfl (by (try simp only [List.map_toArray, List.map_cons, List.map_nil]); first | done | rfl | (simp only [List.length_drop, List.length_take]; rfl)) ?_
                  with_reducible refine (shucklaw14_num.calls (wrap64 (Go.bits .and .i32 (wrap32 ((a0) % 4294967296)) (wrap32 ((a1) % 4294967296)))) t458 t459 t460 _ A22.out).mono ?_
                  rintro e w58 ⟨rfl, hb⟩
                  refine ⟨_, rfl, ?_⟩
                  have n0_ := Aside0.mk (blk_below (g := gb424) (o := .cells #[.int .i64 t419, .int .i64 t420, .string t421] 23 (0, 0)) (by (with_reducible repeat (first | refine blk_drewN ?_ _ | refine blk_drew ?_ | refine blk_alloc ?_ _)); exact BK424.out) hb)
                  have n1_ := Aside0.mk (blk_below (g := gb436) (o := .cells #[.int .i64 t431, .int .i64 t432, .string t433] 23 (0, 0)) (by (with_reducible repeat (first | refine blk_drewN ?_ _ | refine blk_drew ?_ | refine blk_alloc ?_ _)); exact BK436.out) hb)
                  have n2_ := Aside0.mk (blk_below (g := gb448) (o := .cells #[.int .i64 t443, .int .i64 t444, .string t445] 23 (0, 0)) (by (with_reducible repeat (first | refine blk_drewN ?_ _ | refine blk_drew ?_ | refine blk_alloc ?_ _)); exact BK448.out) hb)
                  have n3_ := Aside0.mk (blk_below (g := gb457) (o := .cells #[.int .i64 t452, .int .i64 t453, .string t454] 23 (0, 0)) (by (with_reducible repeat (first | refine blk_drewN ?_ _ | refine blk_drew ?_ | refine blk_alloc ?_ _)); exact BK457.out) hb)
                  have n4_ := Aside0.mk (below_step (by repeat (first | (with_reducible first | exact HB.out | apply below_alloc | apply pw_below_drewN | apply below_drew1 | refine below_set ?_ GE424.out | refine below_set ?_ GE436.out | refine below_set ?_ GE448.out | refine below_set ?_ GE457.out) | exact HB.out)) hb)
                  clear BK424
                  clear BK436
                  clear BK448
                  clear BK457
                  clear HB
                  have BK424 := n0_
                  have BK436 := n1_
                  have BK448 := n2_
                  have BK457 := n3_
                  have HB := n4_
                  clear n0_ n1_ n2_ n3_ n4_
                  (try clear hb)
                  (try clear hb2)
                  (try clear hk)
                  (try clear hi)
                  refine hK.out _ _ ⟨(blk_cell BK424.out 0).trans rfl, (blk_cell BK424.out 1).trans rfl, (blk_cell BK424.out 2).trans rfl, (blk_cell BK436.out 0).trans rfl, (blk_cell BK436.out 1).trans rfl, (blk_cell BK436.out 2).trans rfl, (blk_cell BK448.out 0).trans rfl, (blk_cell BK448.out 1).trans rfl, (blk_cell BK448.out 2).trans rfl, (blk_cell BK457.out 0).trans rfl, (blk_cell BK457.out 1).trans rfl, (blk_cell BK457.out 2).trans rfl⟩ (fun hHeld => ?_)
                  clear hK K
                  refine norm_ (a' := ?_) ?_ ?_
                  rotate_left
                  · show Act.put _ (some 88) _ = _
                    simp only [Act.put, List.setIfInBounds_toArray, List.set_cons_zero, List.set_cons_succ, i64_w, i32_w]
                    rfl
                  refine pure_ (i := 15) (N := some 89) (v := ?_) (a' := ?_) #[true, true, true, true, true, true, true, true, true, true, true, true, true, true, true, true, false, false, false, false, false, false, false, false, false, false, false, false, false, false, false, false, false, false, false, false, false, false, false, false, false, false, false, false, false, false, false] rfl rfl (any_of HT_.out (by kernel_rfl)) (fun _ _ _ h => h) (Or.inl ⟨by rfl, ?_⟩) ?_ ?_
                  rotate_left
                  · intro w'
                    go_simp
                    with_reducible rfl
                  rotate_left
                  · simp only [Act.put, List.setIfInBounds_toArray, List.set_cons_zero, List.set_cons_succ, i64_w, i32_w]
                    rfl
                  refine pure_ (i := 16) (N := some 90) (v := ?_) (a' := ?_) #[true, true, true, true, true, true, true, true, true, true, true, true, true, true, true, true, true, false, false, false, false, false, false, false, false, false, false, false, false, false, false, false, false, false, false, false, false, false, false, false, false, false, false, false, false, false, false] rfl rfl (any_of HT_.out (by kernel_rfl)) (fun _ _ _ h => h) (Or.inl ⟨by rfl, ?_⟩) ?_ ?_
                  rotate_left
                  · intro w'
                    go_simp
                    with_reducible rfl
                  rotate_left
                  · simp only [Act.put, List.setIfInBounds_toArray, List.set_cons_zero, List.set_cons_succ, i64_w, i32_w]
                    rfl
                  refine pure_ (i := 17) (N := some 91) (v := ?_) (a' := ?_) #[true, true, true, true, true, true, true, true, true, true, true, true, true, true, true, true, true, true, false, false, false, false, false, false, false, false, false, false, false, false, false, false, false, false, false, false, false, false, false, false, false, false, false, false, false, false, false] rfl rfl (any_of HT_.out (by kernel_rfl)) (fun _ _ _ h => h) (Or.inl ⟨by rfl, ?_⟩) ?_ ?_
                  rotate_left
                  · intro w'
                    go_simp
                    with_reducible rfl
                  rotate_left
                  · simp only [Act.put, List.setIfInBounds_toArray, List.set_cons_zero, List.set_cons_succ, i64_w, i32_w]
                    rfl
                  refine pure_ (i := 19) (N := some 93) (v := ?_) (a' := ?_) #[true, true, true, true, true, true, true, true, true, true, true, true, true, true, true, true, true, true, false, true, false, false, false, false, false, false, false, false, false, false, false, false, false, false, false, false, false, false, false, false, false, false, false, false, false, false, false] rfl rfl (any_of HT_.out (by kernel_rfl)) (fun _ _ _ h => h) (Or.inl ⟨by rfl, ?_⟩) ?_ ?_
                  rotate_left
                  · intro w'
                    go_simp
                    with_reducible rfl
                  rotate_left
                  · simp only [Act.put, List.setIfInBounds_toArray, List.set_cons_zero, List.set_cons_succ, i64_w, i32_w]
                    rfl
                  refine pure_ (i := 20) (N := some 94) (v := ?_) (a' := ?_) #[true, true, true, true, true, true, true, true, true, true, true, true, true, true, true, true, true, true, false, true, true, false, false, false, false, false, false, false, false, false, false, false, false, false, false, false, false, false, false, false, false, false, false, false, false, false, false] rfl rfl (any_of HT_.out (by kernel_rfl)) (fun _ _ _ h => h) (Or.inl ⟨by rfl, ?_⟩) ?_ ?_
                  rotate_left
                  · intro w'
                    go_simp
                    with_reducible rfl
                  rotate_left
                  · simp only [Act.put, List.setIfInBounds_toArray, List.set_cons_zero, List.set_cons_succ, i64_w, i32_w]
                    rfl
                  refine pure_ (i := 21) (N := some 95) (v := ?_) (a' := ?_) #[true, true, true, true, true, true, true, true, true, true, true, true, true, true, true, true, true, true, false, true, true, true, false, false, false, false, false, false, false, false, false, false, false, false, false, false, false, false, false, false, false, false, false, false, false, false, false] rfl rfl (any_of HT_.out (by kernel_rfl)) (fun _ _ _ h => h) (Or.inl ⟨by rfl, ?_⟩) ?_ ?_
                  rotate_left
                  · intro w'
                    go_simp
                    with_reducible rfl
                  rotate_left
                  · simp only [Act.put, List.setIfInBounds_toArray, List.set_cons_zero, List.set_cons_succ, i64_w, i32_w]
                    rfl
                  refine pure_ (i := 22) (N := some 96) (v := ?_) (a' := ?_) #[true, true, true, true, true, true, true, true, true, true, true, true, true, true, true, true, true, true, false, true, true, true, true, false, false, false, false, false, false, false, false, false, false, false, false, false, false, false, false, false, false, false, false, false, false, false, false] rfl rfl (any_of HT_.out (by kernel_rfl)) (fun _ _ _ h => h) (Or.inl ⟨by rfl, ?_⟩) ?_ ?_
                  rotate_left
                  · intro w'
                    go_simp
                    with_reducible rfl
                  rotate_left
                  · simp only [Act.put, List.setIfInBounds_toArray, List.set_cons_zero, List.set_cons_succ, i64_w, i32_w]
                    rfl
                  refine take_ (i := 18) (N := some 92) (v := ?_) (a' := ?_) #[true, true, true, true, true, true, true, true, true, true, true, true, true, true, true, true, true, true, true, true, true, true, true, false, false, false, false, false, false, false, false, false, false, false, false, false, false, false, false, false, false, false, false, false, false, false, false] rfl rfl (take_ofW HT_.out HW_.out (by kernel_rfl)) (fun _ _ _ h => h) (Or.inl ⟨by rfl, ?_⟩) hHeld ?_ ?_
                  rotate_left
                  · rintro w' ⟨s0, s1, s2, s3, s4, s5, s6, s7, s8, s9, s10, s11⟩
                    go_simp
                    with_reducible rfl
                  rotate_left
                  · simp only [Act.put, List.setIfInBounds_toArray, List.set_cons_zero, List.set_cons_succ, i64_w, i32_w]
                    rfl
                  refine one_ (i := 23) (N := some 97) #[true, true, true, true, true, true, true, true, true, true, true, true, true, true, true, true, true, true, true, true, true, true, true, true, false, false, false, false, false, false, false, false, false, false, false, false, false, false, false, false, false, false, false, false, false, false, false] rfl rfl (one_of HT_.out (by kernel_rfl)) (by decide) (fun K hK => ?_)
                  refine goes_ Tryd.func24 (by kernel_rfl) rfl #[.int .i64 (wrap64 (Go.bits .or .i32 (wrap32 ((a0) % 4294967296)) (wrap32 ((a1) % 4294967296))))] (by rfl) rfl rfl (by (try simp only [List.map_toArray, List.map_cons, List.map_nil]); first | done | rfl | (simp only [List.length_drop, List.length_take]; rfl)) ?_
                  with_reducible refine (shucklaw14_num.calls (wrap64 (Go.bits .or .i32 (wrap32 ((a0) % 4294967296)) (wrap32 ((a1) % 4294967296)))) t461 t462 t463 _ A24.out).mono ?_
                  rintro e w59 ⟨rfl, hb⟩
                  refine ⟨_, rfl, ?_⟩
                  have n0_ := Aside0.mk (blk_below (g := gb424) (o := .cells #[.int .i64 t419, .int .i64 t420, .string t421] 23 (0, 0)) (by (with_reducible repeat (first | refine blk_drewN ?_ _ | refine blk_drew ?_ | refine blk_alloc ?_ _)); exact BK424.out) hb)
                  have n1_ := Aside0.mk (blk_below (g := gb436) (o := .cells #[.int .i64 t431, .int .i64 t432, .string t433] 23 (0, 0)) (by (with_reducible repeat (first | refine blk_drewN ?_ _ | refine blk_drew ?_ | refine blk_alloc ?_ _)); exact BK436.out) hb)
                  have n2_ := Aside0.mk (blk_below (g := gb448) (o := .cells #[.int .i64 t443, .int .i64 t444, .string t445] 23 (0, 0)) (by (with_reducible repeat (first | refine blk_drewN ?_ _ | refine blk_drew ?_ | refine blk_alloc ?_ _)); exact BK448.out) hb)
                  have n3_ := Aside0.mk (blk_below (g := gb457) (o := .cells #[.int .i64 t452, .int .i64 t453, .string t454] 23 (0, 0)) (by (with_reducible repeat (first | refine blk_drewN ?_ _ | refine blk_drew ?_ | refine blk_alloc ?_ _)); exact BK457.out) hb)
                  have n4_ := Aside0.mk (below_step (by repeat (first | (with_reducible first | exact HB.out | apply below_alloc | apply pw_below_drewN | apply below_drew1 | refine below_set ?_ GE424.out | refine below_set ?_ GE436.out | refine below_set ?_ GE448.out | refine below_set ?_ GE457.out) | exact HB.out)) hb)
                  clear BK424
                  clear BK436
                  clear BK448
                  clear BK457
                  clear HB
                  have BK424 := n0_
                  have BK436 := n1_
                  have BK448 := n2_
                  have BK457 := n3_
                  have HB := n4_
                  clear n0_ n1_ n2_ n3_ n4_
                  (try clear hb)
                  (try clear hb2)
                  (try clear hk)
                  (try clear hi)
                  refine hK.out _ _ ⟨(blk_cell BK424.out 0).trans rfl, (blk_cell BK424.out 1).trans rfl, (blk_cell BK424.out 2).trans rfl, (blk_cell BK436.out 0).trans rfl, (blk_cell BK436.out 1).trans rfl, (blk_cell BK436.out 2).trans rfl, (blk_cell BK448.out 0).trans rfl, (blk_cell BK448.out 1).trans rfl, (blk_cell BK448.out 2).trans rfl, (blk_cell BK457.out 0).trans rfl, (blk_cell BK457.out 1).trans rfl, (blk_cell BK457.out 2).trans rfl⟩ (fun hHeld => ?_)
                  clear hK K
                  refine norm_ (a' := ?_) ?_ ?_
                  rotate_left
                  · show Act.put _ (some 97) _ = _
                    simp only [Act.put, List.setIfInBounds_toArray, List.set_cons_zero, List.set_cons_succ, i64_w, i32_w]
                    rfl
                  refine pure_ (i := 24) (N := some 98) (v := ?_) (a' := ?_) #[true, true, true, true, true, true, true, true, true, true, true, true, true, true, true, true, true, true, true, true, true, true, true, true, true, false, false, false, false, false, false, false, false, false, false, false, false, false, false, false, false, false, false, false, false, false, false] rfl rfl (any_of HT_.out (by kernel_rfl)) (fun _ _ _ h => h) (Or.inl ⟨by rfl, ?_⟩) ?_ ?_
                  rotate_left
                  · intro w'
                    go_simp
                    with_reducible rfl
                  rotate_left
                  · simp only [Act.put, List.setIfInBounds_toArray, List.set_cons_zero, List.set_cons_succ, i64_w, i32_w]
                    rfl
                  refine pure_ (i := 25) (N := some 99) (v := ?_) (a' := ?_) #[true, true, true, true, true, true, true, true, true, true, true, true, true, true, true, true, true, true, true, true, true, true, true, true, true, true, false, false, false, false, false, false, false, false, false, false, false, false, false, false, false, false, false, false, false, false, false] rfl rfl (any_of HT_.out (by kernel_rfl)) (fun _ _ _ h => h) (Or.inl ⟨by rfl, ?_⟩) ?_ ?_
                  rotate_left
                  · intro w'
                    go_simp
                    with_reducible rfl
                  rotate_left
                  · simp only [Act.put, List.setIfInBounds_toArray, List.set_cons_zero, List.set_cons_succ, i64_w, i32_w]
                    rfl
                  refine pure_ (i := 26) (N := some 100) (v := ?_) (a' := ?_) #[true, true, true, true, true, true, true, true, true, true, true, true, true, true, true, true, true, true, true, true, true, true, true, true, true, true, true, false, false, false, false, false, false, false, false, false, false, false, false, false, false, false, false, false, false, false, false] rfl rfl (any_of HT_.out (by kernel_rfl)) (fun _ _ _ h => h) (Or.inl ⟨by rfl, ?_⟩) ?_ ?_
                  rotate_left
                  · intro w'
                    go_simp
                    with_reducible rfl
                  rotate_left
                  · simp only [Act.put, List.setIfInBounds_toArray, List.set_cons_zero, List.set_cons_succ, i64_w, i32_w]
                    rfl
                  refine pure_ (i := 28) (N := some 102) (v := ?_) (a' := ?_) #[true, true, true, true, true, true, true, true, true, true, true, true, true, true, true, true, true, true, true, true, true, true, true, true, true, true, true, false, true, false, false, false, false, false, false, false, false, false, false, false, false, false, false, false, false, false, false] rfl rfl (any_of HT_.out (by kernel_rfl)) (fun _ _ _ h => h) (Or.inl ⟨by rfl, ?_⟩) ?_ ?_
                  rotate_left
                  · intro w'
                    go_simp
                    with_reducible rfl
                  rotate_left
                  · simp only [Act.put, List.setIfInBounds_toArray, List.set_cons_zero, List.set_cons_succ, i64_w, i32_w]
                    rfl
                  refine pure_ (i := 29) (N := some 103) (v := ?_) (a' := ?_) #[true, true, true, true, true, true, true, true, true, true, true, true, true, true, true, true, true, true, true, true, true, true, true, true, true, true, true, false, true, true, false, false, false, false, false, false, false, false, false, false, false, false, false, false, false, false, false] rfl rfl (any_of HT_.out (by kernel_rfl)) (fun _ _ _ h => h) (Or.inl ⟨by rfl, ?_⟩) ?_ ?_
                  rotate_left
                  · intro w'
                    go_simp
                    with_reducible rfl
                  rotate_left
                  · simp only [Act.put, List.setIfInBounds_toArray, List.set_cons_zero, List.set_cons_succ, i64_w, i32_w]
                    rfl
                  refine pure_ (i := 30) (N := some 104) (v := ?_) (a' := ?_) #[true, true, true, true, true, true, true, true, true, true, true, true, true, true, true, true, true, true, true, true, true, true, true, true, true, true, true, false, true, true, true, false, false, false, false, false, false, false, false, false, false, false, false, false, false, false, false] rfl rfl (any_of HT_.out (by kernel_rfl)) (fun _ _ _ h => h) (Or.inl ⟨by rfl, ?_⟩) ?_ ?_
                  rotate_left
                  · intro w'
                    go_simp
                    with_reducible rfl
                  rotate_left
                  · simp only [Act.put, List.setIfInBounds_toArray, List.set_cons_zero, List.set_cons_succ, i64_w, i32_w]
                    rfl
                  refine pure_ (i := 31) (N := some 105) (v := ?_) (a' := ?_) #[true, true, true, true, true, true, true, true, true, true, true, true, true, true, true, true, true, true, true, true, true, true, true, true, true, true, true, false, true, true, true, true, false, false, false, false, false, false, false, false, false, false, false, false, false, false, false] rfl rfl (any_of HT_.out (by kernel_rfl)) (fun _ _ _ h => h) (Or.inl ⟨by rfl, ?_⟩) ?_ ?_
                  rotate_left
                  · intro w'
                    go_simp
                    with_reducible rfl
                  rotate_left
                  · simp only [Act.put, List.setIfInBounds_toArray, List.set_cons_zero, List.set_cons_succ, i64_w, i32_w]
                    rfl
                  refine take_ (i := 27) (N := some 101) (v := ?_) (a' := ?_) #[true, true, true, true, true, true, true, true, true, true, true, true, true, true, true, true, true, true, true, true, true, true, true, true, true, true, true, true, true, true, true, true, false, false, false, false, false, false, false, false, false, false, false, false, false, false, false] rfl rfl (take_ofW HT_.out HW_.out (by kernel_rfl)) (fun _ _ _ h => h) (Or.inl ⟨by rfl, ?_⟩) hHeld ?_ ?_
                  rotate_left
                  · rintro w' ⟨s0, s1, s2, s3, s4, s5, s6, s7, s8, s9, s10, s11⟩
                    go_simp
                    with_reducible rfl
                  rotate_left
                  · simp only [Act.put, List.setIfInBounds_toArray, List.set_cons_zero, List.set_cons_succ, i64_w, i32_w]
                    rfl
                  refine one_ (i := 32) (N := some 106) #[true, true, true, true, true, true, true, true, true, true, true, true, true, true, true, true, true, true, true, true, true, true, true, true, true, true, true, true, true, true, true, true, true, false, false, false, false, false, false, false, false, false, false, false, false, false, false] rfl rfl (one_of HT_.out (by kernel_rfl)) (by decide) (fun K hK => ?_)
                  refine goes_ Tryd.func24 (by kernel_rfl) rfl #[.int .i64 (wrap64 (Go.bits .xor .i32 (wrap32 ((a0) % 4294967296)) (wrap32 ((a1) % 4294967296))))] (by rfl) rfl rfl (by (try simp only [List.map_toArray, List.map_cons, List.map_nil]); first | done | rfl | (simp only [List.length_drop, List.length_take]; rfl)) ?_
                  with_reducible refine (shucklaw14_num.calls (wrap64 (Go.bits .xor .i32 (wrap32 ((a0) % 4294967296)) (wrap32 ((a1) % 4294967296)))) t464 t465 t466 _ A26.out).mono ?_
                  rintro e w60 ⟨rfl, hb⟩
                  refine ⟨_, rfl, ?_⟩
                  have n0_ := Aside0.mk (blk_below (g := gb424) (o := .cells #[.int .i64 t419, .int .i64 t420, .string t421] 23 (0, 0)) (by (with_reducible repeat (first | refine blk_drewN ?_ _ | refine blk_drew ?_ | refine blk_alloc ?_ _)); exact BK424.out) hb)
                  have n1_ := Aside0.mk (blk_below (g := gb436) (o := .cells #[.int .i64 t431, .int .i64 t432, .string t433] 23 (0, 0)) (by (with_reducible repeat (first | refine blk_drewN ?_ _ | refine blk_drew ?_ | refine blk_alloc ?_ _)); exact BK436.out) hb)
                  have n2_ := Aside0.mk (blk_below (g := gb448) (o := .cells #[.int .i64 t443, .int .i64 t444, .string t445] 23 (0, 0)) (by (with_reducible repeat (first | refine blk_drewN ?_ _ | refine blk_drew ?_ | refine blk_alloc ?_ _)); exact BK448.out) hb)
                  have n3_ := Aside0.mk (blk_below (g := gb457) (o := .cells #[.int .i64 t452, .int .i64 t453, .string t454] 23 (0, 0)) (by (with_reducible repeat (first | refine blk_drewN ?_ _ | refine blk_drew ?_ | refine blk_alloc ?_ _)); exact BK457.out) hb)
                  have n4_ := Aside0.mk (below_step (by repeat (first | (with_reducible first | exact HB.out | apply below_alloc | apply pw_below_drewN | apply below_drew1 | refine below_set ?_ GE424.out | refine below_set ?_ GE436.out | refine below_set ?_ GE448.out | refine below_set ?_ GE457.out) | exact HB.out)) hb)
                  clear BK424
                  clear BK436
                  clear BK448
                  clear BK457
                  clear HB
                  have BK424 := n0_
                  have BK436 := n1_
                  have BK448 := n2_
                  have BK457 := n3_
                  have HB := n4_
                  clear n0_ n1_ n2_ n3_ n4_
                  (try clear hb)
                  (try clear hb2)
                  (try clear hk)
                  (try clear hi)
                  refine hK.out _ _ ⟨(blk_cell BK424.out 0).trans rfl, (blk_cell BK424.out 1).trans rfl, (blk_cell BK424.out 2).trans rfl, (blk_cell BK436.out 0).trans rfl, (blk_cell BK436.out 1).trans rfl, (blk_cell BK436.out 2).trans rfl, (blk_cell BK448.out 0).trans rfl, (blk_cell BK448.out 1).trans rfl, (blk_cell BK448.out 2).trans rfl, (blk_cell BK457.out 0).trans rfl, (blk_cell BK457.out 1).trans rfl, (blk_cell BK457.out 2).trans rfl⟩ (fun hHeld => ?_)
                  clear hK K
                  refine norm_ (a' := ?_) ?_ ?_
                  rotate_left
                  · show Act.put _ (some 106) _ = _
                    simp only [Act.put, List.setIfInBounds_toArray, List.set_cons_zero, List.set_cons_succ, i64_w, i32_w]
                    rfl
                  refine pure_ (i := 33) (N := some 107) (v := ?_) (a' := ?_) #[true, true, true, true, true, true, true, true, true, true, true, true, true, true, true, true, true, true, true, true, true, true, true, true, true, true, true, true, true, true, true, true, true, true, false, false, false, false, false, false, false, false, false, false, false, false, false] rfl rfl (any_of HT_.out (by kernel_rfl)) (fun _ _ _ h => h) (Or.inl ⟨by rfl, ?_⟩) ?_ ?_
                  rotate_left
                  · intro w'
                    go_simp
                    with_reducible rfl
                  rotate_left
                  · simp only [Act.put, List.setIfInBounds_toArray, List.set_cons_zero, List.set_cons_succ, i64_w, i32_w]
                    rfl
                  refine pure_ (i := 34) (N := some 108) (v := ?_) (a' := ?_) #[true, true, true, true, true, true, true, true, true, true, true, true, true, true, true, true, true, true, true, true, true, true, true, true, true, true, true, true, true, true, true, true, true, true, true, false, false, false, false, false, false, false, false, false, false, false, false] rfl rfl (any_of HT_.out (by kernel_rfl)) (fun _ _ _ h => h) (Or.inl ⟨by rfl, ?_⟩) ?_ ?_
                  rotate_left
                  · intro w'
                    go_simp
                    with_reducible rfl
                  rotate_left
                  · simp only [Act.put, List.setIfInBounds_toArray, List.set_cons_zero, List.set_cons_succ, i64_w, i32_w]
                    rfl
                  refine pure_ (i := 35) (N := some 109) (v := ?_) (a' := ?_) #[true, true, true, true, true, true, true, true, true, true, true, true, true, true, true, true, true, true, true, true, true, true, true, true, true, true, true, true, true, true, true, true, true, true, true, true, false, false, false, false, false, false, false, false, false, false, false] rfl rfl (any_of HT_.out (by kernel_rfl)) (fun _ _ _ h => h) (Or.inl ⟨by rfl, ?_⟩) ?_ ?_
                  rotate_left
                  · intro w'
                    go_simp
                    with_reducible rfl
                  rotate_left
                  · simp only [Act.put, List.setIfInBounds_toArray, List.set_cons_zero, List.set_cons_succ, i64_w, i32_w]
                    rfl
                  refine pure_ (i := 37) (N := some 111) (v := ?_) (a' := ?_) #[true, true, true, true, true, true, true, true, true, true, true, true, true, true, true, true, true, true, true, true, true, true, true, true, true, true, true, true, true, true, true, true, true, true, true, true, false, true, false, false, false, false, false, false, false, false, false] rfl rfl (any_of HT_.out (by kernel_rfl)) (fun _ _ _ h => h) (Or.inl ⟨by rfl, ?_⟩) ?_ ?_
                  rotate_left
                  · intro w'
                    go_simp
                    with_reducible rfl
                  rotate_left
                  · simp only [Act.put, List.setIfInBounds_toArray, List.set_cons_zero, List.set_cons_succ, i64_w, i32_w]
                    rfl
                  refine pure_ (i := 38) (N := some 112) (v := ?_) (a' := ?_) #[true, true, true, true, true, true, true, true, true, true, true, true, true, true, true, true, true, true, true, true, true, true, true, true, true, true, true, true, true, true, true, true, true, true, true, true, false, true, true, false, false, false, false, false, false, false, false] rfl rfl (any_of HT_.out (by kernel_rfl)) (fun _ _ _ h => h) (Or.inl ⟨by rfl, ?_⟩) ?_ ?_
                  rotate_left
                  · intro w'
                    go_simp
                    with_reducible rfl
                  rotate_left
                  · simp only [Act.put, List.setIfInBounds_toArray, List.set_cons_zero, List.set_cons_succ, i64_w, i32_w]
                    rfl
                  refine pure_ (i := 39) (N := some 113) (v := ?_) (a' := ?_) #[true, true, true, true, true, true, true, true, true, true, true, true, true, true, true, true, true, true, true, true, true, true, true, true, true, true, true, true, true, true, true, true, true, true, true, true, false, true, true, true, false, false, false, false, false, false, false] rfl rfl (any_of HT_.out (by kernel_rfl)) (fun _ _ _ h => h) (Or.inl ⟨by rfl, ?_⟩) ?_ ?_
                  rotate_left
                  · intro w'
                    go_simp
                    with_reducible rfl
                  rotate_left
                  · simp only [Act.put, List.setIfInBounds_toArray, List.set_cons_zero, List.set_cons_succ, i64_w, i32_w]
                    rfl
                  refine take_ (i := 36) (N := some 110) (v := ?_) (a' := ?_) #[true, true, true, true, true, true, true, true, true, true, true, true, true, true, true, true, true, true, true, true, true, true, true, true, true, true, true, true, true, true, true, true, true, true, true, true, true, true, true, true, false, false, false, false, false, false, false] rfl rfl (take_ofW HT_.out HW_.out (by kernel_rfl)) (fun _ _ _ h => h) (Or.inl ⟨by rfl, ?_⟩) hHeld ?_ ?_
                  rotate_left
                  · rintro w' ⟨s0, s1, s2, s3, s4, s5, s6, s7, s8, s9, s10, s11⟩
                    go_simp
                    with_reducible rfl
                  rotate_left
                  · simp only [Act.put, List.setIfInBounds_toArray, List.set_cons_zero, List.set_cons_succ, i64_w, i32_w]
                    rfl
                  refine one_ (i := 40) (N := some 114) #[true, true, true, true, true, true, true, true, true, true, true, true, true, true, true, true, true, true, true, true, true, true, true, true, true, true, true, true, true, true, true, true, true, true, true, true, true, true, true, true, true, false, false, false, false, false, false] rfl rfl (one_of HT_.out (by kernel_rfl)) (by decide) (fun K hK => ?_)
                  refine goes_ Tryd.func24 (by kernel_rfl) rfl #[.int .i64 (wrap64 (Go.bits .xor .i32 (-1) (wrap32 ((a0) % 4294967296))))] (by rfl) rfl rfl (by (try simp only [List.map_toArray, List.map_cons, List.map_nil]); first | done | rfl | (simp only [List.length_drop, List.length_take]; rfl)) ?_
                  with_reducible refine (shucklaw14_num.calls (wrap64 (Go.bits .xor .i32 (-1) (wrap32 ((a0) % 4294967296)))) t467 t468 t469 _ A28.out).mono ?_
                  rintro e w61 ⟨rfl, hb⟩
                  refine ⟨_, rfl, ?_⟩
                  have n0_ := Aside0.mk (blk_below (g := gb424) (o := .cells #[.int .i64 t419, .int .i64 t420, .string t421] 23 (0, 0)) (by (with_reducible repeat (first | refine blk_drewN ?_ _ | refine blk_drew ?_ | refine blk_alloc ?_ _)); exact BK424.out) hb)
                  have n1_ := Aside0.mk (blk_below (g := gb436) (o := .cells #[.int .i64 t431, .int .i64 t432, .string t433] 23 (0, 0)) (by (with_reducible repeat (first | refine blk_drewN ?_ _ | refine blk_drew ?_ | refine blk_alloc ?_ _)); exact BK436.out) hb)
                  have n2_ := Aside0.mk (blk_below (g := gb448) (o := .cells #[.int .i64 t443, .int .i64 t444, .string t445] 23 (0, 0)) (by (with_reducible repeat (first | refine blk_drewN ?_ _ | refine blk_drew ?_ | refine blk_alloc ?_ _)); exact BK448.out) hb)
                  have n3_ := Aside0.mk (blk_below (g := gb457) (o := .cells #[.int .i64 t452, .int .i64 t453, .string t454] 23 (0, 0)) (by (with_reducible repeat (first | refine blk_drewN ?_ _ | refine blk_drew ?_ | refine blk_alloc ?_ _)); exact BK457.out) hb)
                  have n4_ := Aside0.mk (below_step (by repeat (first | (with_reducible first | exact HB.out | apply below_alloc | apply pw_below_drewN | apply below_drew1 | refine below_set ?_ GE424.out | refine below_set ?_ GE436.out | refine below_set ?_ GE448.out | refine below_set ?_ GE457.out) | exact HB.out)) hb)
                  clear BK424
                  clear BK436
                  clear BK448
                  clear BK457
                  clear HB
                  have BK424 := n0_
                  have BK436 := n1_
                  have BK448 := n2_
                  have BK457 := n3_
                  have HB := n4_
                  clear n0_ n1_ n2_ n3_ n4_
                  (try clear hb)
                  (try clear hb2)
                  (try clear hk)
                  (try clear hi)
                  refine hK.out _ _ ⟨(blk_cell BK424.out 0).trans rfl, (blk_cell BK424.out 1).trans rfl, (blk_cell BK424.out 2).trans rfl, (blk_cell BK436.out 0).trans rfl, (blk_cell BK436.out 1).trans rfl, (blk_cell BK436.out 2).trans rfl, (blk_cell BK448.out 0).trans rfl, (blk_cell BK448.out 1).trans rfl, (blk_cell BK448.out 2).trans rfl, (blk_cell BK457.out 0).trans rfl, (blk_cell BK457.out 1).trans rfl, (blk_cell BK457.out 2).trans rfl⟩ (fun hHeld => ?_)
                  clear hK K
                  refine norm_ (a' := ?_) ?_ ?_
                  rotate_left
                  · show Act.put _ (some 114) _ = _
                    simp only [Act.put, List.setIfInBounds_toArray, List.set_cons_zero, List.set_cons_succ, i64_w, i32_w]
                    rfl
                  refine pure_ (i := 41) (N := some 115) (v := ?_) (a' := ?_) #[true, true, true, true, true, true, true, true, true, true, true, true, true, true, true, true, true, true, true, true, true, true, true, true, true, true, true, true, true, true, true, true, true, true, true, true, true, true, true, true, true, true, false, false, false, false, false] rfl rfl (any_of HT_.out (by kernel_rfl)) (fun _ _ _ h => h) (Or.inl ⟨by rfl, ?_⟩) ?_ ?_
                  rotate_left
                  · intro w'
                    go_simp
                    with_reducible rfl
                  rotate_left
                  · simp only [Act.put, List.setIfInBounds_toArray, List.set_cons_zero, List.set_cons_succ, i64_w, i32_w]
                    rfl
                  refine pure_ (i := 42) (N := some 116) (v := ?_) (a' := ?_) #[true, true, true, true, true, true, true, true, true, true, true, true, true, true, true, true, true, true, true, true, true, true, true, true, true, true, true, true, true, true, true, true, true, true, true, true, true, true, true, true, true, true, true, false, false, false, false] rfl rfl (any_of HT_.out (by kernel_rfl)) (fun _ _ _ h => h) (Or.inl ⟨by rfl, ?_⟩) ?_ ?_
                  rotate_left
                  · intro w'
                    go_simp
                    with_reducible rfl
                  rotate_left
                  · simp only [Act.put, List.setIfInBounds_toArray, List.set_cons_zero, List.set_cons_succ, i64_w, i32_w]
                    rfl
                  refine pure_ (i := 43) (N := some 117) (v := ?_) (a' := ?_) #[true, true, true, true, true, true, true, true, true, true, true, true, true, true, true, true, true, true, true, true, true, true, true, true, true, true, true, true, true, true, true, true, true, true, true, true, true, true, true, true, true, true, true, true, false, false, false] rfl rfl (any_of HT_.out (by kernel_rfl)) (fun _ _ _ h => h) (Or.inl ⟨by rfl, ?_⟩) ?_ ?_
                  rotate_left
                  · intro w'
                    go_simp
                    with_reducible rfl
                  rotate_left
                  · simp only [Act.put, List.setIfInBounds_toArray, List.set_cons_zero, List.set_cons_succ, i64_w, i32_w]
                    rfl
                  refine one_ (i := 44) (N := some 118) #[true, true, true, true, true, true, true, true, true, true, true, true, true, true, true, true, true, true, true, true, true, true, true, true, true, true, true, true, true, true, true, true, true, true, true, true, true, true, true, true, true, true, true, true, true, false, false] rfl rfl (one_of HT_.out (by kernel_rfl)) (by decide) (fun K hK => ?_)
                  refine goes_ Tryd.func13 (by kernel_rfl) rfl #[] (by rfl) rfl rfl (by (try simp only [List.map_toArray, List.map_cons, List.map_nil]); first | done | rfl | (simp only [List.length_drop, List.length_take]; rfl)) ?_
                  with_reducible refine (shucklaw14_known.calls kj2  t470 _ ?side1 A30.out).mono ?_
                  (case side1 => exact TabOk.of HT.out (by repeat (first | (with_reducible first | exact HB.out | apply below_alloc | apply pw_below_drewN | apply below_drew1 | refine below_set ?_ GE424.out | refine below_set ?_ GE436.out | refine below_set ?_ GE448.out | refine below_set ?_ GE457.out) | exact HB.out)))
                  rintro e w62 ⟨rfl, hb⟩
                  refine ⟨_, rfl, ?_⟩
                  have n0_ := Aside0.mk (blk_below (g := gb424) (o := .cells #[.int .i64 t419, .int .i64 t420, .string t421] 23 (0, 0)) (by (with_reducible repeat (first | refine blk_drewN ?_ _ | refine blk_drew ?_ | refine blk_alloc ?_ _)); exact BK424.out) hb)
                  have n1_ := Aside0.mk (blk_below (g := gb436) (o := .cells #[.int .i64 t431, .int .i64 t432, .string t433] 23 (0, 0)) (by (with_reducible repeat (first | refine blk_drewN ?_ _ | refine blk_drew ?_ | refine blk_alloc ?_ _)); exact BK436.out) hb)
                  have n2_ := Aside0.mk (blk_below (g := gb448) (o := .cells #[.int .i64 t443, .int .i64 t444, .string t445] 23 (0, 0)) (by (with_reducible repeat (first | refine blk_drewN ?_ _ | refine blk_drew ?_ | refine blk_alloc ?_ _)); exact BK448.out) hb)
                  have n3_ := Aside0.mk (blk_below (g := gb457) (o := .cells #[.int .i64 t452, .int .i64 t453, .string t454] 23 (0, 0)) (by (with_reducible repeat (first | refine blk_drewN ?_ _ | refine blk_drew ?_ | refine blk_alloc ?_ _)); exact BK457.out) hb)
                  have n4_ := Aside0.mk (below_step (by repeat (first | (with_reducible first | exact HB.out | apply below_alloc | apply pw_below_drewN | apply below_drew1 | refine below_set ?_ GE424.out | refine below_set ?_ GE436.out | refine below_set ?_ GE448.out | refine below_set ?_ GE457.out) | exact HB.out)) hb)
                  clear BK424
                  clear BK436
                  clear BK448
                  clear BK457
                  clear HB
                  have BK424 := n0_
                  have BK436 := n1_
                  have BK448 := n2_
                  have BK457 := n3_
                  have HB := n4_
                  clear n0_ n1_ n2_ n3_ n4_
                  (try clear hb)
                  (try clear hb2)
                  (try clear hk)
                  (try clear hi)
                  refine hK.out _ _ ⟨(blk_cell BK424.out 0).trans rfl, (blk_cell BK424.out 1).trans rfl, (blk_cell BK424.out 2).trans rfl, (blk_cell BK436.out 0).trans rfl, (blk_cell BK436.out 1).trans rfl, (blk_cell BK436.out 2).trans rfl, (blk_cell BK448.out 0).trans rfl, (blk_cell BK448.out 1).trans rfl, (blk_cell BK448.out 2).trans rfl, (blk_cell BK457.out 0).trans rfl, (blk_cell BK457.out 1).trans rfl, (blk_cell BK457.out 2).trans rfl⟩ (fun hHeld => ?_)
                  clear hK K
                  refine norm_ (a' := ?_) ?_ ?_
                  rotate_left
                  · show Act.put _ (some 118) _ = _
                    simp only [Act.put, List.setIfInBounds_toArray, List.set_cons_zero, List.set_cons_succ, i64_w, i32_w]
                    rfl
                  refine pure_ (i := 45) (N := some 119) (v := ?_) (a' := ?_) #[true, true, true, true, true, true, true, true, true, true, true, true, true, true, true, true, true, true, true, true, true, true, true, true, true, true, true, true, true, true, true, true, true, true, true, true, true, true, true, true, true, true, true, true, true, true, false] rfl rfl (any_of HT_.out (by kernel_rfl)) (fun _ _ _ h => h) (Or.inl ⟨by rfl, ?_⟩) ?_ ?_
                  rotate_left
                  · intro w'
                    go_simp
                    with_reducible rfl
                  rotate_left
                  · simp only [Act.put, List.setIfInBounds_toArray, List.set_cons_zero, List.set_cons_succ, i64_w, i32_w]
                    rfl
                  refine pure_ (i := 46) (N := some 4) (v := ?_) (a' := ?_) #[true, true, true, true, true, true, true, true, true, true, true, true, true, true, true, true, true, true, true, true, true, true, true, true, true, true, true, true, true, true, true, true, true, true, true, true, true, true, true, true, true, true, true, true, true, true, true] rfl rfl (any_of HT_.out (by kernel_rfl)) (fun _ _ _ h => h) (Or.inl ⟨by rfl, ?_⟩) ?_ ?_
                  rotate_left
                  · intro w'
                    go_simp
                    with_reducible rfl
                  rotate_left
                  · simp only [Act.put, List.setIfInBounds_toArray, List.set_cons_zero, List.set_cons_succ, i64_w, i32_w]
                    rfl
                  refine done_ (done_of HT_.out (by kernel_rfl)) ?_
                  try go_wp2
                  go_ret
                  exact ⟨by first | rfl | (simp [errW_none, errW_some] <;> rfl) | (simp [*, errW_none, errW_some] <;> rfl), by repeat (first | (with_reducible first | exact HB.out | apply below_alloc | apply pw_below_drewN | apply below_drew1 | refine below_set ?_ GE424.out | refine below_set ?_ GE436.out | refine below_set ?_ GE448.out | refine below_set ?_ GE457.out) | exact HB.out)⟩
                · rw [if_neg c29] at H
                  have c29b0 : (t452 == t467 && (t453 == t468 && (t454.toList == t469.toList))) = false := by simpa using c29
                  (try (have c29b1 : decide (t452 = t467 && (t453 == t468 && (t454.toList == t469.toList))) = false := by simpa using c29))
                  (try (have c29b2 : (t452 == t467 && (t453 == t468 && (t454.toList == t469.toList))) = false := by simpa using c29))
                  (try (have c29b3 : ¬ (t452 = t467 && (t453 == t468 && (t454.toList == t469.toList))) := by simpa using c29))
                  clear c29
                  exact absurd ((Option.some.inj H).trans hr) (by decide)
              · rw [if_neg c27] at H
                have c27b0 : (t443 == t464 && (t444 == t465 && (t445.toList == t466.toList))) = false := by simpa using c27
                (try (have c27b1 : decide (t443 = t464 && (t444 == t465 && (t445.toList == t466.toList))) = false := by simpa using c27))
                (try (have c27b2 : (t443 == t464 && (t444 == t465 && (t445.toList == t466.toList))) = false := by simpa using c27))
                (try (have c27b3 : ¬ (t443 = t464 && (t444 == t465 && (t445.toList == t466.toList))) := by simpa using c27))
                clear c27
                exact absurd ((Option.some.inj H).trans hr) (by decide)
            · rw [if_neg c25] at H
              have c25b0 : (t431 == t461 && (t432 == t462 && (t433.toList == t463.toList))) = false := by simpa using c25
              (try (have c25b1 : decide (t431 = t461 && (t432 == t462 && (t433.toList == t463.toList))) = false := by simpa using c25))
              (try (have c25b2 : (t431 == t461 && (t432 == t462 && (t433.toList == t463.toList))) = false := by simpa using c25))
              (try (have c25b3 : ¬ (t431 = t461 && (t432 == t462 && (t433.toList == t463.toList))) := by simpa using c25))
              clear c25
              exact absurd ((Option.some.inj H).trans hr) (by decide)
          · rw [if_neg c23] at H
            have c23b0 : (t419 == t458 && (t420 == t459 && (t421.toList == t460.toList))) = false := by simpa using c23
            (try (have c23b1 : decide (t419 = t458 && (t420 == t459 && (t421.toList == t460.toList))) = false := by simpa using c23))
            (try (have c23b2 : (t419 == t458 && (t420 == t459 && (t421.toList == t460.toList))) = false := by simpa using c23))
            (try (have c23b3 : ¬ (t419 = t458 && (t420 == t459 && (t421.toList == t460.toList))) := by simpa using c23))
            clear c23
            exact absurd ((Option.some.inj H).trans hr) (by decide)
        · rw [if_neg c21] at H
          have c21b0 : ((wrap64 ((wrap64 ((wrap64 (t423 + t435)) + t447)) + t456)) == 0) = false := beq_eq_false_iff_ne.mpr c21
          have c21b1 : ((wrap64 ((wrap64 ((wrap64 (t423 + t435)) + t447)) + t456)) != 0) = true := bne_iff_ne.mpr c21
          exact absurd ((Option.some.inj H).trans hr) (by decide)
end Go.Proofs.YtceahnhpeadkoaaDoor.V
