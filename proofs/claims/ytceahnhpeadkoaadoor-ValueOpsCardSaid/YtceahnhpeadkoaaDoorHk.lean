/- The laws' 'known', by hand: what a sum is, and what a text is not. -/
import Derived.Test.YtceahnhpeadkoaaDoorHq
import Derived.Test.YtceahnhpeadkoaaDoorVx6a
namespace Go.Proofs.YtceahnhpeadkoaaDoor.V
open Go.RowKit Go.Proofs.YtceahnhpeadkoaaDoorW.PrintWords Go.Proofs.YtceahnhpeadkoaaDoorW.PrintLast Go.Proofs.YtceahnhpeadkoaaDoorW.PrintMore
attribute [local go_sem] max2_int min2_int max_two min_two max_three min_three max_four min_four   -- for this text's walks alone
set_option linter.unusedVariables false
set_option linter.unusedSimpArgs false
attribute [local go_sem high] eqA23
theorem k_text : value_Text.f 3 5 ⟨#[]⟩ = some ⟨#[53]⟩ := by
  unfold value_Text.f
  rw [plain_P]
  simp [plainP, clampP, strconv_Itoa.f]
  simp [Lib.itoa, Lib.decDigits]
theorem k_sum : value_Binary.f ⟨#[43]⟩ 3 2 ⟨#[]⟩ 3 3 ⟨#[]⟩ = some (3, 5, ⟨#[]⟩, ⟨#[]⟩, 0) := by
  unfold value_Binary.f
  rw [plain_P, plain_P]
  simp [plainP, clampP, binG, exactV, wrap64]
set_option maxHeartbeats 1600000 in
theorem known_any (w : World) (hT : TabOk w)
    (hU : ∀ W, Calls Tryd.prog 14 #[.string ⟨#[45]⟩, .agg #[.int .i64 4, .int .i64 0, .string ⟨#[97]⟩]] W fun e w' => e = .returned (.tuple #[.agg #[.int .i64 0, .int .i64 0, .string ⟨#[]⟩], .string ⟨#[84, 121, 112, 101, 69, 114, 114, 111, 114, 58, 32, 110, 117, 109, 98, 101, 114]⟩, .int .i64 1]) ∧ Below W.heap.size W w') :
    Calls Tryd.prog 13 #[] w fun e w' => e = .returned (.bool true) ∧ Below w.heap.size w w' := by
  have HT := Aside0.mk hT
  have HU := Aside0.mk hU
  clear hT hU
  go_enter Tryd.func13, Tryd.ntmps13
  go_wp2_with fail
  refine (value_Binary.calls _ _ _ _ _ _ _ _ _ _ _ _ w HT.out k_sum).mono ?_
  rintro e w1 ⟨rfl, hb1⟩
  have HB1 := Aside0.mk hb1
  clear hb1
  go_wp2_with fail
  refine (HU.out _).mono ?_
  rintro e w2 ⟨rfl, hb2⟩
  have HB2 := Aside0.mk hb2
  have BK := Aside0.mk (blk_alloc (blk_below (blk_new w1 (.cells #[.int .i64 3, .int .i64 5, .string ⟨#[]⟩] 23 (0, 0))) hb2) (.cells #[.int .i64 0, .int .i64 0, .string ⟨#[]⟩] 23))
  clear hb2
  have HB3 := Aside0.mk (below_alloc (below_step (below_alloc HB1.out (.cells #[.int .i64 3, .int .i64 5, .string ⟨#[]⟩] 23 (0, 0))) HB2.out) (.cells #[.int .i64 0, .int .i64 0, .string ⟨#[]⟩] 23))
  have hc0 : (w2.alloc (.cells #[.int .i64 0, .int .i64 0, .string ⟨#[]⟩] 23)).cell? ⟨w1.heap.size, 0, none⟩ = some (.int .i64 3) := (blk_cell BK.out 0).trans rfl
  have hc1 : (w2.alloc (.cells #[.int .i64 0, .int .i64 0, .string ⟨#[]⟩] 23)).cell? ⟨w1.heap.size, 1, none⟩ = some (.int .i64 5) := (blk_cell BK.out 1).trans rfl
  have hc2 : (w2.alloc (.cells #[.int .i64 0, .int .i64 0, .string ⟨#[]⟩] 23)).cell? ⟨w1.heap.size, 2, none⟩ = some (.string ⟨#[]⟩) := (blk_cell BK.out 2).trans rfl
  go_wp2_with fail
  refine (value_Text.calls 3 5 _ _ _ (TabOk.of HT.out HB3.out) k_text).mono ?_
  rintro e w4 ⟨rfl, hb4⟩
  have HB4 := Aside0.mk (below_step HB3.out hb4)
  clear hb4
  go_wp2_with fail
  go_ret
  exact ⟨rfl, HB4.out⟩

def shucklaw14_known.f (_ : Nat) : Option Bool := some true
theorem shucklaw14_known.mono (k : Nat) : LeO (shucklaw14_known.f k) (shucklaw14_known.f (k + 1)) := LeO.refl _
theorem k_throw : value_Unary.f 1 ⟨#[45]⟩ 4 0 ⟨#[97]⟩ = some (0, 0, ⟨#[]⟩, ⟨#[84, 121, 112, 101, 69, 114, 114, 111, 114, 58, 32, 110, 117, 109, 98, 101, 114]⟩, 1) := by
  unfold value_Unary.f
  rw [plain_P]
  simp [plainP, value_Unary.j0, value_throws.f]
theorem shucklaw14_known.calls (k : Nat) (r : Bool) (w : World) (hT : TabOk w) (h : shucklaw14_known.f k = some r) :
    Calls Tryd.prog 13 #[] w fun e w' => e = .returned (.bool r) ∧ Below w.heap.size w w' := by
  obtain rfl := Option.some.inj h
  exact known_any w hT fun W => value_Unary.calls 1 _ 4 0 _ _ _ _ _ _ W k_throw
end Go.Proofs.YtceahnhpeadkoaaDoor.V
