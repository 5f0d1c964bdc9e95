/- The plain law of ValueTurns. -/
import Derived.Test.YtceahnhpeadkoaaDoorHu
import Derived.Test.YtceahnhpeadkoaaDoorLxTurns
namespace Go.Proofs.YtceahnhpeadkoaaDoor.V
open Go Go.RowKit Go.Proofs.YtceahnhpeadkoaaDoorW.PrintWords Go.Proofs.YtceahnhpeadkoaaDoorW.PrintLast Go.Proofs.YtceahnhpeadkoaaDoorW.PrintMore
set_option linter.unusedVariables false
set_option linter.unusedSimpArgs false
theorem turns_law (a b : Int) : shucklaw14_ValueTurns.f 4 a b = some true := by
  have out : shucklaw14_ValueTurns.j0 4 a b true = some true := by simp [shucklaw14_ValueTurns.j0, shucklaw14_known.f]
  unfold shucklaw14_ValueTurns.f
  by_cases a1 : a > 9007199254740991
  · rw [if_pos a1, out]
  by_cases a0 : a < -9007199254740991
  · rw [if_neg a1, if_pos a0, out]
  by_cases b1 : b > 9007199254740991
  · rw [if_neg a1, if_neg a0, if_pos b1, out]
  by_cases b0 : b < -9007199254740991
  · rw [if_neg a1, if_neg a0, if_neg b1, decide_eq_true b0, out]
  rw [if_neg a1, if_neg a0, if_neg b1, decide_eq_false b0]
  have hs := bin_add a b ⟨#[]⟩ ⟨#[]⟩ (by omega) (by omega) (by omega) (by omega)
  have ht := bin_add b a ⟨#[]⟩ ⟨#[]⟩ (by omega) (by omega) (by omega) (by omega)
  have hw : wrap64 (a + b) = a + b := by unfold wrap64; omega
  simp only [shucklaw14_ValueTurns.j0, Bool.false_eq_true, if_false]
  rw [hs, ht, Option.bind_some, Option.bind_some, show b + a = a + b by omega]
  by_cases h : a + b > 9007199254740991 ∨ a + b < -9007199254740991
  · rw [exactO h]
    simp only [shucklaw14_ValueTurns.j1, hw]
    rcases h with h | h
    · simp [h, shucklaw14_known.f]
    · simp [h, shucklaw14_known.f, show ¬ (9007199254740991 < a + b) by omega]
  · rw [exactT (by omega) (by omega)]
    have hm := bin_arith ⟨#[45]⟩ (fun a b => (wrap64 (a - b), true)) (a + b) b ⟨#[]⟩ ⟨#[]⟩ (by omega) (by omega) (by omega) (by omega) (by simp [numF]) (by simp) (by simp) (by simp)
    have hw2 : wrap64 (a + b - b) = a := by unfold wrap64; omega
    have hn := neg_P 1 a ⟨#[]⟩ (by omega) (by omega)
    have hn2 := neg_P 1 (-a) ⟨#[]⟩ (by omega) (by omega)
    rw [Int.neg_neg] at hn2
    simp only [hw2] at hm
    rw [exactT (by omega) (by omega)] at hm
    simp [shucklaw14_ValueTurns.j1, hw, hm, hn, hn2, shucklaw14_known.f]
end Go.Proofs.YtceahnhpeadkoaaDoor.V
