/- The plain law of ValueDivides. -/
import Derived.Test.YtceahnhpeadkoaaDoorHu
import Derived.Test.YtceahnhpeadkoaaDoorLxDivides
namespace Go.Proofs.YtceahnhpeadkoaaDoor.V
open Go Go.RowKit Go.Proofs.YtceahnhpeadkoaaDoorW.PrintWords Go.Proofs.YtceahnhpeadkoaaDoorW.PrintLast Go.Proofs.YtceahnhpeadkoaaDoorW.PrintMore
set_option linter.unusedVariables false
set_option linter.unusedSimpArgs false
theorem d_facts (a b : Int) (hb : b ≠ 0) : (Int.tmod a b).natAbs < b.natAbs ∧ (0 ≤ a → 0 ≤ Int.tmod a b) ∧ (a ≤ 0 → Int.tmod a b ≤ 0) ∧ Int.tmod (a - Int.tmod a b) b = 0 := by
  refine ⟨?_, ?_, ?_, ?_⟩
  · rw [Int.natAbs_tmod]
    exact Nat.mod_lt _ (by omega)
  · exact fun h => Int.tmod_nonneg b h
  · intro h
    have := Int.tmod_nonneg b (show 0 ≤ -a by omega)
    rw [Int.neg_tmod] at this
    omega
  · have h := Int.mul_tdiv_add_tmod a b
    have : a - Int.tmod a b = b * Int.tdiv a b := by omega
    rw [this, Int.mul_tmod_right]
theorem divides_law (a b : Int) : shucklaw14_ValueDivides.f 4 a b = some true := by
  have out : shucklaw14_ValueDivides.j0 4 a b true = some true := by simp [shucklaw14_ValueDivides.j0, shucklaw14_known.f]
  unfold shucklaw14_ValueDivides.f
  by_cases a1 : a > 9007199254740991
  · rw [if_pos a1, out]
  by_cases a0 : a < -9007199254740991
  · rw [if_neg a1, if_pos a0, out]
  by_cases b1 : b > 9007199254740991
  · rw [if_neg a1, if_neg a0, if_pos b1, out]
  by_cases b0 : b < -9007199254740991
  · rw [if_neg a1, if_neg a0, if_neg b1, decide_eq_true b0, out]
  rw [if_neg a1, if_neg a0, if_neg b1, decide_eq_false b0]
  have hn : ∀ x : Int, shucklaw14_num.f x = some (3, x, ⟨#[]⟩) := fun _ => rfl
  have h1 := bin_arith ⟨#[37]⟩ (fun a b => if b = 0 then (0, false) else (Int.tmod a b, true)) a b ⟨#[]⟩ ⟨#[]⟩ (by omega) (by omega) (by omega) (by omega) (by simp [numF]) (by simp) (by simp) (by simp)
  simp only [shucklaw14_ValueDivides.j0, Bool.false_eq_true, if_false, hn, h1, Option.bind_some]
  by_cases hb : b = 0
  · simp [hb, exactV, shucklaw14_known.f]
  · obtain ⟨f1, f2, f3, f4⟩ := d_facts a b hb
    rw [if_neg hb, if_neg hb]
    generalize Int.tmod a b = r at f1 f2 f3 f4
    rw [exactT (by omega) (by omega)]
    have w1 : wrap64 (a - r) = a - r := by unfold wrap64; omega
    have w2 : wrap64 (-r) = -r := by unfold wrap64; omega
    have w3 : mx b (wrap64 (-b)) = (b.natAbs : Int) := by
      have : wrap64 (-b) = -b := by unfold wrap64; omega
      rw [this]
      unfold mx
      split <;> omega
    simp only [w1, w2, w3, f4, if_true, shucklaw14_known.f, Option.bind_some]
    have e : (decide (r < 0) == decide (a < 0)) = true ∨ r = 0 := by
      by_cases r0 : r = 0
      · exact .inr r0
      · left
        by_cases ha : a < 0
        · simp [ha, show r < 0 by omega]
        · simp [ha, show ¬ r < 0 by omega]
    by_cases r0 : r = 0
    · rw [if_pos r0, if_neg (by omega), if_pos (by omega), if_neg (by omega), if_pos (by omega)]
    · rw [if_neg r0, if_pos (by rcases e with e | e; exact e; exact absurd e r0)]
      by_cases rn : r < 0
      · rw [if_pos rn, if_neg (by omega), if_pos (by omega)]
      · rw [if_neg rn, if_pos (by omega), if_pos (by omega)]
end Go.Proofs.YtceahnhpeadkoaaDoor.V
