/- Plain law: value.Unary is the reference's. -/
import Derived.Test.YtceahnhpeadkoaaDoorUx7
namespace Go.Proofs.YtceahnhpeadkoaaDoor.V
open Go.RowKit Go.Proofs.YtceahnhpeadkoaaDoorW.PrintWords Go.Proofs.YtceahnhpeadkoaaDoorW.PrintLast Go.Proofs.YtceahnhpeadkoaaDoorW.PrintMore

theorem sane_P (j : Nat) (k n : Int) (s : ByteArray) : shuckref14_Sane.f (j + 1) k n s = some (plainP k n s) := by
  unfold shuckref14_Sane.f plainP
  by_cases h1 : k = 1
  · subst h1; simp [shuckref14_Sane.j0]
  · by_cases h0 : k = 0
    · subst h0; simp [shuckref14_Sane.j0]
    · have e0 : (k == 0) = false := by simp [h0]
      rw [if_neg h1, e0]
      simp only [shuckref14_Sane.j0]
      by_cases h2 : k = 2
      · subst h2
        by_cases hn : n = 0
        · subst hn; simp [shuckref14_Bool.f]
        · simp [shuckref14_Bool.f, hn]
      · by_cases h3 : k = 3
        · subst h3
          unfold clampP
          by_cases g1 : n > 9007199254740991
          · simp [shuckref14_Number.f, g1]
          · by_cases g2 : n < -9007199254740991
            · have g3 : ¬ 9007199254740991 < n := g1
              simp [shuckref14_Number.f, g2, g3]
            · have g3 : ¬ 9007199254740991 < n := g1
              simp [shuckref14_Number.f, g2, g3]
        · by_cases h4 : k = 4
          · subst h4; simp [shuckref14_String.f]
          · by_cases h5 : k = 5
            · subst h5; simp
            · simp [h1, h2, h3, h4, h5]
theorem rtruth_P (j : Nat) (k n : Int) (s : ByteArray) : shuckref14_Truth.f (j + 1) k n s = some (truthP (plainP k n s).1 (plainP k n s).2.1 (plainP k n s).2.2) := by
  unfold shuckref14_Truth.f
  rw [sane_P, Option.bind_some]
  have hk := plainP_kinds k n s
  generalize (plainP k n s).1 = K at hk
  generalize (plainP k n s).2.1 = N
  generalize (plainP k n s).2.2 = S
  unfold truthP
  rcases hk with rfl | rfl | rfl | rfl | rfl | rfl <;> simp [shuckref14_Truth.j0]

/-- What an operator of one value answers. -/
def unaryP (op : List UInt8) (k n : Int) (s : ByteArray) : V5 :=
  if op = [33] then doneB (!truthP k n s)
  else if op = [45] ∨ op = [126] then (if k = 3 then (if op = [126] then (3, -lowI n - 1, ⟨#[]⟩, ⟨#[]⟩, 0) else (3, wrap64 (-n), ⟨#[]⟩, ⟨#[]⟩, 0)) else throwV noNumber)
  else (0, 0, ⟨#[]⟩, ⟨#[]⟩, 0)
theorem unary_P (j : Nat) (op : ByteArray) (k n : Int) (s : ByteArray) : value_Unary.f (j + 1) op k n s = some (unaryP op.toList (plainP k n s).1 (plainP k n s).2.1 (plainP k n s).2.2) := by
  unfold value_Unary.f
  rw [plain_P, Option.bind_some, truth_P, plainP_idem]
  generalize (plainP k n s).1 = K
  generalize (plainP k n s).2.1 = N
  generalize (plainP k n s).2.2 = S
  unfold unaryP
  by_cases o1 : op.toList = [33]
  · rw [if_pos o1, if_pos o1]
    cases truthP K N S <;> rfl
  · rw [if_neg o1, if_neg o1]
    have hl := lowI_eq N
    have hx := xor_not (lowI N) (by omega) (by omega)
    by_cases o2 : op.toList = [45]
    · by_cases h3 : K = 3
      · subst h3
        simp [value_Unary.j0, o2, value_number.f, value_done.f]
      · simp [value_Unary.j0, o2, h3, value_throws.f, throwV, noNumber]
    · by_cases o3 : op.toList = [126]
      · by_cases h3 : K = 3
        · subst h3
          have hlow : value_low.f N = some (lowI N) := rfl
          simp [value_Unary.j0, o3, hlow, value_number.f, value_done.f, hx]
        · simp [value_Unary.j0, o3, h3, value_throws.f, throwV, noNumber]
      · have e3 : (op.toList == [126]) = false := by simp [o3]
        simp [value_Unary.j0, o2, o3, value_done.f]
theorem runary_P (j : Nat) (op : ByteArray) (k n : Int) (s : ByteArray) : shuckref14_Unary.f (j + 1) op k n s = some (unaryP op.toList (plainP k n s).1 (plainP k n s).2.1 (plainP k n s).2.2) := by
  unfold shuckref14_Unary.f
  rw [sane_P, Option.bind_some, rtruth_P, plainP_idem]
  generalize (plainP k n s).1 = K
  generalize (plainP k n s).2.1 = N
  generalize (plainP k n s).2.2 = S
  unfold unaryP
  by_cases o1 : op.toList = [33]
  · rw [if_pos o1, if_pos o1]
    cases truthP K N S <;> rfl
  · rw [if_neg o1, if_neg o1]
    have hl := lowI_eq N
    have hx := not_eq N
    rw [xor_not (lowI N) (by omega) (by omega)] at hx
    by_cases o2 : op.toList = [45]
    · by_cases h3 : K = 3
      · subst h3
        simp [shuckref14_Unary.j0, o2, shuckref14_Number.f]
      · simp [shuckref14_Unary.j0, o2, h3, shuckref14_Throw.f, throwV, noNumber]
    · by_cases o3 : op.toList = [126]
      · by_cases h3 : K = 3
        · subst h3
          simp [shuckref14_Unary.j0, o3, shuckref14_low.f, shuckref14_signed.f, shuckref14_Number.f, ← hx]
        · simp [shuckref14_Unary.j0, o3, h3, shuckref14_Throw.f, throwV, noNumber]
      · simp [shuckref14_Unary.j0, o2, o3]
end Go.Proofs.YtceahnhpeadkoaaDoor.V
