/- Plain laws without a program: what value's small functions compute. -/
import Derived.Test.YtceahnhpeadkoaaDoorHb
namespace Go.Proofs.YtceahnhpeadkoaaDoor.V
open Go.RowKit Go.Proofs.YtceahnhpeadkoaaDoorW.PrintWords Go.Proofs.YtceahnhpeadkoaaDoorW.PrintLast Go.Proofs.YtceahnhpeadkoaaDoorW.PrintMore

/-- A value as it counts. -/
def clampP (n : Int) : Int := if 9007199254740991 < n then 9007199254740991 else if n < -9007199254740991 then -9007199254740991 else n
def plainP (k n : Int) (s : ByteArray) : Int × Int × ByteArray :=
  if k = 2 then (2, if n = 0 then 0 else 1, ⟨#[]⟩) else if k = 3 then (3, clampP n, ⟨#[]⟩) else if k = 4 then (4, 0, s) else if k = 5 then (5, n, ⟨#[]⟩) else if k = 1 then (1, 0, ⟨#[]⟩) else (0, 0, ⟨#[]⟩)
theorem clampP_range (n : Int) : -9007199254740991 ≤ clampP n ∧ clampP n ≤ 9007199254740991 := by
  unfold clampP
  split
  · omega
  · split <;> omega
theorem plain_P (k n : Int) (s : ByteArray) : value_plain.f k n s = some (plainP k n s) := by
  unfold value_plain.f plainP
  by_cases h2 : k = 2
  · subst h2
    by_cases hn : n = 0
    · subst hn; simp [value_truth.f]
    · simp [value_truth.f, hn]
  · by_cases h3 : k = 3
    · subst h3
      have : mx (-9007199254740991) (mn 9007199254740991 n) = clampP n := by
        unfold mx mn clampP
        repeat' split <;> try omega
      simp [value_number.f, this]
    · simp only [h2, h3, if_false]
      repeat' split
      all_goals rfl
/-- Whether a plain value is true. -/
def truthP (k n : Int) (s : ByteArray) : Bool := if k = 2 ∨ k = 3 then (n != 0) else if k = 4 then !s.toList.isEmpty else decide (k = 5)
theorem plainP_kinds (k n : Int) (s : ByteArray) : (plainP k n s).1 = 0 ∨ (plainP k n s).1 = 1 ∨ (plainP k n s).1 = 2 ∨ (plainP k n s).1 = 3 ∨ (plainP k n s).1 = 4 ∨ (plainP k n s).1 = 5 := by
  unfold plainP
  repeat' split
  all_goals simp
theorem plainP_idem (k n : Int) (s : ByteArray) : plainP (plainP k n s).1 (plainP k n s).2.1 (plainP k n s).2.2 = plainP k n s := by
  unfold plainP
  by_cases h2 : k = 2
  · subst h2
    by_cases hn : n = 0 <;> simp [hn]
  · by_cases h3 : k = 3
    · subst h3
      have h := clampP_range n
      simp only [h2, if_false, if_true]
      have : clampP (clampP n) = clampP n := by
        generalize clampP n = m at h
        unfold clampP
        rw [if_neg (by omega), if_neg (by omega)]
      simp [this]
    · simp only [h2, h3, if_false]
      by_cases h4 : k = 4
      · simp [h4]
      · by_cases h5 : k = 5
        · simp [h5]
        · by_cases h1 : k = 1 <;> simp [h1, h4, h5]
theorem truth_P (j : Nat) (k n : Int) (s : ByteArray) : value_Truth.f (j + 1) k n s = some (truthP (plainP k n s).1 (plainP k n s).2.1 (plainP k n s).2.2) := by
  unfold value_Truth.f
  rw [plain_P, Option.bind_some]
  generalize (plainP k n s).1 = K
  generalize (plainP k n s).2.1 = N
  generalize (plainP k n s).2.2 = S
  unfold truthP
  by_cases h2 : K = 2
  · subst h2; simp [value_Truth.j0]
  · by_cases h3 : K = 3
    · subst h3; simp [value_Truth.j0]
    · by_cases h4 : K = 4
      · subst h4; simp [value_Truth.j0]
      · by_cases h5 : K = 5
        · subst h5; simp [value_Truth.j0]
        · simp [value_Truth.j0, h2, h3, h4, h5]
theorem xor_not (x : Int) (h0 : -9223372036854775808 ≤ x) (h1 : x ≤ 9223372036854775807) : Go.bits .xor .i64 (-1) x = -x - 1 := by
  have ha : BitVec.ofInt 64 (-1) = BitVec.allOnes 64 := by decide
  show IntKind.i64.wrap ((BitVec.ofInt 64 (-1) ^^^ BitVec.ofInt 64 x).toNat : Int) = _
  rw [ha, BitVec.allOnes_xor, BitVec.toNat_not, BitVec.toNat_ofInt, IntKind.wrap_i64]
  omega
theorem lowI_eq (n : Int) : lowI n = (n + 2147483648) % 4294967296 - 2147483648 := by
  unfold lowI wrap64 wrap32
  rw [IntKind.wrap_u64]
  omega
theorem not_eq (n : Int) : Go.bits .xor .i64 (-1) (lowI n) = wrap64 (wrap32 ((wrap64 ((wrap64 (-(n % 4294967296))) - 1)) % 4294967296)) := by
  have h := lowI_eq n
  rw [xor_not _ (by omega) (by omega), h]
  unfold wrap64 wrap32
  omega
end Go.Proofs.YtceahnhpeadkoaaDoor.V
