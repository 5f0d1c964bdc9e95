/- The plain law of ValueBits. -/
import Derived.Test.YtceahnhpeadkoaaDoorHu
import Derived.Test.YtceahnhpeadkoaaDoorLxBits
namespace Go.Proofs.YtceahnhpeadkoaaDoor.V
open Go Go.RowKit Go.Proofs.YtceahnhpeadkoaaDoorW.PrintWords Go.Proofs.YtceahnhpeadkoaaDoorW.PrintLast Go.Proofs.YtceahnhpeadkoaaDoorW.PrintMore
set_option linter.unusedVariables false
set_option linter.unusedSimpArgs false
theorem b_wrap64 (x : BitVec 64) : IntKind.i64.wrap (x.toNat : Int) = x.toInt := by
  have h1 := BitVec.toInt_eq_toNat_cond x
  have h2 := x.isLt
  rw [h1, IntKind.wrap_i64]
  split <;> omega
theorem b_wrap32 (x : BitVec 32) : IntKind.i32.wrap (x.toNat : Int) = x.toInt := by
  have h1 := BitVec.toInt_eq_toNat_cond x
  have h2 := x.isLt
  rw [h1, IntKind.wrap_i32]
  split <;> omega
theorem b_range (x : BitVec 32) : -2147483648 ≤ x.toInt ∧ x.toInt ≤ 2147483647 := by
  have h1 := BitVec.toInt_eq_toNat_cond x
  have h2 := x.isLt
  rw [h1]
  split <;> omega
theorem b_ofInt (a : Int) : (BitVec.ofInt 32 a).toInt = (a + 2147483648) % 4294967296 - 2147483648 := by
  rw [BitVec.toInt_ofInt]
  rw [Int.bmod_def]
  split <;> omega
theorem b_sext (a : Int) : BitVec.ofInt 64 (lowI a) = (BitVec.ofInt 32 a).signExtend 64 := by
  rw [lowI_eq, ← b_ofInt]; rfl
theorem b_same (a : Int) : BitVec.ofInt 32 (wrap32 (a % 4294967296)) = BitVec.ofInt 32 a := by
  apply BitVec.eq_of_toNat_eq
  rw [BitVec.toNat_ofInt, BitVec.toNat_ofInt]
  unfold wrap32
  omega
theorem b_toInt (x : BitVec 32) : (x.signExtend 64).toInt = x.toInt := BitVec.toInt_signExtend_of_le (by decide)
theorem b_and64 (a b : Int) : Go.bits .and .i64 (lowI a) (lowI b) = (BitVec.ofInt 32 a &&& BitVec.ofInt 32 b).toInt := by
  show IntKind.i64.wrap ((BitVec.ofInt 64 _ &&& BitVec.ofInt 64 _).toNat : Int) = _
  rw [b_sext, b_sext, b_wrap64, ← BitVec.signExtend_and, b_toInt]
theorem b_or64 (a b : Int) : Go.bits .or .i64 (lowI a) (lowI b) = (BitVec.ofInt 32 a ||| BitVec.ofInt 32 b).toInt := by
  show IntKind.i64.wrap ((BitVec.ofInt 64 _ ||| BitVec.ofInt 64 _).toNat : Int) = _
  rw [b_sext, b_sext, b_wrap64, ← BitVec.signExtend_or, b_toInt]
theorem b_xor64 (a b : Int) : Go.bits .xor .i64 (lowI a) (lowI b) = (BitVec.ofInt 32 a ^^^ BitVec.ofInt 32 b).toInt := by
  show IntKind.i64.wrap ((BitVec.ofInt 64 _ ^^^ BitVec.ofInt 64 _).toNat : Int) = _
  rw [b_sext, b_sext, b_wrap64, ← BitVec.signExtend_xor, b_toInt]
theorem b_w64 (x : BitVec 32) : wrap64 x.toInt = x.toInt := by
  have := b_range x
  unfold wrap64
  omega
theorem b_and32 (a b : Int) : wrap64 (Go.bits .and .i32 (wrap32 (a % 4294967296)) (wrap32 (b % 4294967296))) = (BitVec.ofInt 32 a &&& BitVec.ofInt 32 b).toInt := by
  show wrap64 (IntKind.i32.wrap ((BitVec.ofInt 32 _ &&& BitVec.ofInt 32 _).toNat : Int)) = _
  rw [b_same, b_same, b_wrap32, b_w64]
theorem b_or32 (a b : Int) : wrap64 (Go.bits .or .i32 (wrap32 (a % 4294967296)) (wrap32 (b % 4294967296))) = (BitVec.ofInt 32 a ||| BitVec.ofInt 32 b).toInt := by
  show wrap64 (IntKind.i32.wrap ((BitVec.ofInt 32 _ ||| BitVec.ofInt 32 _).toNat : Int)) = _
  rw [b_same, b_same, b_wrap32, b_w64]
theorem b_xor32 (a b : Int) : wrap64 (Go.bits .xor .i32 (wrap32 (a % 4294967296)) (wrap32 (b % 4294967296))) = (BitVec.ofInt 32 a ^^^ BitVec.ofInt 32 b).toInt := by
  show wrap64 (IntKind.i32.wrap ((BitVec.ofInt 32 _ ^^^ BitVec.ofInt 32 _).toNat : Int)) = _
  rw [b_same, b_same, b_wrap32, b_w64]
theorem b_not32 (a : Int) : wrap64 (Go.bits .xor .i32 (-1) (wrap32 (a % 4294967296))) = -lowI a - 1 := by
  have ha : BitVec.ofInt 32 (-1) = BitVec.allOnes 32 := by decide
  show wrap64 (IntKind.i32.wrap ((BitVec.ofInt 32 (-1) ^^^ BitVec.ofInt 32 _).toNat : Int)) = _
  rw [ha, BitVec.allOnes_xor, b_same, BitVec.toNat_not, BitVec.toNat_ofInt, IntKind.wrap_i32, lowI_eq]
  unfold wrap64
  omega
theorem bits_law (a b : Int) : shucklaw14_ValueBits.f 4 a b = some true := by
  have out : shucklaw14_ValueBits.j0 4 a b true = some true := by simp [shucklaw14_ValueBits.j0, shucklaw14_known.f]
  unfold shucklaw14_ValueBits.f
  by_cases a1 : a > 9007199254740991
  · rw [if_pos a1, out]
  by_cases a0 : a < -9007199254740991
  · rw [if_neg a1, if_pos a0, out]
  by_cases b1 : b > 9007199254740991
  · rw [if_neg a1, if_neg a0, if_pos b1, out]
  by_cases b0 : b < -9007199254740991
  · rw [if_neg a1, if_neg a0, if_neg b1, decide_eq_true b0, out]
  rw [if_neg a1, if_neg a0, if_neg b1, decide_eq_false b0]
  have hn : ∀ x : Int, shucklaw14_num.f x = some (3, x, ⟨#[]⟩) := fun _ => rfl
  have hr1 := b_range (BitVec.ofInt 32 a &&& BitVec.ofInt 32 b)
  have hr2 := b_range (BitVec.ofInt 32 a ||| BitVec.ofInt 32 b)
  have hr3 := b_range (BitVec.ofInt 32 a ^^^ BitVec.ofInt 32 b)
  have h1 := bin_arith ⟨#[38]⟩ (fun a b => (Go.bits .and .i64 (lowI a) (lowI b), true)) a b ⟨#[]⟩ ⟨#[]⟩ (by omega) (by omega) (by omega) (by omega) (by simp [numF]) (by simp) (by simp) (by simp)
  have h2 := bin_arith ⟨#[124]⟩ (fun a b => (Go.bits .or .i64 (lowI a) (lowI b), true)) a b ⟨#[]⟩ ⟨#[]⟩ (by omega) (by omega) (by omega) (by omega) (by simp [numF]) (by simp) (by simp) (by simp)
  have h3 := bin_arith ⟨#[94]⟩ (fun a b => (Go.bits .xor .i64 (lowI a) (lowI b), true)) a b ⟨#[]⟩ ⟨#[]⟩ (by omega) (by omega) (by omega) (by omega) (by simp [numF]) (by simp) (by simp) (by simp)
  simp only [b_and64, b_or64, b_xor64] at h1 h2 h3
  rw [exactT (by omega) (by omega)] at h1 h2 h3
  have h4 := not_P 2 a ⟨#[]⟩ (by omega) (by omega)
  have hw : wrap64 0 = 0 := by unfold wrap64; omega
  simp only [shucklaw14_ValueBits.j0, Bool.false_eq_true, if_false, hn, h1, h2, h3, h4, Option.bind_some, Int.add_zero, hw, if_true, b_and32, b_or32, b_xor32, b_not32, beq_self_eq_true, Bool.and_self, shucklaw14_known.f]
end Go.Proofs.YtceahnhpeadkoaaDoor.V
