/- The plain law of ValueShifts. -/
import Derived.Test.YtceahnhpeadkoaaDoorHu
import Derived.Test.YtceahnhpeadkoaaDoorLxShifts
namespace Go.Proofs.YtceahnhpeadkoaaDoor.V
open Go Go.RowKit Go.Proofs.YtceahnhpeadkoaaDoorW.PrintWords Go.Proofs.YtceahnhpeadkoaaDoorW.PrintLast Go.Proofs.YtceahnhpeadkoaaDoorW.PrintMore
set_option linter.unusedVariables false
set_option linter.unusedSimpArgs false
theorem s_n (b : Int) : Go.bits .and .u32 (b % 4294967296) 31 = b % 32 := by
  show IntKind.u32.wrap ((BitVec.ofInt 32 (b % 4294967296) &&& BitVec.ofInt 32 31).toNat : Int) = _
  rw [BitVec.toNat_and, BitVec.toNat_ofInt, show (BitVec.ofInt 32 31).toNat = 2 ^ 5 - 1 by decide, Nat.and_two_pow_sub_one_eq_mod, IntKind.wrap_u32]
  omega
theorem s_shl (a b : Int) : wrap64 (wrap32 (shl .u32 (a % 4294967296) (b % 32))) = shlI a b := by
  unfold shlI shl
  rw [lowI_eq (wrap64 _), lowI_eq a]
  have hb : min (b % 32).toNat IntKind.u32.bits = (b % 32).toNat := by
    show min (b % 32).toNat 32 = _
    omega
  rw [hb]
  obtain ⟨p, hp⟩ : ∃ p : Int, (2 : Int) ^ (b % 32).toNat = p := ⟨_, rfl⟩
  rw [hp]
  obtain ⟨t, ht⟩ : ∃ t : Int, (a + 2147483648) % 4294967296 - 2147483648 = a % 4294967296 - 4294967296 * t := ⟨(a % 4294967296 - ((a + 2147483648) % 4294967296 - 2147483648)) / 4294967296, by omega⟩
  rw [ht, Int.sub_mul, Int.mul_assoc]
  generalize a % 4294967296 * p = X
  generalize t * p = Y
  rw [IntKind.wrap_u32]
  unfold wrap64 wrap32
  omega
theorem s_shr (a b : Int) : wrap64 (shr .i32 (wrap32 (a % 4294967296)) (b % 32)) = shrI a b := by
  unfold shrI shr
  have hb : min (b % 32).toNat IntKind.i32.bits = (b % 32).toNat := by
    show min (b % 32).toNat 32 = _
    omega
  rw [hb, lowI_eq]
  have hx : wrap32 (a % 4294967296) = (a + 2147483648) % 4294967296 - 2147483648 := by unfold wrap32; omega
  rw [hx]
  have hp : (0 : Int) < 2 ^ (b % 32).toNat := Int.pow_pos (by omega)
  generalize (2 : Int) ^ (b % 32).toNat = p at hp
  have hv : -2147483648 ≤ (a + 2147483648) % 4294967296 - 2147483648 ∧ (a + 2147483648) % 4294967296 - 2147483648 ≤ 2147483647 := by omega
  generalize (a + 2147483648) % 4294967296 - 2147483648 = v at hv
  have h1 : v / p ≤ 2147483647 := Int.le_trans (Int.ediv_le_ediv hp hv.2) (Int.ediv_le_self _ (by omega))
  have h2 : -2147483648 ≤ v / p := by
    rw [Int.le_ediv_iff_mul_le hp]
    have : -2147483648 * p ≤ -2147483648 * 1 := by omega
    omega
  unfold wrap64
  omega
theorem s_ushr (a b : Int) : shr .u32 (a % 4294967296) (b % 32) = ushrI a b := by
  unfold ushrI shr
  have hb : min (b % 32).toNat IntKind.u32.bits = (b % 32).toNat := by
    show min (b % 32).toNat 32 = _
    omega
  rw [hb, lowI_eq, show ((a + 2147483648) % 4294967296 - 2147483648) % 4294967296 = a % 4294967296 by omega]
theorem s_shl_range (a b : Int) : -2147483648 ≤ shlI a b ∧ shlI a b ≤ 2147483647 := by
  unfold shlI
  have := lowI_eq (wrap64 (lowI a * 2 ^ (b % 32).toNat))
  omega
theorem s_shr_range (a b : Int) : -2147483648 ≤ shrI a b ∧ shrI a b ≤ 2147483647 := by
  unfold shrI
  have hp : (0 : Int) < 2 ^ (b % 32).toNat := Int.pow_pos (by omega)
  generalize (2 : Int) ^ (b % 32).toNat = p at hp
  have hv := lowI_eq a
  have hv2 : -2147483648 ≤ lowI a ∧ lowI a ≤ 2147483647 := by omega
  generalize lowI a = v at hv2
  constructor
  · rw [Int.le_ediv_iff_mul_le hp]
    have : -2147483648 * p ≤ -2147483648 * 1 := by omega
    omega
  · have h1 := Int.ediv_le_ediv hp hv2.2
    exact Int.le_trans h1 (Int.ediv_le_self _ (by omega))
theorem s_ushr_range (a b : Int) : 0 ≤ ushrI a b ∧ ushrI a b ≤ 4294967295 := by
  unfold ushrI
  have hp : (0 : Int) < 2 ^ (b % 32).toNat := Int.pow_pos (by omega)
  generalize (2 : Int) ^ (b % 32).toNat = p at hp
  have hv2 : 0 ≤ lowI a % 4294967296 ∧ lowI a % 4294967296 ≤ 4294967295 := by omega
  generalize lowI a % 4294967296 = v at hv2
  exact ⟨Int.ediv_nonneg hv2.1 (by omega), Int.le_trans (Int.ediv_le_self _ hv2.1) hv2.2⟩
theorem shifts_law (a b : Int) : shucklaw14_ValueShifts.f 4 a b = some true := by
  have out : shucklaw14_ValueShifts.j0 4 a b true = some true := by simp [shucklaw14_ValueShifts.j0, shucklaw14_known.f]
  unfold shucklaw14_ValueShifts.f
  by_cases a1 : a > 9007199254740991
  · rw [if_pos a1, out]
  by_cases a0 : a < -9007199254740991
  · rw [if_neg a1, if_pos a0, out]
  by_cases b1 : b > 9007199254740991
  · rw [if_neg a1, if_neg a0, if_pos b1, out]
  by_cases b0 : b < -9007199254740991
  · rw [if_neg a1, if_neg a0, if_neg b1, decide_eq_true b0, out]
  rw [if_neg a1, if_neg a0, if_neg b1, decide_eq_false b0]
  have hn : ∀ x : Int, shucklaw14_num.f x = some (3, x, ⟨#[]⟩) := fun _ => rfl
  have hr1 := s_shl_range a b
  have hr2 := s_shr_range a b
  have hr3 := s_ushr_range a b
  have h1 := bin_arith ⟨#[60, 60]⟩ (fun a b => (shlI a b, true)) a b ⟨#[]⟩ ⟨#[]⟩ (by omega) (by omega) (by omega) (by omega) (by simp [numF]) (by simp) (by simp) (by simp)
  have h2 := bin_arith ⟨#[62, 62]⟩ (fun a b => (shrI a b, true)) a b ⟨#[]⟩ ⟨#[]⟩ (by omega) (by omega) (by omega) (by omega) (by simp [numF]) (by simp) (by simp) (by simp)
  have h3 := bin_arith ⟨#[62, 62, 62]⟩ (fun a b => (ushrI a b, true)) a b ⟨#[]⟩ ⟨#[]⟩ (by omega) (by omega) (by omega) (by omega) (by simp [numF]) (by simp) (by simp) (by simp)
  simp only [] at h1 h2 h3
  rw [exactT (by omega) (by omega)] at h1 h2 h3
  have hw : wrap64 0 = 0 := by unfold wrap64; omega
  have hp : 0 ≤ b % 32 := by omega
  simp only [shucklaw14_ValueShifts.j0, Bool.false_eq_true, if_false, hn, h1, h2, h3, Option.bind_some, Int.add_zero, hw, if_true, s_n, hp, s_shl, s_shr, s_ushr, beq_self_eq_true, Bool.and_self, shucklaw14_known.f]
end Go.Proofs.YtceahnhpeadkoaaDoor.V
