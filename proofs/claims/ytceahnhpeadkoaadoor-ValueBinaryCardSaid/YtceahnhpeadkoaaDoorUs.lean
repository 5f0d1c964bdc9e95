/- Plain law: the reference's digits are strconv's; value.Text is the reference's. -/
import Derived.Test.YtceahnhpeadkoaaDoorUr
import Derived.Lib.ItoaLen

namespace Go.Proofs.YtceahnhpeadkoaaDoor.V
open Go.RowKit Go.Proofs.YtceahnhpeadkoaaDoorW.PrintWords Go.Proofs.YtceahnhpeadkoaaDoorW.PrintLast Go.Proofs.YtceahnhpeadkoaaDoorW.PrintMore

theorem dec_small (u : Nat) (h : u < 10) : Lib.decDigits u = [UInt8.ofNat (48 + u)] := by
  unfold Lib.decDigits
  rw [dif_pos h]
theorem dec_more (u : Nat) (h : ¬ u < 10) : Lib.decDigits u = Lib.decDigits (u / 10) ++ [UInt8.ofNat (48 + u % 10)] := by
  conv => lhs; unfold Lib.decDigits
  rw [dif_neg h]
theorem natural_l0 : ∀ (k u : Nat) (acc : ByteArray), u < 10 ^ k → u < 18446744073709551616 → 0 < k → acc.size + k ≤ 1000 →
    shuckref8_natural.l0 k (u : Int) acc = some (⟨(Lib.decDigits u).toArray⟩ ++ acc) := by
  intro k
  induction k with
  | zero => intro u acc _ _ h; omega
  | succ k ih =>
    intro u acc h1 h2 _ h4
    have e1 : IntKind.u64.wrap (48 + Int.tmod (u : Int) 10) % 256 = ((48 + u % 10 : Nat) : Int) := by
      rw [IntKind.wrap_u64, Int.tmod_eq_emod_of_nonneg (by omega)]
      omega
    have e2 : IntKind.u64.wrap (Int.tdiv (u : Int) 10) = ((u / 10 : Nat) : Int) := by
      rw [IntKind.wrap_u64, Int.tdiv_eq_ediv_of_nonneg (by omega)]
      omega
    have e3 : strOfNums [((48 + u % 10 : Nat) : Int)] = ⟨#[UInt8.ofNat (48 + u % 10)]⟩ := by
      unfold strOfNums
      simp only [List.map_cons, List.map_nil, Int.toNat_natCast]
    simp only [shuckref8_natural.l0, Option.bind_some]
    rw [e1, e2, e3]
    have hs : (⟨#[UInt8.ofNat (48 + u % 10)]⟩ : ByteArray).size = 1 := rfl
    rw [hs, if_pos (by omega)]
    by_cases hu : u < 10
    · rw [if_pos (by omega), dec_small u hu, Nat.mod_eq_of_lt hu]
    · rw [if_neg (by omega)]
      have hk : 0 < k := by
        rcases Nat.eq_zero_or_pos k with rfl | h
        · simp at h1; omega
        · exact h
      rw [ih (u / 10) _ (by rw [Nat.pow_succ] at h1; omega) (by omega) hk (by rw [ByteArray.size_append, hs]; omega)]
      rw [dec_more u hu, ← ByteArray.append_assoc]
      have ha : (⟨(Lib.decDigits (u / 10)).toArray⟩ : ByteArray) ++ ⟨#[UInt8.ofNat (48 + u % 10)]⟩ = ⟨(Lib.decDigits (u / 10) ++ [UInt8.ofNat (48 + u % 10)]).toArray⟩ := ByteArray.ext (by simp)
      rw [ha]
theorem natural_eq (u : Nat) (h : u < 18446744073709551616) : shuckref8_natural.f 20 (u : Int) = some ⟨(Lib.decDigits u).toArray⟩ := by
  unfold shuckref8_natural.f
  rw [natural_l0 20 u _ (by have : (10:Nat)^20 = 100000000000000000000 := by decide
                            omega) h (by omega) (by show (0 : Nat) + 20 ≤ 1000; omega)]
  exact congrArg some (ByteArray.ext (by simp))
theorem digits_eq (n : Int) (h0 : -9007199254740991 ≤ n) (h1 : n ≤ 9007199254740991) : shuckref8_Digits.f 20 n = some ⟨(Lib.itoa n).toArray⟩ := by
  unfold shuckref8_Digits.f Lib.itoa
  by_cases hn : n < 0
  · rw [if_pos hn, if_pos hn]
    have e : IntKind.u64.wrap (IntKind.u64.wrap (wrap64 (-(wrap64 (n + 1)))) + 1) = (n.natAbs : Int) := by
      rw [IntKind.wrap_u64, IntKind.wrap_u64]
      unfold wrap64
      omega
    rw [e, natural_eq _ (by omega), Option.bind_some]
    have hl : (⟨(Lib.decDigits n.natAbs).toArray⟩ : ByteArray).size ≤ 1000 := by
      have := Lib.itoa_length_le n (by omega) (by omega)
      unfold Lib.itoa at this
      rw [if_pos hn] at this
      simp at this
      show (Lib.decDigits n.natAbs).toArray.size ≤ 1000
      simp; omega
    rw [if_pos (by omega)]
    exact congrArg some (ByteArray.ext (by simp))
  · rw [if_neg hn, if_neg hn]
    have e : IntKind.u64.wrap n = (n.toNat : Int) := by rw [IntKind.wrap_u64]; omega
    rw [e, natural_eq _ (by omega)]
    rfl
/-- What a plain value reads as. -/
theorem rtext_P (k n : Int) (s : ByteArray) : shuckref14_Text.f 20 k n s = value_Text.f k n s := by
  unfold shuckref14_Text.f value_Text.f
  rw [show (20 : Nat) = 19 + 1 from rfl, sane_P, plain_P, Option.bind_some, Option.bind_some]
  by_cases h1 : (plainP k n s).1 = 1
  · rw [if_pos h1, if_pos h1]
  · rw [if_neg h1, if_neg h1]
    by_cases h2 : (plainP k n s).1 = 2
    · rw [if_pos h2, if_pos h2]
      by_cases hz : (plainP k n s).2.1 = 0
      · simp [hz, strconv_FormatBool_45.f, strconv_FormatBool_66.f]
      · simp [hz, strconv_FormatBool_45.f, strconv_FormatBool_66.f]
    · rw [if_neg h2, if_neg h2]
      by_cases h3 : (plainP k n s).1 = 3
      · rw [if_pos h3, if_pos h3]
        have hr : -9007199254740991 ≤ (plainP k n s).2.1 ∧ (plainP k n s).2.1 ≤ 9007199254740991 := plain_range (k := k) (n := n) (s := s) (N := (plainP k n s).2.1) (S := (plainP k n s).2.2) (by rw [plain_P, ← h3])
        rw [digits_eq _ hr.1 hr.2]
        unfold strconv_Itoa.f
        rw [if_pos (by omega)]
      · rw [if_neg h3, if_neg h3]
theorem text_some (k n : Int) (s : ByteArray) : ∃ t, value_Text.f k n s = some t := by
  unfold value_Text.f
  rw [plain_P, Option.bind_some]
  by_cases h1 : (plainP k n s).1 = 1
  · exact ⟨_, by rw [if_pos h1]⟩
  · rw [if_neg h1]
    by_cases h2 : (plainP k n s).1 = 2
    · rw [if_pos h2]
      by_cases hz : (plainP k n s).2.1 = 0
      · exact ⟨_, by simp [hz, strconv_FormatBool_45.f, strconv_FormatBool_66.f]; rfl⟩
      · exact ⟨_, by simp [hz, strconv_FormatBool_45.f, strconv_FormatBool_66.f]; rfl⟩
    · rw [if_neg h2]
      by_cases h3 : (plainP k n s).1 = 3
      · rw [if_pos h3]
        have hr : -9007199254740991 ≤ (plainP k n s).2.1 ∧ (plainP k n s).2.1 ≤ 9007199254740991 := plain_range (k := k) (n := n) (s := s) (N := (plainP k n s).2.1) (S := (plainP k n s).2.2) (by rw [plain_P, ← h3])
        unfold strconv_Itoa.f
        rw [if_pos (by omega)]
        exact ⟨_, rfl⟩
      · rw [if_neg h3]
        repeat' split
        all_goals exact ⟨_, rfl⟩
end Go.Proofs.YtceahnhpeadkoaaDoor.V
