/- The contract of the reference's Binary: where the texts are not long it hands back what value's does. -/
import Derived.Test.YtceahnhpeadkoaaDoorUc
import Derived.Test.YtceahnhpeadkoaaDoorUe
namespace Go.Proofs.YtceahnhpeadkoaaDoor.V
open Go Go.RowKit Go.Proofs.YtceahnhpeadkoaaDoorW.PrintWords Go.Proofs.YtceahnhpeadkoaaDoorW.PrintLast Go.Proofs.YtceahnhpeadkoaaDoorW.PrintMore
set_option linter.unusedVariables false
set_option linter.unusedSimpArgs false
theorem text_size (k n : Int) (s t : ByteArray) (h : value_Text.f k n s = some t) : t.size ≤ s.size + 32 := by
  unfold value_Text.f at h
  rw [plain_P, Option.bind_some] at h
  by_cases h1 : (plainP k n s).1 = 1
  · rw [if_pos h1] at h
    obtain rfl := Option.some.inj h
    show 4 ≤ _
    omega
  · rw [if_neg h1] at h
    by_cases h2 : (plainP k n s).1 = 2
    · rw [if_pos h2] at h
      by_cases hz : (plainP k n s).2.1 = 0
      · simp [hz, strconv_FormatBool_45.f, strconv_FormatBool_66.f] at h
        obtain rfl := h
        show 5 ≤ _
        omega
      · simp [hz, strconv_FormatBool_45.f, strconv_FormatBool_66.f] at h
        obtain rfl := h
        show 4 ≤ _
        omega
    · rw [if_neg h2] at h
      by_cases h3 : (plainP k n s).1 = 3
      · rw [if_pos h3] at h
        have hr : -9007199254740991 ≤ (plainP k n s).2.1 ∧ (plainP k n s).2.1 ≤ 9007199254740991 := plain_range (k := k) (n := n) (s := s) (N := (plainP k n s).2.1) (S := (plainP k n s).2.2) (by rw [plain_P, ← h3])
        unfold strconv_Itoa.f at h
        rw [if_pos (by omega)] at h
        obtain rfl := Option.some.inj h
        have hl := Lib.itoa_length_le (plainP k n s).2.1 (by omega) (by omega)
        show (Lib.itoa (plainP k n s).2.1).toArray.size ≤ _
        rw [List.size_toArray]
        omega
      · rw [if_neg h3] at h
        by_cases h4 : (plainP k n s).1 = 4
        · rw [if_pos h4] at h
          obtain rfl := Option.some.inj h
          have : (plainP k n s).2.2 = s ∨ (plainP k n s).2.2 = ⟨#[]⟩ := by
            unfold plainP
            repeat' split
            all_goals simp
          rcases this with e | e
          · rw [e]; omega
          · rw [e]; show 0 ≤ _; omega
        · rw [if_neg h4] at h
          by_cases h5 : (plainP k n s).1 = 5
          · rw [if_pos h5] at h
            obtain rfl := Option.some.inj h
            show 0 ≤ _
            omega
          · rw [if_neg h5] at h
            obtain rfl := Option.some.inj h
            show 9 ≤ _
            omega
theorem r_plain_size (k n : Int) (s : ByteArray) (h : s.size ≤ 210000) : (plainP k n s).2.2.size ≤ 210000 := by
  have : (plainP k n s).2.2 = s ∨ (plainP k n s).2.2 = ⟨#[]⟩ := by
    unfold plainP
    repeat' split
    all_goals simp
  rcases this with e | e
  · rw [e]; exact h
  · rw [e]; show 0 ≤ _; omega
/-- The reference's Binary hands back what value's does (of texts that are not long). -/
def shuckref14_Binary.f (_ : Nat) (op : ByteArray) (k1 n1 : Int) (s1 : ByteArray) (k2 n2 : Int) (s2 : ByteArray) : Option (Int × Int × ByteArray × ByteArray × Int) :=
  if s1.size ≤ 210000 ∧ s2.size ≤ 210000 then value_Binary.f op k1 n1 s1 k2 n2 s2 else none
theorem shuckref14_Binary.mono : ∀ a0 a1 a2 a3 a4 a5 a6 k, LeO (shuckref14_Binary.f k a0 a1 a2 a3 a4 a5 a6) (shuckref14_Binary.f (k + 1) a0 a1 a2 a3 a4 a5 a6) := fun _ _ _ _ _ _ _ _ => LeO.refl _
theorem shuckref14_Binary.calls (k : Nat) (a0 : ByteArray) (a1_0 a1_1 : Int) (a1_2 : ByteArray) (a2_0 a2_1 : Int) (a2_2 : ByteArray) (r1 r2 : Int) (r3 r4 : ByteArray) (r5 : Int) (w : World) (h : shuckref14_Binary.f k a0 a1_0 a1_1 a1_2 a2_0 a2_1 a2_2 = some (r1, r2, r3, r4, r5)) :
    Calls Tryd.prog 17 #[.string a0, .agg #[.int .i64 a1_0, .int .i64 a1_1, .string a1_2], .agg #[.int .i64 a2_0, .int .i64 a2_1, .string a2_2]] w fun e w' => e = .returned (.agg #[.int .i64 r1, .int .i64 r2, .string r3, .string r4, .int .i64 r5]) ∧ Below w.heap.size w w' := by
  unfold shuckref14_Binary.f at h
  split at h
  case isFalse => cases h
  case isTrue hs =>
    unfold value_Binary.f at h
    rw [plain_P, plain_P, Option.bind_some, Option.bind_some] at h
    have z1 := r_plain_size a1_0 a1_1 a1_2 hs.1
    have z2 := r_plain_size a2_0 a2_1 a2_2 hs.2
    have q1 : (plainP a1_0 a1_1 a1_2).1 = 3 → -9007199254740991 ≤ (plainP a1_0 a1_1 a1_2).2.1 ∧ (plainP a1_0 a1_1 a1_2).2.1 ≤ 9007199254740991 := fun e => plain_range (k := a1_0) (n := a1_1) (s := a1_2) (N := (plainP a1_0 a1_1 a1_2).2.1) (S := (plainP a1_0 a1_1 a1_2).2.2) (by rw [plain_P, ← e])
    have q2 : (plainP a2_0 a2_1 a2_2).1 = 3 → -9007199254740991 ≤ (plainP a2_0 a2_1 a2_2).2.1 ∧ (plainP a2_0 a2_1 a2_2).2.1 ≤ 9007199254740991 := fun e => plain_range (k := a2_0) (n := a2_1) (s := a2_2) (N := (plainP a2_0 a2_1 a2_2).2.1) (S := (plainP a2_0 a2_1 a2_2).2.2) (by rw [plain_P, ← e])
    by_cases o0 : a0.toList = [61, 61, 61]
    · exact rbin_walk1 a0 a1_0 a1_1 a1_2 a2_0 a2_1 a2_2 _ _ _ _ _ _ w rfl rfl q1 q2 z1 z2 (r1, r2, r3, r4, r5) (.inl o0) h
    by_cases o1 : a0.toList = [33, 61, 61]
    · exact rbin_walk1 a0 a1_0 a1_1 a1_2 a2_0 a2_1 a2_2 _ _ _ _ _ _ w rfl rfl q1 q2 z1 z2 (r1, r2, r3, r4, r5) (.inr (.inl o1)) h
    by_cases o2 : a0.toList = [43]
    · exact rbin_walk1 a0 a1_0 a1_1 a1_2 a2_0 a2_1 a2_2 _ _ _ _ _ _ w rfl rfl q1 q2 z1 z2 (r1, r2, r3, r4, r5) (.inr (.inr o2)) h
    · exact rbin_walk2 a0 a1_0 a1_1 a1_2 a2_0 a2_1 a2_2 _ _ _ _ _ _ w rfl rfl q1 q2 z1 z2 (r1, r2, r3, r4, r5) o0 o1 o2 h
theorem r_bin (op : ByteArray) (k1 n1 : Int) (s1 : ByteArray) (k2 n2 : Int) (s2 : ByteArray) (h1 : s1.size ≤ 210000) (h2 : s2.size ≤ 210000) :
    shuckref14_Binary.f 23 op k1 n1 s1 k2 n2 s2 = value_Binary.f op k1 n1 s1 k2 n2 s2 := by
  unfold shuckref14_Binary.f
  rw [if_pos ⟨h1, h2⟩]
theorem bin_some (op : ByteArray) (k1 n1 : Int) (s1 : ByteArray) (k2 n2 : Int) (s2 : ByteArray) (h1 : s1.size ≤ 210000) (h2 : s2.size ≤ 210000) : ∃ r, value_Binary.f op k1 n1 s1 k2 n2 s2 = some r := by
  unfold value_Binary.f
  rw [plain_P, plain_P, Option.bind_some, Option.bind_some]
  have z1 := r_plain_size k1 n1 s1 h1
  have z2 := r_plain_size k2 n2 s2 h2
  generalize (plainP k1 n1 s1).1 = K1 at *
  generalize (plainP k1 n1 s1).2.1 = N1 at *
  generalize (plainP k1 n1 s1).2.2 = S1 at *
  generalize (plainP k2 n2 s2).1 = K2 at *
  generalize (plainP k2 n2 s2).2.1 = N2 at *
  generalize (plainP k2 n2 s2).2.2 = S2 at *
  unfold binG
  by_cases o0 : op.toList = [61, 61, 61]
  · rw [if_pos o0]; exact ⟨_, rfl⟩
  rw [if_neg o0]
  by_cases o1 : op.toList = [33, 61, 61]
  · rw [if_pos o1]; exact ⟨_, rfl⟩
  rw [if_neg o1]
  by_cases o2 : op.toList = [43]
  · rw [if_pos o2]
    by_cases h9 : (K1 == 3 && K2 == 3) = true
    · rw [if_pos h9]; exact ⟨_, rfl⟩
    rw [if_neg h9]
    by_cases hc : (K1 != 5 && K2 != 5 && (K1 == 4 || K2 == 4)) = true
    · rw [if_pos hc]
      obtain ⟨x, hx⟩ := text_some K1 N1 S1
      obtain ⟨y, hy⟩ := text_some K2 N2 S2
      have sx := text_size _ _ _ _ hx
      have sy := text_size _ _ _ _ hy
      rw [hx, hy, Option.bind_some, Option.bind_some, if_pos (by omega)]
      exact ⟨_, rfl⟩
    · rw [if_neg hc]; exact ⟨_, rfl⟩
  rw [if_neg o2]
  cases hN : numF op.toList with
  | some F =>
    simp only []
    by_cases h9 : (K1 == 3 && K2 == 3) = true
    · rw [if_pos h9]; exact ⟨_, rfl⟩
    · rw [if_neg h9]; exact ⟨_, rfl⟩
  | none =>
    simp only []
    cases hO : ordF op.toList with
    | some F =>
      simp only []
      by_cases h9 : (K1 == 3 && K2 == 3) = true
      · rw [if_pos h9]; exact ⟨_, rfl⟩
      rw [if_neg h9]
      by_cases h4 : (K1 == 4 && K2 == 4) = true
      · rw [if_pos h4, if_pos (by omega)]; exact ⟨_, rfl⟩
      · rw [if_neg h4]; exact ⟨_, rfl⟩
    | none => exact ⟨_, rfl⟩
end Go.Proofs.YtceahnhpeadkoaaDoor.V
