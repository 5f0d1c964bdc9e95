/- The plain law of ValueJoins. -/
import Derived.Test.YtceahnhpeadkoaaDoorHu
import Derived.Test.YtceahnhpeadkoaaDoorLxJoins
import Derived.Lib.ItoaLen
namespace Go.Proofs.YtceahnhpeadkoaaDoor.V
open Go Go.RowKit Go.Proofs.YtceahnhpeadkoaaDoorW.PrintWords Go.Proofs.YtceahnhpeadkoaaDoorW.PrintLast Go.Proofs.YtceahnhpeadkoaaDoorW.PrintMore
set_option linter.unusedVariables false
set_option linter.unusedSimpArgs false
theorem t_num (n : Int) (s : ByteArray) (h0 : -9007199254740991 ≤ n) (h1 : n ≤ 9007199254740991) : value_Text.f 3 n s = some ⟨(Lib.itoa n).toArray⟩ := by
  unfold value_Text.f
  rw [plain_P, Option.bind_some, plainP_num s h0 h1]
  unfold strconv_Itoa.f
  simp only []
  rw [if_neg (by decide), if_neg (by decide), if_pos trivial, if_pos (by omega)]
  rfl
theorem t_str (n : Int) (s : ByteArray) : value_Text.f 4 n s = some s := by
  unfold value_Text.f
  rw [plain_P, Option.bind_some]
  simp [plainP]
theorem plainP_str (n : Int) (s : ByteArray) : plainP 4 n s = (4, 0, s) := by simp [plainP]
theorem cat_P (k1 n1 k2 n2 : Int) (s1 s2 x y : ByteArray) (K1 N1 K2 N2 : Int) (S1 S2 : ByteArray) (p1 : plainP k1 n1 s1 = (K1, N1, S1)) (p2 : plainP k2 n2 s2 = (K2, N2, S2))
    (hk : (K1 = 4 ∧ (K2 = 3 ∨ K2 = 4)) ∨ (K1 = 3 ∧ K2 = 4)) (hx : value_Text.f K1 N1 S1 = some x) (hy : value_Text.f K2 N2 S2 = some y) (hs : x.size + y.size ≤ 65536) :
    value_Binary.f ⟨#[43]⟩ k1 n1 s1 k2 n2 s2 = some (4, 0, x ++ y, ⟨#[]⟩, 0) := by
  unfold value_Binary.f
  rw [plain_P, plain_P, Option.bind_some, Option.bind_some, p1, p2]
  unfold binG
  rw [if_neg (by simp), if_neg (by simp), if_pos (by simp)]
  simp only []
  rw [hx, hy, Option.bind_some, Option.bind_some, if_pos (c := x.size ≤ 140737488351232 ∧ y.size ≤ 140737488351232) (by omega)]
  unfold catV
  rw [if_pos (c := x.size + y.size ≤ 65536) hs]
  rcases hk with ⟨rfl, rfl | rfl⟩ | ⟨rfl, rfl⟩ <;> rfl
theorem joins_law (a b : ByteArray) (n : Int) (ha : a.size ≤ 140737488351232) (hb : b.size ≤ 140737488351232) : shucklaw14_ValueJoins.f 4 a b n = some true := by
  have out : shucklaw14_ValueJoins.j0 4 a b n true = some true := by simp [shucklaw14_ValueJoins.j0, shucklaw14_known.f]
  unfold shucklaw14_ValueJoins.f
  by_cases hs : wrap64 ((a.size : Int) + (b.size : Int)) > 2000
  · rw [if_pos hs, out]
  by_cases a1 : n > 9007199254740991
  · rw [if_neg hs, if_pos a1, out]
  by_cases a0 : n < -9007199254740991
  · rw [if_neg hs, if_neg a1, decide_eq_true a0, out]
  rw [if_neg hs, if_neg a1, decide_eq_false a0]
  have hs2 : a.size + b.size ≤ 2000 := by unfold wrap64 at hs; omega
  have hn : ∀ x : Int, shucklaw14_num.f x = some (3, x, ⟨#[]⟩) := fun _ => rfl
  have hl := Lib.itoa_length_le n (by omega) (by omega)
  have hd := t_num n ⟨#[]⟩ (by omega) (by omega)
  have hd2 : (⟨(Lib.itoa n).toArray⟩ : ByteArray).size ≤ 21 := by
    show (Lib.itoa n).toArray.size ≤ 21
    rw [List.size_toArray]
    exact hl
  generalize (⟨(Lib.itoa n).toArray⟩ : ByteArray) = d at hd hd2
  have sz : ∀ x y : ByteArray, (x ++ y).size = x.size + y.size := fun x y => ByteArray.size_append
  have h1 := cat_P 4 0 3 n a ⟨#[]⟩ a d 4 0 3 n a ⟨#[]⟩ (plainP_str 0 a) (plainP_num ⟨#[]⟩ (by omega) (by omega)) (.inl ⟨rfl, .inl rfl⟩) (t_str 0 a) hd (by omega)
  have h2 := cat_P 4 0 4 0 (a ++ d) b (a ++ d) b 4 0 4 0 (a ++ d) b (plainP_str 0 _) (plainP_str 0 b) (.inl ⟨rfl, .inr rfl⟩) (t_str 0 _) (t_str 0 b) (by rw [sz]; omega)
  have h3 := cat_P 3 n 4 0 ⟨#[]⟩ b d b 3 n 4 0 ⟨#[]⟩ b (plainP_num ⟨#[]⟩ (by omega) (by omega)) (plainP_str 0 b) (.inr ⟨rfl, rfl⟩) hd (t_str 0 b) (by omega)
  have h4 := cat_P 4 0 4 0 a (d ++ b) a (d ++ b) 4 0 4 0 a (d ++ b) (plainP_str 0 a) (plainP_str 0 _) (.inl ⟨rfl, .inr rfl⟩) (t_str 0 a) (t_str 0 _) (by rw [sz]; omega)
  have has : a ++ (d ++ b) = a ++ d ++ b := (ByteArray.append_assoc).symm
  have hw : wrap64 0 = 0 := by unfold wrap64; omega
  simp only [shucklaw14_ValueJoins.j0, Bool.false_eq_true, if_false, hn, h1, h2, h3, h4, Option.bind_some, Int.add_zero, hw, if_true, has, beq_self_eq_true, Bool.and_self, hd]
  have sz1 := sz a d
  rw [if_pos (c := a.size + d.size ≤ 9223372036854775807) (by omega), if_pos (c := (a ++ d).size + b.size ≤ 9223372036854775807) (by omega)]
  rfl
end Go.Proofs.YtceahnhpeadkoaaDoor.V
