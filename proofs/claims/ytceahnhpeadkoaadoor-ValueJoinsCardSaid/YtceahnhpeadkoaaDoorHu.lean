/- Plain lemmas: what value.Binary answers of two numbers, what value.Unary answers of one. -/
import Derived.Test.YtceahnhpeadkoaaDoorHk
namespace Go.Proofs.YtceahnhpeadkoaaDoor.V
open Go Go.RowKit Go.Proofs.YtceahnhpeadkoaaDoorW.PrintWords Go.Proofs.YtceahnhpeadkoaaDoorW.PrintLast Go.Proofs.YtceahnhpeadkoaaDoorW.PrintMore
set_option linter.unusedVariables false
set_option linter.unusedSimpArgs false
theorem plainP_num {n : Int} (s : ByteArray) (h0 : -9007199254740991 ≤ n) (h1 : n ≤ 9007199254740991) : plainP 3 n s = (3, n, ⟨#[]⟩) := by
  unfold plainP clampP
  rw [if_neg (by decide), if_pos rfl, if_neg (by omega), if_neg (by omega)]
theorem bin_arith (op : ByteArray) (F : Int → Int → Int × Bool) (a b : Int) (s t : ByteArray) (a0 : -9007199254740991 ≤ a) (a1 : a ≤ 9007199254740991) (b0 : -9007199254740991 ≤ b) (b1 : b ≤ 9007199254740991)
    (hF : numF op.toList = some F) (o0 : op.toList ≠ [61, 61, 61]) (o1 : op.toList ≠ [33, 61, 61]) (o2 : op.toList ≠ [43]) :
    value_Binary.f op 3 a s 3 b t = some (exactV (F a b).1 (F a b).2) := by
  unfold value_Binary.f
  rw [plain_P, plain_P, Option.bind_some, Option.bind_some, plainP_num s a0 a1, plainP_num t b0 b1]
  unfold binG
  rw [if_neg o0, if_neg o1, if_neg o2, hF]
  exact if_pos rfl
theorem bin_add (a b : Int) (s t : ByteArray) (a0 : -9007199254740991 ≤ a) (a1 : a ≤ 9007199254740991) (b0 : -9007199254740991 ≤ b) (b1 : b ≤ 9007199254740991) :
    value_Binary.f ⟨#[43]⟩ 3 a s 3 b t = some (exactV (a + b) true) := by
  unfold value_Binary.f
  rw [plain_P, plain_P, Option.bind_some, Option.bind_some, plainP_num s a0 a1, plainP_num t b0 b1]
  unfold binG
  have hw : wrap64 (a + b) = a + b := by unfold wrap64; omega
  rw [if_neg (by simp), if_neg (by simp), if_pos (by simp), if_pos (by rfl), hw]
theorem neg_P (j : Nat) (n : Int) (s : ByteArray) (h0 : -9007199254740991 ≤ n) (h1 : n ≤ 9007199254740991) : value_Unary.f (j + 1) ⟨#[45]⟩ 3 n s = some (3, -n, ⟨#[]⟩, ⟨#[]⟩, 0) := by
  have hw : wrap64 (-n) = -n := by unfold wrap64; omega
  unfold value_Unary.f
  rw [plain_P, Option.bind_some, plainP_num s h0 h1]
  simp [value_Unary.j0, value_number.f, value_done.f, hw]
theorem not_P (j : Nat) (n : Int) (s : ByteArray) (h0 : -9007199254740991 ≤ n) (h1 : n ≤ 9007199254740991) : value_Unary.f (j + 1) ⟨#[126]⟩ 3 n s = some (3, -lowI n - 1, ⟨#[]⟩, ⟨#[]⟩, 0) := by
  have hl := lowI_eq n
  have hx := xor_not (lowI n) (by omega) (by omega)
  have hlow : value_low.f n = some (lowI n) := rfl
  unfold value_Unary.f
  rw [plain_P, Option.bind_some, plainP_num s h0 h1]
  simp [value_Unary.j0, hlow, value_number.f, value_done.f, hx]
theorem exactT {n : Int} (h0 : -9007199254740991 ≤ n) (h1 : n ≤ 9007199254740991) : exactV n true = (3, n, ⟨#[]⟩, ⟨#[]⟩, 0) := by
  unfold exactV
  rw [if_pos rfl, if_neg (by omega), if_neg (by omega)]
theorem exactO {n : Int} (h : n > 9007199254740991 ∨ n < -9007199254740991) : exactV n true = (0, 0, ⟨#[]⟩, ⟨#[]⟩, 2) := by
  unfold exactV
  rw [if_pos rfl]
  by_cases g : n > 9007199254740991
  · rw [if_pos g]
  · rw [if_neg g, if_pos (by omega)]
end Go.Proofs.YtceahnhpeadkoaaDoor.V
