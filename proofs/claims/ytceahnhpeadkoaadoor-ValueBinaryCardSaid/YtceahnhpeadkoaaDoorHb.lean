/- The contract of package value's Binary, at any operator and any two values. -/
import Derived.Test.YtceahnhpeadkoaaDoorHg1
import Derived.Test.YtceahnhpeadkoaaDoorHg2
import Derived.Test.YtceahnhpeadkoaaDoorHg3
import Derived.Test.YtceahnhpeadkoaaDoorHg4
import Derived.Test.YtceahnhpeadkoaaDoorHg5
import Derived.Test.YtceahnhpeadkoaaDoorHg6
import Derived.Test.YtceahnhpeadkoaaDoorHg7
import Derived.Test.YtceahnhpeadkoaaDoorHg8
import Derived.Test.YtceahnhpeadkoaaDoorHi
namespace Go.Proofs.YtceahnhpeadkoaaDoor.V
open Go.RowKit Go.Proofs.YtceahnhpeadkoaaDoorW.PrintWords Go.Proofs.YtceahnhpeadkoaaDoorW.PrintLast Go.Proofs.YtceahnhpeadkoaaDoorW.PrintMore
set_option linter.unusedVariables false
set_option linter.unusedSimpArgs false

def value_Binary.f (a0 : ByteArray) (a1_0 a1_1 : Int) (a1_2 : ByteArray) (a2_0 a2_1 : Int) (a2_2 : ByteArray) : Option (Int × Int × ByteArray × ByteArray × Int) :=
  (value_plain.f a1_0 a1_1 a1_2).bind fun p => (value_plain.f a2_0 a2_1 a2_2).bind fun q => binG a0.toList p.1 p.2.1 p.2.2 q.1 q.2.1 q.2.2

theorem v5_split {v : V5} {r1 r2 : Int} {r3 r4 : ByteArray} {r5 : Int} (h : some v = some (r1, r2, r3, r4, r5)) : v.1 = r1 ∧ v.2.1 = r2 ∧ v.2.2.1 = r3 ∧ v.2.2.2.1 = r4 ∧ v.2.2.2.2 = r5 := by
  obtain rfl := Option.some.inj h
  exact ⟨rfl, rfl, rfl, rfl, rfl⟩
theorem plain_range {k n N : Int} {s S : ByteArray} (h : value_plain.f k n s = some (3, N, S)) : -9007199254740991 ≤ N ∧ N ≤ 9007199254740991 := by
  unfold value_plain.f at h
  split at h
  · simp only [value_truth.f, Option.bind_eq_some_iff] at h
    obtain ⟨b, hb, h⟩ := h
    split at hb <;> (obtain rfl := Option.some.inj hb; simp at h)
  · split at h
    · simp only [value_number.f, Option.bind_some, Option.some.injEq, Prod.mk.injEq] at h
      obtain ⟨_, rfl, _⟩ := h
      unfold mx mn
      omega
    · split at h
      · simp at h
      · split at h
        · simp at h
        · split at h <;> simp at h

theorem value_Binary.calls (a0 : ByteArray) (a1_0 a1_1 : Int) (a1_2 : ByteArray) (a2_0 a2_1 : Int) (a2_2 : ByteArray) (r1 r2 : Int) (r3 r4 : ByteArray) (r5 : Int) (w : World) (hT : TabOk w) (h : value_Binary.f a0 a1_0 a1_1 a1_2 a2_0 a2_1 a2_2 = some (r1, r2, r3, r4, r5)) :
    Calls Tryd.prog 16 #[.string a0, .agg #[.int .i64 a1_0, .int .i64 a1_1, .string a1_2], .agg #[.int .i64 a2_0, .int .i64 a2_1, .string a2_2]] w fun e w' => e = .returned (.tuple #[.agg #[.int .i64 r1, .int .i64 r2, .string r3], .string r4, .int .i64 r5]) ∧ Below w.heap.size w w' := by
  unfold value_Binary.f at h
  obtain ⟨⟨K1, N1, S1⟩, h1, h⟩ := Option.bind_eq_some_iff.1 h
  obtain ⟨⟨K2, N2, S2⟩, h2, h⟩ := Option.bind_eq_some_iff.1 h
  replace h : binG a0.toList K1 N1 S1 K2 N2 S2 = some (r1, r2, r3, r4, r5) := h
  unfold binG at h
  by_cases o0 : a0.toList = [61, 61, 61]
  · rw [if_pos o0] at h
    obtain ⟨rfl, rfl, rfl, rfl, rfl⟩ := v5_split h
    exact bin_eq a0 _ _ _ _ _ _ K1 N1 K2 N2 S1 S2 w hT h1 h2 o0
  rw [if_neg o0] at h
  by_cases o1 : a0.toList = [33, 61, 61]
  · rw [if_pos o1] at h
    obtain ⟨rfl, rfl, rfl, rfl, rfl⟩ := v5_split h
    exact bin_ne a0 _ _ _ _ _ _ K1 N1 K2 N2 S1 S2 w hT h1 h2 o1
  rw [if_neg o1] at h
  by_cases o2 : a0.toList = [43]
  · rw [if_pos o2] at h
    by_cases b9 : (K1 == 3 && K2 == 3) = true
    · rw [if_pos b9] at h
      obtain ⟨rfl, rfl, rfl, rfl, rfl⟩ := v5_split h
      exact bin_sum a0 _ _ _ _ _ _ K1 N1 K2 N2 S1 S2 w hT h1 h2 o2 b9
    rw [if_neg b9] at h
    have b9' := eq_false_of_ne_true b9
    by_cases bc : (K1 != 5 && K2 != 5 && (K1 == 4 || K2 == 4)) = true
    · rw [if_pos bc] at h
      obtain ⟨x, t1, h⟩ := Option.bind_eq_some_iff.1 h
      obtain ⟨y, t2, h⟩ := Option.bind_eq_some_iff.1 h
      split at h
      · rename_i hs
        obtain ⟨rfl, rfl, rfl, rfl, rfl⟩ := v5_split h
        exact bin_cat a0 _ _ _ _ _ _ K1 N1 K2 N2 S1 S2 w hT h1 h2 x y t1 t2 hs.1 hs.2 o2 b9' bc
      · cases h
    · rw [if_neg bc] at h
      obtain ⟨rfl, rfl, rfl, rfl, rfl⟩ := v5_split h
      have bc' := eq_false_of_ne_true bc
      cases c1 : (K1 != 5)
      · exact bin_nosuma a0 _ _ _ _ _ _ K1 N1 K2 N2 S1 S2 w hT h1 h2 o2 b9' c1
      · cases c2 : (K2 != 5)
        · exact bin_nosumb a0 _ _ _ _ _ _ K1 N1 K2 N2 S1 S2 w hT h1 h2 o2 b9' c1 c2
        · rw [c1, c2] at bc'
          cases c3 : (K1 == 4)
          · cases c4 : (K2 == 4)
            · exact bin_nosumc a0 _ _ _ _ _ _ K1 N1 K2 N2 S1 S2 w hT h1 h2 o2 b9' c1 c2 c3 c4
            · rw [c3, c4] at bc'; cases bc'
          · rw [c3] at bc'; cases bc'
  rw [if_neg o2] at h
  cases hF : numF a0.toList with
  | some F =>
    rw [hF] at h
    replace h : (if (K1 == 3 && K2 == 3) = true then some (exactV (F N1 N2).1 (F N1 N2).2) else some (throwV noNumber)) = some (r1, r2, r3, r4, r5) := h
    by_cases b9 : (K1 == 3 && K2 == 3) = true
    · rw [if_pos b9] at h
      obtain ⟨rfl, rfl, rfl, rfl, rfl⟩ := v5_split h
      have e12 : K1 = 3 ∧ K2 = 3 := by simpa using b9
      obtain ⟨rfl, rfl⟩ := e12
      exact bin_num a0 _ _ _ _ _ _ 3 N1 3 N2 S1 S2 w hT h1 h2 o0 o1 o2 F hF b9 (plain_range h1) (plain_range h2)
    · rw [if_neg b9] at h
      obtain ⟨rfl, rfl, rfl, rfl, rfl⟩ := v5_split h
      exact bin_nonum a0 _ _ _ _ _ _ K1 N1 K2 N2 S1 S2 w hT h1 h2 o0 o1 o2 F hF (eq_false_of_ne_true b9)
  | none =>
    rw [hF] at h
    cases hO : ordF a0.toList with
    | some F =>
      rw [hO] at h
      replace h : (if (K1 == 3 && K2 == 3) = true then some (doneB (F (wrap64 (N1 - N2)))) else if (K1 == 4 && K2 == 4) = true then (if S1.size ≤ 70368744177664 ∧ S2.size ≤ 70368744177664 then some (doneB (F (cmpL (runeL S1) (runeL S2)))) else none) else some (throwV noOrder)) = some (r1, r2, r3, r4, r5) := h
      by_cases b9 : (K1 == 3 && K2 == 3) = true
      · rw [if_pos b9] at h
        obtain ⟨rfl, rfl, rfl, rfl, rfl⟩ := v5_split h
        exact bin_ordn a0 _ _ _ _ _ _ K1 N1 K2 N2 S1 S2 w hT h1 h2 o0 o1 o2 hF F hO b9
      · rw [if_neg b9] at h
        by_cases b10 : (K1 == 4 && K2 == 4) = true
        · rw [if_pos b10] at h
          split at h
          · rename_i hs
            obtain ⟨rfl, rfl, rfl, rfl, rfl⟩ := v5_split h
            exact bin_ordt a0 _ _ _ _ _ _ K1 N1 K2 N2 S1 S2 w hT h1 h2 o0 o1 o2 hF F hO (eq_false_of_ne_true b9) b10 hs.1 hs.2
          · cases h
        · rw [if_neg b10] at h
          obtain ⟨rfl, rfl, rfl, rfl, rfl⟩ := v5_split h
          exact bin_noord a0 _ _ _ _ _ _ K1 N1 K2 N2 S1 S2 w hT h1 h2 o0 o1 o2 hF F hO (eq_false_of_ne_true b9) (eq_false_of_ne_true b10)
    | none =>
      rw [hO] at h
      obtain ⟨rfl, rfl, rfl, rfl, rfl⟩ := v5_split h
      exact bin_none a0 _ _ _ _ _ _ K1 N1 K2 N2 S1 S2 w hT h1 h2 o0 o1 o2 hF hO
end Go.Proofs.YtceahnhpeadkoaaDoor.V
