/- The plain law of ValueOrder. -/
import Derived.Test.YtceahnhpeadkoaaDoorHu
import Derived.Test.YtceahnhpeadkoaaDoorLxOrder
namespace Go.Proofs.YtceahnhpeadkoaaDoor.V
open Go Go.RowKit Go.Proofs.YtceahnhpeadkoaaDoorW.PrintWords Go.Proofs.YtceahnhpeadkoaaDoorW.PrintLast Go.Proofs.YtceahnhpeadkoaaDoorW.PrintMore
set_option linter.unusedVariables false
set_option linter.unusedSimpArgs false
theorem o_bytes {a b : ByteArray} (h : a.data.toList = b.data.toList) : a = b := ByteArray.ext (Array.toList_inj.1 h)
theorem o_flat (s : ByteArray) : ∀ b i, s.data.toList.length ≤ i + b → (∀ x ∈ rowsAux s b i, x.f3 = true) → s.data.toList.drop i = (runesAux s b i).flatMap Lib.encodeRune
  | 0, i, h, _ => by
    unfold runesAux
    rw [List.drop_eq_nil_of_le (by omega)]
    rfl
  | b + 1, i, h, hg => by
    unfold runesAux
    unfold rowsAux at hg
    have hz : s.data.toList.length = s.size := by rw [Array.length_toList]; rfl
    by_cases hi : i < s.size
    · rw [if_pos hi] at hg ⊢
      have hw := width_le s i
      have h0 := hg _ (List.mem_cons_self ..)
      have hd : Lib.decodeL (s.data.toList.drop i) = Utf8.decode s i := Lib.decodeL_drop s i
      have he := Lib.encode_decode (s.data.toList.drop i) (by rw [ne_eq, List.drop_eq_nil_iff]; omega) (by
        rw [hd]
        intro hc
        unfold goodD at h0
        simp [hc.1, hc.2] at h0)
      rw [hd] at he
      rw [List.flatMap_cons, he, ← o_flat s b _ (by omega) (fun x hx => hg x (List.mem_cons_of_mem _ hx)), ← List.drop_drop, List.take_append_drop]
    · rw [if_neg hi, List.drop_eq_nil_of_le (by omega)]
      rfl
theorem o_inj (s t : ByteArray) (hs : ((rowsOf s).all fun x => x.f3) = true) (ht : ((rowsOf t).all fun x => x.f3) = true) (h : runeL s = runeL t) : s = t := by
  have a := o_flat s s.size 0 (by rw [Array.length_toList]; show s.size ≤ _; omega) (List.all_eq_true.1 hs)
  have b := o_flat t t.size 0 (by rw [Array.length_toList]; show t.size ≤ _; omega) (List.all_eq_true.1 ht)
  unfold runeL at h
  rw [h, ← b] at a
  exact o_bytes a
theorem cmp_anti : ∀ x y : List Int, cmpL y x = -cmpL x y
  | [], [] => rfl
  | [], y :: ys => by simp [cmpL]
  | x :: xs, [] => by simp [cmpL]
  | x :: xs, y :: ys => by
    unfold cmpL
    by_cases h : x = y
    · rw [if_pos h, if_pos h.symm, cmp_anti xs ys]
    · rw [if_neg h, if_neg (fun g => h g.symm)]
      omega
theorem cmp_zero : ∀ x y : List Int, cmpL x y = 0 → x = y
  | [], [], _ => rfl
  | [], y :: ys, h => by simp [cmpL] at h; omega
  | x :: xs, [], h => by simp [cmpL] at h; omega
  | x :: xs, y :: ys, h => by
    unfold cmpL at h
    by_cases g : x = y
    · rw [if_pos g] at h
      rw [g, cmp_zero xs ys h]
    · rw [if_neg g] at h
      omega
theorem cmp_refl : ∀ x : List Int, cmpL x x = 0
  | [] => rfl
  | x :: xs => by
    unfold cmpL
    rw [if_pos rfl, cmp_refl xs]
theorem o_list (s t : ByteArray) : (s.toList == t.toList) = decide (s = t) := by
  rw [ByteArray.toList_eq, ByteArray.toList_eq]
  by_cases h : s = t
  · simp [h]
  · have : ¬ s.data.toList = t.data.toList := fun g => h (o_bytes g)
    simp only [h, decide_false, beq_eq_false_iff_ne, ne_eq]
    exact this
/-- What the operators of order say of two values, of which one number tells. -/
structure Ord (k1 n1 : Int) (s1 : ByteArray) (k2 n2 : Int) (s2 : ByteArray) (c : Int) : Prop where
  lt : value_Binary.f ⟨#[60]⟩ k1 n1 s1 k2 n2 s2 = some (doneB (decide (c < 0)))
  le : value_Binary.f ⟨#[60, 61]⟩ k1 n1 s1 k2 n2 s2 = some (doneB (decide (c ≤ 0)))
  gt : value_Binary.f ⟨#[62]⟩ k1 n1 s1 k2 n2 s2 = some (doneB (decide (0 < c)))
  ge : value_Binary.f ⟨#[62, 61]⟩ k1 n1 s1 k2 n2 s2 = some (doneB (decide (0 ≤ c)))
  eq : value_Binary.f ⟨#[61, 61, 61]⟩ k1 n1 s1 k2 n2 s2 = some (doneB (decide (c = 0)))
  more : value_Binary.f ⟨#[60]⟩ k2 n2 s2 k1 n1 s1 = some (doneB (decide (0 < c)))
theorem b_ord (op : ByteArray) (F : Int → Bool) (K1 N1 K2 N2 : Int) (S1 S2 : ByteArray) (o0 : op.toList ≠ [61, 61, 61]) (o1 : op.toList ≠ [33, 61, 61]) (o2 : op.toList ≠ [43]) (hN : numF op.toList = none) (hO : ordF op.toList = some F) :
    binG op.toList K1 N1 S1 K2 N2 S2 = if (K1 == 3 && K2 == 3) = true then some (doneB (F (wrap64 (N1 - N2))))
        else if (K1 == 4 && K2 == 4) = true then (if S1.size ≤ 70368744177664 ∧ S2.size ≤ 70368744177664 then some (doneB (F (cmpL (runeL S1) (runeL S2)))) else none)
        else some (throwV noOrder) := by
  unfold binG
  rw [if_neg o0, if_neg o1, if_neg o2, hN, hO]
theorem ord_num (n1 n2 : Int) (s1 s2 : ByteArray) : Ord 3 n1 s1 3 n2 s2 (clampP n1 - clampP n2) := by
  have r1 := clampP_range n1
  have r2 := clampP_range n2
  have hp : ∀ n s, plainP 3 n s = (3, clampP n, ⟨#[]⟩) := fun n s => by simp [plainP]
  have key : ∀ (op : ByteArray) (F : Int → Bool) (m n : Int) (s t : ByteArray), op.toList ≠ [61, 61, 61] → op.toList ≠ [33, 61, 61] → op.toList ≠ [43] → numF op.toList = none → ordF op.toList = some F →
      value_Binary.f op 3 m s 3 n t = some (doneB (F (clampP m - clampP n))) := by
    intro op F m n s t o0 o1 o2 hN hO
    have q1 := clampP_range m
    have q2 := clampP_range n
    unfold value_Binary.f
    rw [plain_P, plain_P, Option.bind_some, Option.bind_some, hp, hp, b_ord op F _ _ _ _ _ _ o0 o1 o2 hN hO]
    have hw : wrap64 (clampP m - clampP n) = clampP m - clampP n := by unfold wrap64; omega
    simp only [hw]
    rfl
  refine ⟨?_, ?_, ?_, ?_, ?_, ?_⟩
  · exact key ⟨#[60]⟩ (fun c => decide (c < 0)) _ _ _ _ (by simp) (by simp) (by simp) (by simp [numF]) (by simp [ordF])
  · exact key ⟨#[60, 61]⟩ (fun c => decide (c ≤ 0)) _ _ _ _ (by simp) (by simp) (by simp) (by simp [numF]) (by simp [ordF])
  · exact key ⟨#[62]⟩ (fun c => decide (0 < c)) _ _ _ _ (by simp) (by simp) (by simp) (by simp [numF]) (by simp [ordF])
  · exact key ⟨#[62, 61]⟩ (fun c => decide (0 ≤ c)) _ _ _ _ (by simp) (by simp) (by simp) (by simp [numF]) (by simp [ordF])
  · unfold value_Binary.f
    rw [plain_P, plain_P, Option.bind_some, Option.bind_some, hp, hp]
    unfold binG
    rw [if_pos (by simp)]
    have : ((3 : Int) == 3 && (clampP n1 == clampP n2 && (⟨#[]⟩ : ByteArray).toList == (⟨#[]⟩ : ByteArray).toList)) = decide (clampP n1 - clampP n2 = 0) := by
      by_cases h : clampP n1 = clampP n2
      · simp [h]
      · simp [h, show ¬ (clampP n1 - clampP n2 = 0) by omega]
    rw [← this]
  · refine (key ⟨#[60]⟩ (fun c => decide (c < 0)) _ _ _ _ (by simp) (by simp) (by simp) (by simp [numF]) (by simp [ordF])).trans ?_
    have : decide (clampP n2 - clampP n1 < 0) = decide (0 < clampP n1 - clampP n2) := by
      by_cases h : clampP n2 - clampP n1 < 0
      · rw [decide_eq_true h, decide_eq_true (by omega)]
      · rw [decide_eq_false h, decide_eq_false (by omega)]
    rw [← this]
theorem ord_str (n1 n2 : Int) (s1 s2 : ByteArray) (h1 : s1.size ≤ 70368744177664) (h2 : s2.size ≤ 70368744177664) (g1 : ((rowsOf s1).all fun x => x.f3) = true) (g2 : ((rowsOf s2).all fun x => x.f3) = true) :
    Ord 4 n1 s1 4 n2 s2 (cmpL (runeL s1) (runeL s2)) := by
  have hp : ∀ n s, plainP 4 n s = (4, 0, s) := fun n s => by simp [plainP]
  have key : ∀ (op : ByteArray) (F : Int → Bool) (m n : Int) (s t : ByteArray), s.size ≤ 70368744177664 → t.size ≤ 70368744177664 → op.toList ≠ [61, 61, 61] → op.toList ≠ [33, 61, 61] → op.toList ≠ [43] → numF op.toList = none → ordF op.toList = some F →
      value_Binary.f op 4 m s 4 n t = some (doneB (F (cmpL (runeL s) (runeL t)))) := by
    intro op F m n s t hs ht o0 o1 o2 hN hO
    unfold value_Binary.f
    rw [plain_P, plain_P, Option.bind_some, Option.bind_some, hp, hp, b_ord op F _ _ _ _ _ _ o0 o1 o2 hN hO]
    simp only []
    rw [if_neg (by decide), if_pos (by decide), if_pos ⟨hs, ht⟩]
  refine ⟨?_, ?_, ?_, ?_, ?_, ?_⟩
  · exact key ⟨#[60]⟩ (fun c => decide (c < 0)) _ _ _ _ h1 h2 (by simp) (by simp) (by simp) (by simp [numF]) (by simp [ordF])
  · exact key ⟨#[60, 61]⟩ (fun c => decide (c ≤ 0)) _ _ _ _ h1 h2 (by simp) (by simp) (by simp) (by simp [numF]) (by simp [ordF])
  · exact key ⟨#[62]⟩ (fun c => decide (0 < c)) _ _ _ _ h1 h2 (by simp) (by simp) (by simp) (by simp [numF]) (by simp [ordF])
  · exact key ⟨#[62, 61]⟩ (fun c => decide (0 ≤ c)) _ _ _ _ h1 h2 (by simp) (by simp) (by simp) (by simp [numF]) (by simp [ordF])
  · unfold value_Binary.f
    rw [plain_P, plain_P, Option.bind_some, Option.bind_some, hp, hp]
    unfold binG
    rw [if_pos (by simp)]
    have : ((4 : Int) == 4 && ((0 : Int) == 0 && s1.toList == s2.toList)) = decide (cmpL (runeL s1) (runeL s2) = 0) := by
      rw [o_list]
      by_cases h : s1 = s2
      · subst h
        simp [cmp_refl]
      · have : ¬ cmpL (runeL s1) (runeL s2) = 0 := fun g => h (o_inj s1 s2 g1 g2 (cmp_zero _ _ g))
        simp [h, this]
    rw [← this]
  · refine (key ⟨#[60]⟩ (fun c => decide (c < 0)) _ _ _ _ h2 h1 (by simp) (by simp) (by simp) (by simp [numF]) (by simp [ordF])).trans ?_
    have hc := cmp_anti (runeL s1) (runeL s2)
    have : decide (cmpL (runeL s2) (runeL s1) < 0) = decide (0 < cmpL (runeL s1) (runeL s2)) := by
      by_cases h : cmpL (runeL s2) (runeL s1) < 0
      · rw [decide_eq_true h, decide_eq_true (by omega)]
      · rw [decide_eq_false h, decide_eq_false (by omega)]
    rw [← this]
theorem yes_done (b : Bool) : shucklaw14_yes.f (doneB b).1 (doneB b).2.1 (doneB b).2.2.1 (doneB b).2.2.2.1 (doneB b).2.2.2.2 = some b := by
  cases b
  · simp [shucklaw14_yes.f, doneB, b01]
  · simp [shucklaw14_yes.f, doneB, b01]
theorem order_core (k1 n1 : Int) (s1 : ByteArray) (k2 n2 : Int) (s2 : ByteArray) (c : Int) (h : Ord k1 n1 s1 k2 n2 s2 c) (k : Nat) : shucklaw14_ValueOrder.j2 (k + 5) false k1 n1 s1 k2 n2 s2 = some true := by
  obtain ⟨lt, le, gt, ge, eq, more⟩ := h
  have w1 : wrap64 1 = 1 := by unfold wrap64; omega
  have w2 : wrap64 (0 + 1) = 1 := by unfold wrap64; omega
  simp only [shucklaw14_ValueOrder.j2, shucklaw14_ValueOrder.j3, shucklaw14_ValueOrder.j4, shucklaw14_ValueOrder.j5, Bool.false_eq_true, if_false, lt, le, gt, ge, eq, more, Option.bind_some, yes_done, shucklaw14_known.f]
  rcases Int.lt_trichotomy c 0 with h | h | h
  · simp only [decide_eq_true h, decide_eq_false (show ¬ c = 0 by omega), decide_eq_false (show ¬ 0 < c by omega), decide_eq_true (show c ≤ 0 by omega), decide_eq_false (show ¬ 0 ≤ c by omega), w2, w1, if_true, Bool.false_eq_true, if_false, Bool.not_true, Bool.not_false, beq_self_eq_true, Int.zero_add]
  · simp only [decide_eq_true h, decide_eq_false (show ¬ c < 0 by omega), decide_eq_false (show ¬ 0 < c by omega), decide_eq_true (show c ≤ 0 by omega), decide_eq_true (show 0 ≤ c by omega), w2, w1, if_true, Bool.false_eq_true, if_false, Bool.not_true, Bool.not_false, beq_self_eq_true, Int.zero_add]
  · simp only [decide_eq_true h, decide_eq_false (show ¬ c = 0 by omega), decide_eq_false (show ¬ c < 0 by omega), decide_eq_false (show ¬ c ≤ 0 by omega), decide_eq_true (show 0 ≤ c by omega), w2, w1, if_true, Bool.false_eq_true, if_false, Bool.not_true, Bool.not_false, beq_self_eq_true, Int.zero_add]
theorem order_law (k1 n1 : Int) (s1 : ByteArray) (k2 n2 : Int) (s2 : ByteArray) (h1 : s1.size ≤ 4398046511000) (h2 : s2.size ≤ 4398046511000) : shucklaw14_ValueOrder.f 7 k1 n1 s1 k2 n2 s2 = some true := by
  have out : shucklaw14_ValueOrder.j2 5 true k1 n1 s1 k2 n2 s2 = some true := by simp [shucklaw14_ValueOrder.j2, shucklaw14_known.f]
  have j1 : ∀ x5 x6 : Bool, (x5 = true → k1 = 3 ∧ k2 = 3) → (x6 = true → k1 = 4 ∧ k2 = 4 ∧ ((rowsOf s1).all fun x => x.f3) = true ∧ ((rowsOf s2).all fun x => x.f3) = true) → shucklaw14_ValueOrder.j1 6 x5 x6 k1 n1 s1 k2 n2 s2 = some true := by
    intro x5 x6 e5 e6
    rw [show (6 : Nat) = 5 + 1 from rfl]
    simp only [shucklaw14_ValueOrder.j1]
    split
    · exact out
    · split
      · rename_i h5
        obtain ⟨rfl, rfl⟩ := e5 h5
        exact order_core _ _ _ _ _ _ _ (ord_num n1 n2 s1 s2) 0
      · by_cases h6 : x6 = false
        · rw [h6, Bool.not_false]
          exact out
        · rw [Bool.not_eq_false] at h6
          rw [h6, Bool.not_true]
          obtain ⟨rfl, rfl, g1, g2⟩ := e6 h6
          exact order_core _ _ _ _ _ _ _ (ord_str n1 n2 s1 s2 (by omega) (by omega) g1 g2) 0
  have j0 : ∀ x5 : Bool, (x5 = true → k1 = 3 ∧ k2 = 3) → shucklaw14_ValueOrder.j0 7 x5 k1 n1 s1 k2 n2 s2 = some true := by
    intro x5 e5
    rw [show (7 : Nat) = 6 + 1 from rfl]
    simp only [shucklaw14_ValueOrder.j0]
    by_cases e1 : k1 = 4
    · rw [if_pos e1]
      by_cases e2 : k2 = 4
      · rw [if_pos e2]
        unfold shuckref1_Good.f
        rw [if_pos h1, if_pos h2, Option.bind_some, Option.bind_some]
        by_cases g1 : ((rowsOf s1).all fun x => x.f3) = true
        · rw [if_pos g1]
          exact j1 x5 _ e5 (fun h => ⟨e1, e2, g1, h⟩)
        · rw [if_neg g1]
          exact j1 x5 false e5 (fun h => by cases h)
      · rw [if_neg e2]
        exact j1 x5 false e5 (fun h => by cases h)
    · rw [if_neg e1]
      exact j1 x5 false e5 (fun h => by cases h)
  unfold shucklaw14_ValueOrder.f
  by_cases e : k1 = 3
  · rw [if_pos e]
    exact j0 _ (fun h => ⟨e, by simpa using h⟩)
  · rw [if_neg e]
    exact j0 _ (fun h => by cases h)
end Go.Proofs.YtceahnhpeadkoaaDoor.V
