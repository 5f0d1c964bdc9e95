/- The scanner: a quoted text: what it answers, in plain words. -/
import Derived.Test.YtglghpgpnlkpmaaLi
import Derived.Test.YtglghpgpnlkpmaaLc
import Derived.Test.YtglghpgpnlkpmaaLe
namespace Go.Proofs.Ytglghpgpnlkpmaa.V
open Go.RowKit Go.Proofs.YtglghpgpnlkpmaaW.PrintWords Go.Proofs.YtglghpgpnlkpmaaW.PrintLast Go.Proofs.YtglghpgpnlkpmaaW.PrintMore
attribute [local go_sem] max2_int min2_int max_two min_two max_three min_three max_four min_four   -- for this text's walks alone
set_option linter.unusedVariables false
set_option linter.unusedSimpArgs false
set_option maxHeartbeats 4000000
set_option maxRecDepth 100000
/-- What Decode says at i: the rune, and how many bytes it has. -/
def decK (l : List Int) (i : Nat) : Int × Int := match text_Decode.f 12 l i with | some r => (r.1, r.2.1) | none => (0, 1)
/-- Decode answers at every byte. -/
def DecOk (l : List Int) : Prop := ∀ i : Nat, i < l.length → rd l i ≠ 92 → ∃ r3, text_Decode.f 12 l i = some ((decK l i).1, (decK l i).2, r3) ∧ 1 ≤ (decK l i).2 ∧ (decK l i).2 ≤ 4
def runeK (l : List Int) (i : Nat) (xs : List Int) : Int × List Int × Bool := runeR l i xs (decK l i).1 (decK l i).2
theorem hexR_none {l : List Int} {i : Nat} {xs : List Int} (h : ¬ hasP l ((i : Int) + 2) ⟨#[123]⟩ = true) : hexR l i xs = ((i : Int), xs, false) := by
  unfold hexR
  rw [if_neg (fun hh => h hh.1)]
theorem hexR_size (l : List Int) (i : Nat) (xs : List Int) : (i : Int) ≤ (hexR l i xs).1 ∧ (hexR l i xs).1 ≤ i + 10 ∧ (hexR l i xs).2.1.length ≤ xs.length + 4 ∧ ((hexR l i xs).2.2 = true → (i : Int) + 1 ≤ (hexR l i xs).1) := by
  have hle := hexN_le l i
  by_cases h : hasP l ((i : Int) + 2) ⟨#[123]⟩ = true
  · cases hb : hexBad l i (hexN l i).1 (hexN l i).2
    · rw [hexR_good h hb]
      have := enc_size (wrap32 (hexN l i).2)
      refine ⟨by omega, by omega, ?_, by omega⟩
      simp only [List.length_append, bytesOf_length]
      omega
    · rw [hexR_bad hb]
      exact ⟨by simp, by simp; omega, by simp, fun h => by cases h⟩
  · rw [hexR_none h]
    exact ⟨by simp, by simp; omega, by simp, fun h => by cases h⟩
theorem escB_byte {a b : Int} (h : escB a = some b) : 0 ≤ b ∧ b ≤ 255 := by
  unfold escB at h
  repeat (first | (split at h; · cases h; omega) | (cases h; done))
theorem runeK_size (l : List Int) (i : Nat) (xs : List Int) (hD : DecOk l) (hi : i < l.length) : (i : Int) ≤ (runeK l i xs).1 ∧ (runeK l i xs).1 ≤ i + 10 ∧ (runeK l i xs).2.1.length ≤ xs.length + 4 ∧ ((runeK l i xs).2.2 = true → (i : Int) + 1 ≤ (runeK l i xs).1) := by
  unfold runeK runeR
  by_cases h : rd l i = 92
  · rw [if_neg (by simpa using h)]
    split
    · exact ⟨by simp, by simp; omega, by simp, by simp⟩
    · split
      · simp only [List.length_append, List.length_singleton]; exact ⟨by omega, by omega, by omega, by omega⟩
      · split
        · exact hexR_size l i xs
        · exact ⟨by simp, by simp; omega, by simp, by simp⟩
  · rw [if_pos h]
    obtain ⟨_, _, h1, h2⟩ := hD i hi h
    have := enc_size (decK l i).1
    simp only [List.length_append, bytesOf_length]
    exact ⟨by omega, by omega, by omega, by omega⟩
/-- Where a quoted text ends (its quote's place), and the bytes that it says. -/
def quoteGo (l : List Int) (en : Int) : Nat → Nat → List Int → Option (Nat × List Int)
  | 0, _, _ => none
  | f + 1, i, xs => if i < l.length then if rd l i = en then some (i, xs) else if rd l i = 10 ∨ rd l i = 13 then none else if (runeK l i xs).2.2 = true then quoteGo l en f (runeK l i xs).1.toNat (runeK l i xs).2.1 else none else none
theorem quoteGo_end {l : List Int} {en : Int} {f i : Nat} {xs : List Int} (h : ¬ i < l.length) : quoteGo l en f i xs = none := by
  cases f
  · rfl
  · unfold quoteGo; rw [if_neg h]
theorem quoteGo_fuel (l : List Int) (en : Int) (hD : DecOk l) : ∀ f f' i xs, l.length - i < f → f ≤ f' → quoteGo l en f i xs = quoteGo l en f' i xs
  | 0, _, _, _, h, _ => by omega
  | f + 1, f' + 1, i, xs, h, h' => by
    unfold quoteGo
    by_cases h1 : i < l.length
    · rw [if_pos h1, if_pos h1]
      split
      · rfl
      · split
        · rfl
        · split
          · rename_i hr
            have := (runeK_size l i xs hD h1).2.2.2 hr
            exact quoteGo_fuel l en hD f f' _ _ (by omega) (by omega)
          · rfl
    · rw [if_neg h1, if_neg h1]
  | f + 1, 0, _, _, _, h => by omega
def quoteN (l : List Int) (en : Int) (i : Nat) (xs : List Int) : Option (Nat × List Int) := quoteGo l en (l.length - i + 1) i xs
theorem quoteN_end {l : List Int} {en : Int} {i : Nat} {xs : List Int} (h : ¬ i < l.length) : quoteN l en i xs = none := quoteGo_end h
theorem quoteN_here {l : List Int} {en : Int} {i : Nat} {xs : List Int} (h : i < l.length) (he : rd l i = en) : quoteN l en i xs = some (i, xs) := by
  unfold quoteN quoteGo; rw [if_pos h, if_pos he]
theorem quoteN_line {l : List Int} {en : Int} {i : Nat} {xs : List Int} (h : i < l.length) (he : rd l i ≠ en) (hn : rd l i = 10 ∨ rd l i = 13) : quoteN l en i xs = none := by
  unfold quoteN quoteGo; rw [if_pos h, if_neg he, if_pos hn]
theorem quoteN_bad {l : List Int} {en : Int} {i : Nat} {xs : List Int} (h : i < l.length) (he : rd l i ≠ en) (hn : ¬ (rd l i = 10 ∨ rd l i = 13)) (hr : (runeK l i xs).2.2 = false) : quoteN l en i xs = none := by
  unfold quoteN quoteGo; rw [if_pos h, if_neg he, if_neg hn, if_neg (by simp [hr])]
theorem quoteN_rune {l : List Int} {en : Int} {i : Nat} {xs : List Int} (hD : DecOk l) (h : i < l.length) (he : rd l i ≠ en) (hn : ¬ (rd l i = 10 ∨ rd l i = 13)) (hr : (runeK l i xs).2.2 = true) : quoteN l en i xs = quoteN l en (runeK l i xs).1.toNat (runeK l i xs).2.1 := by
  have := (runeK_size l i xs hD h).2.2.2 hr
  unfold quoteN
  rw [quoteGo_fuel l en hD (l.length - (runeK l i xs).1.toNat + 1) (l.length - i) _ _ (by omega) (by omega)]
  conv => lhs; unfold quoteGo
  rw [if_pos h, if_neg he, if_neg hn, if_pos hr]
/-- The string token at p. -/
def quoteP (l : List Int) (en : Int) (p : Nat) : Tk := match quoteN l en (p + 1) [] with | some r => (4, strOfNums r.2, (p : Int), (r.1 : Int) + 1) | none => tk0
theorem rune1_K (B g : Nat) (A : Option Addr) (c : Nat) (l : List Int) (p : Int) (vo : Value) (i : Nat) (v : Value) (xs : List Int) (w : World) (hS : Sc w g A c l p vo) (hgB : g < B) (hBw : B ≤ w.heap.size) (hO : w.ownsRow B 5 1 v xs.length (nums .u8 xs)) (hx : xs.length ≤ 1000000) (hi : i < l.length) (h8 : ∀ i, 0 ≤ rd l i ∧ rd l i ≤ 255) (hD : DecOk l)
    (k : Nat) (ys : List Int) (b : Bool) (hk : (runeK l i xs).1 = (k : Int)) (hys : (runeK l i xs).2.1 = ys) (hb : (runeK l i xs).2.2 = b) :
    Calls Try.prog 54 #[.pointer (some ⟨g, 0, none⟩), .int .i64 i, v] w fun z w' => ∃ v', z = .returned (.tuple #[.int .i64 (k : Int), v', .bool b]) ∧ w'.ownsRow B 5 1 v' ys.length (nums .u8 ys) ∧ Below B w w' := by
  subst hys hb
  rw [← hk]
  by_cases h : rd l i = 92
  · have e : runeR l i xs 0 0 = runeK l i xs := by
      unfold runeK runeR
      rw [if_neg (show ¬ (rd l i ≠ 92) from fun hn => hn h), if_neg (show ¬ (rd l i ≠ 92) from fun hn => hn h)]
    rw [← e]
    exact rune1_any B g A c l p vo i v xs 12 0 0 true w hS hgB hBw hO hx hi h8 (fun h' => absurd h h') (by omega)
  · obtain ⟨r3, h1, h2, h3⟩ := hD i hi h
    exact rune1_any B g A c l p vo i v xs 12 _ _ r3 w hS hgB hBw hO hx hi h8 (fun _ => h1) (by omega)
theorem quoteP_none {l : List Int} {en : Int} {p : Nat} (h : quoteN l en (p + 1) [] = none) : quoteP l en p = tk0 := by unfold quoteP; rw [h]
theorem quoteP_some {l : List Int} {en : Int} {p k : Nat} {xs : List Int} (h : quoteN l en (p + 1) [] = some (k, xs)) : quoteP l en p = (4, strOfNums xs, (p : Int), (k : Int) + 1) := by unfold quoteP; rw [h]
attribute [irreducible] runeK decK quoteN quoteGo
end Go.Proofs.Ytglghpgpnlkpmaa.V
