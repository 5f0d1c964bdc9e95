/- The fixed text of shucklaw2.known: its tokens. -/
import Derived.Test.YtglghpgpnlkpmaaLn
import Derived.Test.YtglghpgpnlkpmaaLy
namespace Go.Proofs.Ytglghpgpnlkpmaa.V
open Go.RowKit Go.Shelf Go.Proofs.YtglghpgpnlkpmaaW.PrintWords Go.Proofs.YtglghpgpnlkpmaaW.PrintLast Go.Proofs.YtglghpgpnlkpmaaW.PrintMore
set_option linter.unusedVariables false
set_option linter.unusedSimpArgs false
set_option maxHeartbeats 40000000
set_option maxRecDepth 100000
def knL : List Int := [108, 101, 116, 32, 120, 32, 61, 32, 34, 97, 92, 110, 34, 59]
def knT : List (Tk × Int) := [((2, ⟨#[108, 101, 116]⟩, 0, 3), 0), ((1, ⟨#[120]⟩, 4, 5), 0), ((9, ⟨#[61]⟩, 6, 7), 0), ((4, ⟨#[97, 10]⟩, 8, 13), 0), ((9, ⟨#[59]⟩, 13, 14), 0), ((10, ⟨#[]⟩, 14, 14), 0)]
theorem kn0 : nextR knL 0 [] = (((2, ⟨#[108, 101, 116]⟩, 0, 3), true), 3, []) := by kernel_rfl
theorem kn1 : nextR knL 3 [] = (((1, ⟨#[120]⟩, 4, 5), true), 5, []) := by kernel_rfl
theorem kn2 : nextR knL 5 [] = (((9, ⟨#[61]⟩, 6, 7), true), 7, []) := by kernel_rfl
theorem kn3 : nextR knL 7 [] = (((4, ⟨#[97, 10]⟩, 8, 13), true), 13, []) := by kernel_rfl
theorem kn4 : nextR knL 13 [] = (((9, ⟨#[59]⟩, 13, 14), true), 14, []) := by kernel_rfl
theorem kn5 : nextR knL 14 [] = (((10, ⟨#[]⟩, 14, 14), true), 14, []) := by kernel_rfl
theorem kn_scan : scanGo knL 8193 0 0 [] = knT := by kernel_rfl
theorem rd_of {l : List Int} (h : ∀ x ∈ l, 0 ≤ x ∧ x ≤ 255) (i : Int) : 0 ≤ rd l i ∧ rd l i ≤ 255 := by
  unfold rd
  rw [List.getD_eq_getElem?_getD]
  cases hh : l[i.toNat]? with
  | none => simp
  | some x => exact h x (List.mem_of_getElem? hh)
theorem kn_8 (i : Int) : 0 ≤ rd knL i ∧ rd knL i ≤ 255 := rd_of (by decide) i
theorem kn_dec : DecOk knL := by
  have h : ∀ i : Fin 14, rd knL (i : Nat) ≠ 92 → text_Decode.f 12 knL (i : Nat) = some ((decK knL (i : Nat)).1, (decK knL (i : Nat)).2, true) ∧ 1 ≤ (decK knL (i : Nat)).2 ∧ (decK knL (i : Nat)).2 ≤ 4 := by decide +kernel
  intro i hi hne
  exact ⟨true, h ⟨i, hi⟩ hne⟩
/-- On a text of ASCII bytes ContainsAny answers. -/
theorem ca_ascii {l : List Int} (h : ∀ x ∈ l, 0 ≤ x ∧ x < 128) (hl : l.length ≤ 200000) : CaOk l := by
  intro p n W hn hpn
  have hs := cutN_size l p n hpn
  have ha : ∀ (j : Nat) b, (cutS l p (p + n : Nat)).data.toList[j]? = some b → b.toNat < 128 := by
    intro j b hb
    unfold cutS strOfNums at hb
    simp only [List.toList_toArray, List.getElem?_map, Option.map_eq_some_iff] at hb
    obtain ⟨x, hx, rfl⟩ := hb
    have hm := List.mem_of_getElem? hx
    have hx2 := h x (List.mem_of_mem_take (List.mem_of_mem_drop hm))
    rw [UInt8.toNat_ofNat']
    omega
  have hc := Try.strings_ContainsAny_laid (cutS l p (p + n : Nat)) ⟨#[32, 9, 13, 10]⟩ W (by omega) (by decide) ha (fun j b hb => by
    have hm := List.mem_of_getElem? hb
    simp at hm
    rcases hm with rfl | rfl | rfl | rfl <;> decide)
  unfold caB
  exact hc
theorem kn_ca : CaOk knL := ca_ascii (by decide) (by decide)
def KnP (p : Nat) (os : List Bool) : Prop := os = [] ∧ (p = 0 ∨ p = 3 ∨ p = 5 ∨ p = 7 ∨ p = 13 ∨ p = 14)
theorem kn_plain {p : Nat} {os : List Bool} (h : KnP p os) : (ahdN knL p).1 < knL.length → Plain knL (ahdN knL p).1 := by
  obtain ⟨_, h⟩ := h
  unfold Plain
  rcases h with rfl | rfl | rfl | rfl | rfl | rfl <;> decide +kernel
theorem kn_next (g : Nat) (A : Option Addr) (c p : Nat) (os : List Bool) (hg : g ≠ 0) (h : KnP p os) : NextAt g A c knL p os := fun W hS hM => by
  have hp : p ≤ knL.length := by
    have := h.2
    show p ≤ 14
    omega
  exact Next_plain g A c knL p os W hS hM hg hp (by decide) (by rw [h.1]; decide) kn_dec kn_8 kn_ca (kn_plain h)
theorem kn_step (p : Nat) (os : List Bool) (h : KnP p os) (hb : (nextR knL p os).1.2 = true) (hk : (nextR knL p os).1.1.1 ≠ 10) : 0 ≤ (nextR knL p os).2.1 ∧ KnP (nextR knL p os).2.1.toNat (nextR knL p os).2.2 := by
  obtain ⟨rfl, h⟩ := h
  unfold KnP
  rcases h with rfl | rfl | rfl | rfl | rfl | rfl
  · rw [kn0]; decide
  · rw [kn1]; decide
  · rw [kn2]; decide
  · rw [kn3]; decide
  · rw [kn4]; decide
  · rw [kn5] at hk; exact absurd rfl hk
end Go.Proofs.Ytglghpgpnlkpmaa.V
