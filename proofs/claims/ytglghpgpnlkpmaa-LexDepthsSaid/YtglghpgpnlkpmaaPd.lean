/- Depth and the document's Depth say the same. -/
import Derived.Test.YtglghpgpnlkpmaaPLexDepthsx2
namespace Go.Proofs.Ytglghpgpnlkpmaa.PLexDepths
open Go.RowKit Go.Proofs.YtglghpgpnlkpmaaW.PrintWords Go.Proofs.YtglghpgpnlkpmaaW.PrintLast Go.Proofs.YtglghpgpnlkpmaaW.PrintMore
set_option linter.unusedVariables false
set_option linter.unusedSimpArgs false
theorem w64 {n : Int} (h0 : -9223372036854775808 ≤ n) (h1 : n ≤ 9223372036854775807) : wrap64 n = n := by unfold wrap64; omega
theorem turn_same (k : Int) (s : ByteArray) (a e : Int) : ∃ t : Int, -1 ≤ t ∧ t ≤ 1 ∧ ∀ f : Nat, scan_Turn.f (f + 1) k s a e = some t ∧ shuckref2_Turn.f (f + 1) k s a e = some t := by
  unfold scan_Turn.f shuckref2_Turn.f
  by_cases h6 : k = 6
  · exact ⟨1, by omega, by omega, fun f => by simp [h6, shuckref2_Turn.j0]⟩
  by_cases h8 : k = 8
  · exact ⟨-1, by omega, by omega, fun f => by simp [h8, shuckref2_Turn.j0]⟩
  by_cases h9 : k = 9
  · subst h9
    by_cases a1 : s.toList = [40]
    · exact ⟨1, by omega, by omega, fun f => by simp [a1, shuckref2_Turn.j0, scan_Turn.j0]⟩
    by_cases a2 : s.toList = [91]
    · exact ⟨1, by omega, by omega, fun f => by simp [a2, shuckref2_Turn.j0, scan_Turn.j0]⟩
    by_cases a3 : s.toList = [123]
    · exact ⟨1, by omega, by omega, fun f => by simp [a3, shuckref2_Turn.j0, scan_Turn.j0]⟩
    by_cases a4 : s.toList = [41]
    · exact ⟨-1, by omega, by omega, fun f => by simp [a4, shuckref2_Turn.j0, scan_Turn.j0]⟩
    by_cases a5 : s.toList = [93]
    · exact ⟨-1, by omega, by omega, fun f => by simp [a5, shuckref2_Turn.j0, scan_Turn.j0]⟩
    by_cases a6 : s.toList = [125]
    · exact ⟨-1, by omega, by omega, fun f => by simp [a6, shuckref2_Turn.j0, scan_Turn.j0]⟩
    exact ⟨0, by omega, by omega, fun f => by simp [a1, a2, a3, a4, a5, a6, shuckref2_Turn.j0, scan_Turn.j0]⟩
  · exact ⟨0, by omega, by omega, fun f => by simp [h6, h8, h9, shuckref2_Turn.j0]⟩
theorem depth_l0 (l : List S33) (most : Int) (hl : l.length ≤ 1500) : ∀ (m i : Nat) (n best first : Int), l.length - i = m → 0 ≤ n → n ≤ i → i ≤ l.length → ∃ r, ∀ k, 2 * m + 3 ≤ k → lex_Depth.l0 k most n best first l (l.length : Int) (i : Int) = some r ∧ shuckref2_Depth.l0 k l most n best first (i : Int) = some r
  | 0, i, n, best, first, hm, h0, h1, hi => by
    refine ⟨(best, first), fun k hk => ?_⟩
    obtain ⟨f, rfl⟩ : ∃ f, k = f + 1 := ⟨k - 1, by omega⟩
    have : ¬ (i : Int) < (l.length : Int) := by omega
    unfold lex_Depth.l0 shuckref2_Depth.l0
    rw [if_neg this, if_neg this]
    exact ⟨rfl, rfl⟩
  | m + 1, i, n, best, first, hm, h0, h1, hi => by
    have hlt : (i : Int) < (l.length : Int) := by omega
    obtain ⟨t, t0, t1, ht⟩ := turn_same (rd_T33 l i).f0 (rd_T33 l i).f1 (rd_T33 l i).f2 (rd_T33 l i).f3
    have wn : wrap64 (n + t) = n + t := w64 (by omega) (by omega)
    have wi : wrap64 ((i : Int) + 1) = ((i + 1 : Nat) : Int) := by rw [w64 (by omega) (by omega)]; omega
    obtain ⟨r, hr⟩ := depth_l0 l most hl m (i + 1) (mx 0 (n + t)) (mx best (mx 0 (n + t))) (if mx 0 (n + t) > most then (if first < 0 then (i : Int) else first) else first) (by omega) (by unfold mx; split <;> omega) (by unfold mx; split <;> omega) (by omega)
    refine ⟨r, fun k hk => ?_⟩
    obtain ⟨f, rfl⟩ : ∃ f, k = f + 3 := ⟨k - 3, by omega⟩
    have hr1 := (hr (f + 2) (by omega)).1
    have hr2 := (hr (f + 1) (by omega)).2
    constructor
    · unfold lex_Depth.l0
      rw [if_pos hlt, if_pos (by omega), if_pos hlt, (ht (f + 1)).1]
      simp only [Option.bind_some, wn, wi]
      split
      · rename_i hm1
        rw [if_pos hm1] at hr1
        split
        · rename_i hf
          rw [if_pos hf] at hr1
          exact hr1
        · rename_i hf
          rw [if_neg hf] at hr1
          exact hr1
      · rename_i hm1
        rw [if_neg hm1] at hr1
        exact hr1
    · unfold shuckref2_Depth.l0
      rw [if_pos hlt, if_pos (by omega), (ht (f + 1)).2]
      simp only [Option.bind_some, wn]
      have key : ∀ x, x = mx 0 (n + t) → shuckref2_Depth.j1 (f + 2) l most x best first (i : Int) = some r := by
        intro x hx
        rw [← hx] at hr2
        unfold shuckref2_Depth.j1
        simp only [wi]
        by_cases c1 : x > best
        · rw [if_pos c1]
          rw [show mx best x = x by unfold mx; split <;> omega] at hr2
          by_cases c2 : x > most
          · rw [if_pos c2] at hr2 ⊢
            by_cases c3 : first < 0
            · rw [if_pos c3] at hr2 ⊢; exact hr2
            · rw [if_neg c3] at hr2 ⊢; exact hr2
          · rw [if_neg c2] at hr2 ⊢; exact hr2
        · rw [if_neg c1]
          rw [show mx best x = best by unfold mx; split <;> omega] at hr2
          by_cases c2 : x > most
          · rw [if_pos c2] at hr2 ⊢
            by_cases c3 : first < 0
            · rw [if_pos c3] at hr2 ⊢; exact hr2
            · rw [if_neg c3] at hr2 ⊢; exact hr2
          · rw [if_neg c2] at hr2 ⊢; exact hr2
      split
      · exact key 0 (by unfold mx; split <;> omega)
      · exact key (n + t) (by unfold mx; split <;> omega)
theorem depth_same (l : List S33) (most : Int) (hl : l.length ≤ 1500) : ∃ k r, lex_Depth.f k l most = some r ∧ shuckref2_Depth.f k l most = some r := by
  obtain ⟨r, hr⟩ := depth_l0 l most hl l.length 0 0 0 (-1) (by omega) (by omega) (by omega) (by omega)
  exact ⟨2 * l.length + 3, r, (hr _ (Nat.le_refl _)).1, (hr _ (Nat.le_refl _)).2⟩
end Go.Proofs.Ytglghpgpnlkpmaa.PLexDepths
