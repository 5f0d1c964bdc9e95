/- The scanner: one rune or escape. -/
import Derived.Test.YtglghpgpnlkpmaaLb
import Derived.Test.YtglghpgpnlkpmaaLd
import Derived.Test.YtglghpgpnlkpmaaLh
namespace Go.Proofs.Ytglghpgpnlkpmaa.V
open Go.RowKit Go.Proofs.YtglghpgpnlkpmaaW.PrintWords Go.Proofs.YtglghpgpnlkpmaaW.PrintLast Go.Proofs.YtglghpgpnlkpmaaW.PrintMore
attribute [local go_sem] max2_int min2_int max_two min_two max_three min_three max_four min_four   -- for this text's walks alone
set_option linter.unusedVariables false
set_option linter.unusedSimpArgs false
set_option maxHeartbeats 40000000
set_option maxRecDepth 100000
/-- The byte that an escape's letter says. -/
def escB (a : Int) : Option Int := if a = 110 then some 10 else if a = 114 then some 13 else if a = 116 then some 9 else if a = 48 then some 0 else if a = 92 then some 92 else if a = 34 then some 34 else if a = 39 then some 39 else if a = 36 then some 36 else if a = 96 then some 96 else none
/-- What rune1 answers: where it goes on, the bytes behind it, whether it is one (r1, r2: what Decode says at i). -/
def runeR (l : List Int) (i : Nat) (xs : List Int) (r1 r2 : Int) : Int × List Int × Bool :=
  if rd l i ≠ 92 then ((i : Int) + r2, xs ++ bytesOf (Utf8.encode r1), true)
  else if l.length ≤ i + 1 then ((i : Int), xs, false)
  else match escB (rd l ((i : Int) + 1)) with
    | some b => ((i : Int) + 2, xs ++ [b], true)
    | none => if rd l ((i : Int) + 1) = 117 then hexR l i xs else ((i : Int), xs, false)
theorem rune1_any (B g : Nat) (A : Option Addr) (c : Nat) (l : List Int) (p : Int) (vo : Value) (i : Nat) (v : Value) (xs : List Int) (kd : Nat) (r1 r2 : Int) (r3 : Bool) (w : World) (hS : Sc w g A c l p vo) (hgB : g < B) (hBw : B ≤ w.heap.size) (hO : w.ownsRow B 5 1 v xs.length (nums .u8 xs)) (hx : xs.length ≤ 1000000) (hi : i < l.length) (h8 : ∀ i, 0 ≤ rd l i ∧ rd l i ≤ 255)
    (hD : rd l i ≠ 92 → text_Decode.f kd l i = some (r1, r2, r3)) (hr2 : 0 ≤ r2 ∧ r2 ≤ 4) :
    Calls Try.prog 54 #[.pointer (some ⟨g, 0, none⟩), .int .i64 i, v] w fun z w' => ∃ v', z = .returned (.tuple #[.int .i64 (runeR l i xs r1 r2).1, v', .bool (runeR l i xs r1 r2).2.2]) ∧ w'.ownsRow B 5 1 v' (runeR l i xs r1 r2).2.1.length (nums .u8 (runeR l i xs r1 r2).2.1) ∧ Below B w w' := by
  have hu60 := Try.underlying60
  have HS := Aside0.mk hS
  have HO := Aside0.mk hO
  have HB := Aside0.mk (Below.refl B w)
  have HHex := Aside0.mk (hexed_any B g A c l p vo i v xs w hS hgB hBw hO hx hi h8)
  obtain ⟨hb, hr, hc, hl⟩ := hS
  have c0 : w.cell? ⟨g, 0, none⟩ = some (.slice A l.length c) := (blk_cell hb 0).trans rfl
  have HR := Aside0.mk hr
  have HD := Aside0.mk hD
  have HE := Aside0.mk (enc_small hx r1)
  have HL : (xs.length + 1) * 1 ≤ 140737488355328 := by omega
  obtain ⟨ad, e, hx0⟩ := Kd.at_int hr (i : Int) (by omega) (by omega)
  cases e
  replace hx0 : w.cell? (ad.add i) = some (.int .u8 (rd l i)) := hx0
  have q1 : ((i : Int) < (l.length : Int)) = True := eq_true (by omega)
  have q0 : (0 ≤ (i : Int)) = True := eq_true (by omega)
  clear hr hb hO h8 hD
  by_cases h92 : rd l i = 92
  · rw [h92] at hx0
    have HN := Aside0.mk h92
    clear h92
    by_cases h1 : i + 1 < l.length
    · have d1 : decide ((l.length : Int) ≤ (i : Int) + 1) = false := decide_eq_false (by omega)
      obtain ⟨ad1, e, hx1⟩ := Kd.at_int HR.out ((i : Int) + 1) (by omega) (by omega)
      cases e
      rw [show ((i : Int) + 1).toNat = i + 1 by omega] at hx1
      replace hx1 : w.cell? { block := ad.block, off := ad.off + (i + 1) } = some (.int .u8 (rd l ((i : Int) + 1))) := hx1
      have q2 : ((i : Int) + 1 < (l.length : Int)) = True := eq_true (by omega)
      have q3 : (0 ≤ (i : Int) + 1) = True := eq_true (by omega)
      have HRun := Aside0.mk (show runeR l i xs r1 r2 = (match escB (rd l ((i : Int) + 1)) with | some b => ((i : Int) + 2, xs ++ [b], true) | none => if rd l ((i : Int) + 1) = 117 then hexR l i xs else ((i : Int), xs, false)) from by unfold runeR; rw [if_neg (by rw [HN.out]; simp), if_neg (by omega)])
      obtain ⟨y, hy⟩ : ∃ y, rd l ((i : Int) + 1) = y := ⟨_, rfl⟩
      rw [hy] at hx1 HRun
      clear hy
      go_enter Try.func54, Try.ntmps54
      go_upto_block 0 with fail
      clear hx1 hx0 c0
      by_cases y0 : y = 110
      · subst y0
        go_wp2_with ((with_reducible refine gate_dst (N := 63) rfl ?_); refine print_append_num (w0 := w) B rfl (.tmp 61) (.tmp 62) 22 5 .u8 1 rfl Try.underlying22 info5 (by decide) v xs 10 rfl rfl HO.out HB.out hBw HL ?_; rintro v1 w5 hO1 hB1 hg1 hb1; have HO5 := Aside0.mk hO1; have HB5 := Aside0.mk hB1; clear hO1 hB1 hg1 hb1)
        go_ret3
        rw [HRun.out]
        exact ⟨v1, by first | rfl | simp [escB], HO5.out, HB5.out⟩
      · have z0 : (y == 110) = false := by simpa using y0
        by_cases y1 : y = 114
        · subst y1
          go_wp2_with ((with_reducible refine gate_dst (N := 70) rfl ?_); refine print_append_num (w0 := w) B rfl (.tmp 68) (.tmp 69) 22 5 .u8 1 rfl Try.underlying22 info5 (by decide) v xs 13 rfl rfl HO.out HB.out hBw HL ?_; rintro v1 w5 hO1 hB1 hg1 hb1; have HO5 := Aside0.mk hO1; have HB5 := Aside0.mk hB1; clear hO1 hB1 hg1 hb1)
          go_ret3
          rw [HRun.out]
          exact ⟨v1, by first | rfl | simp [escB], HO5.out, HB5.out⟩
        · have z1 : (y == 114) = false := by simpa using y1
          by_cases y2 : y = 116
          · subst y2
            go_wp2_with ((with_reducible refine gate_dst (N := 77) rfl ?_); refine print_append_num (w0 := w) B rfl (.tmp 75) (.tmp 76) 22 5 .u8 1 rfl Try.underlying22 info5 (by decide) v xs 9 rfl rfl HO.out HB.out hBw HL ?_; rintro v1 w5 hO1 hB1 hg1 hb1; have HO5 := Aside0.mk hO1; have HB5 := Aside0.mk hB1; clear hO1 hB1 hg1 hb1)
            go_ret3
            rw [HRun.out]
            exact ⟨v1, by first | rfl | simp [escB], HO5.out, HB5.out⟩
          · have z2 : (y == 116) = false := by simpa using y2
            by_cases y3 : y = 48
            · subst y3
              go_wp2_with ((with_reducible refine gate_dst (N := 84) rfl ?_); refine print_append_num (w0 := w) B rfl (.tmp 82) (.tmp 83) 22 5 .u8 1 rfl Try.underlying22 info5 (by decide) v xs 0 rfl rfl HO.out HB.out hBw HL ?_; rintro v1 w5 hO1 hB1 hg1 hb1; have HO5 := Aside0.mk hO1; have HB5 := Aside0.mk hB1; clear hO1 hB1 hg1 hb1)
              go_ret3
              rw [HRun.out]
              exact ⟨v1, by first | rfl | simp [escB], HO5.out, HB5.out⟩
            · have z3 : (y == 48) = false := by simpa using y3
              by_cases y4 : y = 92
              · subst y4
                go_wp2_with ((with_reducible refine gate_dst (N := 96) rfl ?_); refine print_append_num (w0 := w) B rfl (.tmp 93) (.tmp 95) 22 5 .u8 1 rfl Try.underlying22 info5 (by decide) v xs 92 rfl rfl HO.out HB.out hBw HL ?_; rintro v1 w5 hO1 hB1 hg1 hb1; have HO5 := Aside0.mk hO1; have HB5 := Aside0.mk hB1; clear hO1 hB1 hg1 hb1)
                go_ret3
                rw [HRun.out]
                exact ⟨v1, by first | rfl | simp [escB], HO5.out, HB5.out⟩
              · have z4 : (y == 92) = false := by simpa using y4
                by_cases y5 : y = 34
                · subst y5
                  go_wp2_with ((with_reducible refine gate_dst (N := 96) rfl ?_); refine print_append_num (w0 := w) B rfl (.tmp 93) (.tmp 95) 22 5 .u8 1 rfl Try.underlying22 info5 (by decide) v xs 34 rfl rfl HO.out HB.out hBw HL ?_; rintro v1 w5 hO1 hB1 hg1 hb1; have HO5 := Aside0.mk hO1; have HB5 := Aside0.mk hB1; clear hO1 hB1 hg1 hb1)
                  go_ret3
                  rw [HRun.out]
                  exact ⟨v1, by first | rfl | simp [escB], HO5.out, HB5.out⟩
                · have z5 : (y == 34) = false := by simpa using y5
                  by_cases y6 : y = 39
                  · subst y6
                    go_wp2_with ((with_reducible refine gate_dst (N := 96) rfl ?_); refine print_append_num (w0 := w) B rfl (.tmp 93) (.tmp 95) 22 5 .u8 1 rfl Try.underlying22 info5 (by decide) v xs 39 rfl rfl HO.out HB.out hBw HL ?_; rintro v1 w5 hO1 hB1 hg1 hb1; have HO5 := Aside0.mk hO1; have HB5 := Aside0.mk hB1; clear hO1 hB1 hg1 hb1)
                    go_ret3
                    rw [HRun.out]
                    exact ⟨v1, by first | rfl | simp [escB], HO5.out, HB5.out⟩
                  · have z6 : (y == 39) = false := by simpa using y6
                    by_cases y7 : y = 36
                    · subst y7
                      go_wp2_with ((with_reducible refine gate_dst (N := 96) rfl ?_); refine print_append_num (w0 := w) B rfl (.tmp 93) (.tmp 95) 22 5 .u8 1 rfl Try.underlying22 info5 (by decide) v xs 36 rfl rfl HO.out HB.out hBw HL ?_; rintro v1 w5 hO1 hB1 hg1 hb1; have HO5 := Aside0.mk hO1; have HB5 := Aside0.mk hB1; clear hO1 hB1 hg1 hb1)
                      go_ret3
                      rw [HRun.out]
                      exact ⟨v1, by first | rfl | simp [escB], HO5.out, HB5.out⟩
                    · have z7 : (y == 36) = false := by simpa using y7
                      by_cases y8 : y = 96
                      · subst y8
                        go_wp2_with ((with_reducible refine gate_dst (N := 96) rfl ?_); refine print_append_num (w0 := w) B rfl (.tmp 93) (.tmp 95) 22 5 .u8 1 rfl Try.underlying22 info5 (by decide) v xs 96 rfl rfl HO.out HB.out hBw HL ?_; rintro v1 w5 hO1 hB1 hg1 hb1; have HO5 := Aside0.mk hO1; have HB5 := Aside0.mk hB1; clear hO1 hB1 hg1 hb1)
                        go_ret3
                        rw [HRun.out]
                        exact ⟨v1, by first | rfl | simp [escB], HO5.out, HB5.out⟩
                      · have z8 : (y == 96) = false := by simpa using y8
                        have HNone := Aside0.mk (show escB y = none from by unfold escB; rw [if_neg y0, if_neg y1, if_neg y2, if_neg y3, if_neg y4, if_neg y5, if_neg y6, if_neg y7, if_neg y8])
                        clear y0 y1 y2 y3 y4 y5 y6 y7 y8
                        by_cases y9 : y = 117
                        · have HRun' := Aside0.mk (show runeR l i xs r1 r2 = hexR l i xs from by rw [HRun.out, HNone.out]; simp [y9])
                          clear HRun HNone
                          subst y9
                          go_wp2_with (go_at_call 63; refine HHex.out.mono ?_; rintro e w5 ⟨v1, rfl, hO1, hB1⟩; have HO5 := Aside0.mk hO1; have HB5 := Aside0.mk hB1; clear hO1 hB1)
                          go_ret3
                          rw [HRun'.out]
                          exact ⟨v1, rfl, HO5.out, HB5.out⟩
                        · have z9 : (y == 117) = false := by simpa using y9
                          have HRun' := Aside0.mk (show runeR l i xs r1 r2 = ((i : Int), xs, false) from by rw [HRun.out, HNone.out]; simp [y9])
                          clear HRun HNone y9
                          go_wp2_with fail
                          go_ret3
                          rw [HRun'.out]
                          exact ⟨v, rfl, HO.out, HB.out⟩
    · have d1 : decide ((l.length : Int) ≤ (i : Int) + 1) = true := decide_eq_true (by omega)
      have HRun := Aside0.mk (show runeR l i xs r1 r2 = ((i : Int), xs, false) from by unfold runeR; rw [if_neg (by rw [HN.out]; simp), if_pos (by omega)])
      go_enter Try.func54, Try.ntmps54
      go_wp2_with fail
      go_ret3
      rw [HRun.out]
      exact ⟨v, rfl, HO.out, HB.out⟩
  · have hz : (rd l i != 92) = true := by simpa using h92
    have HRun := Aside0.mk (show runeR l i xs r1 r2 = ((i : Int) + r2, xs ++ bytesOf (Utf8.encode r1), true) from by unfold runeR; rw [if_pos h92])
    have HDe := Aside0.mk (text_Decode.calls kd (some ad) c l i r1 r2 r3 w HR.out hc (HD.out h92))
    clear h92
    go_enter Try.func54, Try.ntmps54
    go_wp2_with (first | (go_at_call 62; refine HDe.out.mono ?_; rintro e w4 ⟨rfl, hd⟩; have HB4 := Aside0.mk (hd.below.mono hBw); have HO4 := Aside0.mk (pw_own_below HO.out hd.below); have HZ4 : B ≤ w4.heap.size := Nat.le_trans hBw hd.below.size; clear hd) | ((with_reducible refine gate_dst (N := 37) rfl ?_); refine print_append_str (w0 := w) B rfl (.tmp 34) _ 22 9 5 rfl Try.underlying22 Try.underlying9 info5 v xs (Utf8.encode r1) rfl rfl HO4.out HB4.out HZ4 HE.out ?_; rintro v1 w5 hO1 hB1 hg1; have HO5 := Aside0.mk hO1; have HB5 := Aside0.mk hB1; clear hO1 hB1 hg1))
    go_ret3
    rw [HRun.out]
    exact ⟨v1, by first | rfl | simp, HO5.out, HB5.out⟩
end Go.Proofs.Ytglghpgpnlkpmaa.V
