/- The scanner: a quoted text. -/
import Derived.Test.YtglghpgpnlkpmaaLj
namespace Go.Proofs.Ytglghpgpnlkpmaa.V
open Go.RowKit Go.Proofs.YtglghpgpnlkpmaaW.PrintWords Go.Proofs.YtglghpgpnlkpmaaW.PrintLast Go.Proofs.YtglghpgpnlkpmaaW.PrintMore
attribute [local go_sem] max2_int min2_int max_two min_two max_three min_three max_four min_four   -- for this text's walks alone
set_option linter.unusedVariables false
set_option linter.unusedSimpArgs false
set_option maxHeartbeats 40000000
set_option maxRecDepth 100000
theorem quoted_any (g : Nat) (A : Option Addr) (c : Nat) (l : List Int) (p : Nat) (vo : Value) (en : Int) (w : World) (hS : Sc w g A c l p vo) (hp : p < l.length) (hlm : l.length ≤ 200000) (hDc : DecOk l) (h8 : ∀ i, 0 ≤ rd l i ∧ rd l i ≤ 255) :
    Calls Try.prog 39 #[.pointer (some ⟨g, 0, none⟩), .int .u8 en] w fun z w' => z = .returned (tkV (quoteP l en p)) ∧ Below w.heap.size w w' := by
  have hu60 := Try.underlying60
  have hu33 := Try.underlying33
  have HS := Aside0.mk hS
  obtain ⟨hb, hr, hc, hl⟩ := hS
  have hB1 := below_alloc (Below.refl w.heap.size w) (.cells #[.int .i64 0, .string ⟨#[]⟩, .int .i64 0, .int .i64 0] 33)
  have hnew := blk_new w (.cells #[.int .i64 0, .string ⟨#[]⟩, .int .i64 0, .int .i64 0] 33)
  have HSz := Aside0.mk (show (w.alloc (.cells #[.int .i64 0, .string ⟨#[]⟩, .int .i64 0, .int .i64 0] 33)).heap.size = w.heap.size + 1 by simp)
  have hg := blk_lt hb
  have HDc := Aside0.mk hDc
  have H8 := Aside0.mk h8
  clear hr hb hDc h8
  go_enter Try.func39, Try.ntmps39
  go_upto_region 1 with fail
  generalize w.alloc (.cells #[.int .i64 0, .string ⟨#[]⟩, .int .i64 0, .int .i64 0] 33) = W0 at *
  have S0 := HS.out.below hB1
  have c0 : W0.cell? ⟨g, 0, none⟩ = some (.slice A l.length c) := (blk_cell S0.1 0).trans rfl
  have c1 : W0.cell? ⟨g, 1, none⟩ = some (.int .i64 p) := (blk_cell S0.1 1).trans rfl
  have HS0 := Aside0.mk S0
  have HB1 := Aside0.mk hB1
  have HN := Aside0.mk hnew
  have HFin := Aside0.mk (show ∀ W', Below W0.heap.size W0 W' → Sc W' g A c l p vo ∧ Below w.heap.size w W' ∧ W'.heap[w.heap.size]? = some (B33 0 ⟨#[]⟩ 0 0) from fun W' hb => ⟨HS0.out.below hb, below_step HB1.out hb, blk_below HN.out hb⟩)
  clear hB1 hnew S0
  go_upto_block 0 with fail
  go_step3
  go_upto_block 0 with fail
  go_step3
  go_upto_block 0 with fail
  go_cut [5, 7] (fun o ii wx => ∃ (v : Value) (k : Nat) (xs : List Int), v = o ∧ ii = .int .i64 (k : Int) ∧ k ≤ l.length + 10 ∧ xs.length ≤ 4 * k ∧ Aside0 (wx.ownsRow W0.heap.size 5 1 o xs.length (nums .u8 xs)) ∧ Aside0 (Below W0.heap.size W0 wx) ∧ Aside0 (quoteN l en (p + 1) [] = quoteN l en k xs) ∧ Aside0 (k < l.length → rd l k = en))
  case first =>
    go_wp2_with fail
    go_loopw [5, 7] (fun o ii wr => ∃ (v : Value) (k : Nat) (xs : List Int), v = o ∧ ii = .int .i64 (k : Int) ∧ k ≤ l.length + 10 ∧ xs.length ≤ 4 * k ∧ Aside0 (wr.ownsRow W0.heap.size 5 1 o xs.length (nums .u8 xs)) ∧ Aside0 (Below W0.heap.size W0 wr) ∧ Aside0 (quoteN l en (p + 1) [] = quoteN l en k xs)) (fun _ ii _ => l.length + 10 - (intOf ii).toNat)
    case atStart => exact ⟨_, p + 1, [], rfl, by go_num, by omega, by simp, ⟨World.ownsRow_nil _ _ _ _⟩, ⟨Below.refl _ _⟩, ⟨rfl⟩⟩
    case round =>
      obtain ⟨o, k, xs, rfl, rfl, hk, hxs, HO, HB, HI⟩ := hrel
      have HSr := Aside0.mk (HFin.out _ HB.out).1
      clear c0 c1
      have c0 : wr.cell? ⟨g, 0, none⟩ = some (.slice A l.length c) := (blk_cell HSr.out.1 0).trans rfl
      by_cases h1 : k < l.length
      · have q1 : decide ((k : Int) < (l.length : Int)) = true := decide_eq_true (by omega)
        obtain ⟨ad, e, hx⟩ := Kd.at_int HSr.out.2.1 (k : Int) (by omega) (by omega)
        cases e
        replace hx : wr.cell? (ad.add k) = some (.int .u8 (rd l k)) := hx
        have q3 : ((k : Int) < (l.length : Int)) = True := eq_true (by omega)
        have q0 : (0 ≤ (k : Int)) = True := eq_true (by omega)
        obtain ⟨y, hy⟩ : ∃ y, rd l k = y := ⟨_, rfl⟩
        rw [hy] at hx
        have HY := Aside0.mk hy
        clear hy
        cases he : (y == en)
        · have ne : rd l k ≠ en := by rw [HY.out]; simpa using he
          have HNe := Aside0.mk ne
          clear ne
          cases z0 : (y == 10)
          · cases z1 : (y == 13)
            · have hnn : ¬ (rd l k = 10 ∨ rd l k = 13) := by
                rw [HY.out]
                rintro (h | h) <;> simp [h] at z0 z1
              have HNn := Aside0.mk hnn
              clear hnn
              have hsz := runeK_size l k xs HDc.out h1
              obtain ⟨k', hk'⟩ : ∃ k' : Nat, (runeK l k xs).1 = (k' : Int) := ⟨(runeK l k xs).1.toNat, by omega⟩
              obtain ⟨ys, hys⟩ : ∃ ys, (runeK l k xs).2.1 = ys := ⟨_, rfl⟩
              have HK' := Aside0.mk hk'
              have HYs := Aside0.mk hys
              cases hbk : (runeK l k xs).2.2
              · have HCr := Aside0.mk (rune1_K W0.heap.size g (some ad) c l p vo k o xs wr HSr.out (by have := HSz.out; omega) HB.out.size HO.out (by omega) h1 H8.out HDc.out k' ys false hk' hys hbk)
                rw [hk', hys] at hsz
                have HBk := Aside0.mk hbk
                clear hk' hys hbk
                go_wp2_with (go_at_call 54; (with_reducible refine HCr.out.mono ?_); rintro e w4 ⟨v1, rfl, hO1, hB1⟩; have HF4 := Aside0.mk (HFin.out _ (HB.out.trans hB1)); clear hO1 hB1; obtain ⟨⟨n0, n1, n2, n3⟩, m0, m1, m2, m3⟩ := B33_facts HF4.out.2.2)
                rw [Exit.noGoto_ret]
                refine bodyPost_ret (results_cell_row rfl _ _ w.heap.size 33 #[.int .i64 0, .string ⟨#[]⟩, .int .i64 0, .int .i64 0] (0, 0) _ rfl (B33_put HF4.out.2.2 0 ⟨#[]⟩ 0 0) Try.underlying33 rfl (by kernel_rfl)) rfl ?_
                exact ⟨by rw [quoteP_none (HI.out.trans (quoteN_bad h1 HNe.out HNn.out HBk.out))]; rfl, below_set (below_set (below_set (below_set HF4.out.2.1 (Nat.le_refl _)) (Nat.le_refl _)) (Nat.le_refl _)) (Nat.le_refl _)⟩
              · have HCr := Aside0.mk (rune1_K W0.heap.size g (some ad) c l p vo k o xs wr HSr.out (by have := HSz.out; omega) HB.out.size HO.out (by omega) h1 H8.out HDc.out k' ys true hk' hys hbk)
                have hgo : k + 1 ≤ k' := by have := hsz.2.2.2 hbk; omega
                rw [hk', hys] at hsz
                have HBk := Aside0.mk hbk
                clear hk' hys hbk
                go_wp2_with (go_at_call 54; (with_reducible refine HCr.out.mono ?_); rintro e w4 ⟨v1, rfl, hO1, hB1⟩; have HO4 := Aside0.mk hO1; have HB4 := Aside0.mk (HB.out.trans hB1); clear hO1 hB1)
                go_roundw
                case rel => exact ⟨_, k', ys, rfl, rfl, by omega, by omega, HO4, HB4, ⟨HI.out.trans ((quoteN_rune HDc.out h1 HNe.out HNn.out HBk.out).trans (by rw [HK'.out, HYs.out]; simp))⟩⟩
                case measure => simp [intOf]; omega
            · have hnn : rd l k = 10 ∨ rd l k = 13 := by rw [HY.out]; right; simpa using z1
              have HF4 := Aside0.mk (HFin.out _ HB.out)
              obtain ⟨⟨n0, n1, n2, n3⟩, m0, m1, m2, m3⟩ := B33_facts HF4.out.2.2
              go_wp2_with fail
              rw [Exit.noGoto_ret]
              refine bodyPost_ret (results_cell_row rfl _ _ w.heap.size 33 #[.int .i64 0, .string ⟨#[]⟩, .int .i64 0, .int .i64 0] (0, 0) _ rfl (B33_put HF4.out.2.2 0 ⟨#[]⟩ 0 0) Try.underlying33 rfl (by kernel_rfl)) rfl ?_
              exact ⟨by rw [quoteP_none (HI.out.trans (quoteN_line h1 HNe.out hnn))]; rfl, below_set (below_set (below_set (below_set HF4.out.2.1 (Nat.le_refl _)) (Nat.le_refl _)) (Nat.le_refl _)) (Nat.le_refl _)⟩
          · have hnn : rd l k = 10 ∨ rd l k = 13 := by rw [HY.out]; left; simpa using z0
            have HF4 := Aside0.mk (HFin.out _ HB.out)
            obtain ⟨⟨n0, n1, n2, n3⟩, m0, m1, m2, m3⟩ := B33_facts HF4.out.2.2
            go_wp2_with fail
            rw [Exit.noGoto_ret]
            refine bodyPost_ret (results_cell_row rfl _ _ w.heap.size 33 #[.int .i64 0, .string ⟨#[]⟩, .int .i64 0, .int .i64 0] (0, 0) _ rfl (B33_put HF4.out.2.2 0 ⟨#[]⟩ 0 0) Try.underlying33 rfl (by kernel_rfl)) rfl ?_
            exact ⟨by rw [quoteP_none (HI.out.trans (quoteN_line h1 HNe.out hnn))]; rfl, below_set (below_set (below_set (below_set HF4.out.2.1 (Nat.le_refl _)) (Nat.le_refl _)) (Nat.le_refl _)) (Nat.le_refl _)⟩
        · have heq : rd l k = en := by rw [HY.out]; simpa using he
          go_wp2_with fail
          go_meet
          exact ⟨_, k, xs, rfl, rfl, hk, hxs, HO, HB, HI, ⟨fun _ => heq⟩⟩
      · have q1 : decide ((k : Int) < (l.length : Int)) = false := decide_eq_false (by omega)
        go_wp2_with fail
        go_meet
        exact ⟨_, k, xs, rfl, rfl, hk, hxs, HO, HB, HI, ⟨fun h => absurd h h1⟩⟩
  case rest =>
    obtain ⟨o, k, xs, rfl, rfl, hk, hxs, HO, HB, HI, HE⟩ := hcut
    have HF4 := Aside0.mk (HFin.out _ HB.out)
    clear c0 c1
    have c0 : wc.cell? ⟨g, 0, none⟩ = some (.slice A l.length c) := (blk_cell HF4.out.1.1 0).trans rfl
    have c1 : wc.cell? ⟨g, 1, none⟩ = some (.int .i64 p) := (blk_cell HF4.out.1.1 1).trans rfl
    obtain ⟨⟨n0, n1, n2, n3⟩, m0, m1, m2, m3⟩ := B33_facts HF4.out.2.2
    by_cases h1 : k < l.length
    · have q1 : decide ((l.length : Int) ≤ (k : Int)) = false := decide_eq_false (by omega)
      obtain ⟨A5, c5, rfl⟩ := own_slice HO.out
      have hcv := own_string (P := Try.prog) Try.underlying22 Try.underlying5 Try.underlying9 HO.out
      have hcv2 := own_string (P := Try.prog) Try.underlying22 Try.underlying5 Try.underlying9 (pw_own_below HO.out (below_drew1 (Below.refl _ _)))
      have HQ := Aside0.mk (quoteP_some (HI.out.trans (quoteN_here h1 (HE.out h1))))
      obtain ⟨st, hst⟩ : ∃ st, strOfNums xs = st := ⟨_, rfl⟩
      rw [hst] at hcv hcv2 HQ
      clear hst n0 n1 n2 n3 m0 m1 m2 m3
      go_wp2_with fail
      have HNd := Aside0.mk (show wc.drew.heap[w.heap.size]? = some (B33 0 ⟨#[]⟩ 0 0) from blk_drew HF4.out.2.2)
      have HBd := Aside0.mk (below_drew1 HF4.out.2.1)
      go_still_tail 9, (by kernel_rfl)
      change wpList _ _ _ _ _ wc.drew
      generalize wc.drew = W2 at *
      obtain ⟨⟨t0, t1, t2, t3⟩, f0, f1, f2, f3⟩ := B33_facts HNd.out
      go_wp2
      rw [Exit.noGoto_ret]
      refine bodyPost_ret (results_cell_row rfl _ _ w.heap.size 33 #[.int .i64 4, .string st, .int .i64 p, .int .i64 ((k : Int) + 1)] (0, 0) _ rfl (B33_put HNd.out 4 st p ((k : Int) + 1)) Try.underlying33 rfl (by kernel_rfl)) rfl ?_
      exact ⟨by rw [HQ.out]; rfl, below_set (below_set (below_set (below_set HBd.out (Nat.le_refl _)) (Nat.le_refl _)) (Nat.le_refl _)) (Nat.le_refl _)⟩
    · have q1 : decide ((l.length : Int) ≤ (k : Int)) = true := decide_eq_true (by omega)
      go_wp2_with fail
      rw [Exit.noGoto_ret]
      refine bodyPost_ret (results_cell_row rfl _ _ w.heap.size 33 #[.int .i64 0, .string ⟨#[]⟩, .int .i64 0, .int .i64 0] (0, 0) _ rfl (B33_put HF4.out.2.2 0 ⟨#[]⟩ 0 0) Try.underlying33 rfl (by kernel_rfl)) rfl ?_
      exact ⟨by rw [quoteP_none (HI.out.trans (quoteN_end h1))]; rfl, below_set (below_set (below_set (below_set HF4.out.2.1 (Nat.le_refl _)) (Nat.le_refl _)) (Nat.le_refl _)) (Nat.le_refl _)⟩
end Go.Proofs.Ytglghpgpnlkpmaa.V
