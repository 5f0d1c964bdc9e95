/- The scanner: a number. -/
import Derived.Test.YtglghpgpnlkpmaaLb
namespace Go.Proofs.Ytglghpgpnlkpmaa.V
open Go.RowKit Go.Proofs.YtglghpgpnlkpmaaW.PrintWords Go.Proofs.YtglghpgpnlkpmaaW.PrintLast Go.Proofs.YtglghpgpnlkpmaaW.PrintMore
attribute [local go_sem] max2_int min2_int max_two min_two max_three min_three max_four min_four   -- for this text's walks alone
set_option linter.unusedVariables false
set_option linter.unusedSimpArgs false

/-- How far digits go from i on, and what they say (no more than one beyond the greatest number). -/
def nGo (l : List Int) : Nat → Nat → Int → Nat × Int
  | 0, i, v => (i, v)
  | f + 1, i, v => if i < l.length ∧ digitB (rd l i) = true then nGo l f (i + 1) (mn (v * 10 + (rd l i - 48)) 9007199254740992) else (i, v)
theorem nGo_step {l : List Int} {i : Nat} {v : Int} (h : i < l.length) (hn : digitB (rd l i) = true) : nGo l (l.length - i) i v = nGo l (l.length - (i + 1)) (i + 1) (mn (v * 10 + (rd l i - 48)) 9007199254740992) := by
  rw [show l.length - i = (l.length - (i + 1)) + 1 by omega]
  conv => lhs; unfold nGo
  rw [if_pos ⟨h, hn⟩]
theorem nGo_stop {l : List Int} {i : Nat} {v : Int} (h : l.length ≤ i ∨ digitB (rd l i) = false) : nGo l (l.length - i) i v = (i, v) := by
  generalize l.length - i = f
  cases f
  · rfl
  · unfold nGo
    rw [if_neg]
    rintro ⟨h1, h2⟩
    rcases h with h | h
    · omega
    · rw [h] at h2; cases h2
theorem nGo_le (l : List Int) : ∀ f i v, i ≤ l.length → i ≤ (nGo l f i v).1 ∧ (nGo l f i v).1 ≤ l.length
  | 0, i, v, h => ⟨Nat.le_refl _, h⟩
  | f + 1, i, v, h => by
    unfold nGo
    split
    · rename_i h1
      have := nGo_le l f (i + 1) (mn (v * 10 + (rd l i - 48)) 9007199254740992) (by omega)
      omega
    · exact ⟨Nat.le_refl _, h⟩
abbrev Tk := Int × ByteArray × Int × Int
def tk0 : Tk := (0, ⟨#[]⟩, 0, 0)
def tkV (t : Tk) : Value := .agg #[.int .i64 t.1, .string t.2.1, .int .i64 t.2.2.1, .int .i64 t.2.2.2]
def numBad (l : List Int) (p i : Nat) (v : Int) : Bool := decide (9007199254740991 < v) || (rd l p == 48 && decide (p + 1 < i)) || (decide (i < l.length) && letterB (rd l i))
def numP (l : List Int) (p : Nat) : Tk := if numBad l p (nGo l (l.length - p) p 0).1 (nGo l (l.length - p) p 0).2 = true then tk0 else (3, cutS l p (nGo l (l.length - p) p 0).1, (p : Int), ((nGo l (l.length - p) p 0).1 : Int))
set_option maxHeartbeats 4000000 in
set_option maxRecDepth 100000 in
theorem number_any (g : Nat) (A : Option Addr) (c : Nat) (l : List Int) (p : Nat) (vo : Value) (w : World) (hS : Sc w g A c l p vo) (hp : p < l.length) :
    Calls Try.prog 38 #[.pointer (some ⟨g, 0, none⟩)] w fun z w' => z = .returned (tkV (numP l p)) ∧ Below w.heap.size w w' := by
  have hu60 := Try.underlying60
  have hu33 := Try.underlying33
  have HS := Aside0.mk hS
  obtain ⟨hb, hr, hc, hl⟩ := hS
  have hB1 := below_alloc (Below.refl w.heap.size w) (.cells #[.int .i64 0, .string ⟨#[]⟩, .int .i64 0, .int .i64 0] 33)
  have hnew := blk_new w (.cells #[.int .i64 0, .string ⟨#[]⟩, .int .i64 0, .int .i64 0] 33)
  have hg := blk_lt hb
  clear hr hb
  go_enter Try.func38, Try.ntmps38
  go_upto_region 1 with fail
  generalize w.alloc (.cells #[.int .i64 0, .string ⟨#[]⟩, .int .i64 0, .int .i64 0] 33) = W0 at *
  have S0 := HS.out.below hB1
  have c0 : W0.cell? ⟨g, 0, none⟩ = some (.slice A l.length c) := (blk_cell S0.1 0).trans rfl
  have c1 : W0.cell? ⟨g, 1, none⟩ = some (.int .i64 p) := (blk_cell S0.1 1).trans rfl
  have HS0 := Aside0.mk S0
  have HB1 := Aside0.mk hB1
  have HN := Aside0.mk hnew
  clear hB1 hnew S0
  go_upto_block 0 with fail
  go_cut [3, 4] (fun i v wx => i = .int .i64 ((nGo l (l.length - p) p 0).1 : Nat) ∧ v = .int .i64 (nGo l (l.length - p) p 0).2 ∧ Aside0 (Drawn0 W0 wx))
  case first =>
    go_wp2_with fail
    go_loopw [3, 4] (fun i v wr => ∃ (k : Nat) (n : Int), i = .int .i64 (k : Int) ∧ v = .int .i64 n ∧ 0 ≤ n ∧ n ≤ 9007199254740992 ∧ p ≤ k ∧ k ≤ l.length ∧ Aside0 (nGo l (l.length - p) p 0 = nGo l (l.length - k) k n) ∧ Aside0 (Drawn0 W0 wr)) (fun i _ _ => l.length - (intOf i).toNat)
    case atStart => exact ⟨p, 0, rfl, rfl, by omega, by omega, Nat.le_refl _, by omega, ⟨rfl⟩, ⟨Drawn0.refl _⟩⟩
    case round =>
      obtain ⟨k, n, rfl, rfl, hn0, hn1, hk1, hk2, HI, HD⟩ := hrel
      have Sr := HS0.out.below HD.out.below
      have HSr := Aside0.mk Sr
      clear Sr c0 c1
      have F0 : ∀ W', Drawn0 wr W' → W'.cell? ⟨g, 0, none⟩ = some (.slice A l.length c) := fun W' h => (blk_cell (HSr.out.below h.below).1 0).trans rfl
      have FD : ∀ W', Drawn0 wr W' → Drawn0 W0 W' := fun W' h => drawn_trans HD.out h
      have c0 := F0 _ (Drawn0.refl _)
      by_cases h1 : k < l.length
      · obtain ⟨ad, e, hx⟩ := Kd.at_int HSr.out.2.1 (k : Int) (by omega) (by omega)
        cases e
        replace hx : wr.cell? (ad.add k) = some (.int .u8 (rd l k)) := hx
        have FX : ∀ W', Drawn0 wr W' → W'.cell? (ad.add k) = some (.int .u8 (rd l k)) := fun W' h => (h.below.cell (World.block_lt_of_cell? wr _ hx)).trans hx
        have q1 : ((k : Int) < (l.length : Int)) = True := eq_true (by omega)
        have q0 : (0 ≤ (k : Int)) = True := eq_true (by omega)
        have HF := Aside0.mk (And.intro F0 (And.intro FX FD))
        have w1 : wrap64 ((k : Int) + 1) = ((k + 1 : Nat) : Int) := by unfold wrap64; omega
        clear F0 FX FD
        cases hG : digitB (rd l k)
        · go_wp2_with (go_at_call 37; refine (digit_any _ _).mono ?_; rintro e w3 ⟨rfl, hd⟩; have HD3 := Aside0.mk hd; clear hd)
          go_meet
          exact ⟨by rw [HI.out, nGo_stop (.inr hG)], by rw [HI.out, nGo_stop (.inr hG)], ⟨HF.out.2.2 _ HD3.out⟩⟩
        · have hG' : 48 ≤ rd l k ∧ rd l k ≤ 57 := by simpa [digitB] using hG
          have e1 : wrap64 (n * 10) = n * 10 := by unfold wrap64; omega
          obtain ⟨x, hxx⟩ : ∃ x, rd l k = x := ⟨_, rfl⟩
          rw [hxx] at hG hG' hx
          have e2 : IntKind.u8.wrap (x - 48) = x - 48 := by rw [IntKind.wrap_u8]; omega
          have e3 : wrap64 (x - 48) = x - 48 := by unfold wrap64; omega
          have e4 : wrap64 (n * 10 + (x - 48)) = n * 10 + (x - 48) := by unfold wrap64; omega
          have HXX := Aside0.mk hxx
          clear hxx
          go_wp2_with (go_at_call 37; refine (digit_any _ _).mono ?_; rintro e w3 ⟨rfl, hd⟩; have c0 := HF.out.1 _ hd; have hx := HF.out.2.1 _ hd; rw [HXX.out] at hx; have HD3 := Aside0.mk hd; clear hd)
          go_roundw
          case rel => exact ⟨k + 1, mn (n * 10 + (x - 48)) 9007199254740992, by go_num, by first | rfl | (simp [mn]; done), by unfold mn; split <;> omega, by unfold mn; split <;> omega, by omega, by omega, ⟨by rw [HI.out, nGo_step h1 (by rw [HXX.out]; exact hG), HXX.out]⟩, ⟨HF.out.2.2 _ HD3.out⟩⟩
          case measure => simp [intOf]; omega
      · have h3 : decide ((k : Int) < (l.length : Int)) = false := decide_eq_false (by omega)
        go_wp2_with fail
        go_meet
        exact ⟨by rw [HI.out, nGo_stop (.inl (by omega))], by rw [HI.out, nGo_stop (.inl (by omega))], ⟨HD.out⟩⟩
  case rest =>
    obtain ⟨rfl, rfl, HD⟩ := hcut
    have he := nGo_le l (l.length - p) p 0 (by omega)
    have HZ := Aside0.mk (show numBad l p (nGo l (l.length - p) p 0).1 (nGo l (l.length - p) p 0).2 = true → numP l p = tk0 from fun h => by unfold numP; rw [if_pos h])
    have HG := Aside0.mk (show numBad l p (nGo l (l.length - p) p 0).1 (nGo l (l.length - p) p 0).2 = false → numP l p = (3, cutS l p (nGo l (l.length - p) p 0).1, (p : Int), ((nGo l (l.length - p) p 0).1 : Int)) from fun h => by unfold numP; rw [if_neg (by simp [h])])
    obtain ⟨i, hI⟩ : ∃ i, (nGo l (l.length - p) p 0).1 = i := ⟨_, rfl⟩
    obtain ⟨v, hV⟩ : ∃ v, (nGo l (l.length - p) p 0).2 = v := ⟨_, rfl⟩
    rw [hI] at he HZ HG ⊢
    rw [hV] at HZ HG ⊢
    clear hI hV
    have HSc := Aside0.mk (HS0.out.below HD.out.below)
    have HBc := Aside0.mk (below_step HB1.out HD.out.below)
    have HNc := Aside0.mk (blk_below HN.out HD.out.below)
    clear c0 c1
    have c0 : wc.cell? ⟨g, 0, none⟩ = some (.slice A l.length c) := (blk_cell HSc.out.1 0).trans rfl
    have c1 : wc.cell? ⟨g, 1, none⟩ = some (.int .i64 p) := (blk_cell HSc.out.1 1).trans rfl
    obtain ⟨adp, ep, hxp⟩ := Kd.at_int HSc.out.2.1 (p : Int) (by omega) (by omega)
    cases ep
    replace hxp : wc.cell? (adp.add p) = some (.int .u8 (rd l p)) := hxp
    have q0 : (0 ≤ (p : Int)) = True := eq_true (by omega)
    have q1 : ((p : Int) < (l.length : Int)) = True := eq_true (by omega)
    have w1 : wrap64 ((p : Int) + 1) = (p : Int) + 1 := by unfold wrap64; omega
    obtain ⟨⟨n0, n1, n2, n3⟩, m0, m1, m2, m3⟩ := B33_facts (show wc.heap[w.heap.size]? = some (B33 0 ⟨#[]⟩ 0 0) from HNc.out)
    by_cases hv : 9007199254740991 < v
    · have dv : decide (9007199254740991 < v) = true := decide_eq_true hv
      go_wp2
      refine bodyPost_ret (results_cell_row rfl _ _ w.heap.size 33 #[.int .i64 0, .string ⟨#[]⟩, .int .i64 0, .int .i64 0] (0, 0) _ rfl (B33_put HNc.out 0 ⟨#[]⟩ 0 0) Try.underlying33 rfl (by kernel_rfl)) rfl ?_
      exact ⟨by rw [HZ.out (by simp [numBad, dv])]; rfl, below_set (below_set (below_set (below_set HBc.out (Nat.le_refl _)) (Nat.le_refl _)) (Nat.le_refl _)) (Nat.le_refl _)⟩
    · have dv : decide (9007199254740991 < v) = false := decide_eq_false hv
      cases hz : (rd l p == 48)
      · go_wp2_with fail
        go_quiet (fail)
        have HDq : Aside0 (Drawn0 wc (wc.drewN nq)) := ⟨⟨_, rfl⟩⟩
        generalize wc.drewN nq = wd at *
        have HSd := Aside0.mk (HSc.out.below HDq.out.below)
        have HBd := Aside0.mk (below_step HBc.out HDq.out.below)
        have HNd := Aside0.mk (show wd.heap[w.heap.size]? = some (B33 0 ⟨#[]⟩ 0 0) from blk_below HNc.out HDq.out.below)
        clear c0 c1 n0 n1 n2 n3 m0 m1 m2 m3
        have c0 : wd.cell? ⟨g, 0, none⟩ = some (.slice (some adp) l.length c) := (blk_cell HSd.out.1 0).trans rfl
        have c1 : wd.cell? ⟨g, 1, none⟩ = some (.int .i64 p) := (blk_cell HSd.out.1 1).trans rfl
        by_cases h1 : i < l.length
        · obtain ⟨ad, e, hx⟩ := Kd.at_int HSd.out.2.1 (i : Int) (by omega) (by omega)
          cases e
          replace hx : wd.cell? (adp.add i) = some (.int .u8 (rd l i)) := hx
          have q2 : (0 ≤ (i : Int)) = True := eq_true (by omega)
          have q3 : ((i : Int) < (l.length : Int)) = True := eq_true (by omega)
          cases hL : letterB (rd l i)
          · go_wp2_with (first | (go_at_call 35; refine (letter_any _ _).mono ?_; rintro e w3 ⟨rfl, hd⟩; have HS3 := Aside0.mk (HSd.out.below hd.below); have HB3 := Aside0.mk (below_step HBd.out hd.below); have HN3 := Aside0.mk (blk_below HNd.out hd.below); clear hd) | (go_at_call 52; refine (cut_any g (some adp) c l p vo 3 i _ HS3.out (by omega) (by omega) (by omega)).mono ?_; rintro z w4 ⟨rfl, hb⟩; have HB4 := Aside0.mk (below_step HB3.out hb); have HN4 := Aside0.mk (blk_below HN3.out hb); clear hb; obtain ⟨⟨n0, n1, n2, n3⟩, m0, m1, m2, m3⟩ := B33_facts HN4.out))
            refine bodyPost_ret (results_cell_row rfl _ _ w.heap.size 33 #[.int .i64 3, .string (cutS l p i), .int .i64 p, .int .i64 i] (0, 0) _ rfl (B33_put HN4.out 3 (cutS l p i) p i) Try.underlying33 rfl (by kernel_rfl)) rfl ?_
            exact ⟨by rw [HG.out (by simp [numBad, dv, hL, hz])]; rfl, below_set (below_set (below_set (below_set HB4.out (Nat.le_refl _)) (Nat.le_refl _)) (Nat.le_refl _)) (Nat.le_refl _)⟩
          · go_wp2_with (go_at_call 35; refine (letter_any _ _).mono ?_; rintro e w3 ⟨rfl, hd⟩; have HB4 := Aside0.mk (below_step HBd.out hd.below); have HN4 := Aside0.mk (blk_below HNd.out hd.below); clear hd; obtain ⟨⟨n0, n1, n2, n3⟩, m0, m1, m2, m3⟩ := B33_facts HN4.out)
            refine bodyPost_ret (results_cell_row rfl _ _ w.heap.size 33 #[.int .i64 0, .string ⟨#[]⟩, .int .i64 0, .int .i64 0] (0, 0) _ rfl (B33_put HN4.out 0 ⟨#[]⟩ 0 0) Try.underlying33 rfl (by kernel_rfl)) rfl ?_
            exact ⟨by rw [HZ.out (by simp [numBad, hL, h1])]; rfl, below_set (below_set (below_set (below_set HB4.out (Nat.le_refl _)) (Nat.le_refl _)) (Nat.le_refl _)) (Nat.le_refl _)⟩
        · have h3 : decide ((i : Int) < (l.length : Int)) = false := decide_eq_false (by omega)
          have q4 : decide (i < l.length) = false := decide_eq_false h1
          go_wp2_with (go_at_call 52; refine (cut_any g (some adp) c l p vo 3 i _ HSd.out (by omega) (by omega) (by omega)).mono ?_; rintro z w4 ⟨rfl, hb⟩; have HB4 := Aside0.mk (below_step HBd.out hb); have HN4 := Aside0.mk (blk_below HNd.out hb); clear hb; obtain ⟨⟨n0, n1, n2, n3⟩, m0, m1, m2, m3⟩ := B33_facts HN4.out)
          refine bodyPost_ret (results_cell_row rfl _ _ w.heap.size 33 #[.int .i64 3, .string (cutS l p i), .int .i64 p, .int .i64 i] (0, 0) _ rfl (B33_put HN4.out 3 (cutS l p i) p i) Try.underlying33 rfl (by kernel_rfl)) rfl ?_
          exact ⟨by rw [HG.out (by simp [numBad, dv, q4, hz])]; rfl, below_set (below_set (below_set (below_set HB4.out (Nat.le_refl _)) (Nat.le_refl _)) (Nat.le_refl _)) (Nat.le_refl _)⟩
      · by_cases h2 : p + 1 < i
        · have d2 : decide ((p : Int) + 1 < (i : Int)) = true := decide_eq_true (by omega)
          go_wp2_with fail
          go_quiet (fail)
          go_wp2
          refine bodyPost_ret (results_cell_row rfl _ _ w.heap.size 33 #[.int .i64 0, .string ⟨#[]⟩, .int .i64 0, .int .i64 0] (0, 0) _ rfl (blk_drewN (B33_put HNc.out 0 ⟨#[]⟩ 0 0) _) Try.underlying33 rfl (by kernel_rfl)) rfl ?_
          exact ⟨by rw [HZ.out (by simp [numBad, hz, h2])]; rfl, pw_below_drewN (below_set (below_set (below_set (below_set HBc.out (Nat.le_refl _)) (Nat.le_refl _)) (Nat.le_refl _)) (Nat.le_refl _)) _⟩
        · have d2 : decide ((p : Int) + 1 < (i : Int)) = false := decide_eq_false (by omega)
          have q5 : decide (p + 1 < i) = false := decide_eq_false h2
          go_wp2_with fail
          go_quiet (fail)
          have HDq : Aside0 (Drawn0 wc (wc.drewN nq)) := ⟨⟨_, rfl⟩⟩
          generalize wc.drewN nq = wd at *
          have HSd := Aside0.mk (HSc.out.below HDq.out.below)
          have HBd := Aside0.mk (below_step HBc.out HDq.out.below)
          have HNd := Aside0.mk (show wd.heap[w.heap.size]? = some (B33 0 ⟨#[]⟩ 0 0) from blk_below HNc.out HDq.out.below)
          clear c0 c1 n0 n1 n2 n3 m0 m1 m2 m3
          have c0 : wd.cell? ⟨g, 0, none⟩ = some (.slice (some adp) l.length c) := (blk_cell HSd.out.1 0).trans rfl
          have c1 : wd.cell? ⟨g, 1, none⟩ = some (.int .i64 p) := (blk_cell HSd.out.1 1).trans rfl
          by_cases h1 : i < l.length
          · obtain ⟨ad, e, hx⟩ := Kd.at_int HSd.out.2.1 (i : Int) (by omega) (by omega)
            cases e
            replace hx : wd.cell? (adp.add i) = some (.int .u8 (rd l i)) := hx
            have q2 : (0 ≤ (i : Int)) = True := eq_true (by omega)
            have q3 : ((i : Int) < (l.length : Int)) = True := eq_true (by omega)
            cases hL : letterB (rd l i)
            · go_wp2_with (first | (go_at_call 35; refine (letter_any _ _).mono ?_; rintro e w3 ⟨rfl, hd⟩; have HS3 := Aside0.mk (HSd.out.below hd.below); have HB3 := Aside0.mk (below_step HBd.out hd.below); have HN3 := Aside0.mk (blk_below HNd.out hd.below); clear hd) | (go_at_call 52; refine (cut_any g (some adp) c l p vo 3 i _ HS3.out (by omega) (by omega) (by omega)).mono ?_; rintro z w4 ⟨rfl, hb⟩; have HB4 := Aside0.mk (below_step HB3.out hb); have HN4 := Aside0.mk (blk_below HN3.out hb); clear hb; obtain ⟨⟨n0, n1, n2, n3⟩, m0, m1, m2, m3⟩ := B33_facts HN4.out))
              refine bodyPost_ret (results_cell_row rfl _ _ w.heap.size 33 #[.int .i64 3, .string (cutS l p i), .int .i64 p, .int .i64 i] (0, 0) _ rfl (B33_put HN4.out 3 (cutS l p i) p i) Try.underlying33 rfl (by kernel_rfl)) rfl ?_
              exact ⟨by rw [HG.out (by simp [numBad, dv, hL, hz, q5])]; rfl, below_set (below_set (below_set (below_set HB4.out (Nat.le_refl _)) (Nat.le_refl _)) (Nat.le_refl _)) (Nat.le_refl _)⟩
            · go_wp2_with (go_at_call 35; refine (letter_any _ _).mono ?_; rintro e w3 ⟨rfl, hd⟩; have HB4 := Aside0.mk (below_step HBd.out hd.below); have HN4 := Aside0.mk (blk_below HNd.out hd.below); clear hd; obtain ⟨⟨n0, n1, n2, n3⟩, m0, m1, m2, m3⟩ := B33_facts HN4.out)
              refine bodyPost_ret (results_cell_row rfl _ _ w.heap.size 33 #[.int .i64 0, .string ⟨#[]⟩, .int .i64 0, .int .i64 0] (0, 0) _ rfl (B33_put HN4.out 0 ⟨#[]⟩ 0 0) Try.underlying33 rfl (by kernel_rfl)) rfl ?_
              exact ⟨by rw [HZ.out (by simp [numBad, hL, h1])]; rfl, below_set (below_set (below_set (below_set HB4.out (Nat.le_refl _)) (Nat.le_refl _)) (Nat.le_refl _)) (Nat.le_refl _)⟩
          · have h3 : decide ((i : Int) < (l.length : Int)) = false := decide_eq_false (by omega)
            have q4 : decide (i < l.length) = false := decide_eq_false h1
            go_wp2_with (go_at_call 52; refine (cut_any g (some adp) c l p vo 3 i _ HSd.out (by omega) (by omega) (by omega)).mono ?_; rintro z w4 ⟨rfl, hb⟩; have HB4 := Aside0.mk (below_step HBd.out hb); have HN4 := Aside0.mk (blk_below HNd.out hb); clear hb; obtain ⟨⟨n0, n1, n2, n3⟩, m0, m1, m2, m3⟩ := B33_facts HN4.out)
            refine bodyPost_ret (results_cell_row rfl _ _ w.heap.size 33 #[.int .i64 3, .string (cutS l p i), .int .i64 p, .int .i64 i] (0, 0) _ rfl (B33_put HN4.out 3 (cutS l p i) p i) Try.underlying33 rfl (by kernel_rfl)) rfl ?_
            exact ⟨by rw [HG.out (by simp [numBad, dv, q4, hz, q5])]; rfl, below_set (below_set (below_set (below_set HB4.out (Nat.le_refl _)) (Nat.le_refl _)) (Nat.le_refl _)) (Nat.le_refl _)⟩
end Go.Proofs.Ytglghpgpnlkpmaa.V
