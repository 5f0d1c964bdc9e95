/- The scanner: letters, digits, reserved words; a word. -/
import Derived.Test.YtglghpgpnlkpmaaLa
import Derived.Test.YtglghpgpnlkpmaaLs
namespace Go.Proofs.Ytglghpgpnlkpmaa.V
open Go.RowKit Go.Proofs.YtglghpgpnlkpmaaW.PrintWords Go.Proofs.YtglghpgpnlkpmaaW.PrintLast Go.Proofs.YtglghpgpnlkpmaaW.PrintMore
attribute [local go_sem] max2_int min2_int max_two min_two max_three min_three max_four min_four   -- for this text's walks alone
set_option linter.unusedVariables false
set_option linter.unusedSimpArgs false

/-- The library's own variable (the longest that its fast search takes) holds some number. -/
def MaxOk (w : World) : Prop := ∃ m, w.cell? ⟨0, 0, none⟩ = some (.int .i64 m)
theorem MaxOk.below {w w' : World} (h : MaxOk w) (hb : Below w.heap.size w w') : MaxOk w' := by
  obtain ⟨m, hm⟩ := h
  exact ⟨m, (hb.cell (World.block_lt_of_cell? w _ hm)).trans hm⟩
def letterB (a : Int) : Bool := (decide (97 ≤ a) && decide (a ≤ 122)) || (decide (65 ≤ a) && decide (a ≤ 90)) || a == 95 || a == 36
def digitB (a : Int) : Bool := decide (48 ≤ a) && decide (a ≤ 57)
theorem letter_f (a : Int) : scan_Letter.f a = some (letterB a) := by
  unfold scan_Letter.f letterB
  repeat' split
  all_goals (congr 1; simp; try omega)
theorem digit_f (a : Int) : scan_Digit.f a = some (digitB a) := by
  unfold scan_Digit.f digitB
  split
  all_goals (congr 1; simp; try omega)
theorem letter_any (a : Int) (w : World) : Calls Try.prog 35 #[.int .u8 a] w fun e w' => e = .returned (.bool (letterB a)) ∧ Drawn0 w w' := scan_Letter.calls a _ w (letter_f a)
theorem digit_any (a : Int) (w : World) : Calls Try.prog 37 #[.int .u8 a] w fun e w' => e = .returned (.bool (digitB a)) ∧ Drawn0 w w' := scan_Digit.calls a _ w (digit_f a)
def wordsS : ByteArray := ⟨(([32, 98, 114, 101, 97, 107, 32, 99, 97, 116, 99, 104, 32, 99, 108, 97, 115, 115, 32, 99, 111, 110, 115, 116, 32, 99, 111, 110, 115, 116, 114, 117, 99, 116, 111, 114, 32, 99, 111, 110, 116, 105, 110, 117, 101, 32, 101, 108, 115, 101, 32, 101, 110, 117, 109, 32, 101].append [120, 112, 111, 114, 116, 32, 101, 120, 116, 101, 110, 100, 115, 32, 102, 97, 108, 115, 101, 32, 102, 105, 110, 97, 108, 108, 121, 32, 102, 111, 114, 32, 102, 117, 110, 99, 116, 105, 111, 110, 32, 105, 102, 32, 105, 109, 112, 108, 101, 109, 101, 110, 116, 115, 32, 105, 110, 32]).append ([105, 110, 116, 101, 114, 102, 97, 99, 101, 32, 108, 101, 116, 32, 110, 97, 109, 101, 115, 112, 97, 99, 101, 32, 110, 101, 119, 32, 110, 117, 108, 108, 32, 111, 102, 32, 112, 117, 98, 108, 105, 99, 32, 114, 101, 97, 100, 111, 110, 108, 121, 32, 114, 101, 116, 117, 114, 110].append [32, 115, 117, 112, 101, 114, 32, 116, 104, 105, 115, 32, 116, 104, 114, 111, 119, 32, 116, 114, 117, 101, 32, 116, 114, 121, 32, 116, 121, 112, 101, 32, 116, 121, 112, 101, 111, 102, 32, 117, 110, 100, 101, 102, 105, 110, 101, 100, 32, 119, 104, 105, 108, 101, 32, 97, 115, 32])).toArray⟩
def reservedB (s : ByteArray) : Bool := Lib.contains wordsS.data.toList ([32] ++ s.data.toList ++ [32])
set_option maxRecDepth 100000 in
theorem reserved_any (s : ByteArray) (w : World) (hM : MaxOk w) (hs : s.size ≤ 4294967296) : Calls Try.prog 53 #[.string s] w fun e w' => e = .returned (.bool (reservedB s)) ∧ Drawn0 w w' := by
  obtain ⟨m, hm⟩ := hM
  have h1 : ¬ 9223372036854775807 < 1 + s.size := by omega
  have h2 : ¬ 9223372036854775807 < 1 + s.size + 1 := by omega
  have hc := Try.strings_Contains wordsS ((⟨#[32]⟩ : ByteArray) ++ s ++ ⟨#[32]⟩) m w (by decide) hm
  have he : ((⟨#[32]⟩ : ByteArray) ++ s ++ ⟨#[32]⟩).data.toList = [32] ++ s.data.toList ++ [32] := by simp
  rw [he] at hc
  have HC := Aside0.mk hc
  clear hc hm
  unfold wordsS at HC
  go_enter Try.func53, Try.ntmps53
  go_wp2_with (go_at_call 56; refine HC.out.mono ?_; rintro e w' ⟨rfl, rfl⟩)
  go_ret
  exact ⟨rfl, Drawn0.refl _⟩
theorem drawn_trans {w w1 w2 : World} (h : Drawn0 w w1) (h2 : Drawn0 w1 w2) : Drawn0 w w2 := by
  obtain ⟨n, rfl⟩ := h2
  exact h.step n
def nameB (a : Int) : Bool := letterB a || digitB a
/-- Where the letters and digits from i on end. -/
def wEnd (l : List Int) : Nat → Nat → Nat
  | 0, i => i
  | f + 1, i => if i < l.length ∧ nameB (rd l i) = true then wEnd l f (i + 1) else i
theorem wEnd_le (l : List Int) : ∀ f i, i ≤ l.length → i ≤ wEnd l f i ∧ wEnd l f i ≤ l.length
  | 0, i, h => ⟨Nat.le_refl _, h⟩
  | f + 1, i, h => by
    unfold wEnd
    split
    · rename_i h1
      have := wEnd_le l f (i + 1) (by omega)
      omega
    · omega
theorem wEnd_step {l : List Int} {i : Nat} (h : i < l.length) (hn : nameB (rd l i) = true) : wEnd l (l.length - i) i = wEnd l (l.length - (i + 1)) (i + 1) := by
  rw [show l.length - i = (l.length - (i + 1)) + 1 by omega]
  conv => lhs; unfold wEnd
  rw [if_pos ⟨h, hn⟩]
theorem wEnd_stop {l : List Int} {i : Nat} (h : l.length ≤ i ∨ nameB (rd l i) = false) : wEnd l (l.length - i) i = i := by
  generalize l.length - i = f
  cases f
  · rfl
  · unfold wEnd
    rw [if_neg]
    rintro ⟨h1, h2⟩
    rcases h with h | h
    · omega
    · rw [h] at h2; cases h2
def wordK (s : ByteArray) : Int := if reservedB s = true then 2 else 1
theorem strOfNums_size (l : List Int) : (strOfNums l).size = l.length := by simp [strOfNums, ByteArray.size]
theorem cutS_size (l : List Int) (p e : Int) : (cutS l p e).size ≤ l.length := by
  unfold cutS
  rw [strOfNums_size, List.length_drop, List.length_take]
  omega
set_option maxHeartbeats 4000000 in
set_option maxRecDepth 100000 in
theorem word_any (g : Nat) (A : Option Addr) (c : Nat) (l : List Int) (p : Nat) (vo : Value) (w : World) (hS : Sc w g A c l p vo) (hM : MaxOk w) (hp : p ≤ l.length) :
    Calls Try.prog 36 #[.pointer (some ⟨g, 0, none⟩)] w fun z w' => z = .returned (.agg #[.int .i64 (wordK (cutS l p (wEnd l (l.length - p) p))), .string (cutS l p (wEnd l (l.length - p) p)), .int .i64 p, .int .i64 (wEnd l (l.length - p) p)]) ∧ Below w.heap.size w w' := by
  have hu60 := Try.underlying60
  have hu33 := Try.underlying33
  have HS := Aside0.mk hS
  have HM := Aside0.mk hM
  obtain ⟨hb, hr, hc, hl⟩ := hS
  have hB1 := below_alloc (Below.refl w.heap.size w) (.cells #[.int .i64 0, .string ⟨#[]⟩, .int .i64 0, .int .i64 0] 33)
  have hnew := blk_new w (.cells #[.int .i64 0, .string ⟨#[]⟩, .int .i64 0, .int .i64 0] 33)
  have hg := blk_lt hb
  clear hr hb hM
  go_enter Try.func36, Try.ntmps36
  go_upto_region 1 with fail
  have hSz := World.size_alloc w (.cells #[.int .i64 0, .string ⟨#[]⟩, .int .i64 0, .int .i64 0] 33)
  generalize w.alloc (.cells #[.int .i64 0, .string ⟨#[]⟩, .int .i64 0, .int .i64 0] 33) = W0 at *
  have S0 := HS.out.below hB1
  have c0 : W0.cell? ⟨g, 0, none⟩ = some (.slice A l.length c) := (blk_cell S0.1 0).trans rfl
  have c1 : W0.cell? ⟨g, 1, none⟩ = some (.int .i64 p) := (blk_cell S0.1 1).trans rfl
  have HS0 := Aside0.mk S0
  have HB1 := Aside0.mk hB1
  have HN := Aside0.mk hnew
  clear hB1 hnew S0
  go_upto_block 0 with fail
  go_cut [3] (fun i wx => i = .int .i64 (wEnd l (l.length - p) p : Nat) ∧ Aside0 (Drawn0 W0 wx))
  case first =>
    go_wp2_with fail
    go_loopw [3] (fun i wr => ∃ k : Nat, i = .int .i64 (k : Int) ∧ p ≤ k ∧ k ≤ l.length ∧ Aside0 (wEnd l (l.length - p) p = wEnd l (l.length - k) k) ∧ Aside0 (Drawn0 W0 wr)) (fun i _ => l.length - (intOf i).toNat)
    case atStart => exact ⟨p, rfl, Nat.le_refl _, hp, ⟨rfl⟩, ⟨Drawn0.refl _⟩⟩
    case round =>
      obtain ⟨k, rfl, hk1, hk2, HI, HD⟩ := hrel
      have Sr := HS0.out.below HD.out.below
      have HSr := Aside0.mk Sr
      clear Sr c0 c1
      have F0 : ∀ W', Drawn0 wr W' → W'.cell? ⟨g, 0, none⟩ = some (.slice A l.length c) := fun W' h => (blk_cell (HSr.out.below h.below).1 0).trans rfl
      have FD : ∀ W', Drawn0 wr W' → Drawn0 W0 W' := fun W' h => drawn_trans HD.out h
      have c0 := F0 _ (Drawn0.refl _)
      by_cases h1 : k < l.length
      · obtain ⟨ad, e, hx⟩ := Kd.at_int HSr.out.2.1 (k : Int) (by omega) (by omega)
        cases e
        replace hx : wr.cell? (ad.add k) = some (.int .u8 (rd l k)) := hx
        have FX : ∀ W', Drawn0 wr W' → W'.cell? (ad.add k) = some (.int .u8 (rd l k)) := fun W' h => (h.below.cell (World.block_lt_of_cell? wr _ hx)).trans hx
        have q1 : ((k : Int) < (l.length : Int)) = True := eq_true (by omega)
        have q0 : (0 ≤ (k : Int)) = True := eq_true (by omega)
        have HF := Aside0.mk (And.intro F0 (And.intro FX FD))
        have w1 : wrap64 ((k : Int) + 1) = ((k + 1 : Nat) : Int) := by unfold wrap64; omega
        clear F0 FX FD
        cases hL : letterB (rd l k)
        · cases hG : digitB (rd l k)
          · go_wp2_with (first | (go_at_call 35; refine (letter_any _ _).mono ?_; rintro e w2 ⟨rfl, hd⟩; have c0 := HF.out.1 _ hd; have hx := HF.out.2.1 _ hd; have HD2 := Aside0.mk hd; clear hd) | (go_at_call 37; refine (digit_any _ _).mono ?_; rintro e w3 ⟨rfl, hd⟩; have HD3 := Aside0.mk (drawn_trans HD2.out hd); clear hd))
            go_meet
            exact ⟨by rw [HI.out, wEnd_stop (.inr (by simp [nameB, hL, hG]))], ⟨HF.out.2.2 _ HD3.out⟩⟩
          · go_wp2_with (first | (go_at_call 35; refine (letter_any _ _).mono ?_; rintro e w2 ⟨rfl, hd⟩; have c0 := HF.out.1 _ hd; have hx := HF.out.2.1 _ hd; have HD2 := Aside0.mk hd; clear hd) | (go_at_call 37; refine (digit_any _ _).mono ?_; rintro e w3 ⟨rfl, hd⟩; have HD3 := Aside0.mk (drawn_trans HD2.out hd); clear hd))
            go_roundw
            case rel => exact ⟨k + 1, by go_num, by omega, by omega, ⟨HI.out.trans (wEnd_step h1 (by simp [nameB, hG]))⟩, ⟨HF.out.2.2 _ HD3.out⟩⟩
            case measure => simp [intOf]; omega
        · go_wp2_with (first | (go_at_call 35; refine (letter_any _ _).mono ?_; rintro e w2 ⟨rfl, hd⟩; have c0 := HF.out.1 _ hd; have hx := HF.out.2.1 _ hd; have HD2 := Aside0.mk hd; clear hd) | (go_at_call 37; refine (digit_any _ _).mono ?_; rintro e w3 ⟨rfl, hd⟩; have HD3 := Aside0.mk (drawn_trans HD2.out hd); clear hd))
          go_roundw
          case rel => exact ⟨k + 1, by go_num, by omega, by omega, ⟨HI.out.trans (wEnd_step h1 (by simp [nameB, hL]))⟩, ⟨HF.out.2.2 _ HD2.out⟩⟩
          case measure => simp [intOf]; omega
      · have h3 : decide ((k : Int) < (l.length : Int)) = false := decide_eq_false (by omega)
        go_wp2_with fail
        go_meet
        exact ⟨by rw [HI.out, wEnd_stop (.inl (by omega))], ⟨HD.out⟩⟩
  case rest =>
    obtain ⟨rfl, HD⟩ := hcut
    have he := wEnd_le l (l.length - p) p hp
    obtain ⟨e, hE⟩ : ∃ e, wEnd l (l.length - p) p = e := ⟨_, rfl⟩
    rw [hE] at he ⊢
    have HE := Aside0.mk hE
    clear hE
    obtain ⟨s, hs⟩ : ∃ s, cutS l p e = s := ⟨_, rfl⟩
    have HSs := Aside0.mk hs
    have hz : s.size ≤ 4294967296 := by rw [← hs]; exact Nat.le_trans (cutS_size _ _ _) hl
    have HSc := Aside0.mk (HS0.out.below HD.out.below)
    have HBc := Aside0.mk (below_step HB1.out HD.out.below)
    have HNc := Aside0.mk (blk_below HN.out HD.out.below)
    have HCut := Aside0.mk (hs ▸ cut_any g A c l p vo 1 e wc HSc.out (by omega) (by omega) (by omega))
    clear hs c0 c1
    have hzz : w.heap.size < wc.heap.size := blk_lt HNc.out
    cases hR : reservedB s
    all_goals
      go_wp2_with (first | (go_at_call 52; refine HCut.out.mono ?_; rintro z w3 ⟨rfl, hb⟩; have HB3 := Aside0.mk hb; have hle := hb.size; clear hb) | (go_at_call 53; refine (reserved_any s _ (HM.out.below (below_alloc (below_step HBc.out HB3.out) _)) hz).mono ?_; rintro z w4 ⟨rfl, hb⟩; have HD4 := Aside0.mk hb; have HT4 := Aside0.mk (blk_below (blk_new w3 (B33 1 s p e)) hb.below); have HN4 := Aside0.mk (blk_below (blk_alloc (blk_below HNc.out HB3.out) (B33 1 s p e)) hb.below); have HB4 := Aside0.mk (below_step (below_alloc (below_step HBc.out HB3.out) (B33 1 s p e)) hb.below); clear hb; have FT := B33_facts HT4.out; have FN := B33_facts HN4.out; obtain ⟨⟨t0, t1, t2, t3⟩, u0, u1, u2, u3⟩ := FT; obtain ⟨⟨n0, n1, n2, n3⟩, m0, m1, m2, m3⟩ := FN))
    · refine bodyPost_ret (results_cell_row rfl _ _ w.heap.size 33 #[.int .i64 1, .string s, .int .i64 p, .int .i64 e] (0, 0) _ rfl (B33_put HN4.out 1 s p e) Try.underlying33 rfl (by kernel_rfl)) rfl ?_
      exact ⟨by rw [HE.out, HSs.out]; simp [wordK, hR], below_set (below_set (below_set (below_set HB4.out (Nat.le_refl _)) (Nat.le_refl _)) (Nat.le_refl _)) (Nat.le_refl _)⟩
    · have HN5 := blk_far HN4.out (p := ⟨w3.heap.size, 0, none⟩) (show w.heap.size ≠ w3.heap.size by omega) (.int .i64 2)
      refine bodyPost_ret (results_cell_row rfl _ _ w.heap.size 33 #[.int .i64 2, .string s, .int .i64 p, .int .i64 e] (0, 0) _ rfl (B33_put HN5 2 s p e) Try.underlying33 rfl (by kernel_rfl)) rfl ?_
      exact ⟨by rw [HE.out, HSs.out]; simp [wordK, hR], below_set (below_set (below_set (below_set (below_set HB4.out (show w.heap.size ≤ w3.heap.size by omega)) (Nat.le_refl _)) (Nat.le_refl _)) (Nat.le_refl _)) (Nat.le_refl _)⟩
end Go.Proofs.Ytglghpgpnlkpmaa.V
