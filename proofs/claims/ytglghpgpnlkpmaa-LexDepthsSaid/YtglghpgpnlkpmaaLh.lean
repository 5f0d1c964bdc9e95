/- The scanner: an escape with digits. -/
import Derived.Test.YtglghpgpnlkpmaaLb
import Derived.Laws.Cover4
namespace Go.Proofs.Ytglghpgpnlkpmaa.V
open Go.RowKit Go.Proofs.YtglghpgpnlkpmaaW.PrintWords Go.Proofs.YtglghpgpnlkpmaaW.PrintLast Go.Proofs.YtglghpgpnlkpmaaW.PrintMore
attribute [local go_sem] max2_int min2_int max_two min_two max_three min_three max_four min_four   -- for this text's walks alone
set_option linter.unusedVariables false
set_option linter.unusedSimpArgs false
set_option maxHeartbeats 4000000
set_option maxRecDepth 100000
def hexS : ByteArray := ⟨#[48, 49, 50, 51, 52, 53, 54, 55, 56, 57, 97, 98, 99, 100, 101, 102]⟩
/-- A digit's value; -1: none. -/
def hexD (a : Int) : Int := Lib.indexByte [48, 49, 50, 51, 52, 53, 54, 55, 56, 57, 97, 98, 99, 100, 101, 102] (Go.bits .or .u8 a 32).toNat.toUInt8
def hexGo (l : List Int) (i : Nat) : Nat → Nat → Int → Nat × Int
  | 0, k, v => (k, v)
  | f + 1, k, v => if k < l.length ∧ k < i + 9 then if hexD (rd l k) < 0 ∨ rd l k < 48 then (k, v) else hexGo l i f (k + 1) (Go.bits .or .i64 (wrap64 (v * 16)) (hexD (rd l k))) else (k, v)
def hexN (l : List Int) (i : Nat) : Nat × Int := hexGo l i 6 (i + 3) 0
def hexBad (l : List Int) (i : Nat) (k : Nat) (v : Int) : Bool := k == i + 3 || !hasP l k ⟨#[125]⟩ || decide (v > 1114111) || (decide (v ≥ 55296) && decide (v ≤ 57343))
theorem hexGo_le (l : List Int) (i : Nat) : ∀ f k v, k ≤ (hexGo l i f k v).1 ∧ (hexGo l i f k v).1 ≤ k + f
  | 0, k, v => ⟨Nat.le_refl _, Nat.le_refl _⟩
  | f + 1, k, v => by
    unfold hexGo
    split
    · split
      · exact ⟨Nat.le_refl _, by omega⟩
      · have := hexGo_le l i f (k + 1) (Go.bits .or .i64 (wrap64 (v * 16)) (hexD (rd l k)))
        omega
    · exact ⟨Nat.le_refl _, by omega⟩
theorem hexGo_stop (l : List Int) (i : Nat) {f k : Nat} {v : Int} (h : ¬ k < l.length ∨ ¬ k < i + 9 ∨ hexD (rd l k) < 0 ∨ rd l k < 48) : hexGo l i f k v = (k, v) := by
  cases f
  · rfl
  · unfold hexGo
    by_cases h1 : k < l.length ∧ k < i + 9
    · rw [if_pos h1, if_pos (by omega)]
    · rw [if_neg h1]
theorem hexGo_step (l : List Int) (i : Nat) {f k : Nat} {v : Int} (h1 : k < l.length) (h2 : k < i + 9) (h3 : ¬ hexD (rd l k) < 0) (h4 : ¬ rd l k < 48) : hexGo l i (f + 1) k v = hexGo l i f (k + 1) (Go.bits .or .i64 (wrap64 (v * 16)) (hexD (rd l k))) := by
  conv => lhs; unfold hexGo
  rw [if_pos ⟨h1, h2⟩, if_neg (by omega)]
theorem enc_size (n : Int) : (Utf8.encode n).size ≤ 4 := encode_size_le n
theorem enc_small {xs : List Int} (hx : xs.length ≤ 1000000) (n : Int) : xs.length + (Utf8.encode n).size ≤ 140737488355328 := by
  have := enc_size n
  omega
/-- What hexed answers: where it goes on, the bytes behind it, whether it is an escape. -/
def hexR (l : List Int) (i : Nat) (xs : List Int) : Int × List Int × Bool :=
  if hasP l ((i : Int) + 2) ⟨#[123]⟩ = true ∧ hexBad l i (hexN l i).1 (hexN l i).2 = false then (((hexN l i).1 + 1 : Nat), xs ++ bytesOf (Utf8.encode (wrap32 (hexN l i).2)), true) else (i, xs, false)
theorem hexN_eq (l : List Int) (i : Nat) : hexN l i = hexGo l i 6 (i + 3) 0 := rfl
theorem hexN_le (l : List Int) (i : Nat) : i + 3 ≤ (hexN l i).1 ∧ (hexN l i).1 ≤ i + 9 := by
  have := hexGo_le l i 6 (i + 3) 0
  rw [hexN_eq]
  omega
theorem hexR_bad {l : List Int} {i : Nat} {xs : List Int} (h : hexBad l i (hexN l i).1 (hexN l i).2 = true) : hexR l i xs = ((i : Int), xs, false) := by
  unfold hexR
  rw [if_neg (by rw [h]; simp)]
theorem hexR_good {l : List Int} {i : Nat} {xs : List Int} (hq : hasP l ((i : Int) + 2) ⟨#[123]⟩ = true) (h : hexBad l i (hexN l i).1 (hexN l i).2 = false) : hexR l i xs = ((((hexN l i).1 + 1 : Nat) : Int), xs ++ bytesOf (Utf8.encode (wrap32 (hexN l i).2)), true) := by
  unfold hexR
  rw [if_pos ⟨hq, h⟩]
attribute [irreducible] hexN hexGo hexR
theorem hexed_any (B g : Nat) (A : Option Addr) (c : Nat) (l : List Int) (p : Int) (vo : Value) (i : Nat) (v : Value) (xs : List Int) (w : World) (hS : Sc w g A c l p vo) (hgB : g < B) (hBw : B ≤ w.heap.size) (hO : w.ownsRow B 5 1 v xs.length (nums .u8 xs)) (hx : xs.length ≤ 1000000) (hi : i < l.length) (h8 : ∀ i, 0 ≤ rd l i ∧ rd l i ≤ 255) :
    Calls Try.prog 63 #[.pointer (some ⟨g, 0, none⟩), .int .i64 i, v] w fun z w' => ∃ v', z = .returned (.tuple #[.int .i64 (hexR l i xs).1, v', .bool (hexR l i xs).2.2]) ∧ w'.ownsRow B 5 1 v' (hexR l i xs).2.1.length (nums .u8 (hexR l i xs).2.1) ∧ Below B w w' := by
  have hu60 := Try.underlying60
  have HS := Aside0.mk hS
  have HO := Aside0.mk hO
  obtain ⟨hb, hr, hc, hl⟩ := hS
  have HC := Aside0.mk (has_any g A c l p vo ((i : Int) + 2) ⟨#[123]⟩ w HS.out (by omega) (by omega) (by decide))
  have HPn : ∀ w', hexR l i xs = ((i : Int), xs, false) → Below w.heap.size w w' → ∃ v', Ending.returned (.tuple #[.int .i64 i, v, .bool false]) = .returned (.tuple #[.int .i64 (hexR l i xs).1, v', .bool (hexR l i xs).2.2]) ∧ w'.ownsRow B 5 1 v' (hexR l i xs).2.1.length (nums .u8 (hexR l i xs).2.1) ∧ Below B w w' := fun w' h hb => by
    rw [h]; exact ⟨v, rfl, pw_own_below HO.out hb, hb.mono hBw⟩
  replace HPn := Aside0.mk HPn
  have H8 := Aside0.mk h8
  have HCF := Aside0.mk (fun (k : Nat) (hk : k ≤ i + 9) (W : World) (hs : Sc W g A c l p vo) => has_any g A c l p vo (k : Int) ⟨#[125]⟩ W hs (by omega) (by omega) (by decide))
  clear hr hb hO h8
  cases hq : hasP l ((i : Int) + 2) ⟨#[123]⟩
  all_goals rw [hq] at HC
  · go_enter Try.func63, Try.ntmps63
    go_wp2_with (go_at_call 50; refine HC.out.mono ?_; rintro e w2 ⟨rfl, hd⟩)
    go_ret3
    exact HPn.out _ (by simp [hexR, hq]) hd.below
  · go_enter Try.func63, Try.ntmps63
    go_upto_block 0 with (go_at_call 50; refine HC.out.mono ?_; rintro e w2 ⟨rfl, hd⟩; have HD2 := Aside0.mk hd; clear hd)
    have HSa := Aside0.mk (HS.out.below HD2.out.below)
    go_cut [9, 10] (fun kk vv wx => kk = .int .i64 ((hexN l i).1 : Nat) ∧ vv = .int .i64 (hexN l i).2 ∧ Aside0 (Drawn0 w2 wx))
    case first =>
      go_wp2_with fail
      go_loopw [9, 10] (fun kk vv wr => ∃ (f k : Nat) (n : Int), kk = .int .i64 (k : Int) ∧ vv = .int .i64 n ∧ Aside0 (hexN l i = hexGo l i f k n) ∧ i + 3 ≤ k ∧ k + f = i + 9 ∧ Aside0 (Drawn0 w2 wr)) (fun kk _ _ => (i + 9) - (intOf kk).toNat)
      case atStart => exact ⟨6, i + 3, 0, by go_num, rfl, ⟨hexN_eq l i⟩, by omega, by omega, ⟨Drawn0.refl _⟩⟩
      case round =>
        obtain ⟨f, k, n, rfl, rfl, HI, hk1, hk2, HD⟩ := hrel
        have Sr := HSa.out.below HD.out.below
        have HSr := Aside0.mk Sr
        clear Sr
        have c0 : wr.cell? ⟨g, 0, none⟩ = some (.slice A l.length c) := (blk_cell HSr.out.1 0).trans rfl
        by_cases h1 : k < l.length
        · have q1 : decide ((k : Int) < (l.length : Int)) = true := decide_eq_true (by omega)
          by_cases h2 : k < i + 9
          · have q2 : decide ((k : Int) < (i : Int) + 9) = true := decide_eq_true (by omega)
            obtain ⟨ad, e, hx⟩ := Kd.at_int HSr.out.2.1 (k : Int) (by omega) (by omega)
            cases e
            replace hx : wr.cell? (ad.add k) = some (.int .u8 (rd l k)) := hx
            have q3 : ((k : Int) < (l.length : Int)) = True := eq_true (by omega)
            have q0 : (0 ≤ (k : Int)) = True := eq_true (by omega)
            obtain ⟨o, ho⟩ : ∃ o, Go.bits .or .u8 (rd l k) 32 = o := ⟨_, rfl⟩
            obtain ⟨d, hd⟩ : ∃ d, hexD (rd l k) = d := ⟨_, rfl⟩
            obtain ⟨y, hy⟩ : ∃ y, rd l k = y := ⟨_, rfl⟩
            have HX := Aside0.mk (show ∀ W, Calls Try.prog 49 #[.string ⟨#[48, 49, 50, 51, 52, 53, 54, 55, 56, 57, 97, 98, 99, 100, 101, 102]⟩, .int .u8 o] W fun e w' => e = .returned (.int .i64 d) ∧ w' = W from fun W => by
              have hh := Try.strings_IndexByte ⟨#[48, 49, 50, 51, 52, 53, 54, 55, 56, 57, 97, 98, 99, 100, 101, 102]⟩ o W
              rw [show Lib.indexByte (⟨#[48, 49, 50, 51, 52, 53, 54, 55, 56, 57, 97, 98, 99, 100, 101, 102]⟩ : ByteArray).data.toList o.toNat.toUInt8 = d from by rw [← hd, ← ho]; rfl] at hh
              exact hh)
            rw [hy] at hx ho
            have HDd := Aside0.mk hd
            have HY := Aside0.mk hy
            clear hd hy
            by_cases d0 : d < 0
            · have e0 : decide (d < 0) = true := decide_eq_true d0
              go_wp2_with (go_at_call 49; refine (HX.out _).mono ?_; rintro e w3 ⟨rfl, rfl⟩)
              go_meet
              exact ⟨by rw [HI.out, hexGo_stop l i (.inr (.inr (.inl (by rw [HDd.out]; exact d0))))], by rw [HI.out, hexGo_stop l i (.inr (.inr (.inl (by rw [HDd.out]; exact d0))))], HD⟩
            · have e0 : decide (d < 0) = false := decide_eq_false d0
              by_cases y0 : y < 48
              · have e1 : decide (y < 48) = true := decide_eq_true y0
                go_wp2_with (go_at_call 49; refine (HX.out _).mono ?_; rintro e w3 ⟨rfl, rfl⟩)
                go_meet
                exact ⟨by rw [HI.out, hexGo_stop l i (.inr (.inr (.inr (by rw [HY.out]; exact y0))))], by rw [HI.out, hexGo_stop l i (.inr (.inr (.inr (by rw [HY.out]; exact y0))))], HD⟩
              · have e1 : decide (y < 48) = false := decide_eq_false y0
                go_wp2_with (go_at_call 49; refine (HX.out _).mono ?_; rintro e w3 ⟨rfl, rfl⟩)
                go_roundw
                case rel =>
                  obtain ⟨f, rfl⟩ : ∃ f', f = f' + 1 := ⟨f - 1, by omega⟩
                  exact ⟨f, k + 1, Go.bits .or .i64 (wrap64 (n * 16)) d, by go_num, rfl, ⟨by rw [HI.out, hexGo_step l i h1 h2 (by rw [HDd.out]; omega) (by rw [HY.out]; omega), HDd.out]⟩, by omega, by omega, HD⟩
                case measure => simp [intOf]; omega
          · have q2 : decide ((k : Int) < (i : Int) + 9) = false := decide_eq_false (by omega)
            go_wp2_with fail
            go_meet
            exact ⟨by rw [HI.out, hexGo_stop l i (.inr (.inl h2))], by rw [HI.out, hexGo_stop l i (.inr (.inl h2))], HD⟩
        · have q1 : decide ((k : Int) < (l.length : Int)) = false := decide_eq_false (by omega)
          go_wp2_with fail
          go_meet
          exact ⟨by rw [HI.out, hexGo_stop l i (.inl h1)], by rw [HI.out, hexGo_stop l i (.inl h1)], HD⟩
    case rest =>
      obtain ⟨rfl, rfl, HD⟩ := hcut
      have hle := hexN_le l i
      have HBad := Aside0.mk (fun h => hexR_bad (xs := xs) (show hexBad l i (hexN l i).1 (hexN l i).2 = true from h))
      have HGood := Aside0.mk (fun h => hexR_good (xs := xs) hq (show hexBad l i (hexN l i).1 (hexN l i).2 = false from h))
      obtain ⟨k, hK⟩ : ∃ k, (hexN l i).1 = k := ⟨_, rfl⟩
      obtain ⟨n, hN⟩ : ∃ n, (hexN l i).2 = n := ⟨_, rfl⟩
      rw [hK] at hle
      rw [hK, hN] at HBad HGood ⊢
      clear hK hN
      have HSc := Aside0.mk (HSa.out.below HD.out.below)
      have HBc := Aside0.mk (below_step (below_step (Below.refl w.heap.size w) HD2.out.below) HD.out.below)
      have HCk := Aside0.mk (HCF.out k hle.2 wc HSc.out)
      by_cases k0 : k = i + 3
      · have e0 : ((k : Int) == (i : Int) + 3) = true := by simp; omega
        have e0' : decide ((k : Int) = (i : Int) + 3) = true := by simp; omega
        have HK0 := Aside0.mk k0
        clear k0
        go_wp2_with fail
        go_ret3
        exact HPn.out _ (HBad.out (by simp [hexBad, HK0.out])) HBc.out
      · have e0 : ((k : Int) == (i : Int) + 3) = false := by simp; omega
        have e0' : decide ((k : Int) = (i : Int) + 3) = false := by simp; omega
        cases hb : hasP l k ⟨#[125]⟩
        all_goals rw [hb] at HCk
        · go_wp2_with (go_at_call 50; refine HCk.out.mono ?_; rintro e w4 ⟨rfl, hd⟩)
          go_ret3
          exact HPn.out _ (HBad.out (by simp [hexBad, hb])) (below_step HBc.out hd.below)
        · have HK0 := Aside0.mk k0
          clear k0
          by_cases n1 : 1114111 < n
          · have d1 : decide (1114111 < n) = true := decide_eq_true n1
            go_wp2_with (go_at_call 50; refine HCk.out.mono ?_; rintro e w4 ⟨rfl, hd⟩)
            go_ret3
            exact HPn.out _ (HBad.out (by simp [hexBad, n1])) (below_step HBc.out hd.below)
          · have d1 : decide (1114111 < n) = false := decide_eq_false n1
            by_cases n2 : 55296 ≤ n
            · have d2 : decide (55296 ≤ n) = true := decide_eq_true n2
              by_cases n3 : n ≤ 57343
              · have d3 : decide (n ≤ 57343) = true := decide_eq_true n3
                go_wp2_with (go_at_call 50; refine HCk.out.mono ?_; rintro e w4 ⟨rfl, hd⟩)
                go_ret3
                exact HPn.out _ (HBad.out (by simp [hexBad, n2, n3])) (below_step HBc.out hd.below)
              · have d3 : decide (n ≤ 57343) = false := decide_eq_false n3
                have d4 : decide (57343 < n) = true := decide_eq_true (by omega)
                have d5 : (n ≤ 57343) = False := eq_false n3
                have HN3 := Aside0.mk n3
                clear n3
                go_wp2_with (first | (go_at_call 50; refine HCk.out.mono ?_; rintro e w4 ⟨rfl, hd⟩; have HB4 := Aside0.mk ((below_step HBc.out hd.below).mono hBw); have HO4 := Aside0.mk (pw_own_below HO.out (below_step HBc.out hd.below)); have HZ4 : B ≤ w4.heap.size := Nat.le_trans hBw (below_step HBc.out hd.below).size; clear hd) | (refine print_append_str (w0 := w) B rfl (.tmp 87) _ 22 9 5 rfl Try.underlying22 Try.underlying9 info5 v xs (Utf8.encode n) rfl rfl HO4.out HB4.out HZ4 (enc_small hx _) ?_; rintro v1 w5 hO1 hB1 hg1; have HO5 := Aside0.mk hO1; have HB5 := Aside0.mk hB1; clear hO1 hB1 hg1))
                go_ret3
                have hg := HGood.out (by have := HN3.out; simp [hexBad, hb, HK0.out]; omega)
                rw [hg, show wrap32 n = n by unfold wrap32; omega]
                exact ⟨v1, by first | rfl | simp, HO5.out, HB5.out⟩
            · have d2 : decide (55296 ≤ n) = false := decide_eq_false n2
              go_wp2_with (first | (go_at_call 50; refine HCk.out.mono ?_; rintro e w4 ⟨rfl, hd⟩; have HB4 := Aside0.mk ((below_step HBc.out hd.below).mono hBw); have HO4 := Aside0.mk (pw_own_below HO.out (below_step HBc.out hd.below)); have HZ4 : B ≤ w4.heap.size := Nat.le_trans hBw (below_step HBc.out hd.below).size; clear hd) | (refine print_append_str (w0 := w) B rfl (.tmp 87) _ 22 9 5 rfl Try.underlying22 Try.underlying9 info5 v xs (Utf8.encode (wrap32 n)) rfl rfl HO4.out HB4.out HZ4 (enc_small hx _) ?_; rintro v1 w5 hO1 hB1 hg1; have HO5 := Aside0.mk hO1; have HB5 := Aside0.mk hB1; clear hO1 hB1 hg1))
              go_ret3
              have hg := HGood.out (by simp [hexBad, hb, HK0.out]; omega)
              rw [hg]
              exact ⟨v1, by first | rfl | simp, HO5.out, HB5.out⟩
end Go.Proofs.Ytglghpgpnlkpmaa.V
