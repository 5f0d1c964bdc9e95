/- The scanner: the next token. -/
import Derived.Test.YtglghpgpnlkpmaaLm
namespace Go.Proofs.Ytglghpgpnlkpmaa.V
open Go.RowKit Go.Proofs.YtglghpgpnlkpmaaW.PrintWords Go.Proofs.YtglghpgpnlkpmaaW.PrintLast Go.Proofs.YtglghpgpnlkpmaaW.PrintMore
attribute [local go_sem] max2_int min2_int max_two min_two max_three min_three max_four min_four   -- for this text's walks alone
set_option linter.unusedVariables false
set_option linter.unusedSimpArgs false
set_option maxHeartbeats 40000000
set_option maxRecDepth 100000
/-- No template, no brace begins at q. -/
def Plain (l : List Int) (q : Nat) : Prop := rd l q ≠ 96 ∧ rd l q ≠ 123 ∧ rd l q ≠ 125
theorem cut1_ne {l : List Int} (h8 : ∀ i, 0 ≤ rd l i ∧ rd l i ≤ 255) {q : Nat} {x : UInt8} (h : rd l q ≠ (x.toNat : Int)) : ((cutS l q (q + 1 : Nat)).toList == [x]) = false := by
  cases hh : ((cutS l q (q + 1 : Nat)).toList == [x])
  · rfl
  · exfalso
    have h1 := eq_of_beq hh
    rw [Lib.toList_data] at h1
    unfold cutS at h1
    by_cases hq : q < l.length
    · rw [show ((q + 1 : Nat) : Int).toNat = q + 1 by omega, show ((q : Int)).toNat = q by omega, List.drop_take, show q + 1 - q = 1 by omega, List.drop_eq_getElem_cons hq] at h1
      have e1 : rd l (q : Int) = l[q] := by simp [rd, List.getD_eq_getElem?_getD, List.getElem?_eq_getElem hq]
      simp [strOfNums, ← e1] at h1
      have := u8_of (rd l q) (h8 _).1 (h8 _).2 x
      rw [h1] at this
      simp at this
      exact h this
    · rw [List.drop_eq_nil_of_le (by rw [List.length_take]; omega)] at h1
      simp [strOfNums] at h1
theorem St.set4 {w : World} {g r : Nat} {A : Option Addr} {c : Nat} {l : List Int} {p : Int} {os : List Bool} {k a e : Int} {s : ByteArray} (h : St w g A c l p os) (hr : g < r) (hb : w.heap[r]? = some (B33 k s a e)) (k' : Int) (s' : ByteArray) (a' e' : Int) :
    St ((((w.setCell ⟨r, 0, none⟩ (.int .i64 k')).setCell ⟨r, 1, none⟩ (.string s')).setCell ⟨r, 2, none⟩ (.int .i64 a')).setCell ⟨r, 3, none⟩ (.int .i64 e')) g A c l p os := by
  have b1 := blk_put (cs' := #[.int .i64 k', .string s, .int .i64 a, .int .i64 e]) hb 0 (.int .i64 k') rfl
  have b2 := blk_put (cs' := #[.int .i64 k', .string s', .int .i64 a, .int .i64 e]) b1 1 (.string s') rfl
  have b3 := blk_put (cs' := #[.int .i64 k', .string s', .int .i64 a', .int .i64 e]) b2 2 (.int .i64 a') rfl
  exact (((h.setFar hr hb (by decide) 0 _).setFar hr b1 (by decide) 1 _).setFar hr b2 (by decide) 2 _).setFar hr b3 (by decide) 3 _
theorem KeepO.set4 {g : Nat} {w w1 : World} (h : KeepO g w w1) {r : Nat} (hr : w.heap.size ≤ r) (k' : Int) (s' : ByteArray) (a' e' : Int) :
    KeepO g w ((((w1.setCell ⟨r, 0, none⟩ (.int .i64 k')).setCell ⟨r, 1, none⟩ (.string s')).setCell ⟨r, 2, none⟩ (.int .i64 a')).setCell ⟨r, 3, none⟩ (.int .i64 e')) :=
  (((h.setFar hr 0 _).setFar hr 1 _).setFar hr 2 _).setFar hr 3 _
theorem blk_set4 {w : World} {r k : Nat} {o : Obj} (h : w.heap[k]? = some o) (hr : k ≠ r) (k' : Int) (s' : ByteArray) (a' e' : Int) :
    ((((w.setCell ⟨r, 0, none⟩ (.int .i64 k')).setCell ⟨r, 1, none⟩ (.string s')).setCell ⟨r, 2, none⟩ (.int .i64 a')).setCell ⟨r, 3, none⟩ (.int .i64 e')).heap[k]? = some o :=
  blk_setOther (blk_setOther (blk_setOther (blk_setOther h hr 0 _) hr 1 _) hr 2 _) hr 3 _
attribute [local irreducible] nextT nextR wordP numP quoteP pieceP
theorem Next_plain (g : Nat) (A : Option Addr) (c : Nat) (l : List Int) (p : Nat) (os : List Bool) (w : World) (hS : St w g A c l p os) (hM : MaxOk w) (hg0 : g ≠ 0) (hp : p ≤ l.length) (hlm : l.length ≤ 200000) (hos : os.length ≤ 1000000) (hDc : DecOk l) (h8 : ∀ i, 0 ≤ rd l i ∧ rd l i ≤ 255) (hCa : CaOk l) (hPl : (ahdN l p).1 < l.length → Plain l (ahdN l p).1) :
    Calls Try.prog 29 #[.pointer (some ⟨g, 0, none⟩)] w fun z w' => z = .returned (.tuple #[tkV (nextR l p os).1.1, .bool (nextR l p os).1.2]) ∧ St w' g A c l (nextR l p os).2.1 (nextR l p os).2.2 ∧ KeepO g w w' := by
  have hu60 := Try.underlying60
  have hu33 := Try.underlying33
  obtain ⟨vo, hSg, hO⟩ := hS
  have hg := blk_lt hSg.1.1
  have hc := hSg.1.2.2.1
  have hB1 := below_alloc (Below.refl w.heap.size w) (.cells #[.int .i64 0, .string ⟨#[]⟩, .int .i64 0, .int .i64 0] 33)
  have hnew := blk_new w (.cells #[.int .i64 0, .string ⟨#[]⟩, .int .i64 0, .int .i64 0] 33)
  have HSz := Aside0.mk (show (w.alloc (.cells #[.int .i64 0, .string ⟨#[]⟩, .int .i64 0, .int .i64 0] 33)).heap.size = w.heap.size + 1 by simp)
  have HSg := Aside0.mk hSg
  have HO := Aside0.mk hO
  have HM := Aside0.mk hM
  have HDc := Aside0.mk hDc
  have H8 := Aside0.mk h8
  have HCa := Aside0.mk hCa
  have HPl := Aside0.mk hPl
  clear hSg hO hM hCa hDc h8 hPl
  go_enter Try.func29, Try.ntmps29
  go_upto_region 1 with fail
  generalize w.alloc (.cells #[.int .i64 0, .string ⟨#[]⟩, .int .i64 0, .int .i64 0] 33) = W0 at *
  have HB1 := Aside0.mk hB1
  have HN := Aside0.mk (show W0.heap[w.heap.size]? = some (B33 0 ⟨#[]⟩ 0 0) from hnew)
  have HSg0 := Aside0.mk (HSg.out.below hB1)
  have HO0 := Aside0.mk (pw_own_below HO.out hB1)
  have HBl := Aside0.mk (blanks_any g A c l p vo W0 HSg0.out (HM.out.below hB1) hg0 hp (by omega) H8.out)
  have HM0 := Aside0.mk (HM.out.below hB1)
  clear hB1 hnew
  obtain ⟨q, hq⟩ : ∃ q, (ahdN l p).1 = q := ⟨_, rfl⟩
  obtain ⟨fine, hfine⟩ : ∃ fine, (ahdN l p).2 = fine := ⟨_, rfl⟩
  have HA := Aside0.mk (show ahdN l p = (q, fine) from by rw [← hq, ← hfine])
  rw [hq, hfine] at HBl
  rw [hq] at HPl
  clear hq hfine
  go_upto_region 2 with (go_at_call 34; refine HBl.out.mono ?_; rintro e w1 ⟨rfl, hql, hS1, hK1⟩; have HS1 := Aside0.mk hS1; have HK1 := Aside0.mk hK1; clear hS1 hK1)
  have HSt1 := Aside0.mk (St.keepG HSg0.out HO0.out HS1.out HK1.out)
  have HN1 := Aside0.mk ((HK1.out.block w.heap.size (by have := HSz.out; omega) (by omega)).trans HN.out)
  have HKw1 := Aside0.mk (show KeepO g w w1 from ((KeepO.refl g w).below HB1.out).trans HK1.out.o)
  have HM1 := Aside0.mk (HK1.out.maxOk HM0.out hg0)
  have hlt1 : w.heap.size < w1.heap.size := by have := HSz.out; have := HK1.out.size; omega
  have c1 : w1.cell? ⟨g, 1, none⟩ = some (.int .i64 q) := (blk_cell HS1.out.1.1 1).trans rfl
  clear HK1 HBl HSg HSg0 HO HO0 HN HM0 HSz HB1
  go_upto_region 3 with fail
  have hB2 := below_alloc (Below.refl w1.heap.size w1) (.cells #[.int .i64 0, .string ⟨#[]⟩, .int .i64 q, .int .i64 0] 33)
  have hnt := blk_new w1 (.cells #[.int .i64 0, .string ⟨#[]⟩, .int .i64 q, .int .i64 0] 33)
  have HSz2 := Aside0.mk (show (w1.alloc (.cells #[.int .i64 0, .string ⟨#[]⟩, .int .i64 q, .int .i64 0] 33)).heap.size = w1.heap.size + 1 by simp)
  generalize w1.alloc (.cells #[.int .i64 0, .string ⟨#[]⟩, .int .i64 q, .int .i64 0] 33) = w2 at *
  obtain ⟨gt, hgt⟩ : ∃ gt, w1.heap.size = gt := ⟨_, rfl⟩
  have HSt2 := Aside0.mk (HSt1.out.below hB2)
  have HN2 := Aside0.mk (blk_below HN1.out hB2)
  have HK2 := Aside0.mk (HKw1.out.below hB2)
  have HM2 := Aside0.mk (HM1.out.below hB2)
  rw [hgt] at hnt hlt1 HSz2 ⊢
  have HT2 := Aside0.mk (show w2.heap[gt]? = some (B33 0 ⟨#[]⟩ q 0) from hnt)
  clear hgt hnt hB2 c1 HSt1 HN1 HKw1 HM1 HS1
  cases fine
  · obtain ⟨⟨t0, t1, t2, t3⟩, s0, s1, s2, s3⟩ := B33_facts HT2.out
    obtain ⟨⟨n0, n1, n2, n3⟩, m0, m1, m2, m3⟩ := B33_facts HN2.out
    have HR := Aside0.mk (nextR_open (os := os) HA.out)
    go_wp2_with fail
    refine bodyPost_ret (results_ct rfl _ _ w.heap.size 33 #[.int .i64 0, .string ⟨#[]⟩, .int .i64 q, .int .i64 0] (0, 0) _ rfl (B33_put HN2.out 0 ⟨#[]⟩ q 0) Try.underlying33 rfl (by kernel_rfl)) rfl ?_
    rw [HR.out]
    exact ⟨rfl, St.set4 HSt2.out hg HN2.out _ _ _ _, KeepO.set4 HK2.out (Nat.le_refl _) _ _ _ _⟩
  · obtain ⟨vo2, hSg2, hO2⟩ := HSt2.out
    have HSg2 := Aside0.mk hSg2
    have HO2 := Aside0.mk hO2
    clear hSg2 hO2
    have c0 : w2.cell? ⟨g, 0, none⟩ = some (.slice A l.length c) := (blk_cell HSg2.out.1.1 0).trans rfl
    have c1 : w2.cell? ⟨g, 1, none⟩ = some (.int .i64 q) := (blk_cell HSg2.out.1.1 1).trans rfl
    by_cases hqe : q = l.length
    · have HR := Aside0.mk (nextR_end (os := os) HA.out hqe)
      have hqi : ((q : Int) == (l.length : Int)) = true := by simp [hqe]
      clear hqe
      go_upto_region 6 with fail
      go_quiet (fail)
      have HDq := Aside0.mk (Drawn0.mk ⟨nq, (rfl : w2.drewN nq = w2.drewN nq)⟩)
      generalize w2.drewN nq = w3 at *
      have HSt3 := Aside0.mk (HSt2.out.below HDq.out.below)
      have HN3 := Aside0.mk (show w3.heap[w.heap.size]? = some (B33 0 ⟨#[]⟩ 0 0) from blk_below HN2.out HDq.out.below)
      have HK3 := Aside0.mk (HK2.out.below HDq.out.below)
      have HSg3 := Aside0.mk (HSg2.out.below HDq.out.below)
      clear c0 c1
      have c0 : w3.cell? ⟨g, 0, none⟩ = some (.slice A l.length c) := (blk_cell HSg3.out.1.1 0).trans rfl
      have c1 : w3.cell? ⟨g, 1, none⟩ = some (.int .i64 q) := (blk_cell HSg3.out.1.1 1).trans rfl
      go_upto_region 6 with fail
      have HSt4 := Aside0.mk (show St w3.drew g A c l q os from HSt3.out.below (below_drew1 (Below.refl _ _)))
      have HN4 := Aside0.mk (show w3.drew.heap[w.heap.size]? = some (B33 0 ⟨#[]⟩ 0 0) from blk_drew HN3.out)
      have HK4 := Aside0.mk (show KeepO g w w3.drew from HK3.out.below (below_drew1 (Below.refl _ _)))
      go_still_tail 9, (by kernel_rfl)
      change wpList _ _ _ _ _ w3.drew
      generalize w3.drew = w4 at *
      obtain ⟨⟨n0, n1, n2, n3⟩, m0, m1, m2, m3⟩ := B33_facts HN4.out
      go_wp2
      refine bodyPost_ret (results_ct rfl _ _ w.heap.size 33 #[.int .i64 10, .string ⟨#[]⟩, .int .i64 q, .int .i64 q] (0, 0) _ rfl (B33_put HN4.out 10 ⟨#[]⟩ q q) Try.underlying33 rfl (by kernel_rfl)) rfl ?_
      rw [HR.out]
      exact ⟨rfl, St.set4 HSt4.out hg HN4.out _ _ _ _, KeepO.set4 HK4.out (Nat.le_refl _) _ _ _ _⟩
    · have hqi : ((q : Int) == (l.length : Int)) = false := by simp; omega
      have hql' : q < l.length := by omega
      have HPq := Aside0.mk (HPl.out hql')
      have HQe := Aside0.mk hqe
      clear hqe
      go_upto_region 6 with fail
      go_quiet (fail)
      have HDq := Aside0.mk (Drawn0.mk ⟨nq, (rfl : w2.drewN nq = w2.drewN nq)⟩)
      generalize w2.drewN nq = w3 at *
      have HSt3 := Aside0.mk (HSt2.out.below HDq.out.below)
      have HN3 := Aside0.mk (show w3.heap[w.heap.size]? = some (B33 0 ⟨#[]⟩ 0 0) from blk_below HN2.out HDq.out.below)
      have HT3 := Aside0.mk (show w3.heap[gt]? = some (B33 0 ⟨#[]⟩ q 0) from blk_below HT2.out HDq.out.below)
      have HK3 := Aside0.mk (HK2.out.below HDq.out.below)
      have HM3 := Aside0.mk (HM2.out.below HDq.out.below)
      have HSg3 := Aside0.mk (HSg2.out.below HDq.out.below)
      clear c0 c1
      have c0 : w3.cell? ⟨g, 0, none⟩ = some (.slice A l.length c) := (blk_cell HSg3.out.1.1 0).trans rfl
      have c1 : w3.cell? ⟨g, 1, none⟩ = some (.int .i64 q) := (blk_cell HSg3.out.1.1 1).trans rfl
      go_upto_block 0 with fail
      obtain ⟨ad, e, hx⟩ := Kd.at_int HSg3.out.1.2.1 (q : Int) (by omega) (by omega)
      cases e
      replace hx : w3.cell? (ad.add q) = some (.int .u8 (rd l q)) := hx
      have q3 : ((q : Int) < (l.length : Int)) = True := eq_true (by omega)
      have q0 : (0 ≤ (q : Int)) = True := eq_true (by omega)
      obtain ⟨y, hy⟩ : ∃ y, rd l q = y := ⟨_, rfl⟩
      rw [hy] at hx
      have HY := Aside0.mk hy
      clear hy
      go_quiet (fail)
      have HDr := Aside0.mk (Drawn0.mk ⟨nq, (rfl : w3.drewN nq = w3.drewN nq)⟩)
      generalize w3.drewN nq = w4 at *
      have HFin := Aside0.mk (show ∀ W', Below w4.heap.size w4 W' → Sg W' g (some ad) c l q vo2 ∧ St W' g (some ad) c l q os ∧ KeepO g w W' ∧ W'.heap[w.heap.size]? = some (B33 0 ⟨#[]⟩ 0 0) ∧ W'.heap[gt]? = some (B33 0 ⟨#[]⟩ q 0) ∧ MaxOk W' from fun W' hb => by
        have hb3 := below_step HDr.out.below (hb)
        exact ⟨HSg3.out.below hb3, HSt3.out.below hb3, HK3.out.below hb3, blk_below HN3.out hb3, blk_below HT3.out hb3, HM3.out.below hb3⟩)
      clear c0 c1 hx HDr HDq
      go_upto_block 0 with fail
      cases hL : letterB y
      · cases hG : digitB y
        · by_cases h34 : y = 34
          · subst h34
            have hT : nextT l q os = (quoteP l (rd l q) q, os) := nextT_quote (en := 0) (by rw [HY.out]; exact hL) (by rw [HY.out]; exact hG) (by rw [HY.out]; omega)
            obtain ⟨⟨k, s, a, e⟩, htok⟩ : ∃ t, quoteP l (rd l q) q = t := ⟨_, rfl⟩
            have HC := Aside0.mk (show ∀ W, Below w4.heap.size w4 W → Calls Try.prog 39 #[.pointer (some ⟨g, 0, none⟩), .int .u8 34] W fun z w' => z = .returned (.agg #[.int .i64 k, .string s, .int .i64 a, .int .i64 e]) ∧ Below W.heap.size W w' from fun W hb => by
              have h := quoted_any g (some ad) c l q vo2 (rd l q) W (HFin.out W hb).1.1 hql' (by omega) HDc.out H8.out
              rw [htok, HY.out] at h
              exact h)
            rw [htok] at hT
            have HT := Aside0.mk hT
            clear hT htok
            go_upto_region 23 with (first | (go_at_call 35; refine (letter_any _ _).mono ?_; rintro e5 w5 ⟨rfl, hd⟩; have HB5 := Aside0.mk hd.below; clear hd) | (go_at_call 37; refine (digit_any _ _).mono ?_; rintro e5 w51 ⟨rfl, hd⟩; have HB51 := Aside0.mk (below_step HB5.out hd.below); clear hd) | (go_at_call 39; refine (HC.out _ HB51.out).mono ?_; rintro e6 w6 ⟨rfl, hb⟩; have HF6 := Aside0.mk (HFin.out _ (below_step HB51.out hb)); have HSt6 := Aside0.mk HF6.out.2.1; have HK6 := Aside0.mk HF6.out.2.2.1; have HN6 := Aside0.mk HF6.out.2.2.2.1; have HT6 := Aside0.mk HF6.out.2.2.2.2.1; clear hb HF6; obtain ⟨⟨u0, u1, u2, u3⟩, v0, v1, v2, v3⟩ := B33_facts HT6.out))
            have HSt7 := Aside0.mk (St.set4 HSt6.out (by omega) HT6.out k s a e)
            have HK7 := Aside0.mk (KeepO.set4 HK6.out (Nat.le_of_lt hlt1) k s a e)
            have HN7 := Aside0.mk (blk_set4 HN6.out (show w.heap.size ≠ gt by omega) k s a e)
            have HT7 := Aside0.mk (B33_put HT6.out k s a e)
            clear HSt6 HK6 HN6 HT6
            generalize ((((w6.setCell ⟨gt, 0, none⟩ (.int .i64 k)).setCell ⟨gt, 1, none⟩ (.string s)).setCell ⟨gt, 2, none⟩ (.int .i64 a)).setCell ⟨gt, 3, none⟩ (.int .i64 e)) = w7 at *
            obtain ⟨vo7, hSg7, hO7⟩ := HSt7.out
            have c1 : w7.cell? ⟨g, 1, none⟩ = some (.int .i64 q) := (blk_cell hSg7.1.1 1).trans rfl
            have f1 : w7.frozen? ⟨g, 1, none⟩ = false := blk_frozen hSg7.1.1 1
            clear hSg7 hO7
            obtain ⟨⟨t0, t1, t2, t3⟩, s0, s1, s2, s3⟩ := B33_facts HT7.out
            obtain ⟨⟨n0, n1, n2, n3⟩, m0, m1, m2, m3⟩ := B33_facts HN7.out
            by_cases hk : k = 0
            · subst hk
              have HR := Aside0.mk (nextR_bad HA.out HQe.out HT.out)
              go_wp2_with fail
              refine bodyPost_ret (results_ct rfl _ _ w.heap.size 33 #[.int .i64 0, .string ⟨#[]⟩, .int .i64 q, .int .i64 0] (0, 0) _ rfl (B33_put HN7.out 0 ⟨#[]⟩ q 0) Try.underlying33 rfl (by kernel_rfl)) rfl ?_
              rw [HR.out]
              exact ⟨rfl, St.set4 HSt7.out hg HN7.out _ _ _ _, KeepO.set4 HK7.out (Nat.le_refl _) _ _ _ _⟩
            · have HR := Aside0.mk (nextR_tok HA.out HQe.out hk HT.out)
              have zk : (k == 0) = false := by simpa using hk
              have HN8 := Aside0.mk (blk_setOther HN7.out (show w.heap.size ≠ g by omega) 1 (.int .i64 e))
              clear hk
              go_wp2_with fail
              refine bodyPost_ret (results_ct rfl _ _ w.heap.size 33 #[.int .i64 k, .string s, .int .i64 a, .int .i64 e] (0, 0) _ rfl (B33_put HN8.out k s a e) Try.underlying33 rfl (by kernel_rfl)) rfl ?_
              rw [HR.out]
              exact ⟨rfl, St.set4 (HSt7.out.put e) hg HN8.out _ _ _ _, KeepO.set4 (HK7.out.setG 1 _) (Nat.le_refl _) _ _ _ _⟩
          · have z34 : (y == 34) = false := by simpa using h34
            by_cases h39 : y = 39
            · subst h39
              have hT : nextT l q os = (quoteP l (rd l q) q, os) := nextT_quote (en := 0) (by rw [HY.out]; exact hL) (by rw [HY.out]; exact hG) (by rw [HY.out]; omega)
              obtain ⟨⟨k, s, a, e⟩, htok⟩ : ∃ t, quoteP l (rd l q) q = t := ⟨_, rfl⟩
              have HC := Aside0.mk (show ∀ W, Below w4.heap.size w4 W → Calls Try.prog 39 #[.pointer (some ⟨g, 0, none⟩), .int .u8 39] W fun z w' => z = .returned (.agg #[.int .i64 k, .string s, .int .i64 a, .int .i64 e]) ∧ Below W.heap.size W w' from fun W hb => by
                have h := quoted_any g (some ad) c l q vo2 (rd l q) W (HFin.out W hb).1.1 hql' (by omega) HDc.out H8.out
                rw [htok, HY.out] at h
                exact h)
              rw [htok] at hT
              have HT := Aside0.mk hT
              clear hT htok
              go_upto_region 23 with (first | (go_at_call 35; refine (letter_any _ _).mono ?_; rintro e5 w5 ⟨rfl, hd⟩; have HB5 := Aside0.mk hd.below; clear hd) | (go_at_call 37; refine (digit_any _ _).mono ?_; rintro e5 w51 ⟨rfl, hd⟩; have HB51 := Aside0.mk (below_step HB5.out hd.below); clear hd) | (go_at_call 39; refine (HC.out _ HB51.out).mono ?_; rintro e6 w6 ⟨rfl, hb⟩; have HF6 := Aside0.mk (HFin.out _ (below_step HB51.out hb)); have HSt6 := Aside0.mk HF6.out.2.1; have HK6 := Aside0.mk HF6.out.2.2.1; have HN6 := Aside0.mk HF6.out.2.2.2.1; have HT6 := Aside0.mk HF6.out.2.2.2.2.1; clear hb HF6; obtain ⟨⟨u0, u1, u2, u3⟩, v0, v1, v2, v3⟩ := B33_facts HT6.out))
              have HSt7 := Aside0.mk (St.set4 HSt6.out (by omega) HT6.out k s a e)
              have HK7 := Aside0.mk (KeepO.set4 HK6.out (Nat.le_of_lt hlt1) k s a e)
              have HN7 := Aside0.mk (blk_set4 HN6.out (show w.heap.size ≠ gt by omega) k s a e)
              have HT7 := Aside0.mk (B33_put HT6.out k s a e)
              clear HSt6 HK6 HN6 HT6
              generalize ((((w6.setCell ⟨gt, 0, none⟩ (.int .i64 k)).setCell ⟨gt, 1, none⟩ (.string s)).setCell ⟨gt, 2, none⟩ (.int .i64 a)).setCell ⟨gt, 3, none⟩ (.int .i64 e)) = w7 at *
              obtain ⟨vo7, hSg7, hO7⟩ := HSt7.out
              have c1 : w7.cell? ⟨g, 1, none⟩ = some (.int .i64 q) := (blk_cell hSg7.1.1 1).trans rfl
              have f1 : w7.frozen? ⟨g, 1, none⟩ = false := blk_frozen hSg7.1.1 1
              clear hSg7 hO7
              obtain ⟨⟨t0, t1, t2, t3⟩, s0, s1, s2, s3⟩ := B33_facts HT7.out
              obtain ⟨⟨n0, n1, n2, n3⟩, m0, m1, m2, m3⟩ := B33_facts HN7.out
              by_cases hk : k = 0
              · subst hk
                have HR := Aside0.mk (nextR_bad HA.out HQe.out HT.out)
                go_wp2_with fail
                refine bodyPost_ret (results_ct rfl _ _ w.heap.size 33 #[.int .i64 0, .string ⟨#[]⟩, .int .i64 q, .int .i64 0] (0, 0) _ rfl (B33_put HN7.out 0 ⟨#[]⟩ q 0) Try.underlying33 rfl (by kernel_rfl)) rfl ?_
                rw [HR.out]
                exact ⟨rfl, St.set4 HSt7.out hg HN7.out _ _ _ _, KeepO.set4 HK7.out (Nat.le_refl _) _ _ _ _⟩
              · have HR := Aside0.mk (nextR_tok HA.out HQe.out hk HT.out)
                have zk : (k == 0) = false := by simpa using hk
                have HN8 := Aside0.mk (blk_setOther HN7.out (show w.heap.size ≠ g by omega) 1 (.int .i64 e))
                clear hk
                go_wp2_with fail
                refine bodyPost_ret (results_ct rfl _ _ w.heap.size 33 #[.int .i64 k, .string s, .int .i64 a, .int .i64 e] (0, 0) _ rfl (B33_put HN8.out k s a e) Try.underlying33 rfl (by kernel_rfl)) rfl ?_
                rw [HR.out]
                exact ⟨rfl, St.set4 (HSt7.out.put e) hg HN8.out _ _ _ _, KeepO.set4 (HK7.out.setG 1 _) (Nat.le_refl _) _ _ _ _⟩
            · have z39 : (y == 39) = false := by simpa using h39
              have z96 : (y == 96) = false := by have := HPq.out.1; rw [HY.out] at this; simpa using this
              have z125 : (y == 125) = false := by have := HPq.out.2.2; rw [HY.out] at this; simpa using this
              go_upto_region 19 with (first | (go_at_call 35; refine (letter_any _ _).mono ?_; rintro e5 w5 ⟨rfl, hd⟩; have HB5 := Aside0.mk hd.below; clear hd) | (go_at_call 37; refine (digit_any _ _).mono ?_; rintro e5 w51 ⟨rfl, hd⟩; have HB51 := Aside0.mk (below_step HB5.out hd.below); clear hd))
              go_wp2_with fail
              go_quiet (fail)
              have HDs := Aside0.mk (Drawn0.mk ⟨nq, (rfl : w51.drewN nq = w51.drewN nq)⟩)
              generalize w51.drewN nq = w52 at *
              have HB52 := Aside0.mk (below_step HB51.out HDs.out.below)
              have hT : nextT l q os = (signP l q, signO l q os) := nextT_sign (by rw [HY.out]; exact hL) (by rw [HY.out]; exact hG) (by rw [HY.out]; exact h34) (by rw [HY.out]; exact h39) HPq.out.1 (fun h => HPq.out.2.2 h.1)
              obtain ⟨⟨k, s, a, e⟩, htok⟩ : ∃ t, signP l q = t := ⟨_, rfl⟩
              obtain ⟨o2, ho2⟩ : ∃ o2, signO l q os = o2 := ⟨_, rfl⟩
              have HC := Aside0.mk (show ∀ W, Below w4.heap.size w4 W → Calls Try.prog 41 #[.pointer (some ⟨g, 0, none⟩)] W fun z w' => z = .returned (.agg #[.int .i64 k, .string s, .int .i64 a, .int .i64 e]) ∧ St w' g (some ad) c l q o2 ∧ KeepO g W w' from fun W hb => by
                have h := sign_any g (some ad) c l q os W (HFin.out W hb).2.1 (HFin.out W hb).2.2.2.2.2 (by omega) hlm hos HCa.out ⟨cut1_ne H8.out HPq.out.2.1, cut1_ne H8.out HPq.out.2.2⟩
                rw [htok, ho2] at h
                exact h)
              rw [htok, ho2] at hT
              have HT := Aside0.mk hT
              clear hT htok ho2
              go_upto_region 23 with (go_at_call 41; refine (HC.out _ HB52.out).mono ?_; rintro e6 w6 ⟨rfl, hs6, hk6⟩; have HSt6 := Aside0.mk hs6; have HF5 := Aside0.mk (HFin.out _ HB52.out); have HK6 := Aside0.mk (HF5.out.2.2.1.trans hk6); have HN6 := Aside0.mk (hk6.cells HF5.out.2.2.2.1 (by omega) (by decide)); have HT6 := Aside0.mk (show w6.heap[gt]? = some (B33 0 ⟨#[]⟩ q 0) from hk6.cells HF5.out.2.2.2.2.1 (by omega) (by decide)); clear hs6 hk6 HF5; obtain ⟨⟨u0, u1, u2, u3⟩, v0, v1, v2, v3⟩ := B33_facts HT6.out)
              have HSt7 := Aside0.mk (St.set4 HSt6.out (by omega) HT6.out k s a e)
              have HK7 := Aside0.mk (KeepO.set4 HK6.out (Nat.le_of_lt hlt1) k s a e)
              have HN7 := Aside0.mk (blk_set4 HN6.out (show w.heap.size ≠ gt by omega) k s a e)
              have HT7 := Aside0.mk (B33_put HT6.out k s a e)
              clear HSt6 HK6 HN6 HT6
              generalize ((((w6.setCell ⟨gt, 0, none⟩ (.int .i64 k)).setCell ⟨gt, 1, none⟩ (.string s)).setCell ⟨gt, 2, none⟩ (.int .i64 a)).setCell ⟨gt, 3, none⟩ (.int .i64 e)) = w7 at *
              obtain ⟨vo7, hSg7, hO7⟩ := HSt7.out
              have c1 : w7.cell? ⟨g, 1, none⟩ = some (.int .i64 q) := (blk_cell hSg7.1.1 1).trans rfl
              have f1 : w7.frozen? ⟨g, 1, none⟩ = false := blk_frozen hSg7.1.1 1
              clear hSg7 hO7
              obtain ⟨⟨t0, t1, t2, t3⟩, s0, s1, s2, s3⟩ := B33_facts HT7.out
              obtain ⟨⟨n0, n1, n2, n3⟩, m0, m1, m2, m3⟩ := B33_facts HN7.out
              by_cases hk : k = 0
              · subst hk
                have HR := Aside0.mk (nextR_bad HA.out HQe.out HT.out)
                go_wp2_with fail
                refine bodyPost_ret (results_ct rfl _ _ w.heap.size 33 #[.int .i64 0, .string ⟨#[]⟩, .int .i64 q, .int .i64 0] (0, 0) _ rfl (B33_put HN7.out 0 ⟨#[]⟩ q 0) Try.underlying33 rfl (by kernel_rfl)) rfl ?_
                rw [HR.out]
                exact ⟨rfl, St.set4 HSt7.out hg HN7.out _ _ _ _, KeepO.set4 HK7.out (Nat.le_refl _) _ _ _ _⟩
              · have HR := Aside0.mk (nextR_tok HA.out HQe.out hk HT.out)
                have zk : (k == 0) = false := by simpa using hk
                have HN8 := Aside0.mk (blk_setOther HN7.out (show w.heap.size ≠ g by omega) 1 (.int .i64 e))
                clear hk
                go_wp2_with fail
                refine bodyPost_ret (results_ct rfl _ _ w.heap.size 33 #[.int .i64 k, .string s, .int .i64 a, .int .i64 e] (0, 0) _ rfl (B33_put HN8.out k s a e) Try.underlying33 rfl (by kernel_rfl)) rfl ?_
                rw [HR.out]
                exact ⟨rfl, St.set4 (HSt7.out.put e) hg HN8.out _ _ _ _, KeepO.set4 (HK7.out.setG 1 _) (Nat.le_refl _) _ _ _ _⟩
        · have hT : nextT l q os = (numP l q, os) := nextT_num (by rw [HY.out]; exact hL) (by rw [HY.out]; exact hG)
          obtain ⟨⟨k, s, a, e⟩, htok⟩ : ∃ t, numP l q = t := ⟨_, rfl⟩
          have HC := Aside0.mk (show ∀ W, Below w4.heap.size w4 W → Calls Try.prog 38 #[.pointer (some ⟨g, 0, none⟩)] W fun z w' => z = .returned (.agg #[.int .i64 k, .string s, .int .i64 a, .int .i64 e]) ∧ Below W.heap.size W w' from fun W hb => by
            have h := number_any g (some ad) c l q vo2 W (HFin.out W hb).1.1 hql'
            rw [htok] at h
            exact h)
          rw [htok] at hT
          have HT := Aside0.mk hT
          clear hT htok
          go_upto_region 23 with (first | (go_at_call 35; refine (letter_any _ _).mono ?_; rintro e5 w5 ⟨rfl, hd⟩; have HB5 := Aside0.mk hd.below; clear hd) | (go_at_call 37; refine (digit_any _ _).mono ?_; rintro e5 w51 ⟨rfl, hd⟩; have HB51 := Aside0.mk (below_step HB5.out hd.below); clear hd) | (go_at_call 38; refine (HC.out _ HB51.out).mono ?_; rintro e6 w6 ⟨rfl, hb⟩; have HF6 := Aside0.mk (HFin.out _ (below_step HB51.out hb)); have HSt6 := Aside0.mk HF6.out.2.1; have HK6 := Aside0.mk HF6.out.2.2.1; have HN6 := Aside0.mk HF6.out.2.2.2.1; have HT6 := Aside0.mk HF6.out.2.2.2.2.1; clear hb HF6; obtain ⟨⟨u0, u1, u2, u3⟩, v0, v1, v2, v3⟩ := B33_facts HT6.out))
          have HSt7 := Aside0.mk (St.set4 HSt6.out (by omega) HT6.out k s a e)
          have HK7 := Aside0.mk (KeepO.set4 HK6.out (Nat.le_of_lt hlt1) k s a e)
          have HN7 := Aside0.mk (blk_set4 HN6.out (show w.heap.size ≠ gt by omega) k s a e)
          have HT7 := Aside0.mk (B33_put HT6.out k s a e)
          clear HSt6 HK6 HN6 HT6
          generalize ((((w6.setCell ⟨gt, 0, none⟩ (.int .i64 k)).setCell ⟨gt, 1, none⟩ (.string s)).setCell ⟨gt, 2, none⟩ (.int .i64 a)).setCell ⟨gt, 3, none⟩ (.int .i64 e)) = w7 at *
          obtain ⟨vo7, hSg7, hO7⟩ := HSt7.out
          have c1 : w7.cell? ⟨g, 1, none⟩ = some (.int .i64 q) := (blk_cell hSg7.1.1 1).trans rfl
          have f1 : w7.frozen? ⟨g, 1, none⟩ = false := blk_frozen hSg7.1.1 1
          clear hSg7 hO7
          obtain ⟨⟨t0, t1, t2, t3⟩, s0, s1, s2, s3⟩ := B33_facts HT7.out
          obtain ⟨⟨n0, n1, n2, n3⟩, m0, m1, m2, m3⟩ := B33_facts HN7.out
          by_cases hk : k = 0
          · subst hk
            have HR := Aside0.mk (nextR_bad HA.out HQe.out HT.out)
            go_wp2_with fail
            refine bodyPost_ret (results_ct rfl _ _ w.heap.size 33 #[.int .i64 0, .string ⟨#[]⟩, .int .i64 q, .int .i64 0] (0, 0) _ rfl (B33_put HN7.out 0 ⟨#[]⟩ q 0) Try.underlying33 rfl (by kernel_rfl)) rfl ?_
            rw [HR.out]
            exact ⟨rfl, St.set4 HSt7.out hg HN7.out _ _ _ _, KeepO.set4 HK7.out (Nat.le_refl _) _ _ _ _⟩
          · have HR := Aside0.mk (nextR_tok HA.out HQe.out hk HT.out)
            have zk : (k == 0) = false := by simpa using hk
            have HN8 := Aside0.mk (blk_setOther HN7.out (show w.heap.size ≠ g by omega) 1 (.int .i64 e))
            clear hk
            go_wp2_with fail
            refine bodyPost_ret (results_ct rfl _ _ w.heap.size 33 #[.int .i64 k, .string s, .int .i64 a, .int .i64 e] (0, 0) _ rfl (B33_put HN8.out k s a e) Try.underlying33 rfl (by kernel_rfl)) rfl ?_
            rw [HR.out]
            exact ⟨rfl, St.set4 (HSt7.out.put e) hg HN8.out _ _ _ _, KeepO.set4 (HK7.out.setG 1 _) (Nat.le_refl _) _ _ _ _⟩
      · have hT : nextT l q os = (wordP l q, os) := nextT_word (by rw [HY.out]; exact hL)
        obtain ⟨⟨k, s, a, e⟩, htok⟩ : ∃ t, wordP l q = t := ⟨_, rfl⟩
        have HC := Aside0.mk (show ∀ W, Below w4.heap.size w4 W → Calls Try.prog 36 #[.pointer (some ⟨g, 0, none⟩)] W fun z w' => z = .returned (.agg #[.int .i64 k, .string s, .int .i64 a, .int .i64 e]) ∧ Below W.heap.size W w' from fun W hb => by
          have h := word_any g (some ad) c l q vo2 W (HFin.out W hb).1.1 (HFin.out W hb).2.2.2.2.2 (by omega)
          have h2 : (.agg #[.int .i64 (wordK (cutS l q (wEnd l (l.length - q) q))), .string (cutS l q (wEnd l (l.length - q) q)), .int .i64 q, .int .i64 ((wEnd l (l.length - q) q : Nat) : Int)] : Value) = tkV (wordP l q) := by unfold wordP; rfl
          rw [h2, htok] at h
          exact h)
        rw [htok] at hT
        have HT := Aside0.mk hT
        clear hT htok
        go_upto_region 23 with (first | (go_at_call 35; refine (letter_any _ _).mono ?_; rintro e5 w5 ⟨rfl, hd⟩; have HB5 := Aside0.mk hd.below; clear hd) | (go_at_call 36; refine (HC.out _ HB5.out).mono ?_; rintro e6 w6 ⟨rfl, hb⟩; have HF6 := Aside0.mk (HFin.out _ (below_step HB5.out hb)); have HSt6 := Aside0.mk HF6.out.2.1; have HK6 := Aside0.mk HF6.out.2.2.1; have HN6 := Aside0.mk HF6.out.2.2.2.1; have HT6 := Aside0.mk HF6.out.2.2.2.2.1; clear hb HF6; obtain ⟨⟨u0, u1, u2, u3⟩, v0, v1, v2, v3⟩ := B33_facts HT6.out))
        have HSt7 := Aside0.mk (St.set4 HSt6.out (by omega) HT6.out k s a e)
        have HK7 := Aside0.mk (KeepO.set4 HK6.out (Nat.le_of_lt hlt1) k s a e)
        have HN7 := Aside0.mk (blk_set4 HN6.out (show w.heap.size ≠ gt by omega) k s a e)
        have HT7 := Aside0.mk (B33_put HT6.out k s a e)
        clear HSt6 HK6 HN6 HT6
        generalize ((((w6.setCell ⟨gt, 0, none⟩ (.int .i64 k)).setCell ⟨gt, 1, none⟩ (.string s)).setCell ⟨gt, 2, none⟩ (.int .i64 a)).setCell ⟨gt, 3, none⟩ (.int .i64 e)) = w7 at *
        obtain ⟨vo7, hSg7, hO7⟩ := HSt7.out
        have c1 : w7.cell? ⟨g, 1, none⟩ = some (.int .i64 q) := (blk_cell hSg7.1.1 1).trans rfl
        have f1 : w7.frozen? ⟨g, 1, none⟩ = false := blk_frozen hSg7.1.1 1
        clear hSg7 hO7
        obtain ⟨⟨t0, t1, t2, t3⟩, s0, s1, s2, s3⟩ := B33_facts HT7.out
        obtain ⟨⟨n0, n1, n2, n3⟩, m0, m1, m2, m3⟩ := B33_facts HN7.out
        by_cases hk : k = 0
        · subst hk
          have HR := Aside0.mk (nextR_bad HA.out HQe.out HT.out)
          go_wp2_with fail
          refine bodyPost_ret (results_ct rfl _ _ w.heap.size 33 #[.int .i64 0, .string ⟨#[]⟩, .int .i64 q, .int .i64 0] (0, 0) _ rfl (B33_put HN7.out 0 ⟨#[]⟩ q 0) Try.underlying33 rfl (by kernel_rfl)) rfl ?_
          rw [HR.out]
          exact ⟨rfl, St.set4 HSt7.out hg HN7.out _ _ _ _, KeepO.set4 HK7.out (Nat.le_refl _) _ _ _ _⟩
        · have HR := Aside0.mk (nextR_tok HA.out HQe.out hk HT.out)
          have zk : (k == 0) = false := by simpa using hk
          have HN8 := Aside0.mk (blk_setOther HN7.out (show w.heap.size ≠ g by omega) 1 (.int .i64 e))
          clear hk
          go_wp2_with fail
          refine bodyPost_ret (results_ct rfl _ _ w.heap.size 33 #[.int .i64 k, .string s, .int .i64 a, .int .i64 e] (0, 0) _ rfl (B33_put HN8.out k s a e) Try.underlying33 rfl (by kernel_rfl)) rfl ?_
          rw [HR.out]
          exact ⟨rfl, St.set4 (HSt7.out.put e) hg HN8.out _ _ _ _, KeepO.set4 (HK7.out.setG 1 _) (Nat.le_refl _) _ _ _ _⟩
end Go.Proofs.Ytglghpgpnlkpmaa.V
