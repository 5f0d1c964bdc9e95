/- The law LexSplits, walked. -/
import Derived.Test.YtglghpgpnlkpmaaLkn
import Derived.Test.YtglghpgpnlkpmaaPLexSplitsx1
namespace Go.Proofs.Ytglghpgpnlkpmaa.V
open Go.RowKit Go.Shelf Go.Proofs.YtglghpgpnlkpmaaW.PrintWords Go.Proofs.YtglghpgpnlkpmaaW.PrintLast Go.Proofs.YtglghpgpnlkpmaaW.PrintMore
attribute [local go_sem] max2_int min2_int max_two min_two max_three min_three max_four min_four   -- for this text's walks alone
set_option linter.unusedVariables false
set_option linter.unusedSimpArgs false
set_option maxHeartbeats 40000000
set_option maxRecDepth 100000
theorem split_same (k : Int) (s : ByteArray) (a e : Int) : ∃ r, PLexSplits.lex_Split.f k s a e = some r ∧ PLexSplits.shuckref2_Split.f k s a e = some r := by
  unfold PLexSplits.lex_Split.f PLexSplits.shuckref2_Split.f
  by_cases h1 : k = 9
  · subst h1
    by_cases h2 : (s.size : Int) < 2
    · simp [h2]
    · have h3 : 0 < (s.size : Int) := by omega
      have h4 : 1 ≤ (s.size : Int) := by omega
      have h3b : 0 < s.size := by omega
      have h4b : 1 ≤ s.size := by omega
      by_cases h5 : bt s 0 = 62
      · simp [h2, h3, h4, h3b, h4b, h5]
      · simp [h2, h3, h4, h3b, h4b, h5]
  · simp [h1]
theorem splits_any (k : Int) (s : ByteArray) (a e : Int) (w : World) (hM : MaxOk w) : Calls Try.prog 8 #[.agg #[.int .i64 k, .string s, .int .i64 a, .int .i64 e]] w fun z w' => z = .returned (.bool true) ∧ Below w.heap.size w w' := by
  have hu33 := Try.underlying33
  obtain ⟨⟨r1, r2, r3, r4, r5⟩, h1, h2⟩ := split_same k s a e
  have HC1 := Aside0.mk (fun W => PLexSplits.lex_Split.calls k s a e r1 r2 r3 r4 r5 W h1)
  have HC2 := Aside0.mk (fun W => PLexSplits.shuckref2_Split.calls k s a e r1 r2 r3 r4 r5 W h2)
  have hb := below_alloc (Below.refl w.heap.size w) (.cells #[.int .i64 k, .string s, .int .i64 a, .int .i64 e] 33)
  have hn := blk_new w (.cells #[.int .i64 k, .string s, .int .i64 a, .int .i64 e] 33)
  have HM := Aside0.mk hM
  clear h1 h2 hM
  go_enter Try.func8, Try.ntmps8
  go_upto_region 1 with fail
  generalize w.alloc (.cells #[.int .i64 k, .string s, .int .i64 a, .int .i64 e] 33) = w1 at *
  have HB := Aside0.mk hb
  have HN := Aside0.mk (show w1.heap[w.heap.size]? = some (B33 k s a e) from hn)
  clear hb hn
  obtain ⟨⟨t0, t1, t2, t3⟩, s0, s1, s2, s3⟩ := B33_facts HN.out
  go_upto_region 2 with (go_at_call 20; refine (HC1.out _).mono ?_; rintro e2 w2 ⟨rfl, hb⟩; have HB2 := Aside0.mk (below_step HB.out hb); have HN2 := Aside0.mk (blk_below HN.out hb); clear hb)
  have hb3 := HB2.out.alloc HB2.out.size (.cells #[.int .i64 r1, .string r2, .int .i64 r3, .int .i64 r4] 33)
  have hn3 := blk_new w2 (.cells #[.int .i64 r1, .string r2, .int .i64 r3, .int .i64 r4] 33)
  have ho3 := blk_alloc HN2.out (.cells #[.int .i64 r1, .string r2, .int .i64 r3, .int .i64 r4] 33)
  generalize w2.alloc (.cells #[.int .i64 r1, .string r2, .int .i64 r3, .int .i64 r4] 33) = w3 at *
  obtain ⟨ga, hga⟩ : ∃ ga, w2.heap.size = ga := ⟨_, rfl⟩
  rw [hga] at hn3 ⊢
  have HB3 := Aside0.mk hb3
  have HA3 := Aside0.mk (show w3.heap[ga]? = some (B33 r1 r2 r3 r4) from hn3)
  have HN3 := Aside0.mk (show w3.heap[w.heap.size]? = some (B33 k s a e) from ho3)
  clear hb3 hn3 ho3 hga t0 t1 t2 t3 s0 s1 s2 s3
  obtain ⟨⟨t0, t1, t2, t3⟩, s0, s1, s2, s3⟩ := B33_facts HN3.out
  go_upto_region 3 with (go_at_call 21; refine (HC2.out _).mono ?_; rintro e4 w4 ⟨rfl, hb⟩; have HB4 := Aside0.mk (below_step HB3.out hb); have HA4 := Aside0.mk (blk_below HA3.out hb); clear hb)
  have hb5 := HB4.out.alloc HB4.out.size (.cells #[.int .i64 r1, .string r2, .int .i64 r3, .int .i64 r4] 33)
  have hn5 := blk_new w4 (.cells #[.int .i64 r1, .string r2, .int .i64 r3, .int .i64 r4] 33)
  have ho5 := blk_alloc HA4.out (.cells #[.int .i64 r1, .string r2, .int .i64 r3, .int .i64 r4] 33)
  generalize w4.alloc (.cells #[.int .i64 r1, .string r2, .int .i64 r3, .int .i64 r4] 33) = w5 at *
  obtain ⟨gb, hgb⟩ : ∃ gb, w4.heap.size = gb := ⟨_, rfl⟩
  rw [hgb] at hn5 ⊢
  have HB5 := Aside0.mk hb5
  obtain ⟨⟨u0, u1, u2, u3⟩, v0, v1, v2, v3⟩ := B33_facts (show w5.heap[ga]? = some (B33 r1 r2 r3 r4) from ho5)
  obtain ⟨⟨x0, x1, x2, x3⟩, y0, y1, y2, y3⟩ := B33_facts (show w5.heap[gb]? = some (B33 r1 r2 r3 r4) from hn5)
  have HK := Aside0.mk (known_any w5 (HM.out.below HB5.out))
  clear hb5 hn5 ho5 hgb t0 t1 t2 t3 s0 s1 s2 s3
  go_wp2_with (go_at_call 15; refine HK.out.mono ?_; rintro e6 w6 ⟨rfl, hb⟩; have HB6 := Aside0.mk (below_step HB5.out hb); clear hb)
  go_ret
  exact ⟨rfl, HB6.out⟩
end Go.Proofs.Ytglghpgpnlkpmaa.V
