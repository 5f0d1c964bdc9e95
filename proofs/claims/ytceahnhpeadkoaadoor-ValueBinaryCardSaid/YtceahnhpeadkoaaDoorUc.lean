/- The reference's Binary, walked by hand: the same, not the same, sums. -/
import Derived.Test.YtceahnhpeadkoaaDoorUb
namespace Go.Proofs.YtceahnhpeadkoaaDoor.V
open Go.RowKit Go.Proofs.YtceahnhpeadkoaaDoorW.PrintWords Go.Proofs.YtceahnhpeadkoaaDoorW.PrintLast Go.Proofs.YtceahnhpeadkoaaDoorW.PrintMore
attribute [local go_sem] max2_int min2_int max_two min_two max_three min_three max_four min_four   -- for this text's walks alone
attribute [local go_sem high] eqA23
set_option linter.unusedVariables false
set_option linter.unusedSimpArgs false

set_option maxHeartbeats 8000000 in
set_option maxRecDepth 100000 in
theorem rbin_walk1 (op : ByteArray) (k1 n1 : Int) (s1 : ByteArray) (k2 n2 : Int) (s2 : ByteArray) (K1 N1 : Int) (S1 : ByteArray) (K2 N2 : Int) (S2 : ByteArray) (w : World)
    (h1 : plainP k1 n1 s1 = (K1, N1, S1)) (h2 : plainP k2 n2 s2 = (K2, N2, S2))
    (r1 : K1 = 3 → -9007199254740991 ≤ N1 ∧ N1 ≤ 9007199254740991) (r2 : K2 = 3 → -9007199254740991 ≤ N2 ∧ N2 ≤ 9007199254740991) (z1 : S1.size ≤ 210000) (z2 : S2.size ≤ 210000) (v : V5) (hop : op.toList = [61, 61, 61] ∨ op.toList = [33, 61, 61] ∨ op.toList = [43]) (hG : binG op.toList K1 N1 S1 K2 N2 S2 = some v) :
    Calls Tryd.prog 17 #[.string op, .agg #[.int .i64 k1, .int .i64 n1, .string s1], .agg #[.int .i64 k2, .int .i64 n2, .string s2]] w fun e w' => e = .returned (aggV v) ∧ Below w.heap.size w w' := by
  have hu23 := Tryd.underlying23
  have hu28 := Tryd.underlying28
  have C1 := sane_any k1 n1 s1
  have C2 := sane_any k2 n2 s2
  rw [h1] at C1
  rw [h2] at C2
  have HC1 := Aside0.mk C1
  have HC2 := Aside0.mk C2
  have HG := Aside0.mk hG
  have HR1 := Aside0.mk (And.intro r1 r2)
  clear C1 C2 h1 h2 hG r1 r2
  go_enter Tryd.func17, Tryd.ntmps17
  go_upto_region 1 with fail
  have hA0 : (((w.alloc (.cells #[.int .i64 k1, .int .i64 n1, .string s1] 23)).alloc (.cells #[.int .i64 k2, .int .i64 n2, .string s2] 23)).alloc (.cells #[.int .i64 0, .int .i64 0, .string ⟨#[]⟩, .string ⟨#[]⟩, .int .i64 0] 28)).heap[w.heap.size]? = some (B23 k1 n1 s1) := blk_alloc (blk_alloc (blk_new w _) _) _
  have hA1 : (((w.alloc (.cells #[.int .i64 k1, .int .i64 n1, .string s1] 23)).alloc (.cells #[.int .i64 k2, .int .i64 n2, .string s2] 23)).alloc (.cells #[.int .i64 0, .int .i64 0, .string ⟨#[]⟩, .string ⟨#[]⟩, .int .i64 0] 28)).heap[w.heap.size + 1]? = some (B23 k2 n2 s2) := by
    have z := blk_alloc (blk_new (w.alloc (.cells #[.int .i64 k1, .int .i64 n1, .string s1] 23)) (.cells #[.int .i64 k2, .int .i64 n2, .string s2] 23)) (.cells #[.int .i64 0, .int .i64 0, .string ⟨#[]⟩, .string ⟨#[]⟩, .int .i64 0] 28)
    rw [World.size_alloc] at z
    exact z
  have hA2 : (((w.alloc (.cells #[.int .i64 k1, .int .i64 n1, .string s1] 23)).alloc (.cells #[.int .i64 k2, .int .i64 n2, .string s2] 23)).alloc (.cells #[.int .i64 0, .int .i64 0, .string ⟨#[]⟩, .string ⟨#[]⟩, .int .i64 0] 28)).heap[w.heap.size + 1 + 1]? = some (B28 zeroV) := by
    have z := blk_new ((w.alloc (.cells #[.int .i64 k1, .int .i64 n1, .string s1] 23)).alloc (.cells #[.int .i64 k2, .int .i64 n2, .string s2] 23)) (.cells #[.int .i64 0, .int .i64 0, .string ⟨#[]⟩, .string ⟨#[]⟩, .int .i64 0] 28)
    rw [World.size_alloc, World.size_alloc] at z
    exact z
  have hAB := below_alloc (below_alloc (below_alloc (Below.refl w.heap.size w) (.cells #[.int .i64 k1, .int .i64 n1, .string s1] 23)) (.cells #[.int .i64 k2, .int .i64 n2, .string s2] 23)) (.cells #[.int .i64 0, .int .i64 0, .string ⟨#[]⟩, .string ⟨#[]⟩, .int .i64 0] 28)
  generalize ((w.alloc (.cells #[.int .i64 k1, .int .i64 n1, .string s1] 23)).alloc (.cells #[.int .i64 k2, .int .i64 n2, .string s2] 23)).alloc (.cells #[.int .i64 0, .int .i64 0, .string ⟨#[]⟩, .string ⟨#[]⟩, .int .i64 0] 28) = W0 at *
  have HA0 := Aside0.mk hA0
  have HA1 := Aside0.mk hA1
  have HA2 := Aside0.mk hA2
  have HAB := Aside0.mk hAB
  clear hA0 hA1 hA2 hAB
  obtain ⟨⟨a0, a1, a2⟩, _, _, _⟩ := B23_facts HA0.out
  go_upto_region 2 with (go_at_call 31; refine (HC1.out _).mono ?_; rintro e wq ⟨rfl, hb⟩; have HQ := Aside0.mk hb; clear hb)
  have HB1 := Aside0.mk (blk_alloc (blk_below HA1.out HQ.out) (.cells #[.int .i64 K1, .int .i64 N1, .string S1] 23))
  have HB2 := Aside0.mk (blk_alloc (blk_below HA2.out HQ.out) (.cells #[.int .i64 K1, .int .i64 N1, .string S1] 23))
  have HB3 := Aside0.mk (show (wq.alloc (.cells #[.int .i64 K1, .int .i64 N1, .string S1] 23)).heap[wq.heap.size]? = some (B23 K1 N1 S1) from blk_new wq _)
  have HBB := Aside0.mk (below_alloc (below_step HAB.out HQ.out) (.cells #[.int .i64 K1, .int .i64 N1, .string S1] 23))
  have L7 : w.heap.size + 1 + 1 < wq.heap.size := blk_lt (blk_below HA2.out HQ.out)
  clear a0 a1 a2
  generalize wq.alloc (.cells #[.int .i64 K1, .int .i64 N1, .string S1] 23) = W1 at *
  generalize wq.heap.size = g7 at *
  obtain ⟨⟨a0, a1, a2⟩, _, _, _⟩ := B23_facts HB1.out
  go_upto_region 3 with (go_at_call 31; refine (HC2.out _).mono ?_; rintro e wr ⟨rfl, hb⟩; have HR := Aside0.mk hb; clear hb)
  have HD2 := Aside0.mk (blk_alloc (blk_below HB2.out HR.out) (.cells #[.int .i64 K2, .int .i64 N2, .string S2] 23))
  have HD3 := Aside0.mk (blk_alloc (blk_below HB3.out HR.out) (.cells #[.int .i64 K2, .int .i64 N2, .string S2] 23))
  have HD4 := Aside0.mk (show (wr.alloc (.cells #[.int .i64 K2, .int .i64 N2, .string S2] 23)).heap[wr.heap.size]? = some (B23 K2 N2 S2) from blk_new wr _)
  have HDB := Aside0.mk (below_alloc (below_step HBB.out HR.out) (.cells #[.int .i64 K2, .int .i64 N2, .string S2] 23))
  have L8 : g7 < wr.heap.size := blk_lt (blk_below HB3.out HR.out)
  clear a0 a1 a2
  generalize wr.alloc (.cells #[.int .i64 K2, .int .i64 N2, .string S2] 23) = W2 at *
  generalize wr.heap.size = g8 at *
  obtain ⟨⟨a0, a1, a2⟩, _, _, _⟩ := B23_facts HD3.out
  obtain ⟨⟨b0, b1, b2⟩, _, _, _⟩ := B23_facts HD4.out
  go_cut [9] (fun s9 wx => s9 = .bool (K1 == 3 && K2 == 3) ∧ W2 = wx)
  case first =>
    cases e13 : (K1 == 3)
    all_goals
      go_wp2_with fail
      go_meet
      exact ⟨by simp [e13], rfl⟩
  case rest =>
    obtain ⟨hs9, rfl⟩ := hcut
    obtain ⟨nb, hnb⟩ : ∃ nb, (K1 == 3 && K2 == 3) = nb := ⟨_, rfl⟩
    rw [hnb] at hs9
    subst hs9
    have HNB := Aside0.mk hnb
    clear hnb
    go_upto_region 4 with fail
    go_cut [10] (fun s10 wx => s10 = .bool (K1 == 4 && K2 == 4) ∧ W2 = wx)
    case first =>
      cases e14 : (K1 == 4)
      all_goals
        go_wp2_with fail
        go_meet
        exact ⟨by simp [e14], rfl⟩
    case rest =>
      obtain ⟨hs10, rfl⟩ := hcut
      obtain ⟨tb, htb⟩ : ∃ tb, (K1 == 4 && K2 == 4) = tb := ⟨_, rfl⟩
      rw [htb] at hs10
      subst hs10
      have HTB := Aside0.mk htb
      clear htb
      have hG := HG.out
      unfold binG at hG
      by_cases o0 : op.toList = [61, 61, 61]
      · rw [if_pos o0] at hG
        obtain rfl := Option.some.inj hG
        clear hG
        go_wp2_with (go_at_call 32; refine (rbool_any _ _).mono ?_; rintro e w5 ⟨rfl, hb⟩; have HX := Aside0.mk (blk_below HD2.out hb); have HXB := Aside0.mk (below_step HDB.out hb); clear hb; obtain ⟨⟨y0, y1, y2, y3, y4⟩, x0, x1, x2, x3, x4⟩ := B28_facts HX.out)
        refine bodyPost_ret (results_cell_row rfl _ _ (w.heap.size + 1 + 1) 28 #[.int .i64 (2), .int .i64 (b01 (K1 == K2 && (N1 == N2 && S1.toList == S2.toList))), .string ((⟨#[]⟩ : ByteArray)), .string ((⟨#[]⟩ : ByteArray)), .int .i64 (0)] (0, 0) _ rfl (B28_put HX.out (doneB (K1 == K2 && (N1 == N2 && S1.toList == S2.toList)))) Tryd.underlying28 rfl (by kernel_rfl)) rfl ?_
        exact ⟨by rfl, putV_below HXB.out (by omega) (doneB (K1 == K2 && (N1 == N2 && S1.toList == S2.toList)))⟩
      rw [if_neg o0] at hG
      have b0 : (op.toList == ([61, 61, 61] : List UInt8)) = false := beq_eq_false_iff_ne.2 o0
      by_cases o1 : op.toList = [33, 61, 61]
      · rw [if_pos o1] at hG
        obtain rfl := Option.some.inj hG
        clear hG
        go_wp2_with (go_at_call 32; refine (rbool_any _ _).mono ?_; rintro e w5 ⟨rfl, hb⟩; have HX := Aside0.mk (blk_below HD2.out hb); have HXB := Aside0.mk (below_step HDB.out hb); clear hb; obtain ⟨⟨y0, y1, y2, y3, y4⟩, x0, x1, x2, x3, x4⟩ := B28_facts HX.out)
        refine bodyPost_ret (results_cell_row rfl _ _ (w.heap.size + 1 + 1) 28 #[.int .i64 (2), .int .i64 (b01 (!K1 == K2 || (!N1 == N2 || !S1.toList == S2.toList))), .string ((⟨#[]⟩ : ByteArray)), .string ((⟨#[]⟩ : ByteArray)), .int .i64 (0)] (0, 0) _ rfl (B28_put HX.out (doneB (!K1 == K2 || (!N1 == N2 || !S1.toList == S2.toList)))) Tryd.underlying28 rfl (by kernel_rfl)) rfl ?_
        exact ⟨by rfl, putV_below HXB.out (by omega) (doneB (!K1 == K2 || (!N1 == N2 || !S1.toList == S2.toList)))⟩
      rw [if_neg o1] at hG
      have b1 : (op.toList == ([33, 61, 61] : List UInt8)) = false := beq_eq_false_iff_ne.2 o1
      by_cases o2 : op.toList = [43]
      · rw [if_pos o2] at hG
        cases nb
        · rw [if_neg (by rw [HNB.out]; decide)] at hG
          by_cases hc : (K1 != 5 && K2 != 5 && (K1 == 4 || K2 == 4)) = true
          · rw [if_pos hc] at hG
            obtain ⟨x, t1, hG⟩ := Option.bind_eq_some_iff.1 hG
            obtain ⟨y, t2, hG⟩ := Option.bind_eq_some_iff.1 hG
            have HT1 := Aside0.mk (fun W => shuckref14_Text.calls 20 K1 N1 S1 x W ((rtext_P K1 N1 S1).trans t1))
            have HT2 := Aside0.mk (fun W => shuckref14_Text.calls 20 K2 N2 S2 y W ((rtext_P K2 N2 S2).trans t2))
            split at hG
            case isFalse => cases hG
            case isTrue hsz =>
              obtain rfl := Option.some.inj hG
              clear hG t1 t2
              have HC := Aside0.mk hc
              clear hc
              have L9 : g8 < W2.heap.size := blk_lt HD4.out
              go_upto_region 13 with fail
              go_cut [73] (fun s73 wx => s73 = .bool true ∧ W2 = wx)
              case first =>
                cases f1 : (K1 == 4)
                all_goals cases f2 : (K2 == 4)
                all_goals cases f3 : (K1 != 5)
                all_goals cases f4 : (K2 != 5)
                all_goals first
                  | (exfalso; have z := HC.out; rw [f1, f2, f3, f4] at z; cases z; done)
                  | (go_wp2_with fail; go_meet; exact ⟨rfl, rfl⟩)
              case rest =>
                obtain ⟨rfl, rfl⟩ := hcut
                have q1 : ¬ 9223372036854775807 < x.size + y.size := by omega
                have HW := Aside0.mk (Below.refl W2.heap.size W2)
                go_upto_region 14 with fail
                go_cut [11] (fun s11 wx => s11 = .string (x ++ y) ∧ Aside0 (Below W2.heap.size W2 wx))
                case first =>
                  go_region_with (go_at_call 21; (first | (with_reducible refine (HT1.out _).mono ?_) | (with_reducible refine (HT2.out _).mono ?_)); rintro e wt ⟨rfl, hb⟩; have hz := hb.size; (try simp only [World.size_drew] at hz); have hc1 := fun o : Nat => hb.cell (p := ⟨g7, o, none⟩) (by (try simp only [World.size_drew]); omega); have hc2 := fun o : Nat => hb.cell (p := ⟨g8, o, none⟩) (by (try simp only [World.size_drew]); omega); have n0_ : Aside0 (Below W2.heap.size W2 wt) := ⟨by first | exact below_step HW.out hb | exact below_step (below_drew1 HW.out) hb⟩; clear HW; have HW := n0_; clear n0_ hb)
                  all_goals
                    go_wp2_with fail
                    go_meet
                    exact ⟨rfl, HW⟩
                case rest =>
                  obtain ⟨rfl, HV⟩ := hcut
                  have HW2 := Aside0.mk (blk_below HD2.out HV.out)
                  have HWB := Aside0.mk (below_step HDB.out HV.out)
                  have hsa := ByteArray.size_append (a := x) (b := y)
                  have HS1 := Aside0.mk hsa
                  by_cases hcc : x.size + y.size ≤ 65536
                  · have d1 : decide ((65536 : Int) < ((x ++ y).size : Int)) = false := decide_eq_false (by omega)
                    have d2 : decide ((65536 : Int) < (x.size : Int) + (y.size : Int)) = false := decide_eq_false (by omega)
                    clear hsa
                    go_wp2_with (go_at_call 42; refine (rstring_any _ _).mono ?_; rintro e w5 ⟨rfl, hb⟩; have HX := Aside0.mk (blk_below HW2.out hb); have HXB := Aside0.mk (below_step HWB.out hb); clear hb; obtain ⟨⟨y0, y1, y2, y3, y4⟩, x0, x1, x2, x3, x4⟩ := B28_facts HX.out)
                    refine bodyPost_ret (results_cell_row rfl _ _ (w.heap.size + 1 + 1) 28 #[.int .i64 (4), .int .i64 (0), .string (x ++ y), .string ((⟨#[]⟩ : ByteArray)), .int .i64 (0)] (0, 0) _ rfl (B28_put HX.out (((4, 0, x ++ y, ⟨#[]⟩, 0) : V5))) Tryd.underlying28 rfl (by kernel_rfl)) rfl ?_
                    exact ⟨by unfold catV; rw [if_pos hcc]; rfl, putV_below HXB.out (by omega) (((4, 0, x ++ y, ⟨#[]⟩, 0) : V5))⟩
                  · have d1 : decide ((65536 : Int) < ((x ++ y).size : Int)) = true := decide_eq_true (by omega)
                    have d2 : decide ((65536 : Int) < (x.size : Int) + (y.size : Int)) = true := decide_eq_true (by omega)
                    clear hsa
                    have HX := HW2
                    have HXB := HWB
                    obtain ⟨⟨y0, y1, y2, y3, y4⟩, x0, x1, x2, x3, x4⟩ := B28_facts HX.out
                    go_wp2_with fail
                    refine bodyPost_ret (results_cell_row rfl _ _ (w.heap.size + 1 + 1) 28 #[.int .i64 (0), .int .i64 (0), .string ((⟨#[]⟩ : ByteArray)), .string ((⟨#[]⟩ : ByteArray)), .int .i64 (3)] (0, 0) _ rfl (B28_put HX.out (((0, 0, ⟨#[]⟩, ⟨#[]⟩, 3) : V5))) Tryd.underlying28 rfl (by kernel_rfl)) rfl ?_
                    exact ⟨by unfold catV; rw [if_neg hcc]; rfl, putV_below HXB.out (by omega) (((0, 0, ⟨#[]⟩, ⟨#[]⟩, 3) : V5))⟩
          · rw [if_neg hc] at hG
            obtain rfl := Option.some.inj hG
            clear hG
            have HC := eq_false_of_ne_true hc
            go_upto_region 13 with fail
            go_cut [73] (fun s73 wx => s73 = .bool false ∧ W2 = wx)
            case first =>
              cases f1 : (K1 == 4)
              all_goals cases f2 : (K2 == 4)
              all_goals cases f3 : (K1 != 5)
              all_goals cases f4 : (K2 != 5)
              all_goals first
                | (exfalso; rw [f1, f2, f3, f4] at HC; cases HC; done)
                | (go_wp2_with fail; go_meet; exact ⟨rfl, rfl⟩)
            case rest =>
              obtain ⟨rfl, rfl⟩ := hcut
              go_wp2_with (go_at_call 33; refine (rthrow_any _ _).mono ?_; rintro e w5 ⟨rfl, hb⟩; have HX := Aside0.mk (blk_below HD2.out hb); have HXB := Aside0.mk (below_step HDB.out hb); clear hb; obtain ⟨⟨y0, y1, y2, y3, y4⟩, x0, x1, x2, x3, x4⟩ := B28_facts HX.out)
              refine bodyPost_ret (results_cell_row rfl _ _ (w.heap.size + 1 + 1) 28 #[.int .i64 ((throwV noSum).1), .int .i64 ((throwV noSum).2.1), .string ((throwV noSum).2.2.1), .string ((throwV noSum).2.2.2.1), .int .i64 ((throwV noSum).2.2.2.2)] (0, 0) _ rfl (B28_put HX.out (throwV noSum)) Tryd.underlying28 rfl (by kernel_rfl)) rfl ?_
              exact ⟨by rfl, putV_below HXB.out (by omega) (throwV noSum)⟩
        · rw [if_pos HNB.out] at hG
          obtain rfl := Option.some.inj hG
          clear hG
          obtain ⟨u, hu⟩ : ∃ u, exactV (wrap64 (N1 + N2)) true = u := ⟨_, rfl⟩
          have HRK := Aside0.mk (fun w' => shuckref14_reckon.calls 21 op N1 N2 u.1 u.2.1 u.2.2.1 u.2.2.2.1 u.2.2.2.2 w' (by rw [reckon_sum 20 op N1 N2 o2, hu]))
          have HU := Aside0.mk hu
          clear hu
          go_wp2_with (go_at_call 41; refine (HRK.out _).mono ?_; rintro e w5 ⟨rfl, hb⟩; have HX := Aside0.mk (blk_below HD2.out hb); have HXB := Aside0.mk (below_step HDB.out hb); clear hb; obtain ⟨⟨y0, y1, y2, y3, y4⟩, x0, x1, x2, x3, x4⟩ := B28_facts HX.out)
          refine bodyPost_ret (results_cell_row rfl _ _ (w.heap.size + 1 + 1) 28 #[.int .i64 ((u).1), .int .i64 ((u).2.1), .string ((u).2.2.1), .string ((u).2.2.2.1), .int .i64 ((u).2.2.2.2)] (0, 0) _ rfl (B28_put HX.out (u)) Tryd.underlying28 rfl (by kernel_rfl)) rfl ?_
          exact ⟨by rw [HU.out]; rfl, putV_below HXB.out (by omega) (u)⟩
      rw [if_neg o2] at hG
      exact absurd hop (by simp [o0, o1, o2])
end Go.Proofs.YtceahnhpeadkoaaDoor.V
