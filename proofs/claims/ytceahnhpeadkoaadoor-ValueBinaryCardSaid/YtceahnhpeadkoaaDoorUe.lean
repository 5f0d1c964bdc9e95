/- The reference's Binary, walked by hand: the other operators. -/
import Derived.Test.YtceahnhpeadkoaaDoorUb
namespace Go.Proofs.YtceahnhpeadkoaaDoor.V
open Go.RowKit Go.Proofs.YtceahnhpeadkoaaDoorW.PrintWords Go.Proofs.YtceahnhpeadkoaaDoorW.PrintLast Go.Proofs.YtceahnhpeadkoaaDoorW.PrintMore
attribute [local go_sem] max2_int min2_int max_two min_two max_three min_three max_four min_four   -- for this text's walks alone
attribute [local go_sem high] eqA23
set_option linter.unusedVariables false
set_option linter.unusedSimpArgs false

set_option maxHeartbeats 8000000 in
set_option maxRecDepth 100000 in
theorem rbin_walk2 (op : ByteArray) (k1 n1 : Int) (s1 : ByteArray) (k2 n2 : Int) (s2 : ByteArray) (K1 N1 : Int) (S1 : ByteArray) (K2 N2 : Int) (S2 : ByteArray) (w : World)
    (h1 : plainP k1 n1 s1 = (K1, N1, S1)) (h2 : plainP k2 n2 s2 = (K2, N2, S2))
    (r1 : K1 = 3 → -9007199254740991 ≤ N1 ∧ N1 ≤ 9007199254740991) (r2 : K2 = 3 → -9007199254740991 ≤ N2 ∧ N2 ≤ 9007199254740991) (z1 : S1.size ≤ 210000) (z2 : S2.size ≤ 210000) (v : V5) (o0 : op.toList ≠ [61, 61, 61]) (o1 : op.toList ≠ [33, 61, 61]) (o2 : op.toList ≠ [43]) (hG : binG op.toList K1 N1 S1 K2 N2 S2 = some v) :
    Calls Tryd.prog 17 #[.string op, .agg #[.int .i64 k1, .int .i64 n1, .string s1], .agg #[.int .i64 k2, .int .i64 n2, .string s2]] w fun e w' => e = .returned (aggV v) ∧ Below w.heap.size w w' := by
  have hu23 := Tryd.underlying23
  have hu28 := Tryd.underlying28
  have C1 := sane_any k1 n1 s1
  have C2 := sane_any k2 n2 s2
  rw [h1] at C1
  rw [h2] at C2
  have HC1 := Aside0.mk C1
  have HC2 := Aside0.mk C2
  have HG := Aside0.mk hG
  have HR1 := Aside0.mk (And.intro r1 r2)
  clear C1 C2 h1 h2 hG r1 r2
  go_enter Tryd.func17, Tryd.ntmps17
  go_upto_region 1 with fail
  have hA0 : (((w.alloc (.cells #[.int .i64 k1, .int .i64 n1, .string s1] 23)).alloc (.cells #[.int .i64 k2, .int .i64 n2, .string s2] 23)).alloc (.cells #[.int .i64 0, .int .i64 0, .string ⟨#[]⟩, .string ⟨#[]⟩, .int .i64 0] 28)).heap[w.heap.size]? = some (B23 k1 n1 s1) := blk_alloc (blk_alloc (blk_new w _) _) _
  have hA1 : (((w.alloc (.cells #[.int .i64 k1, .int .i64 n1, .string s1] 23)).alloc (.cells #[.int .i64 k2, .int .i64 n2, .string s2] 23)).alloc (.cells #[.int .i64 0, .int .i64 0, .string ⟨#[]⟩, .string ⟨#[]⟩, .int .i64 0] 28)).heap[w.heap.size + 1]? = some (B23 k2 n2 s2) := by
    have z := blk_alloc (blk_new (w.alloc (.cells #[.int .i64 k1, .int .i64 n1, .string s1] 23)) (.cells #[.int .i64 k2, .int .i64 n2, .string s2] 23)) (.cells #[.int .i64 0, .int .i64 0, .string ⟨#[]⟩, .string ⟨#[]⟩, .int .i64 0] 28)
    rw [World.size_alloc] at z
    exact z
  have hA2 : (((w.alloc (.cells #[.int .i64 k1, .int .i64 n1, .string s1] 23)).alloc (.cells #[.int .i64 k2, .int .i64 n2, .string s2] 23)).alloc (.cells #[.int .i64 0, .int .i64 0, .string ⟨#[]⟩, .string ⟨#[]⟩, .int .i64 0] 28)).heap[w.heap.size + 1 + 1]? = some (B28 zeroV) := by
    have z := blk_new ((w.alloc (.cells #[.int .i64 k1, .int .i64 n1, .string s1] 23)).alloc (.cells #[.int .i64 k2, .int .i64 n2, .string s2] 23)) (.cells #[.int .i64 0, .int .i64 0, .string ⟨#[]⟩, .string ⟨#[]⟩, .int .i64 0] 28)
    rw [World.size_alloc, World.size_alloc] at z
    exact z
  have hAB := below_alloc (below_alloc (below_alloc (Below.refl w.heap.size w) (.cells #[.int .i64 k1, .int .i64 n1, .string s1] 23)) (.cells #[.int .i64 k2, .int .i64 n2, .string s2] 23)) (.cells #[.int .i64 0, .int .i64 0, .string ⟨#[]⟩, .string ⟨#[]⟩, .int .i64 0] 28)
  generalize ((w.alloc (.cells #[.int .i64 k1, .int .i64 n1, .string s1] 23)).alloc (.cells #[.int .i64 k2, .int .i64 n2, .string s2] 23)).alloc (.cells #[.int .i64 0, .int .i64 0, .string ⟨#[]⟩, .string ⟨#[]⟩, .int .i64 0] 28) = W0 at *
  have HA0 := Aside0.mk hA0
  have HA1 := Aside0.mk hA1
  have HA2 := Aside0.mk hA2
  have HAB := Aside0.mk hAB
  clear hA0 hA1 hA2 hAB
  obtain ⟨⟨a0, a1, a2⟩, _, _, _⟩ := B23_facts HA0.out
  go_upto_region 2 with (go_at_call 31; refine (HC1.out _).mono ?_; rintro e wq ⟨rfl, hb⟩; have HQ := Aside0.mk hb; clear hb)
  have HB1 := Aside0.mk (blk_alloc (blk_below HA1.out HQ.out) (.cells #[.int .i64 K1, .int .i64 N1, .string S1] 23))
  have HB2 := Aside0.mk (blk_alloc (blk_below HA2.out HQ.out) (.cells #[.int .i64 K1, .int .i64 N1, .string S1] 23))
  have HB3 := Aside0.mk (show (wq.alloc (.cells #[.int .i64 K1, .int .i64 N1, .string S1] 23)).heap[wq.heap.size]? = some (B23 K1 N1 S1) from blk_new wq _)
  have HBB := Aside0.mk (below_alloc (below_step HAB.out HQ.out) (.cells #[.int .i64 K1, .int .i64 N1, .string S1] 23))
  have L7 : w.heap.size + 1 + 1 < wq.heap.size := blk_lt (blk_below HA2.out HQ.out)
  clear a0 a1 a2
  generalize wq.alloc (.cells #[.int .i64 K1, .int .i64 N1, .string S1] 23) = W1 at *
  generalize wq.heap.size = g7 at *
  obtain ⟨⟨a0, a1, a2⟩, _, _, _⟩ := B23_facts HB1.out
  go_upto_region 3 with (go_at_call 31; refine (HC2.out _).mono ?_; rintro e wr ⟨rfl, hb⟩; have HR := Aside0.mk hb; clear hb)
  have HD2 := Aside0.mk (blk_alloc (blk_below HB2.out HR.out) (.cells #[.int .i64 K2, .int .i64 N2, .string S2] 23))
  have HD3 := Aside0.mk (blk_alloc (blk_below HB3.out HR.out) (.cells #[.int .i64 K2, .int .i64 N2, .string S2] 23))
  have HD4 := Aside0.mk (show (wr.alloc (.cells #[.int .i64 K2, .int .i64 N2, .string S2] 23)).heap[wr.heap.size]? = some (B23 K2 N2 S2) from blk_new wr _)
  have HDB := Aside0.mk (below_alloc (below_step HBB.out HR.out) (.cells #[.int .i64 K2, .int .i64 N2, .string S2] 23))
  have L8 : g7 < wr.heap.size := blk_lt (blk_below HB3.out HR.out)
  clear a0 a1 a2
  generalize wr.alloc (.cells #[.int .i64 K2, .int .i64 N2, .string S2] 23) = W2 at *
  generalize wr.heap.size = g8 at *
  obtain ⟨⟨a0, a1, a2⟩, _, _, _⟩ := B23_facts HD3.out
  obtain ⟨⟨b0, b1, b2⟩, _, _, _⟩ := B23_facts HD4.out
  go_cut [9] (fun s9 wx => s9 = .bool (K1 == 3 && K2 == 3) ∧ W2 = wx)
  case first =>
    cases e13 : (K1 == 3)
    all_goals
      go_wp2_with fail
      go_meet
      exact ⟨by simp [e13], rfl⟩
  case rest =>
    obtain ⟨hs9, rfl⟩ := hcut
    obtain ⟨nb, hnb⟩ : ∃ nb, (K1 == 3 && K2 == 3) = nb := ⟨_, rfl⟩
    rw [hnb] at hs9
    subst hs9
    have HNB := Aside0.mk hnb
    clear hnb
    go_upto_region 4 with fail
    go_cut [10] (fun s10 wx => s10 = .bool (K1 == 4 && K2 == 4) ∧ W2 = wx)
    case first =>
      cases e14 : (K1 == 4)
      all_goals
        go_wp2_with fail
        go_meet
        exact ⟨by simp [e14], rfl⟩
    case rest =>
      obtain ⟨hs10, rfl⟩ := hcut
      obtain ⟨tb, htb⟩ : ∃ tb, (K1 == 4 && K2 == 4) = tb := ⟨_, rfl⟩
      rw [htb] at hs10
      subst hs10
      have HTB := Aside0.mk htb
      clear htb
      have hG := HG.out
      unfold binG at hG
      rw [if_neg o0, if_neg o1, if_neg o2] at hG
      have b0 : (op.toList == ([61, 61, 61] : List UInt8)) = false := beq_eq_false_iff_ne.2 o0
      have b1 : (op.toList == ([33, 61, 61] : List UInt8)) = false := beq_eq_false_iff_ne.2 o1
      have b2 : (op.toList == ([43] : List UInt8)) = false := beq_eq_false_iff_ne.2 o2
      cases hN : numF op.toList with
      | some F =>
        rw [hN] at hG
        replace hG : (if (K1 == 3 && K2 == 3) = true then some (exactV (F N1 N2).1 (F N1 N2).2) else some (throwV noNumber)) = some v := hG
        have HNF := Aside0.mk hN
        have HHG := Aside0.mk hG
        have hcases := numF_cases hN
        clear hN hG o0 o1 o2
        go_upto_if 87 with (fail)
        go_cut [87] (fun s87 wx => s87 = .bool true ∧ W2 = wx)
        case first =>
          rcases hcases with ho | ho | ho | ho | ho | ho | ho | ho | ho
          · have d0 : (op.toList == ([45] : List UInt8)) = true := by rw [ho]; rfl
            (try rw [d0])
            clear ho
            go_wp2_with fail
            go_meet
            exact ⟨by first | rfl | rw [d0], rfl⟩
          · have d0 : (op.toList == ([45] : List UInt8)) = false := by rw [ho]; rfl
            (try rw [d0])
            have d1 : (op.toList == ([42] : List UInt8)) = true := by rw [ho]; rfl
            clear ho
            go_wp2_with fail
            go_meet
            exact ⟨by first | rfl | rw [d1], rfl⟩
          · have d0 : (op.toList == ([45] : List UInt8)) = false := by rw [ho]; rfl
            (try rw [d0])
            have d1 : (op.toList == ([42] : List UInt8)) = false := by rw [ho]; rfl
            have d2 : (op.toList == ([37] : List UInt8)) = true := by rw [ho]; rfl
            clear ho
            go_wp2_with fail
            go_meet
            exact ⟨by first | rfl | rw [d2], rfl⟩
          · have d0 : (op.toList == ([45] : List UInt8)) = false := by rw [ho]; rfl
            (try rw [d0])
            have d1 : (op.toList == ([42] : List UInt8)) = false := by rw [ho]; rfl
            have d2 : (op.toList == ([37] : List UInt8)) = false := by rw [ho]; rfl
            have d3 : (op.toList == ([38] : List UInt8)) = true := by rw [ho]; rfl
            clear ho
            go_wp2_with fail
            go_meet
            exact ⟨by first | rfl | rw [d3], rfl⟩
          · have d0 : (op.toList == ([45] : List UInt8)) = false := by rw [ho]; rfl
            (try rw [d0])
            have d1 : (op.toList == ([42] : List UInt8)) = false := by rw [ho]; rfl
            have d2 : (op.toList == ([37] : List UInt8)) = false := by rw [ho]; rfl
            have d3 : (op.toList == ([38] : List UInt8)) = false := by rw [ho]; rfl
            have d4 : (op.toList == ([124] : List UInt8)) = true := by rw [ho]; rfl
            clear ho
            go_wp2_with fail
            go_meet
            exact ⟨by first | rfl | rw [d4], rfl⟩
          · have d0 : (op.toList == ([45] : List UInt8)) = false := by rw [ho]; rfl
            (try rw [d0])
            have d1 : (op.toList == ([42] : List UInt8)) = false := by rw [ho]; rfl
            have d2 : (op.toList == ([37] : List UInt8)) = false := by rw [ho]; rfl
            have d3 : (op.toList == ([38] : List UInt8)) = false := by rw [ho]; rfl
            have d4 : (op.toList == ([124] : List UInt8)) = false := by rw [ho]; rfl
            have d5 : (op.toList == ([94] : List UInt8)) = true := by rw [ho]; rfl
            clear ho
            go_wp2_with fail
            go_meet
            exact ⟨by first | rfl | rw [d5], rfl⟩
          · have d0 : (op.toList == ([45] : List UInt8)) = false := by rw [ho]; rfl
            (try rw [d0])
            have d1 : (op.toList == ([42] : List UInt8)) = false := by rw [ho]; rfl
            have d2 : (op.toList == ([37] : List UInt8)) = false := by rw [ho]; rfl
            have d3 : (op.toList == ([38] : List UInt8)) = false := by rw [ho]; rfl
            have d4 : (op.toList == ([124] : List UInt8)) = false := by rw [ho]; rfl
            have d5 : (op.toList == ([94] : List UInt8)) = false := by rw [ho]; rfl
            have d6 : (op.toList == ([60, 60] : List UInt8)) = true := by rw [ho]; rfl
            clear ho
            go_wp2_with fail
            go_meet
            exact ⟨by first | rfl | rw [d6], rfl⟩
          · have d0 : (op.toList == ([45] : List UInt8)) = false := by rw [ho]; rfl
            (try rw [d0])
            have d1 : (op.toList == ([42] : List UInt8)) = false := by rw [ho]; rfl
            have d2 : (op.toList == ([37] : List UInt8)) = false := by rw [ho]; rfl
            have d3 : (op.toList == ([38] : List UInt8)) = false := by rw [ho]; rfl
            have d4 : (op.toList == ([124] : List UInt8)) = false := by rw [ho]; rfl
            have d5 : (op.toList == ([94] : List UInt8)) = false := by rw [ho]; rfl
            have d6 : (op.toList == ([60, 60] : List UInt8)) = false := by rw [ho]; rfl
            have d7 : (op.toList == ([62, 62] : List UInt8)) = true := by rw [ho]; rfl
            clear ho
            go_wp2_with fail
            go_meet
            exact ⟨by first | rfl | rw [d7], rfl⟩
          · have d0 : (op.toList == ([45] : List UInt8)) = false := by rw [ho]; rfl
            (try rw [d0])
            have d1 : (op.toList == ([42] : List UInt8)) = false := by rw [ho]; rfl
            have d2 : (op.toList == ([37] : List UInt8)) = false := by rw [ho]; rfl
            have d3 : (op.toList == ([38] : List UInt8)) = false := by rw [ho]; rfl
            have d4 : (op.toList == ([124] : List UInt8)) = false := by rw [ho]; rfl
            have d5 : (op.toList == ([94] : List UInt8)) = false := by rw [ho]; rfl
            have d6 : (op.toList == ([60, 60] : List UInt8)) = false := by rw [ho]; rfl
            have d7 : (op.toList == ([62, 62] : List UInt8)) = false := by rw [ho]; rfl
            have d8 : (op.toList == ([62, 62, 62] : List UInt8)) = true := by rw [ho]; rfl
            clear ho
            go_wp2_with fail
            go_meet
            exact ⟨by first | rfl | rw [d8], rfl⟩
        case rest =>
          obtain ⟨rfl, rfl⟩ := hcut
          clear hcases
          have hG := HHG.out
          cases nb
          · rw [if_neg (by rw [HNB.out]; decide)] at hG
            obtain rfl := Option.some.inj hG
            clear hG
            go_wp2_with (go_at_call 33; refine (rthrow_any _ _).mono ?_; rintro e w5 ⟨rfl, hb⟩; have HX := Aside0.mk (blk_below HD2.out hb); have HXB := Aside0.mk (below_step HDB.out hb); clear hb; obtain ⟨⟨y0, y1, y2, y3, y4⟩, x0, x1, x2, x3, x4⟩ := B28_facts HX.out)
            refine bodyPost_ret (results_cell_row rfl _ _ (w.heap.size + 1 + 1) 28 #[.int .i64 ((throwV noNumber).1), .int .i64 ((throwV noNumber).2.1), .string ((throwV noNumber).2.2.1), .string ((throwV noNumber).2.2.2.1), .int .i64 ((throwV noNumber).2.2.2.2)] (0, 0) _ rfl (B28_put HX.out (throwV noNumber)) Tryd.underlying28 rfl (by kernel_rfl)) rfl ?_
            exact ⟨by rfl, putV_below HXB.out (by omega) (throwV noNumber)⟩
          · rw [if_pos HNB.out] at hG
            obtain rfl := Option.some.inj hG
            clear hG
            have e12 : K1 = 3 ∧ K2 = 3 := by simpa using HNB.out
            have q1 := HR1.out.1 e12.1
            have q2 := HR1.out.2 e12.2
            obtain ⟨u, hu⟩ : ∃ u, exactV (F N1 N2).1 (F N1 N2).2 = u := ⟨_, rfl⟩
            have HRK := Aside0.mk (fun w' => shuckref14_reckon.calls 21 op N1 N2 u.1 u.2.1 u.2.2.1 u.2.2.2.1 u.2.2.2.2 w' (by rw [reckon_P 20 op N1 N2 F HNF.out q1.1 q1.2 q2.1 q2.2, hu]))
            have HU := Aside0.mk hu
            clear hu e12 q1 q2
            go_wp2_with (go_at_call 41; refine (HRK.out _).mono ?_; rintro e w5 ⟨rfl, hb⟩; have HX := Aside0.mk (blk_below HD2.out hb); have HXB := Aside0.mk (below_step HDB.out hb); clear hb; obtain ⟨⟨y0, y1, y2, y3, y4⟩, x0, x1, x2, x3, x4⟩ := B28_facts HX.out)
            refine bodyPost_ret (results_cell_row rfl _ _ (w.heap.size + 1 + 1) 28 #[.int .i64 ((u).1), .int .i64 ((u).2.1), .string ((u).2.2.1), .string ((u).2.2.2.1), .int .i64 ((u).2.2.2.2)] (0, 0) _ rfl (B28_put HX.out (u)) Tryd.underlying28 rfl (by kernel_rfl)) rfl ?_
            exact ⟨by rw [HU.out]; rfl, putV_below HXB.out (by omega) (u)⟩
      | none =>
        rw [hN] at hG
        obtain ⟨e0, e1, e2, e3, e4, e5, e6, e7, e8⟩ := numF_none hN
        cases hO : ordF op.toList with
        | some F =>
          rw [hO] at hG
          replace hG : (if (K1 == 3 && K2 == 3) = true then some (doneB (F (wrap64 (N1 - N2)))) else if (K1 == 4 && K2 == 4) = true then (if S1.size ≤ 70368744177664 ∧ S2.size ≤ 70368744177664 then some (doneB (F (cmpL (runeL S1) (runeL S2)))) else none) else some (throwV noOrder)) = some v := hG
          have HHG := Aside0.mk hG
          have HOF := Aside0.mk (fun d w' => rordered_any op F d hO w')
          have HLS := Aside0.mk (fun w' => shuckref14_less.calls S1 S2 (cmpL (runeL S1) (runeL S2)) w' (by unfold shuckref14_less.f; rw [if_pos (by omega)]))
          have hoc := ordF_cases hO
          clear hN hG hO o0 o1 o2
          go_upto_if 106 with (fail)
          go_cut [106] (fun s106 wx => s106 = .bool true ∧ W2 = wx)
          case first =>
            rcases hoc with ho | ho | ho | ho
            · have d0 : (op.toList == ([60] : List UInt8)) = true := by rw [ho]; rfl
              (try rw [d0])
              go_wp2_with fail
              go_meet
              exact ⟨by first | rfl | rw [d0], rfl⟩
            · have d0 : (op.toList == ([60] : List UInt8)) = false := by rw [ho]; rfl
              (try rw [d0])
              have d1 : (op.toList == ([60, 61] : List UInt8)) = true := by rw [ho]; rfl
              clear ho
              go_wp2_with fail
              go_meet
              exact ⟨by first | rfl | rw [d1], rfl⟩
            · have d0 : (op.toList == ([60] : List UInt8)) = false := by rw [ho]; rfl
              (try rw [d0])
              have d1 : (op.toList == ([60, 61] : List UInt8)) = false := by rw [ho]; rfl
              have d2 : (op.toList == ([62] : List UInt8)) = true := by rw [ho]; rfl
              clear ho
              go_wp2_with fail
              go_meet
              exact ⟨by first | rfl | rw [d2], rfl⟩
            · have d0 : (op.toList == ([60] : List UInt8)) = false := by rw [ho]; rfl
              (try rw [d0])
              have d1 : (op.toList == ([60, 61] : List UInt8)) = false := by rw [ho]; rfl
              have d2 : (op.toList == ([62] : List UInt8)) = false := by rw [ho]; rfl
              have d3 : (op.toList == ([62, 61] : List UInt8)) = true := by rw [ho]; rfl
              clear ho
              go_wp2_with fail
              go_meet
              exact ⟨by first | rfl | rw [d3], rfl⟩
          case rest =>
            obtain ⟨rfl, rfl⟩ := hcut
            clear hoc
            have hG := HHG.out
            cases nb
            · rw [if_neg (by rw [HNB.out]; decide)] at hG
              cases tb
              · rw [if_neg (by rw [HTB.out]; decide)] at hG
                obtain rfl := Option.some.inj hG
                clear hG
                go_wp2_with (go_at_call 33; refine (rthrow_any _ _).mono ?_; rintro e w5 ⟨rfl, hb⟩; have HX := Aside0.mk (blk_below HD2.out hb); have HXB := Aside0.mk (below_step HDB.out hb); clear hb; obtain ⟨⟨y0, y1, y2, y3, y4⟩, x0, x1, x2, x3, x4⟩ := B28_facts HX.out)
                refine bodyPost_ret (results_cell_row rfl _ _ (w.heap.size + 1 + 1) 28 #[.int .i64 ((throwV noOrder).1), .int .i64 ((throwV noOrder).2.1), .string ((throwV noOrder).2.2.1), .string ((throwV noOrder).2.2.2.1), .int .i64 ((throwV noOrder).2.2.2.2)] (0, 0) _ rfl (B28_put HX.out (throwV noOrder)) Tryd.underlying28 rfl (by kernel_rfl)) rfl ?_
                exact ⟨by rfl, putV_below HXB.out (by omega) (throwV noOrder)⟩
              · rw [if_pos HTB.out, if_pos (by omega)] at hG
                obtain rfl := Option.some.inj hG
                clear hG
                go_wp2_with (first | (go_at_call 44; refine (HLS.out _).mono ?_; rintro e w5 ⟨rfl, hb⟩; have HY2 := Aside0.mk (blk_below HD2.out hb); have HYB := Aside0.mk (below_step HDB.out hb); clear hb) | (go_at_call 43; refine (HOF.out _ _).mono ?_; rintro e w6 ⟨rfl, hd⟩; have HZ2 := Aside0.mk (blk_below HY2.out hd.below); have HZB := Aside0.mk (below_step HYB.out hd.below); clear hd) | (go_at_call 32; refine (rbool_any _ _).mono ?_; rintro e w7 ⟨rfl, hb⟩; have HX := Aside0.mk (blk_below HZ2.out hb); have HXB := Aside0.mk (below_step HZB.out hb); clear hb; obtain ⟨⟨y0, y1, y2, y3, y4⟩, x0, x1, x2, x3, x4⟩ := B28_facts HX.out))
                refine bodyPost_ret (results_cell_row rfl _ _ (w.heap.size + 1 + 1) 28 #[.int .i64 (2), .int .i64 (b01 (F (cmpL (runeL S1) (runeL S2)))), .string ((⟨#[]⟩ : ByteArray)), .string ((⟨#[]⟩ : ByteArray)), .int .i64 (0)] (0, 0) _ rfl (B28_put HX.out (doneB (F (cmpL (runeL S1) (runeL S2))))) Tryd.underlying28 rfl (by kernel_rfl)) rfl ?_
                exact ⟨by rfl, putV_below HXB.out (by omega) (doneB (F (cmpL (runeL S1) (runeL S2))))⟩
            · rw [if_pos HNB.out] at hG
              obtain rfl := Option.some.inj hG
              clear hG
              go_wp2_with (first | (go_at_call 43; refine (HOF.out _ _).mono ?_; rintro e w6 ⟨rfl, hd⟩; have HZ2 := Aside0.mk (blk_below HD2.out hd.below); have HZB := Aside0.mk (below_step HDB.out hd.below); clear hd) | (go_at_call 32; refine (rbool_any _ _).mono ?_; rintro e w7 ⟨rfl, hb⟩; have HX := Aside0.mk (blk_below HZ2.out hb); have HXB := Aside0.mk (below_step HZB.out hb); clear hb; obtain ⟨⟨y0, y1, y2, y3, y4⟩, x0, x1, x2, x3, x4⟩ := B28_facts HX.out))
              refine bodyPost_ret (results_cell_row rfl _ _ (w.heap.size + 1 + 1) 28 #[.int .i64 (2), .int .i64 (b01 (F (wrap64 (N1 - N2)))), .string ((⟨#[]⟩ : ByteArray)), .string ((⟨#[]⟩ : ByteArray)), .int .i64 (0)] (0, 0) _ rfl (B28_put HX.out (doneB (F (wrap64 (N1 - N2))))) Tryd.underlying28 rfl (by kernel_rfl)) rfl ?_
              exact ⟨by rfl, putV_below HXB.out (by omega) (doneB (F (wrap64 (N1 - N2))))⟩
        | none =>
          rw [hO] at hG
          replace hG : some ((0, 0, ⟨#[]⟩, ⟨#[]⟩, 0) : V5) = some v := hG
          obtain rfl := Option.some.inj hG
          obtain ⟨f0, f1, f2, f3⟩ := ordF_none hO
          clear hN hG hO o0 o1 o2
          have HX := HD2
          have HXB := HDB
          obtain ⟨⟨y0, y1, y2, y3, y4⟩, x0, x1, x2, x3, x4⟩ := B28_facts HX.out
          go_wp2_with fail
          refine bodyPost_ret (results_cell_row rfl _ _ (w.heap.size + 1 + 1) 28 #[.int .i64 (0), .int .i64 (0), .string ((⟨#[]⟩ : ByteArray)), .string ((⟨#[]⟩ : ByteArray)), .int .i64 (0)] (0, 0) _ rfl (B28_put HX.out (((0, 0, ⟨#[]⟩, ⟨#[]⟩, 0) : V5))) Tryd.underlying28 rfl (by kernel_rfl)) rfl ?_
          exact ⟨by rfl, putV_below HXB.out (by omega) (((0, 0, ⟨#[]⟩, ⟨#[]⟩, 0) : V5))⟩
end Go.Proofs.YtceahnhpeadkoaaDoor.V
