/- package value's Binary, at some of its operators. -/
import Derived.Test.YtceahnhpeadkoaaDoorHf
namespace Go.Proofs.YtceahnhpeadkoaaDoor.V
open Go.RowKit Go.Proofs.YtceahnhpeadkoaaDoorW.PrintWords Go.Proofs.YtceahnhpeadkoaaDoorW.PrintLast Go.Proofs.YtceahnhpeadkoaaDoorW.PrintMore
attribute [local go_sem] max2_int min2_int max_two min_two max_three min_three max_four min_four   -- for this text's walks alone
attribute [local go_sem high] eqA23
set_option linter.unusedVariables false
set_option linter.unusedSimpArgs false

set_option maxHeartbeats 4000000 in
set_option maxRecDepth 100000 in
theorem bin_cat (op : ByteArray) (k1 n1 k2 n2 : Int) (s1 s2 : ByteArray) (K1 N1 K2 N2 : Int) (S1 S2 : ByteArray) (w : World) (hT : TabOk w)
    (h1 : value_plain.f k1 n1 s1 = some (K1, N1, S1)) (h2 : value_plain.f k2 n2 s2 = some (K2, N2, S2)) (x y : ByteArray) (t1 : value_Text.f K1 N1 S1 = some x) (t2 : value_Text.f K2 N2 S2 = some y) (sx : x.size ≤ 140737488351232) (sy : y.size ≤ 140737488351232) (ho : op.toList = [43]) (b9 : (K1 == 3 && K2 == 3) = false) (bc : (K1 != 5 && K2 != 5 && (K1 == 4 || K2 == 4)) = true) :
    Calls Tryd.prog 16 #[.string op, .agg #[.int .i64 k1, .int .i64 n1, .string s1], .agg #[.int .i64 k2, .int .i64 n2, .string s2]] w fun e w' => e = .returned (.tuple #[.agg #[.int .i64 (catV x y).1, .int .i64 (catV x y).2.1, .string (catV x y).2.2.1], .string (catV x y).2.2.2.1, .int .i64 (catV x y).2.2.2.2]) ∧ Below w.heap.size w w' := by
  have HT := Aside0.mk hT
  have A1 := Aside0.mk h1
  have A2 := Aside0.mk h2
  clear hT h1 h2
  have T1 := Aside0.mk t1
  have T2 := Aside0.mk t2
  have BC := Aside0.mk bc
  clear t1 t2 bc
  go_enter Tryd.func16, Tryd.ntmps16
  go_upto_region 1 with fail
  go_cut [] (fun wx => wx.heap[w.heap.size]? = some (B23 K1 N1 S1) ∧ wx.heap[w.heap.size + 1]? = some (B23 K2 N2 S2) ∧ wx.heap[w.heap.size + 1 + 1]? = some (B23 0 0 ⟨#[]⟩) ∧ Below w.heap.size w wx)
  case first =>
    have q0 : ∀ o : Obj, (w.alloc o).heap.size = w.heap.size + 1 := fun o => World.size_alloc w o
    go_region_with (go_at_call 25; (first | (with_reducible refine (value_plain.calls k1 n1 s1 K1 N1 S1 _ A1.out).mono ?_) | (with_reducible refine (value_plain.calls k2 n2 s2 K2 N2 S2 _ A2.out).mono ?_)); rintro e wq ⟨rfl, hb⟩; have hz := hb.size; (try simp only [World.size_alloc, World.size_drew] at hz); have hc1 := fun o : Nat => hb.cell (p := ⟨w.heap.size, o, none⟩) (by (try simp only [World.size_alloc, World.size_drew]); omega); have hc2 := fun o : Nat => hb.cell (p := ⟨w.heap.size + 1, o, none⟩) (by (try simp only [World.size_alloc, World.size_drew]); omega); have hf1 := fun o : Nat => hb.frozen (p := ⟨w.heap.size, o, none⟩) (by (try simp only [World.size_alloc, World.size_drew]); omega); have hf2 := fun o : Nat => hb.frozen (p := ⟨w.heap.size + 1, o, none⟩) (by (try simp only [World.size_alloc, World.size_drew]); omega); have HZ := Aside0.mk hb; clear hb)
    all_goals
      go_wp2_with fail
      go_meet
      exact bin_meet (by assumption) (by assumption)
  case rest =>
    obtain ⟨hb4, hb5, hb6, HB⟩ := hcut
    have H4 := Aside0.mk hb4
    have H5 := Aside0.mk hb5
    have H6 := Aside0.mk hb6
    have HB := Aside0.mk HB
    clear hb4 hb5 hb6
    obtain ⟨⟨c40, c41, c42⟩, f40, f41, f42⟩ := B23_facts H4.out
    obtain ⟨⟨c50, c51, c52⟩, f50, f51, f52⟩ := B23_facts H5.out
    obtain ⟨⟨c60, c61, c62⟩, f60, f61, f62⟩ := B23_facts H6.out
    clear f40 f41 f42 f50 f51 f52
    have G4 := blk_lt H4.out
    have G5 := blk_lt H5.out
    have G6 := blk_lt H6.out
    go_upto_region 2 with fail
    go_cut [9] (fun s9 wx => s9 = .bool (K1 == 3 && K2 == 3) ∧ wc = wx)
    case first =>
      cases e13 : (K1 == 3)
      all_goals
        go_wp2_with fail
        go_meet
        exact ⟨by simp [e13], rfl⟩
    case rest =>
      obtain ⟨hs9, rfl⟩ := hcut
      obtain ⟨nb, hnb⟩ : ∃ nb, (K1 == 3 && K2 == 3) = nb := ⟨_, rfl⟩
      rw [hnb] at hs9
      subst hs9
      obtain rfl := b9.symm.trans hnb
      clear b9 hnb
      go_upto_region 3 with fail
      go_cut [10] (fun s10 wx => s10 = .bool (K1 == 4 && K2 == 4) ∧ wc = wx)
      case first =>
        cases e14 : (K1 == 4)
        all_goals
          go_wp2_with fail
          go_meet
          exact ⟨by first | (simp [e14]; done) | (exfalso; simp_all; done), rfl⟩
      case rest =>
        obtain ⟨hs10, rfl⟩ := hcut
        obtain ⟨tb, htb⟩ : ∃ tb, (K1 == 4 && K2 == 4) = tb := ⟨_, rfl⟩
        rw [htb] at hs10
        subst hs10
        clear htb
        have eo := toList_lit ((toList_data op).symm.trans ho)
        subst eo
        clear ho
        go_upto_region 12 with fail
        go_cut [69] (fun s69 wx => s69 = .bool true ∧ wc = wx)
        case first =>
          have bc := BC.out
          have b1 : (K1 != 5) = true := by revert bc; cases (K1 != 5) <;> simp
          have b2 : (K2 != 5) = true := by revert bc; cases (K2 != 5) <;> simp
          clear bc
          cases b3 : (K1 == 4)
          · have b4 : (K2 == 4) = true := by have bc := BC.out; rw [b3] at bc; revert bc; cases (K2 == 4) <;> simp
            go_wp2_with fail
            go_meet
            exact ⟨rfl, rfl⟩
          · go_wp2_with fail
            go_meet
            exact ⟨rfl, rfl⟩
        case rest =>
          obtain ⟨rfl, rfl⟩ := hcut
          clear BC c60 c61 c62 f60 f61 f62 sx sy
          go_upto_region 13 with fail
          go_cut [11, 12] (fun s11 s12 wx => s11 = .string x ∧ s12 = .string y ∧ wx.heap[w.heap.size + 1 + 1]? = some (B23 0 0 ⟨#[]⟩) ∧ Below w.heap.size w wx)
          case first =>
            go_region_with (go_at_call 20; (first | (with_reducible refine (value_Text.calls K1 N1 S1 x _ ?tt T1.out).mono ?_) | (with_reducible refine (value_Text.calls K2 N2 S2 y _ ?tt T2.out).mono ?_)); (case tt => exact TabOk.of HT.out (by repeat (first | (with_reducible first | exact HB.out | apply below_alloc | apply pw_below_drewN | apply below_drew1) | exact HB.out))); rintro e wq ⟨rfl, hb⟩; have hz := hb.size; (try simp only [World.size_alloc, World.size_drew] at hz); have hc4 := fun o : Nat => hb.cell (p := ⟨w.heap.size, o, none⟩) (by (try simp only [World.size_alloc, World.size_drew]); omega); have hc5 := fun o : Nat => hb.cell (p := ⟨w.heap.size + 1, o, none⟩) (by (try simp only [World.size_alloc, World.size_drew]); omega); have nB := Aside0.mk (below_step (by repeat (first | (with_reducible first | exact HB.out | apply below_alloc | apply pw_below_drewN | apply below_drew1) | exact HB.out)) hb); have n6 := Aside0.mk (blk_below (by (with_reducible repeat (first | refine blk_drewN ?_ _ | refine blk_drew ?_ | refine blk_alloc ?_ _)); exact H6.out) hb); clear HB H6; have HB := nB; have H6 := n6; clear nB n6 hb)
            all_goals
              go_wp2_with fail
              go_meet
              exact ⟨rfl, rfl, H6.out, HB.out⟩
          case rest =>
            obtain ⟨rfl, rfl, hb6, HB⟩ := hcut
            clear H4 H5 H6 c40 c41 c42 c50 c51 c52
            have H6 := Aside0.mk hb6
            have HB := Aside0.mk HB
            clear hb6
            obtain ⟨⟨x60, x61, x62⟩, y60, y61, y62⟩ := B23_facts H6.out
            have z6 := blk_lt H6.out
            go_upto_region 14 with fail
            obtain ⟨full, hfull⟩ : ∃ full : Bool, decide (65536 < x.size + y.size) = full := ⟨_, rfl⟩
            have HF := Aside0.mk hfull
            clear hfull
            go_cut [103] (fun s103 wx => s103 = .bool full ∧ wc = wx)
            case first =>
              clear H6 HB x60 x61 x62 y60 y61 y62 z6
              by_cases g1 : y.size ≤ 65536
              · have hm : mn (y.size : Int) 65536 = (y.size : Int) := by unfold mn; omega
                by_cases g2 : x.size + y.size ≤ 65536
                · have HE : Aside0 (full = false) := ⟨by rw [← HF.out]; simp; omega⟩
                  clear HF
                  go_wp2_with fail
                  go_meet
                  exact ⟨by first | (rw [HE.out]; done) | (rw [HE.out]; refine congrArg Value.bool ?_; simp; omega), rfl⟩
                · have HE : Aside0 (full = true) := ⟨by rw [← HF.out]; simp; omega⟩
                  clear HF
                  go_wp2_with fail
                  go_meet
                  exact ⟨by first | (rw [HE.out]; done) | (rw [HE.out]; refine congrArg Value.bool ?_; simp; omega), rfl⟩
              · have hm : mn (y.size : Int) 65536 = 65536 := by unfold mn; omega
                have HE : Aside0 (full = true) := ⟨by rw [← HF.out]; simp; omega⟩
                clear HF
                by_cases g2 : 0 < x.size
                · go_wp2_with fail
                  go_meet
                  exact ⟨by first | (rw [HE.out]; done) | (rw [HE.out]; refine congrArg Value.bool ?_; simp; omega), rfl⟩
                · go_wp2_with fail
                  go_meet
                  exact ⟨by first | (rw [HE.out]; done) | (rw [HE.out]; refine congrArg Value.bool ?_; simp; omega), rfl⟩
            case rest =>
              obtain ⟨rfl, rfl⟩ := hcut
              cases full
              · have HV := Aside0.mk (show catV x y = (4, 0, x ++ y, ⟨#[]⟩, 0) from if_pos (by have := of_decide_eq_false HF.out; omega))
                have c4 : x.size + y.size ≤ 9223372036854775807 := by have := of_decide_eq_false HF.out; omega
                have c4b0 := eq_true c4
                have c4b1 : decide (x.size + y.size ≤ 9223372036854775807) = true := decide_eq_true c4
                have c4b2 : (9223372036854775807 < x.size + y.size) = False := eq_false (Nat.not_lt.2 c4)
                clear HF
                go_wp2_with (first | (go_at_call 26; ((with_reducible refine (done_any _ _ _ _).mono ?_); rintro e wx ⟨rfl, hbx⟩; (try clear x60 x61 x62 y60 y61 y62 z6); have n6 := Aside0.mk (blk_below (by (with_reducible repeat (first | refine blk_drewN ?_ _ | refine blk_drew ?_ | refine blk_alloc ?_ _)); exact H6.out) hbx); have nB := Aside0.mk (below_step (by repeat (first | (with_reducible first | exact HB.out | apply below_alloc | apply pw_below_drewN | apply below_drew1) | exact HB.out)) hbx); clear H6 HB hbx; have H6 := n6; have HB := nB; clear n6 nB; obtain ⟨⟨x60, x61, x62⟩, y60, y61, y62⟩ := B23_facts H6.out; have z6 := blk_lt H6.out)))
                try rw [Exit.noGoto_ret]
                refine bodyPost_ret (results_ctt rfl _ _ (w.heap.size + 1 + 1) 23 #[.int .i64 4, .int .i64 0, .string (x ++ y)] (0, 0) _ rfl (bin_fin _ _ _ H6.out).1 Tryd.underlying23 rfl (by kernel_rfl)) rfl ?_
                exact ⟨by rw [HV.out]; exact rfl, (bin_fin _ _ _ H6.out).2 HB.out⟩
              · have HV := Aside0.mk (show catV x y = (0, 0, ⟨#[]⟩, ⟨#[]⟩, 3) from if_neg (by have := of_decide_eq_true HF.out; omega))
                clear HF
                go_wp2_with (first | fail)
                try rw [Exit.noGoto_ret]
                refine bodyPost_ret (results_ctt rfl _ _ (w.heap.size + 1 + 1) 23 #[.int .i64 0, .int .i64 0, .string ⟨#[]⟩] (0, 0) _ rfl (bin_fin _ _ _ H6.out).1 Tryd.underlying23 rfl (by kernel_rfl)) rfl ?_
                exact ⟨by rw [HV.out]; exact rfl, (bin_fin _ _ _ H6.out).2 HB.out⟩
end Go.Proofs.YtceahnhpeadkoaaDoor.V
