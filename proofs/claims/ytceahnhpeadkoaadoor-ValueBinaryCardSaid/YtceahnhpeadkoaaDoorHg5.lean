/- package value's Binary, at some of its operators. -/
import Derived.Test.YtceahnhpeadkoaaDoorHf
namespace Go.Proofs.YtceahnhpeadkoaaDoor.V
open Go.RowKit Go.Proofs.YtceahnhpeadkoaaDoorW.PrintWords Go.Proofs.YtceahnhpeadkoaaDoorW.PrintLast Go.Proofs.YtceahnhpeadkoaaDoorW.PrintMore
attribute [local go_sem] max2_int min2_int max_two min_two max_three min_three max_four min_four   -- for this text's walks alone
attribute [local go_sem high] eqA23
set_option linter.unusedVariables false
set_option linter.unusedSimpArgs false

set_option maxHeartbeats 4000000 in
set_option maxRecDepth 100000 in
theorem bin_nonum (op : ByteArray) (k1 n1 k2 n2 : Int) (s1 s2 : ByteArray) (K1 N1 K2 N2 : Int) (S1 S2 : ByteArray) (w : World) (hT : TabOk w)
    (h1 : value_plain.f k1 n1 s1 = some (K1, N1, S1)) (h2 : value_plain.f k2 n2 s2 = some (K2, N2, S2)) (o0 : ¬ op.toList = [61, 61, 61]) (o1 : ¬ op.toList = [33, 61, 61]) (o2 : ¬ op.toList = [43]) (F : Int → Int → Int × Bool) (hF : numF op.toList = some F) (b9 : (K1 == 3 && K2 == 3) = false) :
    Calls Tryd.prog 16 #[.string op, .agg #[.int .i64 k1, .int .i64 n1, .string s1], .agg #[.int .i64 k2, .int .i64 n2, .string s2]] w fun e w' => e = .returned (.tuple #[.agg #[.int .i64 0, .int .i64 0, .string ⟨#[]⟩], .string noNumber, .int .i64 1]) ∧ Below w.heap.size w w' := by
  have HT := Aside0.mk hT
  have A1 := Aside0.mk h1
  have A2 := Aside0.mk h2
  clear hT h1 h2
  have q0 : (op.toList == ([61, 61, 61] : List UInt8)) = false := by simp [o0]
  have q1 : (op.toList == ([33, 61, 61] : List UInt8)) = false := by simp [o1]
  have q2 : (op.toList == ([43] : List UInt8)) = false := by simp [o2]
  clear o0 o1 o2
  have HF := Aside0.mk hF
  clear hF
  go_enter Tryd.func16, Tryd.ntmps16
  go_upto_region 1 with fail
  go_cut [] (fun wx => wx.heap[w.heap.size]? = some (B23 K1 N1 S1) ∧ wx.heap[w.heap.size + 1]? = some (B23 K2 N2 S2) ∧ wx.heap[w.heap.size + 1 + 1]? = some (B23 0 0 ⟨#[]⟩) ∧ Below w.heap.size w wx)
  case first =>
    have q0 : ∀ o : Obj, (w.alloc o).heap.size = w.heap.size + 1 := fun o => World.size_alloc w o
    go_region_with (go_at_call 25; (first | (with_reducible refine (value_plain.calls k1 n1 s1 K1 N1 S1 _ A1.out).mono ?_) | (with_reducible refine (value_plain.calls k2 n2 s2 K2 N2 S2 _ A2.out).mono ?_)); rintro e wq ⟨rfl, hb⟩; have hz := hb.size; (try simp only [World.size_alloc, World.size_drew] at hz); have hc1 := fun o : Nat => hb.cell (p := ⟨w.heap.size, o, none⟩) (by (try simp only [World.size_alloc, World.size_drew]); omega); have hc2 := fun o : Nat => hb.cell (p := ⟨w.heap.size + 1, o, none⟩) (by (try simp only [World.size_alloc, World.size_drew]); omega); have hf1 := fun o : Nat => hb.frozen (p := ⟨w.heap.size, o, none⟩) (by (try simp only [World.size_alloc, World.size_drew]); omega); have hf2 := fun o : Nat => hb.frozen (p := ⟨w.heap.size + 1, o, none⟩) (by (try simp only [World.size_alloc, World.size_drew]); omega); have HZ := Aside0.mk hb; clear hb)
    all_goals
      go_wp2_with fail
      go_meet
      exact bin_meet (by assumption) (by assumption)
  case rest =>
    obtain ⟨hb4, hb5, hb6, HB⟩ := hcut
    have H4 := Aside0.mk hb4
    have H5 := Aside0.mk hb5
    have H6 := Aside0.mk hb6
    have HB := Aside0.mk HB
    clear hb4 hb5 hb6
    obtain ⟨⟨c40, c41, c42⟩, f40, f41, f42⟩ := B23_facts H4.out
    obtain ⟨⟨c50, c51, c52⟩, f50, f51, f52⟩ := B23_facts H5.out
    obtain ⟨⟨c60, c61, c62⟩, f60, f61, f62⟩ := B23_facts H6.out
    clear f40 f41 f42 f50 f51 f52
    have G4 := blk_lt H4.out
    have G5 := blk_lt H5.out
    have G6 := blk_lt H6.out
    go_upto_region 2 with fail
    go_cut [9] (fun s9 wx => s9 = .bool (K1 == 3 && K2 == 3) ∧ wc = wx)
    case first =>
      cases e13 : (K1 == 3)
      all_goals
        go_wp2_with fail
        go_meet
        exact ⟨by simp [e13], rfl⟩
    case rest =>
      obtain ⟨hs9, rfl⟩ := hcut
      obtain ⟨nb, hnb⟩ : ∃ nb, (K1 == 3 && K2 == 3) = nb := ⟨_, rfl⟩
      rw [hnb] at hs9
      subst hs9
      obtain rfl := b9.symm.trans hnb
      clear b9 hnb
      go_upto_region 3 with fail
      go_cut [10] (fun s10 wx => s10 = .bool (K1 == 4 && K2 == 4) ∧ wc = wx)
      case first =>
        cases e14 : (K1 == 4)
        all_goals
          go_wp2_with fail
          go_meet
          exact ⟨by first | (simp [e14]; done) | (exfalso; simp_all; done), rfl⟩
      case rest =>
        obtain ⟨hs10, rfl⟩ := hcut
        obtain ⟨tb, htb⟩ : ∃ tb, (K1 == 4 && K2 == 4) = tb := ⟨_, rfl⟩
        rw [htb] at hs10
        subst hs10
        clear htb
        have hne51 : ∀ (fn : Fn) (a b : Array Value) (w : World), (binOp .neq 51 (.func fn a b) .nilFunc).run Tryd.prog w = .ok (.bool true) w := fun _ _ _ _ => by rfl
        have hne54 : ∀ (fn : Fn) (a b : Array Value) (w : World), (binOp .neq 54 (.func fn a b) .nilFunc).run Tryd.prog w = .ok (.bool true) w := fun _ _ _ _ => by rfl
        have hnn51 : ∀ (w : World), (binOp .neq 51 .nilFunc .nilFunc).run Tryd.prog w = .ok (.bool false) w := fun _ => by rfl
        have hnn54 : ∀ (w : World), (binOp .neq 54 .nilFunc .nilFunc).run Tryd.prog w = .ok (.bool false) w := fun _ => by rfl
        go_wp2_with (first | (go_at_call 38; ((with_reducible refine (num_any _ _).mono ?_); rintro e wx ⟨hbx, v, rfl, hv⟩; rw [HF.out] at hv; obtain ⟨kf, caps, rfl, hk, hcall⟩ := hv; have HC := Aside0.mk hcall; clear hcall; have HK := Aside0.mk hk; clear hk; (try clear c40 c41 c42 c50 c51 c52 c60 c61 c62 f60 f61 f62 G4 G5 G6); (try clear x40 x41 x42 z4); (try clear x50 x51 x52 z5); (try clear x60 x61 x62 y60 y61 y62 z6); have n4 := Aside0.mk (blk_below (by (with_reducible repeat (first | refine blk_drewN ?_ _ | refine blk_drew ?_ | refine blk_alloc ?_ _)); exact H4.out) hbx); have n5 := Aside0.mk (blk_below (by (with_reducible repeat (first | refine blk_drewN ?_ _ | refine blk_drew ?_ | refine blk_alloc ?_ _)); exact H5.out) hbx); have n6 := Aside0.mk (blk_below (by (with_reducible repeat (first | refine blk_drewN ?_ _ | refine blk_drew ?_ | refine blk_alloc ?_ _)); exact H6.out) hbx); have nB := Aside0.mk (below_step (by repeat (first | (with_reducible first | exact HB.out | apply below_alloc | apply pw_below_drewN | apply below_drew1) | exact HB.out)) hbx); clear H4 H5 H6 HB hbx; have H4 := n4; have H5 := n5; have H6 := n6; have HB := nB; clear n4 n5 n6 nB; obtain ⟨⟨x40, x41, x42⟩, y40, y41, y42⟩ := B23_facts H4.out; have z4 := blk_lt H4.out; clear y40 y41 y42; obtain ⟨⟨x50, x51, x52⟩, y50, y51, y52⟩ := B23_facts H5.out; have z5 := blk_lt H5.out; clear y50 y51 y52; obtain ⟨⟨x60, x61, x62⟩, y60, y61, y62⟩ := B23_facts H6.out; have z6 := blk_lt H6.out)) | (go_at_call 28; ((with_reducible refine (throws_any _ _).mono ?_); rintro e wx ⟨rfl, hbx⟩; (try clear c40 c41 c42 c50 c51 c52 c60 c61 c62 f60 f61 f62 G4 G5 G6); (try clear x40 x41 x42 z4); (try clear x50 x51 x52 z5); (try clear x60 x61 x62 y60 y61 y62 z6); have n4 := Aside0.mk (blk_below (by (with_reducible repeat (first | refine blk_drewN ?_ _ | refine blk_drew ?_ | refine blk_alloc ?_ _)); exact H4.out) hbx); have n5 := Aside0.mk (blk_below (by (with_reducible repeat (first | refine blk_drewN ?_ _ | refine blk_drew ?_ | refine blk_alloc ?_ _)); exact H5.out) hbx); have n6 := Aside0.mk (blk_below (by (with_reducible repeat (first | refine blk_drewN ?_ _ | refine blk_drew ?_ | refine blk_alloc ?_ _)); exact H6.out) hbx); have nB := Aside0.mk (below_step (by repeat (first | (with_reducible first | exact HB.out | apply below_alloc | apply pw_below_drewN | apply below_drew1) | exact HB.out)) hbx); clear H4 H5 H6 HB hbx; have H4 := n4; have H5 := n5; have H6 := n6; have HB := nB; clear n4 n5 n6 nB; obtain ⟨⟨x60, x61, x62⟩, y60, y61, y62⟩ := B23_facts H6.out; have z6 := blk_lt H6.out)))
        try rw [Exit.noGoto_ret]
        refine bodyPost_ret (results_ctt rfl _ _ (w.heap.size + 1 + 1) 23 #[.int .i64 0, .int .i64 0, .string ⟨#[]⟩] (0, 0) _ rfl (bin_fin _ _ _ H6.out).1 Tryd.underlying23 rfl (by kernel_rfl)) rfl ?_
        exact ⟨rfl, (bin_fin _ _ _ H6.out).2 HB.out⟩

set_option maxHeartbeats 4000000 in
set_option maxRecDepth 100000 in
theorem bin_none (op : ByteArray) (k1 n1 k2 n2 : Int) (s1 s2 : ByteArray) (K1 N1 K2 N2 : Int) (S1 S2 : ByteArray) (w : World) (hT : TabOk w)
    (h1 : value_plain.f k1 n1 s1 = some (K1, N1, S1)) (h2 : value_plain.f k2 n2 s2 = some (K2, N2, S2)) (o0 : ¬ op.toList = [61, 61, 61]) (o1 : ¬ op.toList = [33, 61, 61]) (o2 : ¬ op.toList = [43]) (hF : numF op.toList = none) (hO : ordF op.toList = none) :
    Calls Tryd.prog 16 #[.string op, .agg #[.int .i64 k1, .int .i64 n1, .string s1], .agg #[.int .i64 k2, .int .i64 n2, .string s2]] w fun e w' => e = .returned (.tuple #[.agg #[.int .i64 0, .int .i64 0, .string ⟨#[]⟩], .string ⟨#[]⟩, .int .i64 0]) ∧ Below w.heap.size w w' := by
  have HT := Aside0.mk hT
  have A1 := Aside0.mk h1
  have A2 := Aside0.mk h2
  clear hT h1 h2
  have q0 : (op.toList == ([61, 61, 61] : List UInt8)) = false := by simp [o0]
  have q1 : (op.toList == ([33, 61, 61] : List UInt8)) = false := by simp [o1]
  have q2 : (op.toList == ([43] : List UInt8)) = false := by simp [o2]
  clear o0 o1 o2
  have HF := Aside0.mk hF
  have HO := Aside0.mk hO
  clear hF hO
  go_enter Tryd.func16, Tryd.ntmps16
  go_upto_region 1 with fail
  go_cut [] (fun wx => wx.heap[w.heap.size]? = some (B23 K1 N1 S1) ∧ wx.heap[w.heap.size + 1]? = some (B23 K2 N2 S2) ∧ wx.heap[w.heap.size + 1 + 1]? = some (B23 0 0 ⟨#[]⟩) ∧ Below w.heap.size w wx)
  case first =>
    have q0 : ∀ o : Obj, (w.alloc o).heap.size = w.heap.size + 1 := fun o => World.size_alloc w o
    go_region_with (go_at_call 25; (first | (with_reducible refine (value_plain.calls k1 n1 s1 K1 N1 S1 _ A1.out).mono ?_) | (with_reducible refine (value_plain.calls k2 n2 s2 K2 N2 S2 _ A2.out).mono ?_)); rintro e wq ⟨rfl, hb⟩; have hz := hb.size; (try simp only [World.size_alloc, World.size_drew] at hz); have hc1 := fun o : Nat => hb.cell (p := ⟨w.heap.size, o, none⟩) (by (try simp only [World.size_alloc, World.size_drew]); omega); have hc2 := fun o : Nat => hb.cell (p := ⟨w.heap.size + 1, o, none⟩) (by (try simp only [World.size_alloc, World.size_drew]); omega); have hf1 := fun o : Nat => hb.frozen (p := ⟨w.heap.size, o, none⟩) (by (try simp only [World.size_alloc, World.size_drew]); omega); have hf2 := fun o : Nat => hb.frozen (p := ⟨w.heap.size + 1, o, none⟩) (by (try simp only [World.size_alloc, World.size_drew]); omega); have HZ := Aside0.mk hb; clear hb)
    all_goals
      go_wp2_with fail
      go_meet
      exact bin_meet (by assumption) (by assumption)
  case rest =>
    obtain ⟨hb4, hb5, hb6, HB⟩ := hcut
    have H4 := Aside0.mk hb4
    have H5 := Aside0.mk hb5
    have H6 := Aside0.mk hb6
    have HB := Aside0.mk HB
    clear hb4 hb5 hb6
    obtain ⟨⟨c40, c41, c42⟩, f40, f41, f42⟩ := B23_facts H4.out
    obtain ⟨⟨c50, c51, c52⟩, f50, f51, f52⟩ := B23_facts H5.out
    obtain ⟨⟨c60, c61, c62⟩, f60, f61, f62⟩ := B23_facts H6.out
    clear f40 f41 f42 f50 f51 f52
    have G4 := blk_lt H4.out
    have G5 := blk_lt H5.out
    have G6 := blk_lt H6.out
    go_upto_region 2 with fail
    go_cut [9] (fun s9 wx => s9 = .bool (K1 == 3 && K2 == 3) ∧ wc = wx)
    case first =>
      cases e13 : (K1 == 3)
      all_goals
        go_wp2_with fail
        go_meet
        exact ⟨by simp [e13], rfl⟩
    case rest =>
      obtain ⟨hs9, rfl⟩ := hcut
      obtain ⟨nb, hnb⟩ : ∃ nb, (K1 == 3 && K2 == 3) = nb := ⟨_, rfl⟩
      rw [hnb] at hs9
      subst hs9
      clear hnb
      go_upto_region 3 with fail
      go_cut [10] (fun s10 wx => s10 = .bool (K1 == 4 && K2 == 4) ∧ wc = wx)
      case first =>
        cases e14 : (K1 == 4)
        all_goals
          go_wp2_with fail
          go_meet
          exact ⟨by first | (simp [e14]; done) | (exfalso; simp_all; done), rfl⟩
      case rest =>
        obtain ⟨hs10, rfl⟩ := hcut
        obtain ⟨tb, htb⟩ : ∃ tb, (K1 == 4 && K2 == 4) = tb := ⟨_, rfl⟩
        rw [htb] at hs10
        subst hs10
        clear htb
        have hne51 : ∀ (fn : Fn) (a b : Array Value) (w : World), (binOp .neq 51 (.func fn a b) .nilFunc).run Tryd.prog w = .ok (.bool true) w := fun _ _ _ _ => by rfl
        have hne54 : ∀ (fn : Fn) (a b : Array Value) (w : World), (binOp .neq 54 (.func fn a b) .nilFunc).run Tryd.prog w = .ok (.bool true) w := fun _ _ _ _ => by rfl
        have hnn51 : ∀ (w : World), (binOp .neq 51 .nilFunc .nilFunc).run Tryd.prog w = .ok (.bool false) w := fun _ => by rfl
        have hnn54 : ∀ (w : World), (binOp .neq 54 .nilFunc .nilFunc).run Tryd.prog w = .ok (.bool false) w := fun _ => by rfl
        go_wp2_with (first | (go_at_call 38; ((with_reducible refine (num_any _ _).mono ?_); rintro e wx ⟨hbx, v, rfl, hv⟩; rw [HF.out] at hv; obtain rfl := hv; (try clear c40 c41 c42 c50 c51 c52 c60 c61 c62 f60 f61 f62 G4 G5 G6); (try clear x40 x41 x42 z4); (try clear x50 x51 x52 z5); (try clear x60 x61 x62 y60 y61 y62 z6); have n4 := Aside0.mk (blk_below (by (with_reducible repeat (first | refine blk_drewN ?_ _ | refine blk_drew ?_ | refine blk_alloc ?_ _)); exact H4.out) hbx); have n5 := Aside0.mk (blk_below (by (with_reducible repeat (first | refine blk_drewN ?_ _ | refine blk_drew ?_ | refine blk_alloc ?_ _)); exact H5.out) hbx); have n6 := Aside0.mk (blk_below (by (with_reducible repeat (first | refine blk_drewN ?_ _ | refine blk_drew ?_ | refine blk_alloc ?_ _)); exact H6.out) hbx); have nB := Aside0.mk (below_step (by repeat (first | (with_reducible first | exact HB.out | apply below_alloc | apply pw_below_drewN | apply below_drew1) | exact HB.out)) hbx); clear H4 H5 H6 HB hbx; have H4 := n4; have H5 := n5; have H6 := n6; have HB := nB; clear n4 n5 n6 nB; obtain ⟨⟨x40, x41, x42⟩, y40, y41, y42⟩ := B23_facts H4.out; have z4 := blk_lt H4.out; clear y40 y41 y42; obtain ⟨⟨x50, x51, x52⟩, y50, y51, y52⟩ := B23_facts H5.out; have z5 := blk_lt H5.out; clear y50 y51 y52; obtain ⟨⟨x60, x61, x62⟩, y60, y61, y62⟩ := B23_facts H6.out; have z6 := blk_lt H6.out)) | (go_at_call 39; ((with_reducible refine (ord_any _ _).mono ?_); rintro e wx ⟨hbx, v, rfl, hv⟩; rw [HO.out] at hv; obtain rfl := hv; (try clear c40 c41 c42 c50 c51 c52 c60 c61 c62 f60 f61 f62 G4 G5 G6); (try clear x40 x41 x42 z4); (try clear x50 x51 x52 z5); (try clear x60 x61 x62 y60 y61 y62 z6); have n4 := Aside0.mk (blk_below (by (with_reducible repeat (first | refine blk_drewN ?_ _ | refine blk_drew ?_ | refine blk_alloc ?_ _)); exact H4.out) hbx); have n5 := Aside0.mk (blk_below (by (with_reducible repeat (first | refine blk_drewN ?_ _ | refine blk_drew ?_ | refine blk_alloc ?_ _)); exact H5.out) hbx); have n6 := Aside0.mk (blk_below (by (with_reducible repeat (first | refine blk_drewN ?_ _ | refine blk_drew ?_ | refine blk_alloc ?_ _)); exact H6.out) hbx); have nB := Aside0.mk (below_step (by repeat (first | (with_reducible first | exact HB.out | apply below_alloc | apply pw_below_drewN | apply below_drew1) | exact HB.out)) hbx); clear H4 H5 H6 HB hbx; have H4 := n4; have H5 := n5; have H6 := n6; have HB := nB; clear n4 n5 n6 nB; obtain ⟨⟨x40, x41, x42⟩, y40, y41, y42⟩ := B23_facts H4.out; have z4 := blk_lt H4.out; clear y40 y41 y42; obtain ⟨⟨x50, x51, x52⟩, y50, y51, y52⟩ := B23_facts H5.out; have z5 := blk_lt H5.out; clear y50 y51 y52; obtain ⟨⟨x60, x61, x62⟩, y60, y61, y62⟩ := B23_facts H6.out; have z6 := blk_lt H6.out)) | (go_at_call 26; ((with_reducible refine (done_any _ _ _ _).mono ?_); rintro e wx ⟨rfl, hbx⟩; (try clear c40 c41 c42 c50 c51 c52 c60 c61 c62 f60 f61 f62 G4 G5 G6); (try clear x40 x41 x42 z4); (try clear x50 x51 x52 z5); (try clear x60 x61 x62 y60 y61 y62 z6); have n4 := Aside0.mk (blk_below (by (with_reducible repeat (first | refine blk_drewN ?_ _ | refine blk_drew ?_ | refine blk_alloc ?_ _)); exact H4.out) hbx); have n5 := Aside0.mk (blk_below (by (with_reducible repeat (first | refine blk_drewN ?_ _ | refine blk_drew ?_ | refine blk_alloc ?_ _)); exact H5.out) hbx); have n6 := Aside0.mk (blk_below (by (with_reducible repeat (first | refine blk_drewN ?_ _ | refine blk_drew ?_ | refine blk_alloc ?_ _)); exact H6.out) hbx); have nB := Aside0.mk (below_step (by repeat (first | (with_reducible first | exact HB.out | apply below_alloc | apply pw_below_drewN | apply below_drew1) | exact HB.out)) hbx); clear H4 H5 H6 HB hbx; have H4 := n4; have H5 := n5; have H6 := n6; have HB := nB; clear n4 n5 n6 nB; obtain ⟨⟨x60, x61, x62⟩, y60, y61, y62⟩ := B23_facts H6.out; have z6 := blk_lt H6.out)))
        try rw [Exit.noGoto_ret]
        refine bodyPost_ret (results_ctt rfl _ _ (w.heap.size + 1 + 1) 23 #[.int .i64 0, .int .i64 0, .string ⟨#[]⟩] (0, 0) _ rfl (bin_fin _ _ _ H6.out).1 Tryd.underlying23 rfl (by kernel_rfl)) rfl ?_
        exact ⟨rfl, (bin_fin _ _ _ H6.out).2 HB.out⟩
end Go.Proofs.YtceahnhpeadkoaaDoor.V
