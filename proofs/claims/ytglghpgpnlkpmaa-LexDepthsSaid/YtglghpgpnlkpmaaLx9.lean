/- The law LexDepths, walked. -/
import Derived.Test.YtglghpgpnlkpmaaLkn
import Derived.Test.YtglghpgpnlkpmaaPd
namespace Go.Proofs.Ytglghpgpnlkpmaa.V
open Go.RowKit Go.Shelf Go.Proofs.YtglghpgpnlkpmaaW.PrintWords Go.Proofs.YtglghpgpnlkpmaaW.PrintLast Go.Proofs.YtglghpgpnlkpmaaW.PrintMore
attribute [local go_sem] max2_int min2_int max_two min_two max_three min_three max_four min_four   -- for this text's walks alone
set_option linter.unusedVariables false
set_option linter.unusedSimpArgs false
set_option maxHeartbeats 40000000
set_option maxRecDepth 100000
theorem depths_any (A : Option Addr) (c : Nat) (l : List PLexDepths.S33) (most : Int) (w : World) (hM : MaxOk w) (hC : l.length ≤ 1500 → Kd.C PLexDepths.k33 w A l.length l) (hc : l.length ≤ c) :
    Calls Try.prog 9 #[.slice A l.length c, .int .i64 most] w fun z w' => z = .returned (.bool true) ∧ Below w.heap.size w w' := by
  by_cases h : l.length ≤ 1500
  · obtain ⟨k, ⟨r1, r2⟩, h1, h2⟩ := PLexDepths.depth_same l most h
    have d1 : decide ((1500 : Int) < (l.length : Int)) = false := decide_eq_false (by omega)
    have HC := Aside0.mk (hC h)
    have HC1 := Aside0.mk (PLexDepths.lex_Depth.calls k A c l most r1 r2 w HC.out hc h1)
    have HC2 := Aside0.mk (fun W (hb : Below w.heap.size w W) => PLexDepths.shuckref2_Depth.calls k A c l most r1 r2 W (Kd.C_below HC.out hb) hc h2)
    have HM := Aside0.mk hM
    clear hC hM h1 h2
    go_enter Try.func9, Try.ntmps9
    go_wp2_with (first | (go_at_call 22; refine HC1.out.mono ?_; rintro e2 w2 ⟨rfl, hb⟩; have HB2 := Aside0.mk hb; clear hb) | (go_at_call 23; refine (HC2.out _ HB2.out).mono ?_; rintro e3 w3 ⟨rfl, hb⟩; have HB3 := Aside0.mk (below_step HB2.out hb); have HK := Aside0.mk (known_any w3 (HM.out.below HB3.out)); clear hb) | (go_at_call 15; refine HK.out.mono ?_; rintro e4 w4 ⟨rfl, hb⟩; have HB4 := Aside0.mk (below_step HB3.out hb); clear hb))
    go_ret
    exact ⟨by first | rfl | simp, HB4.out⟩
  · have d1 : decide ((1500 : Int) < (l.length : Int)) = true := decide_eq_true (by omega)
    clear hC
    go_enter Try.func9, Try.ntmps9
    go_wp2
    go_ret
    exact ⟨rfl, Below.refl _ _⟩
end Go.Proofs.Ytglghpgpnlkpmaa.V
