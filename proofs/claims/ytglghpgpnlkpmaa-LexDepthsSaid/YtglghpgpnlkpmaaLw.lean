/- The scanner's beginnings: slices.Clone, Begin, Scan. -/
import Derived.Test.YtglghpgpnlkpmaaLm
import Derived.Laws.Cover3
namespace Go.Proofs.Ytglghpgpnlkpmaa.V
open Go.RowKit Go.Proofs.YtglghpgpnlkpmaaW.PrintWords Go.Proofs.YtglghpgpnlkpmaaW.PrintLast Go.Proofs.YtglghpgpnlkpmaaW.PrintMore
attribute [local go_sem] max2_int min2_int max_two min_two max_three min_three max_four min_four   -- for this text's walks alone
set_option linter.unusedVariables false
set_option linter.unusedSimpArgs false
set_option maxHeartbeats 40000000
set_option maxRecDepth 100000
theorem eqlNil22 (a : Option Addr) (l c : Nat) (w : World) : (binOp .eql 22 (.slice a l c) (.slice none 0 0)).run Try.prog w = .ok (.bool a.isNone) w := by
  simp only [binOp]
  simp [run_equal_slice_nil w 22 5 a l c Try.underlying22]
theorem clone_any (A : Option Addr) (c : Nat) (l : List Int) (w : World) (hC : Kd.C (Kd.int .u8) w A l.length l) (hl : l.length ≤ 1000000) (hn0 : A = none → c = 0) :
    Calls Try.prog 26 #[.slice A l.length c] w fun z w' => ∃ v', z = .returned v' ∧ w'.ownsRow w.heap.size 5 1 v' l.length (nums .u8 l) ∧ Below w.heap.size w w' := by
  rcases A with _ | ad
  · have h0 : l = [] := by
      cases l with
      | nil => rfl
      | cons a t =>
        obtain ⟨ad, e, _⟩ := Kd.at_int hC (0 : Int) (by omega) (by simp)
        cases e
    subst h0
    obtain rfl := hn0 rfl
    clear hC hn0
    have hq := eqlNil22 none 0 0
    go_enter Try.func26, Try.ntmps26
    go_wp2
    go_ret
    exact ⟨_, rfl, World.ownsRow_nil _ _ _ _, Below.refl _ _⟩
  · have HO := Aside0.mk (World.ownsRow_made (base := w.heap.size) (e := 5) (size := 1) w #[] 0 (Nat.le_refl _) (by decide) rfl)
    have hb := below_alloc (Below.refl w.heap.size w) (.cells #[] 5)
    have HR := Aside0.mk (Kd.reads_of_C (d := (0 : Int)) (Kd.C_below hC hb))
    have HB := Aside0.mk hb
    have HL : (0 + l.length) * 1 ≤ 140737488355328 := by omega
    have HZ : w.heap.size ≤ (w.alloc (.cells #[] 5)).heap.size := by simp
    clear hC hb hn0
    have hq := eqlNil22 (some ad) l.length c
    go_enter Try.func26, Try.ntmps26
    go_wp2_with ((with_reducible refine gate_dst (N := 7) rfl ?_); refine print_append_row (w0 := w) w.heap.size rfl (.tmp 5) (.tmp 6) 22 5 .u8 1 rfl Try.underlying22 info5 (by decide) _ [] l (some ad) l.length c rfl rfl HO.out HR.out HB.out HZ HL ?_; rintro v1 w5 hO1 hB1 hg1 hb1; have HO5 := Aside0.mk hO1; have HB5 := Aside0.mk hB1; clear hO1 hB1 hg1 hb1)
    go_ret
    exact ⟨v1, rfl, by simpa using HO5.out, HB5.out⟩
theorem begin_any (A : Option Addr) (n c : Nat) (w : World) :
    Calls Try.prog 28 #[.slice A n c] w fun z w' => z = .returned (.pointer (some ⟨w.heap.size, 0, none⟩)) ∧ w' = w.alloc (.cells #[.slice A n c, .int .i64 0, .slice none 0 0] 60) := by
  have hu60 := Try.underlying60
  go_enter Try.func28, Try.ntmps28
  go_wp2
  go_ret
  exact ⟨rfl, rfl⟩
theorem scan_any (A : Option Addr) (c : Nat) (l : List Int) (w : World) (hC : Kd.C (Kd.int .u8) w A l.length l) (hl : l.length ≤ 1000000) (hn0 : A = none → c = 0) :
    Calls Try.prog 16 #[.slice A l.length c] w fun z w' => z = .returned (.func (.func 27) #[] #[.pointer (some ⟨w.heap.size, 0, none⟩)]) ∧ (∃ A' c', w'.heap[w.heap.size]? = some (.cells #[.slice A' l.length c'] 22 (0, 0)) ∧ w'.ownsRow (w.heap.size + 1) 5 1 (.slice A' l.length c') l.length (nums .u8 l)) ∧ Below w.heap.size w w' := by
  have hb := below_alloc (Below.refl w.heap.size w) (.cells #[.slice A l.length c] 22)
  have hn := blk_new w (.cells #[.slice A l.length c] 22)
  have hsz : (w.alloc (.cells #[.slice A l.length c] 22)).heap.size = w.heap.size + 1 := by simp
  have HC := Aside0.mk (Kd.C_below hC hb)
  clear hC
  go_enter Try.func16, Try.ntmps16
  go_upto_region 1 with fail
  generalize w.alloc (.cells #[.slice A l.length c] 22) = w1 at *
  have HB := Aside0.mk hb
  have HN := Aside0.mk (show w1.heap[w.heap.size]? = some (.cells #[.slice A l.length c] 22 (0, 0)) from hn)
  have c0 : w1.cell? ⟨w.heap.size, 0, none⟩ = some (.slice A l.length c) := (blk_cell HN.out 0).trans rfl
  have HCl := Aside0.mk (clone_any A c l w1 HC.out hl hn0)
  have HSz := Aside0.mk hsz
  clear hb hn hsz hn0
  go_wp2_with (go_at_call 26; refine HCl.out.mono ?_; rintro e w2 ⟨v1, rfl, hO, hb⟩; have HN2 := Aside0.mk (blk_below HN.out hb); have HB2 := Aside0.mk (below_step HB.out hb); obtain ⟨A5, c5, rfl⟩ := own_slice hO; have HO2 := Aside0.mk hO; have f0 : w2.frozen? ⟨w.heap.size, 0, none⟩ = false := blk_frozen HN2.out 0; have c02 : w2.cell? ⟨w.heap.size, 0, none⟩ = some (.slice A l.length c) := (blk_cell HN2.out 0).trans rfl; clear hO hb)
  go_ret
  refine ⟨rfl, ⟨A5, c5, blk_put (cs := #[.slice A l.length c]) HN2.out 0 _ rfl, ?_⟩, below_set HB2.out (Nat.le_refl _)⟩
  have h := HO2.out
  rw [HSz.out] at h
  exact h.kept (grown_set w2 w.heap.size 0 _) (by
    rcases h.2 with ⟨e, _⟩ | ⟨j, cap, cur, e, hj, _⟩
    · left; rw [e]; rfl
    · right; rw [e]; simp [Value.ownBlock]; omega)
end Go.Proofs.Ytglghpgpnlkpmaa.V
