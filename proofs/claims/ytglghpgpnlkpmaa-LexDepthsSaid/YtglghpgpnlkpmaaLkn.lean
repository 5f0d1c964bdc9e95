/- shucklaw2.known answers true. -/
import Derived.Test.YtglghpgpnlkpmaaLk
import Derived.Test.YtglghpgpnlkpmaaLz
import Derived.Lib.SlBytesConst
namespace Go.Proofs.Ytglghpgpnlkpmaa.V
open Go.RowKit Go.Shelf Go.Proofs.YtglghpgpnlkpmaaW.PrintWords Go.Proofs.YtglghpgpnlkpmaaW.PrintLast Go.Proofs.YtglghpgpnlkpmaaW.PrintMore
attribute [local go_sem] max2_int min2_int max_two min_two max_three min_three max_four min_four   -- for this text's walks alone
set_option linter.unusedVariables false
set_option linter.unusedSimpArgs false
set_option maxHeartbeats 40000000
set_option maxRecDepth 100000
theorem kn_tokens (A : Option Addr) (c : Nat) (w : World) (hC : Kd.C (Kd.int .u8) w A knL.length knL) (hn0 : A = none → c = 0) (hM : MaxOk w) :
    Calls Try.prog 11 #[.slice A 14 c] w fun z w' => ∃ g cap, z = .returned (.tuple #[.slice (some ⟨g, 0, none⟩) 6 cap, .int .i64 0, .int .i64 0]) ∧ w'.ownsRow w.heap.size 33 4 (.slice (some ⟨g, 0, none⟩) 6 cap) 6 (tkCells knT) ∧ Below w.heap.size w w' := by
  refine (tokens_ok A c knL w hC hn0 (by decide) hM KnP ⟨rfl, .inl rfl⟩ kn_next kn_step knT kn_scan (by decide) (by decide)).mono ?_
  rintro z w' ⟨v, rfl, ho, hb⟩
  obtain ⟨g, cap, rfl⟩ := ownsRow_succ (k := 5) ho
  exact ⟨g, cap, rfl, ho, hb⟩
theorem addr_add (g j : Nat) : (⟨g, 0, none⟩ : Addr).add j = ⟨g, j, none⟩ := by unfold Addr.add; split <;> simp_all
theorem kn_reads {w : World} {g : Nat} {fr : Nat × Nat} (h : w.heap[g]? = some (.cells (knL.map (Value.int .u8)).toArray 5 fr)) : Kd.C (Kd.int .u8) w (some ⟨g, 0, none⟩) knL.length knL := by
  refine Kd.C_of_reads (h1 := fun _ => rfl) (d := (0 : Int)) ⟨rfl, by decide, fun _ => ⟨_, rfl, fun j hj => ?_⟩⟩
  rw [addr_add, cell_of_row w g j _ 5 fr h]
  have hj' : j < knL.length := hj
  simp [List.getElem?_eq_getElem hj', List.getD_eq_getElem?_getD]
theorem known_any (w : World) (hM : MaxOk w) : Calls Try.prog 15 #[] w fun z w' => z = .returned (.bool true) ∧ Below w.heap.size w w' := by
  have hu33 := Try.underlying33
  have hb := below_alloc (Below.refl w.heap.size w) (.cells (knL.map (Value.int .u8)).toArray 5 (14, 15))
  have HT := Aside0.mk (kn_tokens _ 14 _ (kn_reads (blk_new w (.cells (knL.map (Value.int .u8)).toArray 5 (14, 15)))) (fun h => by cases h) (hM.below hb))
  have HB := Aside0.mk hb
  have hcv := Lib.run_convert_bytes_const (P := Try.prog) w 22 5 (knL.map (Value.int .u8)).toArray 14 14 Try.underlying22 Try.underlying5
  rw [show (knL.map (Value.int .u8)).toArray.size = 14 from rfl] at hcv
  simp only [knL, List.map_cons, List.map_nil, Nat.reduceAdd] at HT HB hcv
  clear hb
  go_enter Try.func15, Try.ntmps15
  go_upto_region 2 with (go_at_call 11; refine HT.out.mono ?_; rintro e w1 ⟨g, cap, rfl, ho, hb1⟩; have HO := Aside0.mk ho; have HB1 := Aside0.mk hb1; clear ho hb1)
  have hcell : ∀ (j : Nat) (u : Value), (tkCells knT)[j]? = some u → w1.cell? ⟨g, j, none⟩ = some u := fun j u h => by
    have := HO.out.cells rfl j u h
    rwa [addr_add] at this
  have k0 : w1.cell? ⟨g, 0, none⟩ = some (.int .i64 2) := hcell 0 _ rfl
  have k5 : w1.cell? ⟨g, 5, none⟩ = some (.string ⟨#[120]⟩) := hcell 5 _ rfl
  have k13 : w1.cell? ⟨g, 13, none⟩ = some (.string ⟨#[97, 10]⟩) := hcell 13 _ rfl
  have k15 : w1.cell? ⟨g, 15, none⟩ = some (.int .i64 13) := hcell 15 _ rfl
  have k20 : w1.cell? ⟨g, 20, none⟩ = some (.int .i64 10) := hcell 20 _ rfl
  clear hcell
  go_wp2
  go_ret
  exact ⟨by first | rfl | simp, HB.out.trans (HB1.out.mono HB.out.size)⟩
end Go.Proofs.Ytglghpgpnlkpmaa.V
