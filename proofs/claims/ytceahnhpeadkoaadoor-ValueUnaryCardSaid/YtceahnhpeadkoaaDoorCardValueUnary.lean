/- Proved: for every operator and every value, value.Unary answers the value, the text and the fault that the document's own Unary answers. Conditions: the three listed tables of the standard library hold what the program's text lays (the card ties them). -/
import Derived.Test.YtceahnhpeadkoaaDoorLawValueUnary
import Derived.Test.YtceahnhpeadkoaaDoorCards
import Derived.Test.YtceahnhpeadkoaaDoorTie
import Derived.SevenTiedAt
namespace Go.Proofs.YtceahnhpeadkoaaDoor.valueUnary
open Go
theorem row_tie : Rows.valueUnaryRow.laidByTextAt .later Tryd.pinned [.data, .data, .data] true :=
  OpenClaim.laidByTextAt_later rfl rfl tie (by kernel_rfl)
theorem card_holds : Claim7.holds Tryd.pinned (.plain (OpenSpec.ofChange Rows.valueUnarySpec)) Rows.valueUnaryCard :=
  Claim7.holds_tied_plain_at .later [] [.data, .data, .data] true (true, "ea86c8803816414c42614e74fff56d99d4eac26f48c3fc126546a3b05c54edee") false
    over (fun _ h => by cases h) (by kernel_rfl) (fun _ h => by cases h) row_tie rfl ⟨rfl, rfl⟩ (by kernel_rfl) rfl
    (fun f fn hf hfn => by
      obtain rfl : f = 3 := Option.some.inj ((show Tryd.prog.funcNamed "shuck/shucklaw14.ValueUnary" = some 3 by kernel_rfl).symm.trans hf) |>.symm
      obtain rfl : fn = Tryd.f3 := (Option.some.inj (Tryd.func3.symm.trans hfn)).symm
      exact ⟨by kernel_rfl, fun j t ht => by
        rw [Tryd.params3] at ht
        have h3 : t = 9 ∨ t = 23 := by
          rcases j with _ | _ | j
          · exact .inl (by simpa using ht.symm)
          · exact .inr (by simpa using ht.symm)
          · simp at ht
        rcases h3 with rfl | rfl
        · exact (show Tryd.prog.wantsStandIn 9 = false by kernel_rfl)
        · exact (show Tryd.prog.wantsStandIn 23 = false by kernel_rfl)⟩)
    (by kernel_rfl)
end Go.Proofs.YtceahnhpeadkoaaDoor.valueUnary
namespace Go.Proofs.YtceahnhpeadkoaaDoor
theorem valueUnary_card : Rows.ValueUnaryCardSaid := valueUnary.card_holds
#print axioms valueUnary_card
end Go.Proofs.YtceahnhpeadkoaaDoor
