/- Proved: of any two values (of bulk at most 1048576), of less, the same and more just one holds, if both are numbers or both are good texts; and less or the same is not more. Conditions: the three listed tables of the standard library hold what the program's text lays (the card ties them). -/
import Derived.Test.YtceahnhpeadkoaaDoorLawValueOrder
import Derived.Test.YtceahnhpeadkoaaDoorCards
import Derived.Test.YtceahnhpeadkoaaDoorTie
import Derived.SevenTiedAt
namespace Go.Proofs.YtceahnhpeadkoaaDoor.valueOrder
open Go
theorem card_holds : Claim7.holds Tryd.pinned (.plain (Rows.OpenSpec.upto Rows.valueOrderSpec)) Rows.valueOrderUptoCard :=
  Claim7.holds_tied_plain_at .later [] [.data, .data, .data] true (true, "ea86c8803816414c42614e74fff56d99d4eac26f48c3fc126546a3b05c54edee") false
    over (fun _ h => by cases h) (by kernel_rfl) (fun _ h => by cases h) valueOrderUpto_row_tie rfl ⟨rfl, rfl⟩ (by kernel_rfl) rfl
    (fun f fn hf hfn => by
      obtain rfl : f = 7 := Option.some.inj ((show Tryd.prog.funcNamed "shuck/shucklaw14.ValueOrder" = some 7 by kernel_rfl).symm.trans hf) |>.symm
      obtain rfl : fn = Tryd.f7 := (Option.some.inj (Tryd.func7.symm.trans hfn)).symm
      exact ⟨by kernel_rfl, fun j t ht => by
        rw [Tryd.params7] at ht
        have h3 : t = 23 := by
          rcases j with _ | _ | j
          · exact (by simpa using ht.symm)
          · exact (by simpa using ht.symm)
          · simp at ht
        subst h3
        exact (show Tryd.prog.wantsStandIn 23 = false by kernel_rfl)⟩)
    (by kernel_rfl)
end Go.Proofs.YtceahnhpeadkoaaDoor.valueOrder
namespace Go.Proofs.YtceahnhpeadkoaaDoor
theorem valueOrder_card : Rows.ValueOrderUptoCardSaid := valueOrder.card_holds
#print axioms valueOrder_card
end Go.Proofs.YtceahnhpeadkoaaDoor
