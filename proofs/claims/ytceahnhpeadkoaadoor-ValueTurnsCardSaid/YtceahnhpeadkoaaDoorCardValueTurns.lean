/- Proved: for any two numbers, their sum is the same the other way round; taken away again, what was added; the opposite's opposite is the number itself. Conditions: the three listed tables of the standard library hold what the program's text lays (the card ties them). -/
import Derived.Test.YtceahnhpeadkoaaDoorLawValueTurns
import Derived.Test.YtceahnhpeadkoaaDoorCards
import Derived.Test.YtceahnhpeadkoaaDoorTie
import Derived.SevenTiedAt
namespace Go.Proofs.YtceahnhpeadkoaaDoor.valueTurns
open Go
theorem card_holds : Claim7.holds Tryd.pinned (.plain (OpenSpec.ofChange Rows.valueTurnsSpec)) Rows.valueTurnsCard :=
  Claim7.holds_tied_plain_at .later [] [.data, .data, .data] true (true, "ea86c8803816414c42614e74fff56d99d4eac26f48c3fc126546a3b05c54edee") false
    over (fun _ h => by cases h) (by kernel_rfl) (fun _ h => by cases h) valueTurns_row_tie rfl ⟨rfl, rfl⟩ (by kernel_rfl) rfl
    (fun f fn hf hfn => by
      obtain rfl : f = 8 := Option.some.inj ((show Tryd.prog.funcNamed "shuck/shucklaw14.ValueTurns" = some 8 by kernel_rfl).symm.trans hf) |>.symm
      obtain rfl : fn = Tryd.f8 := (Option.some.inj (Tryd.func8.symm.trans hfn)).symm
      exact ⟨by kernel_rfl, fun j t ht => by
        rw [Tryd.params8] at ht
        have h3 : t = 3 := by
          rcases j with _ | _ | j
          · exact (by simpa using ht.symm)
          · exact (by simpa using ht.symm)
          · simp at ht
        subst h3
        exact (show Tryd.prog.wantsStandIn 3 = false by kernel_rfl)⟩)
    (by kernel_rfl)
end Go.Proofs.YtceahnhpeadkoaaDoor.valueTurns
namespace Go.Proofs.YtceahnhpeadkoaaDoor
theorem valueTurns_card : Rows.ValueTurnsCardSaid := valueTurns.card_holds
#print axioms valueTurns_card
end Go.Proofs.YtceahnhpeadkoaaDoor
