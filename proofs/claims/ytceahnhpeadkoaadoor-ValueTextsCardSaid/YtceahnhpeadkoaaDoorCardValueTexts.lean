/- Proved: for every value, value.Truth and value.Text answer what the document's own answer. Conditions: the three listed tables of the standard library hold what the program's text lays (the card ties them). -/
import Derived.Test.YtceahnhpeadkoaaDoorLawValueTexts
import Derived.Test.YtceahnhpeadkoaaDoorCards
import Derived.Test.YtceahnhpeadkoaaDoorTie
import Derived.SevenTiedAt
namespace Go.Proofs.YtceahnhpeadkoaaDoor.valueTexts
open Go
theorem card_holds : Claim7.holds Tryd.pinned (.plain (OpenSpec.ofChange Rows.valueTextsSpec)) Rows.valueTextsCard :=
  Claim7.holds_tied_plain_at .later [] [.data, .data, .data] true (true, "ea86c8803816414c42614e74fff56d99d4eac26f48c3fc126546a3b05c54edee") false
    over (fun _ h => by cases h) (by kernel_rfl) (fun _ h => by cases h) valueTexts_row_tie rfl ⟨rfl, rfl⟩ (by kernel_rfl) rfl
    (fun f fn hf hfn => by
      obtain rfl : f = 6 := Option.some.inj ((show Tryd.prog.funcNamed "shuck/shucklaw14.ValueTexts" = some 6 by kernel_rfl).symm.trans hf) |>.symm
      obtain rfl : fn = Tryd.f6 := (Option.some.inj (Tryd.func6.symm.trans hfn)).symm
      exact ⟨by kernel_rfl, fun j t ht => by
        rw [Tryd.params6] at ht
        have h3 : t = 23 := by
          rcases j with _ | j
          · exact (by simpa using ht.symm)
          · simp at ht
        subst h3
        exact (show Tryd.prog.wantsStandIn 23 = false by kernel_rfl)⟩)
    (by kernel_rfl)
end Go.Proofs.YtceahnhpeadkoaaDoor.valueTexts
namespace Go.Proofs.YtceahnhpeadkoaaDoor
theorem valueTexts_card : Rows.ValueTextsCardSaid := valueTexts.card_holds
#print axioms valueTexts_card
end Go.Proofs.YtceahnhpeadkoaaDoor
