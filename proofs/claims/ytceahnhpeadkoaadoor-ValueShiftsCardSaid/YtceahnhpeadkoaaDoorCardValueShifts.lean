/- Proved: for any two numbers, the shifts answer what Go's own on 32 digits do, by the lowest five digits of the second. Conditions: the three listed tables of the standard library hold what the program's text lays (the card ties them). -/
import Derived.Test.YtceahnhpeadkoaaDoorLawValueShifts
import Derived.Test.YtceahnhpeadkoaaDoorCards
import Derived.Test.YtceahnhpeadkoaaDoorTie
import Derived.SevenTiedAt
namespace Go.Proofs.YtceahnhpeadkoaaDoor.valueShifts
open Go
theorem card_holds : Claim7.holds Tryd.pinned (.plain (OpenSpec.ofChange Rows.valueShiftsSpec)) Rows.valueShiftsCard :=
  Claim7.holds_tied_plain_at .later [] [.data, .data, .data] true (true, "ea86c8803816414c42614e74fff56d99d4eac26f48c3fc126546a3b05c54edee") false
    over (fun _ h => by cases h) (by kernel_rfl) (fun _ h => by cases h) valueShifts_row_tie rfl ⟨rfl, rfl⟩ (by kernel_rfl) rfl
    (fun f fn hf hfn => by
      obtain rfl : f = 10 := Option.some.inj ((show Tryd.prog.funcNamed "shuck/shucklaw14.ValueShifts" = some 10 by kernel_rfl).symm.trans hf) |>.symm
      obtain rfl : fn = Tryd.f10 := (Option.some.inj (Tryd.func10.symm.trans hfn)).symm
      exact ⟨by kernel_rfl, fun j t ht => by
        rw [Tryd.params10] at ht
        have h3 : t = 3 := by
          rcases j with _ | _ | j
          · exact (by simpa using ht.symm)
          · exact (by simpa using ht.symm)
          · simp at ht
        subst h3
        exact (show Tryd.prog.wantsStandIn 3 = false by kernel_rfl)⟩)
    (by kernel_rfl)
end Go.Proofs.YtceahnhpeadkoaaDoor.valueShifts
namespace Go.Proofs.YtceahnhpeadkoaaDoor
theorem valueShifts_card : Rows.ValueShiftsCardSaid := valueShifts.card_holds
#print axioms valueShifts_card
end Go.Proofs.YtceahnhpeadkoaaDoor
