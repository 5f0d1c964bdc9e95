/- The plain law of ValueOps. -/
import Derived.Test.YtceahnhpeadkoaaDoorUf
import Derived.Test.YtceahnhpeadkoaaDoorLxOps
namespace Go.Proofs.YtceahnhpeadkoaaDoor.V
open Go Go.RowKit Go.Proofs.YtceahnhpeadkoaaDoorW.PrintWords Go.Proofs.YtceahnhpeadkoaaDoorW.PrintLast Go.Proofs.YtceahnhpeadkoaaDoorW.PrintMore
set_option linter.unusedVariables false
set_option linter.unusedSimpArgs false
theorem ops_step (k : Nat) (hk : 23 ≤ k) (l : List ByteArray) (hl : l.length ≤ 100) (i : Nat) (hi : i < l.length) (a b : Int) :
    shucklaw14_ValueOps.l0 (k + 1) l (i : Int) 3 a ⟨#[]⟩ 3 b ⟨#[]⟩ = shucklaw14_ValueOps.l0 k l ((i + 1 : Nat) : Int) 3 a ⟨#[]⟩ 3 b ⟨#[]⟩ := by
  have hw : wrap64 ((i : Int) + 1) = ((i + 1 : Nat) : Int) := by unfold wrap64; omega
  have z : (⟨#[]⟩ : ByteArray).size ≤ 210000 := Nat.zero_le _
  obtain ⟨r, hr⟩ := bin_some (rdOf ByteArray.empty l (i : Int)) 3 a ⟨#[]⟩ 3 b ⟨#[]⟩ z z
  have h2 := le_rounds (shuckref14_Binary.mono (rdOf ByteArray.empty l (i : Int)) 3 a ⟨#[]⟩ 3 b ⟨#[]⟩) ((r_bin (rdOf ByteArray.empty l (i : Int)) 3 a ⟨#[]⟩ 3 b ⟨#[]⟩ z z).trans hr) hk
  simp only [shucklaw14_ValueOps.l0]
  rw [if_pos (by omega), if_pos (by omega), hr, h2, Option.bind_some, Option.bind_some, if_neg (by simp), if_pos rfl, if_pos rfl, hw]
theorem ops_end (l : List ByteArray) (a b : Int) : shucklaw14_ValueOps.l0 25 l (l.length : Int) 3 a ⟨#[]⟩ 3 b ⟨#[]⟩ = some true := by
  rw [show (25 : Nat) = 24 + 1 from rfl]
  simp only [shucklaw14_ValueOps.l0]
  rw [if_neg (by omega), show (24 : Nat) = 23 + 1 from rfl, unary_P, runary_P, Option.bind_some, Option.bind_some, if_pos (by simp), if_pos rfl, if_pos rfl]
  rfl
theorem ops_all (l : List ByteArray) (hl : l.length ≤ 100) (a b : Int) : ∀ n i : Nat, i + n = l.length → shucklaw14_ValueOps.l0 (n + 25) l (i : Int) 3 a ⟨#[]⟩ 3 b ⟨#[]⟩ = some true
  | 0, i, h => by
    obtain rfl : i = l.length := by omega
    rw [Nat.zero_add]
    exact ops_end l a b
  | n + 1, i, h => by
    rw [show n + 1 + 25 = (n + 25) + 1 by omega, ops_step (n + 25) (by omega) l hl i (by omega) a b]
    exact ops_all l hl a b n (i + 1) (by omega)
theorem ops_law (a b : Int) : shucklaw14_ValueOps.f 41 a b = some true := by
  unfold shucklaw14_ValueOps.f
  exact ops_all _ (by decide) a b 16 0 (by rfl)
end Go.Proofs.YtceahnhpeadkoaaDoor.V
