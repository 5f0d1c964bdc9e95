/- The plain law of ValueBinary. -/
import Derived.Test.YtceahnhpeadkoaaDoorUf
import Derived.Test.YtceahnhpeadkoaaDoorLxBinary
namespace Go.Proofs.YtceahnhpeadkoaaDoor.V
open Go Go.RowKit Go.Proofs.YtceahnhpeadkoaaDoorW.PrintWords Go.Proofs.YtceahnhpeadkoaaDoorW.PrintLast Go.Proofs.YtceahnhpeadkoaaDoorW.PrintMore
set_option linter.unusedVariables false
set_option linter.unusedSimpArgs false
theorem binary_law (op : ByteArray) (k1 n1 : Int) (s1 : ByteArray) (k2 n2 : Int) (s2 : ByteArray) (z0 : op.size ≤ 140737488351232) (z1 : s1.size ≤ 140737488351232) (z2 : s2.size ≤ 140737488351232) :
    shucklaw14_ValueBinary.f 23 op k1 n1 s1 k2 n2 s2 = some true := by
  unfold shucklaw14_ValueBinary.f
  by_cases h : wrap64 (wrap64 ((s1.size : Int) + (s2.size : Int)) + (op.size : Int)) > 210000
  · rw [if_pos h]
    rfl
  · rw [if_neg h]
    have hs : s1.size + s2.size ≤ 210000 := by unfold wrap64 at h; omega
    obtain ⟨r, hr⟩ := bin_some op k1 n1 s1 k2 n2 s2 (by omega) (by omega)
    rw [r_bin op k1 n1 s1 k2 n2 s2 (by omega) (by omega), hr, Option.bind_some, Option.bind_some]
    rw [if_pos (by simp), if_pos rfl, if_pos rfl]
    rfl
end Go.Proofs.YtceahnhpeadkoaaDoor.V
