/- The sizes of texts that came in, by the reach of a machine. -/
import Derived.Test.YtceahnhpeadkoaaDoorLd
import Derived.SizedLaws
namespace Go.Proofs.YtceahnhpeadkoaaDoor
open Go.ChangeShapes Go.WideShapes Go.ChangeAt Go.RowKit Go.Joins
theorem sized_val {H : Type} {ts : List TypeId} {ds : List (DataW H)} (h : (DataW.weightsEach Tryd.prog ts ds).all (· ≤ reachBytes) = true) {j : Nat} {k n : Int} {s : ByteArray} (ht : ts[j]? = some 23)
    (hd : ds[j]? = some (.agg [.lit (.int .i64 k), .lit (.int .i64 n), .lit (.string s.data.toList)])) : s.size ≤ 140737488351232 := by
  have := List.all_eq_true.1 h _ (DataW.weights_mem_each ht hd s.data.toList.length (by simp [DataW.weights, Tryd.underlying23, DataW.weightsEach]))
  rw [Array.length_toList] at this
  exact of_decide_eq_true this
end Go.Proofs.YtceahnhpeadkoaaDoor
