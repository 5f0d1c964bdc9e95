/- What the rows' world gives the walks: the library's variable holds a number; tokens opened and shut. -/
import Derived.Test.YtglghpgpnlkpmaaRows
import Derived.Test.YtglghpgpnlkpmaaLkn
import Derived.HandedShaped
import Derived.ProofKit
import Derived.Shelf.Vars
import Derived.Lib.SmallJoins
namespace Go.Proofs.Ytglghpgpnlkpmaa
open Go.ChangeShapes Go.WideShapes Go.ChangeAt Go.RowKit Go.Joins
theorem own : ownKnob Try.prog.godebug = none := by kernel_rfl
theorem max_of_shape {W : World} (h : W.ShapedOpen Try.prog) : V.MaxOk W :=
  cell_of_shapedOpen_int (P := Try.prog) (g := 0) (t := 3) (zero := #[.int .i64 0]) (k := .i64) h (of_decide_eq_true (by kernel_rfl)) (by kernel_rfl) rfl (by kernel_rfl) (by kernel_rfl) Try.underlying3
theorem c33 : Try.prog.cellsOf 33 = 4 := by kernel_rfl
/-- A token, opened and shut. -/
theorem open_tok {H : Type} {enc : TypeId × Value → H} {W : World} {r : Reach} {b0 base : Nat} {sp : Nat → Bool} {held : Bool} {v : Value} {d : DataW H} {p : List MemPlace}
    (hv : Value.okWide Try.prog W r b0 33 v) (h : DataW.Trod enc Try.prog W base sp held 33 v d p) :
    ∃ (k : Int) (s : ByteArray) (a e : Int), v = .agg #[.int .i64 k, .string s, .int .i64 a, .int .i64 e] ∧ d = .agg [.lit (.int .i64 k), .lit (.string s.data.toList), .lit (.int .i64 a), .lit (.int .i64 e)] ∧ p = [] ∧ (Lit.int .i64 k).wf = true ∧ s.size ≤ maxLen ∧ (Lit.int .i64 a).wf = true ∧ (Lit.int .i64 e).wf = true := by
  obtain ⟨c0, c1, c2, c3, y0, y1, y2, y3, m, rfl, rfl, rfl, hy0, hy1, hy2, hy3⟩ := open_agg4 Try.underlying33 (by kernel_rfl) c33 hv h
  obtain ⟨k, e0, rfl, wk⟩ := DataW.trod_int Try.underlying3 hy0
  obtain ⟨s, e1, rfl, ws⟩ := DataW.trod_string Try.underlying9 hy1
  obtain ⟨a, e2, rfl, wa⟩ := DataW.trod_int Try.underlying3 hy2
  obtain ⟨e, e3, rfl, we⟩ := DataW.trod_int Try.underlying3 hy3
  obtain rfl := (List.cons.inj e0).1
  obtain rfl := (List.cons.inj e1).1
  obtain rfl := (List.cons.inj e2).1
  obtain rfl := (List.cons.inj e3).1
  exact ⟨k, s, a, e, rfl, rfl, rfl, wk, ws, wa, we⟩
theorem shut_tok {H : Type} {enc : TypeId × Value → H} {W : World} {base : Nat} {sp : Nat → Bool} {held : Bool} {k a e : Int} {s : ByteArray} (wk : (Lit.int .i64 k).wf = true) (ws : s.size ≤ maxLen) (wa : (Lit.int .i64 a).wf = true) (we : (Lit.int .i64 e).wf = true) :
    DataW.Trod enc Try.prog W base sp held 33 (.agg #[.int .i64 k, .string s, .int .i64 a, .int .i64 e]) (.agg [.lit (.int .i64 k), .lit (.string s.data.toList), .lit (.int .i64 a), .lit (.int .i64 e)]) [] :=
  shut_agg4 (y0 := (.lit (.int .i64 k), [])) (y1 := (.lit (.string s.data.toList), [])) (y2 := (.lit (.int .i64 a), [])) (y3 := (.lit (.int .i64 e), [])) Try.underlying33 (by kernel_rfl) c33
    ⟨1, trod_int_mk 0 Try.underlying3 wk⟩ ⟨1, by simp [DataW.trod, Try.underlying9, ws]⟩ ⟨1, trod_int_mk 0 Try.underlying3 wa⟩ ⟨1, trod_int_mk 0 Try.underlying3 we⟩
end Go.Proofs.Ytglghpgpnlkpmaa
