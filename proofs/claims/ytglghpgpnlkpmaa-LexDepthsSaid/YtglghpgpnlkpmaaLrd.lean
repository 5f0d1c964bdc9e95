/- A row of tokens, opened. -/
import Derived.Test.YtglghpgpnlkpmaaLr
import Derived.Test.YtglghpgpnlkpmaaPd
import Derived.ChangeArms
import Derived.DataReads
namespace Go.Proofs.Ytglghpgpnlkpmaa
open Go.ChangeShapes Go.WideShapes Go.ChangeAt Go.RowKit Go.Joins
set_option maxRecDepth 100000
theorem c3 : Try.prog.cellsOf 3 = 1 := by kernel_rfl
theorem c9 : Try.prog.cellsOf 9 = 1 := by kernel_rfl
theorem open_toks {H : Type} {enc : TypeId × Value → H} {W : World} {base : Nat} {sp : Nat → Bool} {held : Bool} {A : Option Addr} {n c : Nat} {d : DataW H} {p : List MemPlace}
    (h : DataW.Trod enc Try.prog W base sp held 24 (.slice A n c) d p) : ∃ l : List PLexDepths.S33, l.length = n ∧ n ≤ c ∧ c ≤ maxLen ∧ YtglghpgpnlkpmaaW.PrintWords.Kd.C PLexDepths.k33 W A n l := by
  obtain ⟨fuel, hf⟩ := h
  rcases DataW.trod_slice Try.underlying24 hf with ⟨hcs, _⟩ | ⟨a, len, cap, elems, rest, m, _, hcs, _, hb, hl, hm, hlen, hel, _, _⟩
  · simp [Value.cells] at hcs
    obtain ⟨rfl, rfl, rfl⟩ := hcs
    exact ⟨[], rfl, Nat.le_refl _, Nat.zero_le _, rfl, by decide, fun h => absurd h (by omega)⟩
  · simp [Value.cells] at hcs
    obtain ⟨rfl, rfl, rfl⟩ := hcs
    have one : ∀ i, i < n → ∃ x : PLexDepths.S33, ∀ j u, ([.int .i64 x.f0, .string x.f1, .int .i64 x.f2, .int .i64 x.f3] : List Value)[j]? = some u → W.cell? (a.add (i * 4 + j)) = some u := by
      intro i hi
      have h := hel i hi
      rw [List.getElem?_eq_getElem (by omega), c33, Option.bind_eq_some_iff] at h
      obtain ⟨cs, hcs, ht⟩ := h
      obtain ⟨_, hcl, hcell⟩ := World.cells?_some hcs
      obtain ⟨y0, y1, y2, y3, m2, _, _, h0, h1, h2, h3⟩ := trod_struct4 Try.underlying33 ht
      match cs, hcl with
      | [q0, q1, q2, q3], _ =>
        simp only [c3, c9] at h0 h1 h2 h3
        obtain ⟨k, e0, _, _⟩ := DataW.trod_int Try.underlying3 (show DataW.trod enc Try.prog W base sp held m2 3 [q0] = some y0 from h0)
        obtain ⟨s, e1, _, _⟩ := DataW.trod_string Try.underlying9 (show DataW.trod enc Try.prog W base sp held m2 9 [q1] = some y1 from h1)
        obtain ⟨b, e2, _, _⟩ := DataW.trod_int Try.underlying3 (show DataW.trod enc Try.prog W base sp held m2 3 [q2] = some y2 from h2)
        obtain ⟨e, e3, _, _⟩ := DataW.trod_int Try.underlying3 (show DataW.trod enc Try.prog W base sp held m2 3 [q3] = some y3 from h3)
        obtain rfl := (List.cons.inj e0).1
        obtain rfl := (List.cons.inj e1).1
        obtain rfl := (List.cons.inj e2).1
        obtain rfl := (List.cons.inj e3).1
        refine ⟨⟨k, s, b, e⟩, fun j u hj => ?_⟩
        have hj4 : j < 4 := by
          have := (List.getElem?_eq_some_iff.1 hj).1
          simpa using this
        rw [← Addr.add_add, hcell j hj4]
        exact hj
    have hx : ∃ f : Nat → PLexDepths.S33, ∀ i, i < n → ∀ j u, ([.int .i64 (f i).f0, .string (f i).f1, .int .i64 (f i).f2, .int .i64 (f i).f3] : List Value)[j]? = some u → W.cell? (a.add (i * 4 + j)) = some u := by
      refine ⟨fun i => if h : i < n then Classical.choose (one i h) else PLexDepths.z33, fun i hi => ?_⟩
      simp only [hi, dif_pos]
      exact Classical.choose_spec (one i hi)
    obtain ⟨f, hf⟩ := hx
    refine ⟨(List.range n).map f, by simp, hl, hm, by simp, by unfold maxLen at hm; omega, fun _ => ⟨a, rfl, fun j x hj => ?_⟩⟩
    simp only [List.getElem?_map, Option.map_eq_some_iff] at hj
    obtain ⟨i, hi, rfl⟩ := hj
    obtain ⟨hlt, rfl⟩ := List.getElem?_eq_some_iff.1 hi
    simp only [List.getElem_range]
    simp only [List.length_range] at hlt
    exact ⟨_, rfl, PLexDepths.k33_mk _ _, hf j hlt⟩
end Go.Proofs.Ytglghpgpnlkpmaa
