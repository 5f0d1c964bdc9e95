/- The reference's Binary, walked by hand, first part: what it is made of. -/
import Derived.Test.YtceahnhpeadkoaaDoorUv
import Derived.Test.YtceahnhpeadkoaaDoorUs
namespace Go.Proofs.YtceahnhpeadkoaaDoor.V
open Go.RowKit Go.Proofs.YtceahnhpeadkoaaDoorW.PrintWords Go.Proofs.YtceahnhpeadkoaaDoorW.PrintLast Go.Proofs.YtceahnhpeadkoaaDoorW.PrintMore
attribute [local go_sem] max2_int min2_int max_two min_two max_three min_three max_four min_four   -- for this text's walks alone
attribute [local go_sem high] eqA23
set_option linter.unusedVariables false
set_option linter.unusedSimpArgs false

def B28 (v : V5) : Obj := .cells #[.int .i64 v.1, .int .i64 v.2.1, .string v.2.2.1, .string v.2.2.2.1, .int .i64 v.2.2.2.2] 28 (0, 0)
def aggV (v : V5) : Value := .agg #[.int .i64 v.1, .int .i64 v.2.1, .string v.2.2.1, .string v.2.2.2.1, .int .i64 v.2.2.2.2]
def zeroV : V5 := (0, 0, ⟨#[]⟩, ⟨#[]⟩, 0)
theorem B28_facts {w : World} {g : Nat} {v : V5} (h : w.heap[g]? = some (B28 v)) :
    (w.cell? ⟨g, 0, none⟩ = some (.int .i64 v.1) ∧ w.cell? ⟨g, 1, none⟩ = some (.int .i64 v.2.1) ∧ w.cell? ⟨g, 2, none⟩ = some (.string v.2.2.1) ∧ w.cell? ⟨g, 3, none⟩ = some (.string v.2.2.2.1) ∧ w.cell? ⟨g, 4, none⟩ = some (.int .i64 v.2.2.2.2)) ∧
    (w.frozen? ⟨g, 0, none⟩ = false ∧ w.frozen? ⟨g, 1, none⟩ = false ∧ w.frozen? ⟨g, 2, none⟩ = false ∧ w.frozen? ⟨g, 3, none⟩ = false ∧ w.frozen? ⟨g, 4, none⟩ = false) :=
  ⟨⟨(blk_cell h 0).trans rfl, (blk_cell h 1).trans rfl, (blk_cell h 2).trans rfl, (blk_cell h 3).trans rfl, (blk_cell h 4).trans rfl⟩, blk_frozen h 0, blk_frozen h 1, blk_frozen h 2, blk_frozen h 3, blk_frozen h 4⟩
def putV (w : World) (g : Nat) (v : V5) : World := ((((w.setCell ⟨g, 0, none⟩ (.int .i64 v.1)).setCell ⟨g, 1, none⟩ (.int .i64 v.2.1)).setCell ⟨g, 2, none⟩ (.string v.2.2.1)).setCell ⟨g, 3, none⟩ (.string v.2.2.2.1)).setCell ⟨g, 4, none⟩ (.int .i64 v.2.2.2.2)
theorem B28_put {w : World} {g : Nat} {u : V5} (h : w.heap[g]? = some (B28 u)) (v : V5) : (putV w g v).heap[g]? = some (B28 v) :=
  blk_put (cs := #[.int .i64 v.1, .int .i64 v.2.1, .string v.2.2.1, .string v.2.2.2.1, .int .i64 u.2.2.2.2]) (blk_put (cs := #[.int .i64 v.1, .int .i64 v.2.1, .string v.2.2.1, .string u.2.2.2.1, .int .i64 u.2.2.2.2]) (blk_put (cs := #[.int .i64 v.1, .int .i64 v.2.1, .string u.2.2.1, .string u.2.2.2.1, .int .i64 u.2.2.2.2]) (blk_put (cs := #[.int .i64 v.1, .int .i64 u.2.1, .string u.2.2.1, .string u.2.2.2.1, .int .i64 u.2.2.2.2]) (blk_put (cs := #[.int .i64 u.1, .int .i64 u.2.1, .string u.2.2.1, .string u.2.2.2.1, .int .i64 u.2.2.2.2]) h 0 _ rfl) 1 _ rfl) 2 _ rfl) 3 _ rfl) 4 _ rfl
theorem putV_below {w0 w : World} {g : Nat} (h : Below w0.heap.size w0 w) (hg : w0.heap.size ≤ g) (v : V5) : Below w0.heap.size w0 (putV w g v) := below_set (below_set (below_set (below_set (below_set h hg) hg) hg) hg) hg
theorem sane_any (k n : Int) (s : ByteArray) (w : World) : Calls Tryd.prog 31 #[.agg #[.int .i64 k, .int .i64 n, .string s]] w fun e w' => e = .returned (.agg #[.int .i64 (plainP k n s).1, .int .i64 (plainP k n s).2.1, .string (plainP k n s).2.2]) ∧ Below w.heap.size w w' :=
  shuckref14_Sane.calls 1 k n s _ _ _ w (sane_P 0 k n s)
theorem rbool_any (b : Bool) (w : World) : Calls Tryd.prog 32 #[.bool b] w fun e w' => e = .returned (.agg #[.int .i64 2, .int .i64 (b01 b), .string ⟨#[]⟩]) ∧ Below w.heap.size w w' :=
  shuckref14_Bool.calls b _ _ _ w (by cases b <;> rfl)
theorem rthrow_any (t : ByteArray) (w : World) : Calls Tryd.prog 33 #[.string t] w fun e w' => e = .returned (.agg #[.int .i64 0, .int .i64 0, .string ⟨#[]⟩, .string t, .int .i64 1]) ∧ Below w.heap.size w w' :=
  shuckref14_Throw.calls t _ _ _ _ _ w rfl
theorem rstring_any (t : ByteArray) (w : World) : Calls Tryd.prog 42 #[.string t] w fun e w' => e = .returned (.agg #[.int .i64 4, .int .i64 0, .string t]) ∧ Below w.heap.size w w' :=
  shuckref14_String.calls t _ _ _ w rfl
theorem u_ord (op : ByteArray) (F : Int → Bool) (d : Int) (h : ordF op.toList = some F) : shuckref14_ordered.f op d = some (F d) := by
  unfold ordF at h
  unfold shuckref14_ordered.f
  by_cases o1 : op.toList = [60]
  · rw [if_pos o1] at h ⊢
    obtain rfl := Option.some.inj h
    rfl
  rw [if_neg o1] at h ⊢
  by_cases o2 : op.toList = [60, 61]
  · rw [if_pos o2] at h ⊢
    obtain rfl := Option.some.inj h
    rfl
  rw [if_neg o2] at h ⊢
  by_cases o3 : op.toList = [62]
  · rw [if_pos o3] at h ⊢
    obtain rfl := Option.some.inj h
    rfl
  rw [if_neg o3] at h ⊢
  by_cases o4 : op.toList = [62, 61]
  · rw [if_pos o4] at h
    obtain rfl := Option.some.inj h
    rfl
  · rw [if_neg o4] at h
    cases h
theorem rordered_any (op : ByteArray) (F : Int → Bool) (d : Int) (hF : ordF op.toList = some F) (w : World) : Calls Tryd.prog 43 #[.string op, .int .i64 d] w fun e w' => e = .returned (.bool (F d)) ∧ Drawn0 w w' :=
  shuckref14_ordered.calls op d _ w (u_ord op F d hF)
theorem numF_cases {l : List UInt8} {F : Int → Int → Int × Bool} (h : numF l = some F) : l = [45] ∨ l = [42] ∨ l = [37] ∨ l = [38] ∨ l = [124] ∨ l = [94] ∨ l = [60, 60] ∨ l = [62, 62] ∨ l = [62, 62, 62] := by
  by_cases p0 : l = [45]
  · exact .inl p0
  by_cases p1 : l = [42]
  · exact .inr (.inl p1)
  by_cases p2 : l = [37]
  · exact .inr (.inr (.inl p2))
  by_cases p3 : l = [38]
  · exact .inr (.inr (.inr (.inl p3)))
  by_cases p4 : l = [124]
  · exact .inr (.inr (.inr (.inr (.inl p4))))
  by_cases p5 : l = [94]
  · exact .inr (.inr (.inr (.inr (.inr (.inl p5)))))
  by_cases p6 : l = [60, 60]
  · exact .inr (.inr (.inr (.inr (.inr (.inr (.inl p6))))))
  by_cases p7 : l = [62, 62]
  · exact .inr (.inr (.inr (.inr (.inr (.inr (.inr (.inl p7)))))))
  by_cases p8 : l = [62, 62, 62]
  · exact .inr (.inr (.inr (.inr (.inr (.inr (.inr (.inr p8)))))))
  unfold numF at h
  rw [if_neg p0, if_neg p1, if_neg p2, if_neg p3, if_neg p4, if_neg p5, if_neg p6, if_neg p7, if_neg p8] at h
  cases h
theorem numF_none {l : List UInt8} (h : numF l = none) : (l == ([45] : List UInt8)) = false ∧ (l == ([42] : List UInt8)) = false ∧ (l == ([37] : List UInt8)) = false ∧ (l == ([38] : List UInt8)) = false ∧ (l == ([124] : List UInt8)) = false ∧ (l == ([94] : List UInt8)) = false ∧ (l == ([60, 60] : List UInt8)) = false ∧ (l == ([62, 62] : List UInt8)) = false ∧ (l == ([62, 62, 62] : List UInt8)) = false := by
  have q : ∀ m : List UInt8, numF m ≠ none → (l == m) = false := fun m hm => beq_eq_false_iff_ne.2 (fun e => hm (by rw [← e]; exact h))
  exact ⟨q _ (by simp [numF]), q _ (by simp [numF]), q _ (by simp [numF]), q _ (by simp [numF]), q _ (by simp [numF]), q _ (by simp [numF]), q _ (by simp [numF]), q _ (by simp [numF]), q _ (by simp [numF])⟩
theorem ordF_cases {l : List UInt8} {F : Int → Bool} (h : ordF l = some F) : l = [60] ∨ l = [60, 61] ∨ l = [62] ∨ l = [62, 61] := by
  by_cases p0 : l = [60]
  · exact .inl p0
  by_cases p1 : l = [60, 61]
  · exact .inr (.inl p1)
  by_cases p2 : l = [62]
  · exact .inr (.inr (.inl p2))
  by_cases p3 : l = [62, 61]
  · exact .inr (.inr (.inr p3))
  unfold ordF at h
  rw [if_neg p0, if_neg p1, if_neg p2, if_neg p3] at h
  cases h
theorem ordF_none {l : List UInt8} (h : ordF l = none) : (l == ([60] : List UInt8)) = false ∧ (l == ([60, 61] : List UInt8)) = false ∧ (l == ([62] : List UInt8)) = false ∧ (l == ([62, 61] : List UInt8)) = false := by
  have q : ∀ m : List UInt8, ordF m ≠ none → (l == m) = false := fun m hm => beq_eq_false_iff_ne.2 (fun e => hm (by rw [← e]; exact h))
  exact ⟨q _ (by simp [ordF]), q _ (by simp [ordF]), q _ (by simp [ordF]), q _ (by simp [ordF])⟩
end Go.Proofs.YtceahnhpeadkoaaDoor.V
