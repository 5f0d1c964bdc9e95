/- package value's Binary: what it hands back, at any operator and any two values. -/
import Derived.Test.YtceahnhpeadkoaaDoorVx1
import Derived.Test.YtceahnhpeadkoaaDoorHd
import Derived.Test.YtceahnhpeadkoaaDoorHe
namespace Go.Proofs.YtceahnhpeadkoaaDoor.V
open Go.RowKit Go.Proofs.YtceahnhpeadkoaaDoorW.PrintWords Go.Proofs.YtceahnhpeadkoaaDoorW.PrintLast Go.Proofs.YtceahnhpeadkoaaDoorW.PrintMore
attribute [local go_sem] max2_int min2_int max_two min_two max_three min_three max_four min_four   -- for this text's walks alone
attribute [local go_sem high] eqA23
set_option linter.unusedVariables false
set_option linter.unusedSimpArgs false

abbrev V5 := Int × Int × ByteArray × ByteArray × Int
def exactV (n : Int) (ok : Bool) : V5 := if ok = true then (if n > 9007199254740991 then (0, 0, ⟨#[]⟩, ⟨#[]⟩, 2) else if n < -9007199254740991 then (0, 0, ⟨#[]⟩, ⟨#[]⟩, 2) else (3, n, ⟨#[]⟩, ⟨#[]⟩, 0)) else (0, 0, ⟨#[]⟩, ⟨#[]⟩, 2)
def b01 (b : Bool) : Int := if b = true then 1 else 0
def doneB (b : Bool) : V5 := (2, b01 b, ⟨#[]⟩, ⟨#[]⟩, 0)
def throwV (t : ByteArray) : V5 := (0, 0, ⟨#[]⟩, t, 1)
def noNumber : ByteArray := ⟨#[84, 121, 112, 101, 69, 114, 114, 111, 114, 58, 32, 110, 117, 109, 98, 101, 114]⟩
def noOrder : ByteArray := ⟨#[84, 121, 112, 101, 69, 114, 114, 111, 114, 58, 32, 111, 114, 100, 101, 114]⟩
def noSum : ByteArray := ⟨#[84, 121, 112, 101, 69, 114, 114, 111, 114, 58, 32, 43]⟩

theorem exact_f (n : Int) (ok : Bool) : value_exact.f 1 n ok = some (exactV n ok) := by
  unfold value_exact.f exactV
  cases ok <;> simp [value_exact.j0, value_number.f, value_done.f]
  split <;> simp_all
  split <;> simp_all
theorem exact_any (n : Int) (ok : Bool) (w : World) :
    Calls Tryd.prog 37 #[.int .i64 n, .bool ok] w fun e w' => e = .returned (.tuple #[.agg #[.int .i64 (exactV n ok).1, .int .i64 (exactV n ok).2.1, .string (exactV n ok).2.2.1], .string (exactV n ok).2.2.2.1, .int .i64 (exactV n ok).2.2.2.2]) ∧ Below w.heap.size w w' :=
  value_exact.calls 1 n ok _ _ _ _ _ w (exact_f n ok)
theorem truth_any (b : Bool) (w : World) : Calls Tryd.prog 27 #[.bool b] w fun e w' => e = .returned (.agg #[.int .i64 2, .int .i64 (b01 b), .string ⟨#[]⟩]) ∧ Below w.heap.size w w' :=
  value_truth.calls b _ _ _ w (by unfold value_truth.f; cases b <;> rfl)
theorem done_any (k n : Int) (s : ByteArray) (w : World) : Calls Tryd.prog 26 #[.agg #[.int .i64 k, .int .i64 n, .string s]] w fun e w' => e = .returned (.tuple #[.agg #[.int .i64 k, .int .i64 n, .string s], .string ⟨#[]⟩, .int .i64 0]) ∧ Below w.heap.size w w' :=
  value_done.calls k n s _ _ _ _ _ w rfl
theorem throws_any (t : ByteArray) (w : World) : Calls Tryd.prog 28 #[.string t] w fun e w' => e = .returned (.tuple #[.agg #[.int .i64 0, .int .i64 0, .string ⟨#[]⟩], .string t, .int .i64 1]) ∧ Below w.heap.size w w' :=
  value_throws.calls t _ _ _ _ _ w rfl

theorem exact_var (n : Int) (ok : Bool) (w : World) :
    Calls Tryd.prog 37 #[.int .i64 n, .bool ok] w fun e w' => ∃ (v1 v2 : Int) (v3 v4 : ByteArray) (v5 : Int), e = .returned (.tuple #[.agg #[.int .i64 v1, .int .i64 v2, .string v3], .string v4, .int .i64 v5]) ∧ Aside0 (v1 = (exactV n ok).1 ∧ v2 = (exactV n ok).2.1 ∧ v3 = (exactV n ok).2.2.1 ∧ v4 = (exactV n ok).2.2.2.1 ∧ v5 = (exactV n ok).2.2.2.2) ∧ Below w.heap.size w w' :=
  (exact_any n ok w).mono fun _ _ ⟨h1, h2⟩ => ⟨_, _, _, _, _, h1, ⟨rfl, rfl, rfl, rfl, rfl⟩, h2⟩
theorem truth_var (b : Bool) (w : World) : Calls Tryd.prog 27 #[.bool b] w fun e w' => ∃ v2 : Int, e = .returned (.agg #[.int .i64 2, .int .i64 v2, .string ⟨#[]⟩]) ∧ Aside0 (v2 = b01 b) ∧ Below w.heap.size w w' :=
  (truth_any b w).mono fun _ _ ⟨h1, h2⟩ => ⟨_, h1, ⟨rfl⟩, h2⟩
def B23 (k n : Int) (s : ByteArray) : Obj := .cells #[.int .i64 k, .int .i64 n, .string s] 23 (0, 0)
theorem B23_facts {w : World} {g : Nat} {k n : Int} {s : ByteArray} (h : w.heap[g]? = some (B23 k n s)) :
    (w.cell? ⟨g, 0, none⟩ = some (.int .i64 k) ∧ w.cell? ⟨g, 1, none⟩ = some (.int .i64 n) ∧ w.cell? ⟨g, 2, none⟩ = some (.string s)) ∧ (w.frozen? ⟨g, 0, none⟩ = false ∧ w.frozen? ⟨g, 1, none⟩ = false ∧ w.frozen? ⟨g, 2, none⟩ = false) :=
  ⟨⟨(blk_cell h 0).trans rfl, (blk_cell h 1).trans rfl, (blk_cell h 2).trans rfl⟩, blk_frozen h 0, blk_frozen h 1, blk_frozen h 2⟩
theorem bin_fin {w wx : World} {k n : Int} {s : ByteArray} (k' n' : Int) (s' : ByteArray) (h6 : wx.heap[w.heap.size + 1 + 1]? = some (B23 k n s)) :
    (((wx.setCell ⟨w.heap.size + 1 + 1, 0, none⟩ (.int .i64 k')).setCell ⟨w.heap.size + 1 + 1, 1, none⟩ (.int .i64 n')).setCell ⟨w.heap.size + 1 + 1, 2, none⟩ (.string s')).heap[w.heap.size + 1 + 1]? = some (.cells #[.int .i64 k', .int .i64 n', .string s'] 23 (0, 0)) ∧
    (Below w.heap.size w wx → Below w.heap.size w (((wx.setCell ⟨w.heap.size + 1 + 1, 0, none⟩ (.int .i64 k')).setCell ⟨w.heap.size + 1 + 1, 1, none⟩ (.int .i64 n')).setCell ⟨w.heap.size + 1 + 1, 2, none⟩ (.string s'))) := by
  refine ⟨?_, fun hb => ?_⟩
  · exact blk_put (cs := #[.int .i64 k', .int .i64 n', .string s]) (blk_put (cs := #[.int .i64 k', .int .i64 n, .string s]) (blk_put (cs := #[.int .i64 k, .int .i64 n, .string s]) h6 0 _ rfl) 1 _ rfl) 2 _ rfl
  · exact below_set (below_set (below_set hb (by omega)) (by omega)) (by omega)

theorem bin_meet {w wq1 wq2 : World} {k1 n1 k2 n2 K1 N1 K2 N2 : Int} {s1 s2 S1 S2 : ByteArray} (hz2 : Aside0 (Below wq1.heap.size wq1 wq2))
    (hz1 : Aside0 (Below ((((w.alloc (.cells #[.int .i64 k1, .int .i64 n1, .string s1] 23)).alloc (.cells #[.int .i64 k2, .int .i64 n2, .string s2] 23)).alloc (.cells #[.int .i64 0, .int .i64 0, .string ⟨#[]⟩] 23)).drew).heap.size
      ((((w.alloc (.cells #[.int .i64 k1, .int .i64 n1, .string s1] 23)).alloc (.cells #[.int .i64 k2, .int .i64 n2, .string s2] 23)).alloc (.cells #[.int .i64 0, .int .i64 0, .string ⟨#[]⟩] 23)).drew) wq1)) :
    let W := ((((((wq2.setCell ⟨w.heap.size, 0, none⟩ (.int .i64 K1)).setCell ⟨w.heap.size, 1, none⟩ (.int .i64 N1)).setCell ⟨w.heap.size, 2, none⟩ (.string S1)).setCell ⟨w.heap.size + 1, 0, none⟩ (.int .i64 K2)).setCell ⟨w.heap.size + 1, 1, none⟩ (.int .i64 N2)).setCell ⟨w.heap.size + 1, 2, none⟩ (.string S2))
    W.heap[w.heap.size]? = some (B23 K1 N1 S1) ∧ W.heap[w.heap.size + 1]? = some (B23 K2 N2 S2) ∧ W.heap[w.heap.size + 1 + 1]? = some (B23 0 0 ⟨#[]⟩) ∧ Below w.heap.size w W := by
  have hB := hz1.out
  have b4 := blk_below (blk_drew (blk_alloc (blk_alloc (blk_new w (.cells #[.int .i64 k1, .int .i64 n1, .string s1] 23)) (.cells #[.int .i64 k2, .int .i64 n2, .string s2] 23)) (.cells #[.int .i64 0, .int .i64 0, .string ⟨#[]⟩] 23))) hB
  have b5 := blk_below (blk_drew (blk_alloc (blk_new (w.alloc (.cells #[.int .i64 k1, .int .i64 n1, .string s1] 23)) (.cells #[.int .i64 k2, .int .i64 n2, .string s2] 23)) (.cells #[.int .i64 0, .int .i64 0, .string ⟨#[]⟩] 23))) hB
  have b6 := blk_below (blk_drew (blk_new ((w.alloc (.cells #[.int .i64 k1, .int .i64 n1, .string s1] 23)).alloc (.cells #[.int .i64 k2, .int .i64 n2, .string s2] 23)) (.cells #[.int .i64 0, .int .i64 0, .string ⟨#[]⟩] 23))) hB
  have b4 := blk_below b4 hz2.out
  have b5 := blk_below b5 hz2.out
  have b6 := blk_below b6 hz2.out
  rw [World.size_alloc] at b5
  rw [World.size_alloc, World.size_alloc] at b6
  have hW : Below w.heap.size w wq2 := below_step (below_step (below_drew1 (below_alloc (below_alloc (below_alloc (Below.refl _ w) _) _) _)) hB) hz2.out
  refine ⟨?_, ?_, ?_, ?_⟩
  · refine blk_far (blk_far (blk_far ?_ (by simp) _) (by simp) _) (by simp) _
    exact blk_put (cs := #[.int .i64 K1, .int .i64 N1, .string s1]) (blk_put (cs := #[.int .i64 K1, .int .i64 n1, .string s1]) (blk_put (cs := #[.int .i64 k1, .int .i64 n1, .string s1]) b4 0 _ rfl) 1 _ rfl) 2 _ rfl
  · refine blk_put (cs := #[.int .i64 K2, .int .i64 N2, .string s2]) (blk_put (cs := #[.int .i64 K2, .int .i64 n2, .string s2]) (blk_put (cs := #[.int .i64 k2, .int .i64 n2, .string s2]) ?_ 0 _ rfl) 1 _ rfl) 2 _ rfl
    exact blk_far (blk_far (blk_far b5 (by simp) _) (by simp) _) (by simp) _
  · exact blk_far (blk_far (blk_far (blk_far (blk_far (blk_far b6 (by simp; omega) _) (by simp; omega) _) (by simp; omega) _) (by simp) _) (by simp) _) (by simp) _
  · exact below_set (below_set (below_set (below_set (below_set (below_set hW (by omega)) (by omega)) (by omega)) (by omega)) (by omega)) (by omega)

def catV (x y : ByteArray) : V5 := if x.size + y.size ≤ 65536 then (4, 0, x ++ y, ⟨#[]⟩, 0) else (0, 0, ⟨#[]⟩, ⟨#[]⟩, 3)
/-- What Binary hands back, of two values that are plain. -/
def binG (op : List UInt8) (k1 n1 : Int) (s1 : ByteArray) (k2 n2 : Int) (s2 : ByteArray) : Option V5 :=
  if op = [61, 61, 61] then some (doneB (k1 == k2 && (n1 == n2 && s1.toList == s2.toList)))
  else if op = [33, 61, 61] then some (doneB (!k1 == k2 || (!n1 == n2 || !s1.toList == s2.toList)))
  else if op = [43] then
    if (k1 == 3 && k2 == 3) = true then some (exactV (wrap64 (n1 + n2)) true)
    else if (k1 != 5 && k2 != 5 && (k1 == 4 || k2 == 4)) = true then
      (value_Text.f k1 n1 s1).bind fun x => (value_Text.f k2 n2 s2).bind fun y =>
        if x.size ≤ 140737488351232 ∧ y.size ≤ 140737488351232 then some (catV x y) else none
    else some (throwV noSum)
  else match numF op with
    | some F => if (k1 == 3 && k2 == 3) = true then some (exactV (F n1 n2).1 (F n1 n2).2) else some (throwV noNumber)
    | none => match ordF op with
      | some F => if (k1 == 3 && k2 == 3) = true then some (doneB (F (wrap64 (n1 - n2))))
        else if (k1 == 4 && k2 == 4) = true then (if s1.size ≤ 70368744177664 ∧ s2.size ≤ 70368744177664 then some (doneB (F (cmpL (runeL s1) (runeL s2)))) else none)
        else some (throwV noOrder)
      | none => some (0, 0, ⟨#[]⟩, ⟨#[]⟩, 0)
end Go.Proofs.YtceahnhpeadkoaaDoor.V
