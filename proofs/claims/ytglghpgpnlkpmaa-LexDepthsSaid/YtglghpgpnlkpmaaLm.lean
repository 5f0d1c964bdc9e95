/- The scanner: the next token, in plain words; the scanner's state across stores. -/
import Derived.Test.YtglghpgpnlkpmaaLt
import Derived.Test.YtglghpgpnlkpmaaLq
namespace Go.Proofs.Ytglghpgpnlkpmaa.V
open Go.RowKit Go.Proofs.YtglghpgpnlkpmaaW.PrintWords Go.Proofs.YtglghpgpnlkpmaaW.PrintLast Go.Proofs.YtglghpgpnlkpmaaW.PrintMore
set_option linter.unusedVariables false
set_option linter.unusedSimpArgs false
set_option maxHeartbeats 4000000
set_option maxRecDepth 100000

/-- A template's piece from i on: does a hole stand at its end; where; the bytes that it says. -/
def pieceGo (l : List Int) : Nat → Nat → List Int → Option (Bool × Nat × List Int)
  | 0, _, _ => none
  | f + 1, i, xs => if i < l.length then if rd l i = 96 then some (false, i, xs) else if hasP l i ⟨#[36, 123]⟩ = true then some (true, i, xs) else if (runeK l i xs).2.2 = true then pieceGo l f (runeK l i xs).1.toNat (runeK l i xs).2.1 else none else none
def pieceN (l : List Int) (i : Nat) (xs : List Int) : Option (Bool × Nat × List Int) := pieceGo l (l.length - i + 1) i xs
def pieceP (l : List Int) (ends goes : Int) (p : Nat) : Tk := match pieceN l (p + 1) [] with | some (false, i, xs) => (ends, strOfNums xs, (p : Int), (i : Int) + 1) | some (true, i, xs) => (goes, strOfNums xs, (p : Int), (i : Int) + 2) | none => tk0
def wordP (l : List Int) (q : Nat) : Tk := (wordK (cutS l q (wEnd l (l.length - q) q)), cutS l q (wEnd l (l.length - q) q), (q : Int), ((wEnd l (l.length - q) q : Nat) : Int))
/-- The token at q, and the open brackets behind it. -/
def nextT (l : List Int) (q : Nat) (os : List Bool) : Tk × List Bool :=
  if letterB (rd l q) = true then (wordP l q, os)
  else if digitB (rd l q) = true then (numP l q, os)
  else if rd l q = 34 ∨ rd l q = 39 then (quoteP l (rd l q) q, os)
  else if rd l q = 96 then (pieceP l 5 6 q, if (pieceP l 5 6 q).1 = 6 then os ++ [true] else os)
  else if rd l q = 125 ∧ os.getLast? = some true then (pieceP l 8 7 q, if (pieceP l 8 7 q).1 = 8 then os.dropLast else os)
  else (signP l q, signO l q os)
/-- What Next answers, where it stands behind it, the open brackets behind it. -/
def nextR (l : List Int) (p : Nat) (os : List Bool) : (Tk × Bool) × Int × List Bool :=
  if (ahdN l p).2 = false then (((0, ⟨#[]⟩, ((ahdN l p).1 : Int), 0), false), ((ahdN l p).1 : Int), os)
  else if (ahdN l p).1 = l.length then (((10, ⟨#[]⟩, ((ahdN l p).1 : Int), ((ahdN l p).1 : Int)), true), ((ahdN l p).1 : Int), os)
  else if (nextT l (ahdN l p).1 os).1.1 = 0 then (((0, ⟨#[]⟩, ((ahdN l p).1 : Int), 0), false), ((ahdN l p).1 : Int), (nextT l (ahdN l p).1 os).2)
  else (((nextT l (ahdN l p).1 os).1, true), (nextT l (ahdN l p).1 os).1.2.2.2, (nextT l (ahdN l p).1 os).2)
theorem nextR_open {l : List Int} {p q : Nat} {os : List Bool} (h : ahdN l p = (q, false)) : nextR l p os = (((0, ⟨#[]⟩, (q : Int), 0), false), (q : Int), os) := by simp [nextR, h]
theorem nextR_end {l : List Int} {p q : Nat} {os : List Bool} (h : ahdN l p = (q, true)) (hq : q = l.length) : nextR l p os = (((10, ⟨#[]⟩, (q : Int), (q : Int)), true), (q : Int), os) := by simp [nextR, h, hq]
theorem nextR_bad {l : List Int} {p q : Nat} {os o2 : List Bool} {s : ByteArray} {a e : Int} (h : ahdN l p = (q, true)) (hq : q ≠ l.length) (hT : nextT l q os = ((0, s, a, e), o2)) : nextR l p os = (((0, ⟨#[]⟩, (q : Int), 0), false), (q : Int), o2) := by simp [nextR, h, hq, hT]
theorem nextR_tok {l : List Int} {p q : Nat} {os o2 : List Bool} {k : Int} {s : ByteArray} {a e : Int} (h : ahdN l p = (q, true)) (hq : q ≠ l.length) (hk : k ≠ 0) (hT : nextT l q os = ((k, s, a, e), o2)) : nextR l p os = (((k, s, a, e), true), e, o2) := by simp [nextR, h, hq, hT, hk]
theorem nextT_word {l : List Int} {q : Nat} {os : List Bool} (h : letterB (rd l q) = true) : nextT l q os = (wordP l q, os) := by simp [nextT, h]
theorem nextT_num {l : List Int} {q : Nat} {os : List Bool} (h : letterB (rd l q) = false) (h1 : digitB (rd l q) = true) : nextT l q os = (numP l q, os) := by simp [nextT, h, h1]
theorem nextT_quote {l : List Int} {q : Nat} {os : List Bool} {en : Int} (h : letterB (rd l q) = false) (h1 : digitB (rd l q) = false) (h2 : rd l q = 34 ∨ rd l q = 39) : nextT l q os = (quoteP l (rd l q) q, os) := by simp [nextT, h, h1, h2]
theorem nextT_sign {l : List Int} {q : Nat} {os : List Bool} (h : letterB (rd l q) = false) (h1 : digitB (rd l q) = false) (h2 : rd l q ≠ 34) (h3 : rd l q ≠ 39) (h4 : rd l q ≠ 96) (h5 : ¬ (rd l q = 125 ∧ os.getLast? = some true)) : nextT l q os = (signP l q, signO l q os) := by simp only [nextT, h, h1, h2, h3, h4, h5]; simp

/-! ### The scanner's state across stores -/
theorem own_ne {w : World} {g k n : Nat} {t : TypeId} {vo : Value} {xs : List Value} {cs : Array Value} {fz : Nat × Nat} (h : w.ownsRow g 4 1 vo n xs) (hb : w.heap[k]? = some (.cells cs t fz)) (ht : t ≠ 4) : vo.ownBlock = none ∨ vo.ownBlock ≠ some k := by
  rcases h.2 with ⟨rfl, _⟩ | ⟨j, cap, cur, rfl, _, hj, _⟩
  · exact .inl rfl
  · refine .inr fun e => ?_
    obtain rfl : j = k := by simpa [Value.ownBlock] using e
    rw [hj] at hb
    cases hb
    exact ht rfl
theorem grown_set (W : World) (r i : Nat) (v : Value) : W.grownBy (W.setCell ⟨r, i, none⟩ v) (some r) :=
  ⟨rfl, rfl, rfl, by simp [World.setCell], fun k _ hk => Below.heap_setCell _ _ _ k (fun e => hk (by rw [e]))⟩
theorem Sg.same {w w' : World} {g : Nat} {A : Option Addr} {c : Nat} {l : List Int} {p : Int} {vo : Value} (h : Sg w g A c l p vo) (hs : ∀ k, k ≤ g → w'.heap[k]? = w.heap[k]?) : Sg w' g A c l p vo :=
  ⟨⟨(hs g (Nat.le_refl _)).trans h.1.1, h.2 _ (fun k hk => hs k (by omega)), h.1.2.2⟩, fun W' hW => h.2 W' (fun k hk => (hW k hk).trans (hs k (by omega)))⟩
theorem St.setFar {w : World} {g r : Nat} {A : Option Addr} {c : Nat} {l : List Int} {p : Int} {os : List Bool} {t : TypeId} {cs : Array Value} {fz : Nat × Nat} (h : St w g A c l p os) (hr : g < r) (hb : w.heap[r]? = some (.cells cs t fz)) (ht : t ≠ 4) (i : Nat) (v : Value) : St (w.setCell ⟨r, i, none⟩ v) g A c l p os := by
  obtain ⟨vo, h1, h2⟩ := h
  exact ⟨vo, h1.same (fun k hk => Below.heap_setCell w ⟨r, i, none⟩ v k (show k ≠ r by omega)), h2.kept (grown_set w r i v) (own_ne h2 hb ht)⟩
theorem St.keepG {w w' : World} {g : Nat} {A : Option Addr} {c : Nat} {l : List Int} {p : Int} {p' : Int} {os : List Bool} {vo : Value} (h0 : Sg w g A c l p vo) (h : w.ownsRow g 4 1 vo os.length (os.map Value.bool)) (hs : Sg w' g A c l p' vo) (hk : KeepG g w w') : St w' g A c l p' os :=
  ⟨vo, hs, h.kept (row := some g) ⟨hk.os, hk.tape, hk.output, hk.size, fun k hk1 hn => hk.block k hk1 (fun e => hn (by rw [e]))⟩ (own_ne h h0.1.1 (by decide))⟩
theorem St.put {w : World} {g : Nat} {A : Option Addr} {c : Nat} {l : List Int} {p : Int} {os : List Bool} (h : St w g A c l p os) (q : Int) : St (w.setCell ⟨g, 1, none⟩ (.int .i64 q)) g A c l q os := by
  obtain ⟨vo, h1, h2⟩ := h
  exact ⟨vo, h1.put q, h2.kept (grown_set w g 1 _) (own_ne h2 h1.1.1 (by decide))⟩
theorem KeepO.setFar {g : Nat} {w w1 : World} (h : KeepO g w w1) {r : Nat} (hr : w.heap.size ≤ r) (i : Nat) (v : Value) : KeepO g w (w1.setCell ⟨r, i, none⟩ v) :=
  ⟨h.os, h.tape, h.output, by simpa [World.setCell] using h.size, fun k hk hg hc => (Below.heap_setCell w1 ⟨r, i, none⟩ v k (show k ≠ r by omega)).trans (h.block k hk hg hc)⟩
theorem KeepO.setG {g : Nat} {w w1 : World} (h : KeepO g w w1) (i : Nat) (v : Value) : KeepO g w (w1.setCell ⟨g, i, none⟩ v) :=
  ⟨h.os, h.tape, h.output, by simpa [World.setCell] using h.size, fun k hk hg hc => (Below.heap_setCell w1 ⟨g, i, none⟩ v k hg).trans (h.block k hk hg hc)⟩
theorem KeepO.cells {g : Nat} {w w1 : World} (h : KeepO g w w1) {k : Nat} {t : TypeId} {cs : Array Value} (hk : w.heap[k]? = some (.cells cs t (0, 0))) (hg : k ≠ g) (ht : t ≠ 4) : w1.heap[k]? = some (.cells cs t (0, 0)) :=
  (h.block k (blk_lt hk) hg (.inr fun cur fz e => by rw [hk] at e; cases e; exact ht rfl)).trans hk
theorem KeepO.maxOk {g : Nat} {w w' : World} (hk : KeepO g w w') (h : MaxOk w) (hg : g ≠ 0) : MaxOk w' := by
  obtain ⟨m, hm⟩ := h
  have := hk.block 0 (World.block_lt_of_cell? w _ hm) (Ne.symm hg) (.inl (by omega))
  exact ⟨m, by simpa [World.cell?, this] using hm⟩
/-- A block of another kind than the scanner's, written: it is written. -/
theorem blk_setOther {w : World} {r k : Nat} {o : Obj} (h : w.heap[k]? = some o) (hr : k ≠ r) (i : Nat) (v : Value) : (w.setCell ⟨r, i, none⟩ v).heap[k]? = some o := (Below.heap_setCell w ⟨r, i, none⟩ v k hr).trans h
end Go.Proofs.Ytglghpgpnlkpmaa.V
