/- The scanner: blanks and remarks. -/
import Derived.Test.YtglghpgpnlkpmaaLb
import Derived.Test.YtglghpgpnlkpmaaWFoot
import Derived.WalkMore
namespace Go.Proofs.Ytglghpgpnlkpmaa.V
open Go.RowKit Go.Proofs.YtglghpgpnlkpmaaW.PrintWords Go.Proofs.YtglghpgpnlkpmaaW.PrintLast Go.Proofs.YtglghpgpnlkpmaaW.PrintMore
attribute [local go_sem] max2_int min2_int max_two min_two max_three min_three max_four min_four   -- for this text's walks alone
set_option linter.unusedVariables false
set_option linter.unusedSimpArgs false
set_option maxRecDepth 100000

/-- All but block g is as it was. -/
structure KeepG (g : Nat) (w w' : World) : Prop where
  os : w'.os = w.os
  tape : w'.tape = w.tape
  output : w'.output = w.output
  size : w.heap.size ≤ w'.heap.size
  block : ∀ k, k < w.heap.size → k ≠ g → w'.heap[k]? = w.heap[k]?
theorem KeepG.refl (g : Nat) (w : World) : KeepG g w w := ⟨rfl, rfl, rfl, Nat.le_refl _, fun _ _ _ => rfl⟩
theorem KeepG.below {g : Nat} {w w1 w2 : World} (h : KeepG g w w1) (hb : Below w1.heap.size w1 w2) : KeepG g w w2 :=
  ⟨hb.os.trans h.os, hb.tape.trans h.tape, hb.output.trans h.output, Nat.le_trans h.size hb.size, fun k hk hn => (hb.block k (Nat.lt_of_lt_of_le hk h.size)).trans (h.block k hk hn)⟩
theorem KeepG.trans {g : Nat} {w w1 w2 : World} (h : KeepG g w w1) (hb : KeepG g w1 w2) : KeepG g w w2 :=
  ⟨hb.os.trans h.os, hb.tape.trans h.tape, hb.output.trans h.output, Nat.le_trans h.size hb.size, fun k hk hn => (hb.block k (Nat.lt_of_lt_of_le hk h.size) hn).trans (h.block k hk hn)⟩
theorem KeepG.set {g : Nat} {w w1 : World} (h : KeepG g w w1) (i : Nat) (u : Value) : KeepG g w (w1.setCell ⟨g, i, none⟩ u) :=
  ⟨h.os, h.tape, h.output, by simpa [World.setCell] using h.size, fun k hk hn => (Below.heap_setCell w1 ⟨g, i, none⟩ u k hn).trans (h.block k hk hn)⟩
theorem KeepG.maxOk {g : Nat} {w w' : World} (hk : KeepG g w w') (h : MaxOk w) (hg : g ≠ 0) : MaxOk w' := by
  obtain ⟨m, hm⟩ := h
  have := hk.block 0 (World.block_lt_of_cell? w _ hm) (Ne.symm hg)
  exact ⟨m, by simpa [World.cell?, this] using hm⟩
/-- The scanner, whose bytes lie below it. -/
def Sg (w : World) (g : Nat) (A : Option Addr) (c : Nat) (l : List Int) (p : Int) (vo : Value) : Prop :=
  Sc w g A c l p vo ∧ ∀ W' : World, (∀ k, k < g → W'.heap[k]? = w.heap[k]?) → Kd.C (Kd.int .u8) W' A l.length l
theorem Sg.below {w w' : World} {g : Nat} {A : Option Addr} {c : Nat} {l : List Int} {p : Int} {vo : Value} (h : Sg w g A c l p vo) (hb : Below w.heap.size w w') : Sg w' g A c l p vo :=
  ⟨h.1.below hb, fun W' hW => h.2 W' (fun k hk => (hW k hk).trans (hb.block k (Nat.lt_trans hk (blk_lt h.1.1))))⟩
theorem Sg.put {w : World} {g : Nat} {A : Option Addr} {c : Nat} {l : List Int} {p : Int} {vo : Value} (h : Sg w g A c l p vo) (q : Int) : Sg (w.setCell ⟨g, 1, none⟩ (.int .i64 q)) g A c l q vo := by
  have hh : ∀ k, k < g → (w.setCell ⟨g, 1, none⟩ (.int .i64 q)).heap[k]? = w.heap[k]? := fun k hk => Below.heap_setCell w ⟨g, 1, none⟩ _ k (show k ≠ g by omega)
  exact ⟨⟨blk_put (cs := #[.slice A l.length c, .int .i64 p, vo]) h.1.1 1 _ rfl, h.2 _ hh, h.1.2.2⟩, fun W' hW => h.2 W' (fun k hk => (hW k hk).trans (hh k hk))⟩
theorem Sg.drewN {w : World} {g : Nat} {A : Option Addr} {c : Nat} {l : List Int} {p : Int} {vo : Value} (h : Sg w g A c l p vo) (n : Nat) : Sg (w.drewN n) g A c l p vo := h.below (pw_below_drewN (Below.refl _ _) n)
theorem KeepG.drewN {g : Nat} {w w1 : World} (h : KeepG g w w1) (n : Nat) : KeepG g w (w1.drewN n) := h.below (pw_below_drewN (Below.refl _ _) n)
/-- How far the scanner at g went. -/
def posAt (w : World) (g : Nat) : Nat := match w.cell? ⟨g, 1, none⟩ with | some (.int _ q) => q.toNat | _ => 0
theorem posAt_of {w : World} {g : Nat} {A : Option Addr} {c : Nat} {l : List Int} {p : Nat} {vo : Value} (h : Sg w g A c l p vo) : posAt w g = p := by
  unfold posAt
  rw [show w.cell? ⟨g, 1, none⟩ = some (.int .i64 p) from (blk_cell h.1.1 1).trans rfl]
  rfl
def blankB (a : Int) : Bool := a == 32 || a == 9 || a == 10 || a == 13
/-- Where the line from i on ends. -/
def lnEnd (l : List Int) : Nat → Nat → Nat
  | 0, i => i
  | f + 1, i => if i < l.length ∧ rd l i ≠ 10 then lnEnd l f (i + 1) else i
theorem lnEnd_le (l : List Int) : ∀ f i, i ≤ l.length → i ≤ lnEnd l f i ∧ lnEnd l f i ≤ l.length
  | 0, i, h => ⟨Nat.le_refl _, h⟩
  | f + 1, i, h => by
    unfold lnEnd
    split
    · rename_i h1
      have := lnEnd_le l f (i + 1) (by omega)
      omega
    · omega
theorem lnEnd_step {l : List Int} {i : Nat} (h : i < l.length) (hn : rd l i ≠ 10) : lnEnd l (l.length - i) i = lnEnd l (l.length - (i + 1)) (i + 1) := by
  rw [show l.length - i = (l.length - (i + 1)) + 1 by omega]
  conv => lhs; unfold lnEnd
  rw [if_pos ⟨h, hn⟩]
theorem lnEnd_stop {l : List Int} {i : Nat} (h : l.length ≤ i ∨ rd l i = 10) : lnEnd l (l.length - i) i = i := by
  generalize l.length - i = f
  cases f
  · rfl
  · unfold lnEnd
    rw [if_neg]
    rintro ⟨h1, h2⟩
    rcases h with h | h
    · omega
    · exact h2 h
/-- Where a remark's end lies behind i: -1: nowhere. -/
def rmk (l : List Int) (i : Nat) : Int := Lib.index (strOfNums (l.drop (i + 2))).data.toList [42, 47]
theorem u8_of (x : Int) (h0 : 0 ≤ x) (h1 : x ≤ 255) (u : UInt8) : (UInt8.ofNat x.toNat == u) = (x == (u.toNat : Int)) := by
  obtain ⟨n, rfl⟩ := Int.eq_ofNat_of_zero_le h0
  rw [Bool.eq_iff_iff, beq_iff_eq, beq_iff_eq]
  constructor
  · rintro rfl
    simp; omega
  · intro h
    have h2 : n = u.toNat := by exact_mod_cast h
    subst h2
    simp
theorem mid2 (l : List Int) (i : Nat) (h : i + 1 < l.length) : (l.take (i + 2)).drop i = [rd l (i : Int), rd l ((i + 1 : Nat) : Int)] := by
  have h1 : i < l.length := by omega
  rw [List.drop_take, show i + 2 - i = 2 by omega, List.drop_eq_getElem_cons h1, List.drop_eq_getElem_cons h]
  have e1 : rd l (i : Int) = l[i] := by simp [rd, List.getD_eq_getElem?_getD, List.getElem?_eq_getElem h1]
  have e2 : rd l ((i + 1 : Nat) : Int) = l[i + 1] := by
    unfold rd
    rw [show (((i + 1 : Nat) : Int)).toNat = i + 1 by omega, List.getD_eq_getElem?_getD, List.getElem?_eq_getElem h]; rfl
  rw [e1, e2]
  rfl
/-- Two bytes at i. -/
theorem has2 (l : List Int) (h8 : ∀ i, 0 ≤ rd l i ∧ rd l i ≤ 255) (i : Nat) (a b : UInt8) : hasP l (i : Int) ⟨#[a, b]⟩ = (decide (i + 1 < l.length) && (rd l (i : Int) == (a.toNat : Int) && rd l ((i + 1 : Nat) : Int) == (b.toNat : Int))) := by
  unfold hasP
  have hz : (⟨#[a, b]⟩ : ByteArray).size = 2 := rfl
  rw [hz]
  by_cases h : i + 1 < l.length
  · have d : decide (((2 : Nat) : Int) ≤ (l.length : Int) - (i : Int)) = true := decide_eq_true (by omega)
    rw [d, decide_eq_true h, show ((i : Int) + ((2 : Nat) : Int)).toNat = i + 2 by omega, show ((i : Int)).toNat = i by omega, mid2 l i h]
    rw [Lib.toList_data, Lib.toList_data]
    simp only [strOfNums, List.map_cons, List.map_nil, Bool.true_and]
    rw [← u8_of _ (h8 _).1 (h8 _).2, ← u8_of _ (h8 _).1 (h8 _).2]
    simp
  · have d : decide (((2 : Nat) : Int) ≤ (l.length : Int) - (i : Int)) = false := decide_eq_false (by omega)
    rw [d, decide_eq_false h]; rfl
def slsl : ByteArray := ⟨#[47, 47]⟩
def slst : ByteArray := ⟨#[47, 42]⟩
/-- Behind blanks and remarks from i on; false: a remark does not end. -/
def ahd (l : List Int) : Nat → Nat → Nat × Bool
  | 0, i => (i, true)
  | f + 1, i =>
    if i < l.length then
      if blankB (rd l i) = true then ahd l f (i + 1)
      else if hasP l i slsl = true then ahd l f (lnEnd l (l.length - i) i)
      else if hasP l i slst = true then if rmk l i < 0 then (i, false) else ahd l f (i + ((rmk l i).toNat + 4))
      else (i, true)
    else (i, true)
theorem blank_ix (a : Int) (h0 : 0 ≤ a) (h1 : a ≤ 255) : decide (0 ≤ Lib.indexByte [32, 9, 10, 13] a.toNat.toUInt8) = blankB a := by
  obtain ⟨n, rfl⟩ := Int.eq_ofNat_of_zero_le h0
  have : ∀ n : Fin 256, decide (0 ≤ Lib.indexByte [32, 9, 10, 13] (n.val).toUInt8) = blankB (n.val : Int) := by decide
  exact this ⟨n, by omega⟩
theorem has_slsl {l : List Int} (h8 : ∀ i, 0 ≤ rd l i ∧ rd l i ≤ 255) {i : Nat} (h : hasP l i slsl = true) : i + 1 < l.length ∧ rd l i = 47 := by
  unfold slsl at h
  rw [has2 l h8] at h
  simp at h
  exact ⟨h.1, h.2.1⟩
theorem index_fits : ∀ s sub : List UInt8, 0 ≤ Lib.index s sub → Lib.index s sub + (sub.length : Int) ≤ (s.length : Int)
  | [], sub, h => by
    unfold Lib.index at h ⊢
    split
    · rename_i h1; have : sub = [] := by simpa using h1
      subst this; simp
    · rename_i h1; rw [if_neg h1] at h; omega
  | b :: s, sub, h => by
    unfold Lib.index at h ⊢
    split
    · rename_i h1
      have := (List.isPrefixOf_iff_prefix.1 h1).length_le
      simp at this ⊢; omega
    · rename_i h1
      rw [if_neg h1] at h
      split
      · rename_i h2; rw [if_pos h2] at h; omega
      · rename_i h2
        rw [if_neg h2] at h
        have h3 : Lib.index s sub ≠ -1 := by simpa using h2
        have h4 := Lib.index_ge s sub
        have := index_fits s sub (by omega)
        simp; omega
/-- More fuel than there are bytes: all the same. -/
theorem ahd_fuel (l : List Int) (h8 : ∀ i, 0 ≤ rd l i ∧ rd l i ≤ 255) : ∀ n f i, l.length - i ≤ n → n < f → ahd l f i = ahd l (n + 1) i := by
  intro n
  induction n with
  | zero =>
    intro f i h1 h2
    obtain ⟨f, rfl⟩ : ∃ f', f = f' + 1 := ⟨f - 1, by omega⟩
    unfold ahd
    rw [if_neg (by omega), if_neg (by omega)]
  | succ n ih =>
    intro f i h1 h2
    obtain ⟨f, rfl⟩ : ∃ f', f = f' + 1 := ⟨f - 1, by omega⟩
    conv => lhs; unfold ahd
    conv => rhs; unfold ahd
    by_cases h : i < l.length
    · rw [if_pos h, if_pos h]
      by_cases hb : blankB (rd l i) = true
      · rw [if_pos hb, if_pos hb]
        exact ih f _ (by omega) (by omega)
      · rw [if_neg hb, if_neg hb]
        by_cases hs : hasP l i slsl = true
        · rw [if_pos hs, if_pos hs]
          have h2 := has_slsl h8 hs
          have h3 := lnEnd_step h (show rd l i ≠ 10 by omega)
          have := lnEnd_le l (l.length - (i + 1)) (i + 1) (by omega)
          exact ih f _ (by omega) (by omega)
        · rw [if_neg hs, if_neg hs]
          by_cases ht : hasP l i slst = true
          · rw [if_pos ht, if_pos ht]
            by_cases hr : rmk l i < 0
            · rw [if_pos hr, if_pos hr]
            · rw [if_neg hr, if_neg hr]
              exact ih f _ (by omega) (by omega)
          · rw [if_neg ht, if_neg ht]
    · rw [if_neg h, if_neg h]
/-- The right amount of fuel. -/
def ahdN (l : List Int) (i : Nat) : Nat × Bool := ahd l (l.length + 1) i
theorem ahdN_end {l : List Int} {i : Nat} (h : l.length ≤ i) : ahdN l i = (i, true) := by
  unfold ahdN ahd
  rw [if_neg (by omega)]
theorem ahdN_blank {l : List Int} (h8 : ∀ i, 0 ≤ rd l i ∧ rd l i ≤ 255) {i : Nat} (h : i < l.length) (hb : blankB (rd l i) = true) : ahdN l i = ahdN l (i + 1) := by
  rw [ahdN, ahdN, ahd_fuel l h8 (l.length - (i + 1)) (l.length + 1) (i + 1) (by omega) (by omega), ← ahd_fuel l h8 (l.length - (i + 1)) l.length (i + 1) (by omega) (by omega)]
  conv => lhs; unfold ahd
  rw [if_pos h, if_pos hb]
theorem ahdN_line {l : List Int} (h8 : ∀ i, 0 ≤ rd l i ∧ rd l i ≤ 255) {i : Nat} (h : i < l.length) (hb : blankB (rd l i) = false) (hs : hasP l i slsl = true) : ahdN l i = ahdN l (lnEnd l (l.length - i) i) := by
  have h2 := has_slsl h8 hs
  have h3 := lnEnd_step h (show rd l i ≠ 10 by omega)
  have := lnEnd_le l (l.length - (i + 1)) (i + 1) (by omega)
  rw [ahdN, ahdN, ahd_fuel l h8 (l.length - (i + 1)) (l.length + 1) (lnEnd l (l.length - i) i) (by omega) (by omega), ← ahd_fuel l h8 (l.length - (i + 1)) l.length (lnEnd l (l.length - i) i) (by omega) (by omega)]
  conv => lhs; unfold ahd
  rw [if_pos h, if_neg (by simp [hb]), if_pos hs]
theorem ahdN_open {l : List Int} {i : Nat} (h : i < l.length) (hb : blankB (rd l i) = false) (hs : hasP l i slsl = false) (ht : hasP l i slst = true) (hr : rmk l i < 0) : ahdN l i = (i, false) := by
  unfold ahdN ahd
  rw [if_pos h, if_neg (by simp [hb]), if_neg (by simp [hs]), if_pos ht, if_pos hr]
theorem ahdN_remark {l : List Int} (h8 : ∀ i, 0 ≤ rd l i ∧ rd l i ≤ 255) {i : Nat} (h : i < l.length) (hb : blankB (rd l i) = false) (hs : hasP l i slsl = false) (ht : hasP l i slst = true) (hr : ¬ rmk l i < 0) : ahdN l i = ahdN l (i + ((rmk l i).toNat + 4)) := by
  rw [ahdN, ahdN, ahd_fuel l h8 (l.length - (i + 1)) (l.length + 1) (i + ((rmk l i).toNat + 4)) (by omega) (by omega), ← ahd_fuel l h8 (l.length - (i + 1)) l.length (i + ((rmk l i).toNat + 4)) (by omega) (by omega)]
  conv => lhs; unfold ahd
  rw [if_pos h, if_neg (by simp [hb]), if_neg (by simp [hs]), if_pos ht, if_neg hr]
theorem ahdN_none {l : List Int} {i : Nat} (h : i < l.length) (hb : blankB (rd l i) = false) (hs : hasP l i slsl = false) (ht : hasP l i slst = false) : ahdN l i = (i, true) := by
  unfold ahdN ahd
  rw [if_pos h, if_neg (by simp [hb]), if_neg (by simp [hs]), if_neg (by simp [ht])]
set_option maxHeartbeats 4000000 in
set_option maxRecDepth 100000 in
theorem blanks_any (g : Nat) (A : Option Addr) (c : Nat) (l : List Int) (p : Nat) (vo : Value) (w : World) (hS : Sg w g A c l p vo) (hM : MaxOk w) (hg0 : g ≠ 0) (hp : p ≤ l.length) (hlm : l.length ≤ 4294967000) (h8 : ∀ i, 0 ≤ rd l i ∧ rd l i ≤ 255) :
    Calls Try.prog 34 #[.pointer (some ⟨g, 0, none⟩)] w fun z w' => z = .returned (.bool (ahdN l p).2) ∧ (ahdN l p).1 ≤ l.length ∧ Sg w' g A c l (ahdN l p).1 vo ∧ KeepG g w w' := by
  have hu60 := Try.underlying60
  have HS := Aside0.mk hS
  have HM := Aside0.mk hM
  obtain ⟨⟨hb, hr, hc, hl⟩, hX⟩ := hS
  have HK0 := Aside0.mk (KeepG.refl g w)
  clear hr hM hb hX
  go_enter Try.func34, Try.ntmps34
  go_upto_block 0 with fail
  go_step3
  go_upto_block 0 with fail
  go_step3
  go_upto_block 0 with fail
  go_cut [2] (fun v wx => v = .bool false ∧ ∃ q : Nat, q ≤ l.length ∧ Aside0 (ahdN l p = (q, true)) ∧ Aside0 (Sg wx g A c l q vo) ∧ Aside0 (KeepG g w wx))
  case first =>
    go_wp2_with fail
    go_loopw [2] (fun v wr => v = .bool false ∧ ∃ k : Nat, k ≤ l.length ∧ Aside0 (ahdN l p = ahdN l k) ∧ Aside0 (Sg wr g A c l k vo) ∧ Aside0 (KeepG g w wr)) (fun _ wr => l.length - posAt wr g)
    case atStart => exact ⟨rfl, p, hp, ⟨rfl⟩, HS, HK0⟩
    case round =>
      obtain ⟨rfl, k, hk, HI, HSr, HK⟩ := hrel
      have c0 : wr.cell? ⟨g, 0, none⟩ = some (.slice A l.length c) := (blk_cell HSr.out.1.1 0).trans rfl
      have c1 : wr.cell? ⟨g, 1, none⟩ = some (.int .i64 k) := (blk_cell HSr.out.1.1 1).trans rfl
      by_cases h1 : k < l.length
      · have q1 : decide ((k : Int) < (l.length : Int)) = true := decide_eq_true (by omega)
        go_wp2_with fail
        go_quiet (fail)
        have HDq := Aside0.mk (Drawn0.mk ⟨nq, (rfl : wr.drewN nq = wr.drewN nq)⟩)
        generalize wr.drewN nq = wd at *
        have HPr := Aside0.mk (posAt_of HSr.out)
        have HSd := Aside0.mk (HSr.out.below HDq.out.below)
        have HKd := Aside0.mk (HK.out.below HDq.out.below)
        clear c0 c1 HDq HSr HK
        have c0 : wd.cell? ⟨g, 0, none⟩ = some (.slice A l.length c) := (blk_cell HSd.out.1.1 0).trans rfl
        have c1 : wd.cell? ⟨g, 1, none⟩ = some (.int .i64 k) := (blk_cell HSd.out.1.1 1).trans rfl
        obtain ⟨ad, e, hx⟩ := Kd.at_int HSd.out.1.2.1 (k : Int) (by omega) (by omega)
        cases e
        replace hx : wd.cell? (ad.add k) = some (.int .u8 (rd l k)) := hx
        have q2 : ((k : Int) < (l.length : Int)) = True := eq_true (by omega)
        have q0 : (0 ≤ (k : Int)) = True := eq_true (by omega)
        have hbx := blank_ix (rd l k) (h8 k).1 (h8 k).2
        have w1 : wrap64 ((k : Int) + 1) = ((k + 1 : Nat) : Int) := by unfold wrap64; omega
        go_wp2_with fail
        cases hB : blankB (rd l k)
        all_goals
          rw [hB] at hbx
          go_quiet ((go_at_call 49; refine Calls.quiet_of_same (Try.strings_IndexByte _ _ _)))
          have HDq := Aside0.mk (Drawn0.mk ⟨nq, (rfl : wd.drewN nq = wd.drewN nq)⟩)
          generalize wd.drewN nq = we at *
          have HSe := Aside0.mk (HSd.out.below HDq.out.below)
          have HKe := Aside0.mk (HKd.out.below HDq.out.below)
          clear c0 c1 HDq HSd HKd hx
          have c0 : we.cell? ⟨g, 0, none⟩ = some (.slice (some ad) l.length c) := (blk_cell HSe.out.1.1 0).trans rfl
          have c1 : we.cell? ⟨g, 1, none⟩ = some (.int .i64 k) := (blk_cell HSe.out.1.1 1).trans rfl
          have f1 : we.frozen? ⟨g, 1, none⟩ = false := blk_frozen HSe.out.1.1 1
        · clear c0 c1 f1
          cases hs : hasP l k ⟨#[47, 47]⟩
          · have HC := Aside0.mk (hs ▸ has_any g (some ad) c l k vo k ⟨#[47, 47]⟩ we HSe.out.1 (by omega) (by omega) (by decide))
            have c1 : we.cell? ⟨g, 1, none⟩ = some (.int .i64 k) := (blk_cell HSe.out.1.1 1).trans rfl
            cases ht : hasP l k ⟨#[47, 42]⟩
            · go_wp2_with (go_at_call 50; first | ((with_reducible refine HC.out.mono ?_); rintro e w2 ⟨rfl, hd⟩; have HS2 := Aside0.mk (HSe.out.below hd.below); have HK2 := Aside0.mk (HKe.out.below hd.below); have c1 : w2.cell? ⟨g, 1, none⟩ = some (.int .i64 k) := (blk_cell HS2.out.1.1 1).trans rfl; have HC2 := Aside0.mk (ht ▸ has_any g (some ad) c l k vo k ⟨#[47, 42]⟩ w2 HS2.out.1 (by omega) (by omega) (by decide)); clear hd) | ((with_reducible refine HC2.out.mono ?_); rintro e w3 ⟨rfl, hd⟩; have HS3 := Aside0.mk (HS2.out.below hd.below); have HK3 := Aside0.mk (HK2.out.below hd.below); clear hd))
              go_meet
              exact ⟨rfl, k, hk, ⟨by rw [HI.out, ahdN_none h1 hB hs ht]⟩, HS3, HK3⟩
            · go_wp2_with (go_at_call 50; first | ((with_reducible refine HC.out.mono ?_); rintro e w2 ⟨rfl, hd⟩; have HS2 := Aside0.mk (HSe.out.below hd.below); have HK2 := Aside0.mk (HKe.out.below hd.below); have c1 : w2.cell? ⟨g, 1, none⟩ = some (.int .i64 k) := (blk_cell HS2.out.1.1 1).trans rfl; have HC2 := Aside0.mk (ht ▸ has_any g (some ad) c l k vo k ⟨#[47, 42]⟩ w2 HS2.out.1 (by omega) (by omega) (by decide)); clear hd) | ((with_reducible refine HC2.out.mono ?_); rintro e w3 ⟨rfl, hd⟩; have HS3 := Aside0.mk (HS2.out.below hd.below); have HK3 := Aside0.mk (HK2.out.below hd.below); clear hd))
              have HM3 := Aside0.mk (HK3.out.maxOk HM.out hg0)
              have hmx := HM3.out
              obtain ⟨mm, hmm⟩ := hmx
              have h47 := has2 l h8 k 47 42
              rw [ht] at h47
              have hk2 : k + 1 < l.length := by simpa using (Bool.and_eq_true_iff.1 h47.symm).1
              have c0 : w3.cell? ⟨g, 0, none⟩ = some (.slice (some ad) l.length c) := (blk_cell HS3.out.1.1 0).trans rfl
              have c1 : w3.cell? ⟨g, 1, none⟩ = some (.int .i64 k) := (blk_cell HS3.out.1.1 1).trans rfl
              have w2_ : wrap64 ((k : Int) + 2) = (k : Int) + 2 := by unfold wrap64; omega
              obtain ⟨i0, hi0', hsz, hzz⟩ := info_parts info5
              obtain ⟨A2, hcut, hA2, hC2⟩ := print_drop_of (P := Try.prog) (Value.int .u8) 0 22 5 .i64 Try.underlying22 hi0' (by first | exact hzz.1 | exact hsz) (some ad) c l ((k : Int) + 2) (by omega) (by omega) hc
              have HR2 := Aside0.mk (Kd.C_of_reads (h1 := fun _ => rfl) (hA2 _ (Kd.reads_of_C HS3.out.1.2.1)))
              have hcv := fun n : Nat => Kd.C_string (P := Try.prog) (A := A2) (c := (c - ((k : Int) + 2).toNat)) Try.underlying22 Try.underlying5 Try.underlying9 (Kd.C_below HR2.out (pw_below_drewN (Below.refl _ _) n))
              clear hA2 hC2 hsz hzz h47
              have hml : (l.drop ((k : Int) + 2).toNat).length = l.length - (k + 2) := by rw [List.length_drop]; omega
              have hrk : rmk l k = Lib.index (strOfNums (l.drop ((k : Int) + 2).toNat)).data.toList [42, 47] := by unfold rmk; rw [show ((k : Int) + 2).toNat = k + 2 by omega]
              obtain ⟨m, hm⟩ : ∃ m, l.drop ((k : Int) + 2).toNat = m := ⟨_, rfl⟩
              obtain ⟨cc, hcc⟩ : ∃ cc, c - ((k : Int) + 2).toNat = cc := ⟨_, rfl⟩
              rw [hm, hcc] at hcut
              rw [hcc, hm] at hcv
              rw [hm] at hml hrk
              clear hcc
              obtain ⟨r, hr⟩ : ∃ r, rmk l k = r := ⟨_, rfl⟩
              have hfit := index_fits (strOfNums m).data.toList [42, 47]
              have hz : (strOfNums m).data.toList.length = l.length - (k + 2) := by rw [Array.length_toList]; exact (strOfNums_size m).trans hml
              rw [← hrk, hr, hz] at hfit
              replace hfit : 0 ≤ r → r + 2 ≤ ((l.length - (k + 2) : Nat) : Int) := hfit
              clear hz
              have HIx := Aside0.mk (show ∀ n, Calls Try.prog 51 #[.string (strOfNums m), .string ⟨#[42, 47]⟩] (w3.drewN n) fun e w' => e = .returned (.int .i64 r) ∧ w' = w3.drewN n from fun n => by
                have hh := Try.strings_Index (strOfNums m) ⟨#[42, 47]⟩ mm (w3.drewN n) (by rw [strOfNums_size]; omega) hmm
                rw [show Lib.index (strOfNums m).data.toList (⟨#[42, 47]⟩ : ByteArray).data.toList = r from hrk.symm.trans hr] at hh
                exact hh)
              have HR := Aside0.mk (And.intro hr hfit)
              clear hr hfit hrk hml hm
              go_wp2_with fail
              go_quiet ((go_at_call 51; refine Calls.quiet_of_same (HIx.out _)))
              have HDq := Aside0.mk (Drawn0.mk ⟨nq, (rfl : w3.drewN nq = w3.drewN nq)⟩)
              clear hcv hcut c0 c1 hmm
              generalize w3.drewN nq = w4 at *
              have HS4 := Aside0.mk (HS3.out.below HDq.out.below)
              have HK4 := Aside0.mk (HK3.out.below HDq.out.below)
              have c1 := (blk_cell HS4.out.1.1 1).trans rfl
              have f1 := blk_frozen HS4.out.1.1 1
              by_cases hr0 : r < 0
              · have d1 : decide (r < 0) = true := decide_eq_true hr0
                go_wp2
                rw [Exit.noGoto_ret]
                go_ret
                have he := HI.out.trans (ahdN_open h1 hB hs ht (show rmk l k < 0 by rw [HR.out.1]; exact hr0))
                exact ⟨by rw [he]; rfl, by rw [he]; exact hk, by rw [he]; exact HS4.out, HK4.out⟩
              · have d1 : decide (r < 0) = false := decide_eq_false hr0
                have hfit := HR.out.2 (by omega)
                have e1 : wrap64 (r + 4) = r + 4 := by unfold wrap64; omega
                have e2 : wrap64 ((k : Int) + (r + 4)) = ((k + (r.toNat + 4) : Nat) : Int) := by unfold wrap64; omega
                have HS5 : Sg (w4.setCell ⟨g, 1, none⟩ (.int .i64 ((k : Int) + (r + 4)))) g (some ad) c l ((k + (r.toNat + 4) : Nat) : Int) vo := by
                  rw [show (k : Int) + (r + 4) = ((k + (r.toNat + 4) : Nat) : Int) by omega]
                  exact HS4.out.put _
                have HS6 := Aside0.mk HS5
                clear HS5
                go_wp2
                go_roundw
                case rel => exact ⟨rfl, k + (r.toNat + 4), by omega, ⟨by rw [HI.out, ahdN_remark h8 h1 hB hs ht (by rw [HR.out.1]; exact hr0), HR.out.1]⟩, HS6, ⟨HK4.out.set 1 _⟩⟩
                case measure => rw [posAt_of HS6.out, HPr.out]; omega
          · have HC := Aside0.mk (hs ▸ has_any g (some ad) c l k vo k ⟨#[47, 47]⟩ we HSe.out.1 (by omega) (by omega) (by decide))
            have c1 : we.cell? ⟨g, 1, none⟩ = some (.int .i64 k) := (blk_cell HSe.out.1.1 1).trans rfl
            go_wp2_with (go_at_call 50; (with_reducible refine HC.out.mono ?_); rintro e w2 ⟨rfl, hd⟩; have HS2 := Aside0.mk (HSe.out.below hd.below); have HK2 := Aside0.mk (HKe.out.below hd.below); clear hd)
            clear c1
            have h47 := (has_slsl h8 hs).2
            have hln := lnEnd_step h1 (show rd l k ≠ 10 by omega)
            have hle := lnEnd_le l (l.length - (k + 1)) (k + 1) (by omega)
            have HLn := Aside0.mk (And.intro hln hle)
            clear hln hle
            go_loopw [63] (fun v wq => ∃ j : Nat, k ≤ j ∧ j ≤ l.length ∧ Aside0 (lnEnd l (l.length - k) k = lnEnd l (l.length - j) j) ∧ Aside0 (Sg wq g (some ad) c l j vo) ∧ Aside0 (KeepG g w wq)) (fun _ wq => l.length - posAt wq g)
            case atStart => exact ⟨k, Nat.le_refl _, hk, ⟨rfl⟩, HS2, HK2⟩
            case round =>
              obtain ⟨j, hj1, hj2, HJ, HSr, HK⟩ := hrel
              have HPj := Aside0.mk (posAt_of HSr.out)
              have c0 := (blk_cell HSr.out.1.1 0).trans rfl
              have c1 := (blk_cell HSr.out.1.1 1).trans rfl
              have f1 := blk_frozen HSr.out.1.1 1
              by_cases hj : j < l.length
              · have dj : decide ((j : Int) < (l.length : Int)) = true := decide_eq_true (by omega)
                have qj : ((j : Int) < (l.length : Int)) = True := eq_true (by omega)
                have q0' : (0 ≤ (j : Int)) = True := eq_true (by omega)
                have hx := Kd.at_int HSr.out.1.2.1 (j : Int) (by omega) (by omega)
                obtain ⟨ad', e, hx⟩ := hx
                cases e
                replace hx : wr.cell? (ad.add j) = some (.int .u8 (rd l j)) := hx
                have w1' : wrap64 ((j : Int) + 1) = ((j + 1 : Nat) : Int) := by unfold wrap64; omega
                cases hz : (rd l j != 10)
                all_goals
                  go_wp2_with fail
                  go_quiet (fail)
                  have HDq := Aside0.mk (Drawn0.mk ⟨nq, (rfl : wr.drewN nq = wr.drewN nq)⟩)
                  generalize wr.drewN nq = wf at *
                  have HSf := Aside0.mk (HSr.out.below HDq.out.below)
                  have HKf := Aside0.mk (HK.out.below HDq.out.below)
                  clear c0 c1 HDq hx f1
                  have c1 := (blk_cell HSf.out.1.1 1).trans rfl
                  have f1 := blk_frozen HSf.out.1.1 1
                · go_wp2
                  have hst : lnEnd l (l.length - k) k = j := HJ.out.trans (lnEnd_stop (.inr (by simpa using hz)))
                  exact ⟨⟨rfl, j, hj2, ⟨by rw [HI.out, ahdN_line h8 h1 hB hs, hst]⟩, HSf, HKf⟩, by rw [posAt_of HSf.out, HPr.out]; have := HLn.out; omega⟩
                · go_wp2
                  exact ⟨⟨j + 1, by omega, by omega, ⟨HJ.out.trans (lnEnd_step hj (by simpa using hz))⟩, ⟨HSf.out.put _⟩, ⟨HKf.out.set 1 _⟩⟩, by rw [show posAt (wf.setCell ⟨g, 1, none⟩ (.int .i64 ((j : Int) + 1))) g = j + 1 from posAt_of (p := j + 1) (HSf.out.put _), HPj.out]; omega⟩
              · have dj : decide ((j : Int) < (l.length : Int)) = false := decide_eq_false (by omega)
                go_wp2_with fail
                go_quiet (fail)
                go_wp2
                have hst : lnEnd l (l.length - k) k = j := HJ.out.trans (lnEnd_stop (.inl (by omega)))
                exact ⟨⟨rfl, j, hj2, ⟨by rw [HI.out, ahdN_line h8 h1 hB hs, hst]⟩, ⟨HSr.out.drewN _⟩, ⟨HK.out.drewN _⟩⟩, by rw [posAt_of (HSr.out.drewN _), HPr.out]; have := HLn.out; omega⟩
        · go_wp2_with fail
          go_roundw
          case rel => exact ⟨rfl, k + 1, by omega, ⟨by rw [HI.out, ahdN_blank h8 h1 hB]⟩, ⟨HSe.out.put _⟩, ⟨HKe.out.set 1 _⟩⟩
          case measure =>
            rw [show posAt (we.setCell ⟨g, 1, none⟩ (.int .i64 ((k : Int) + 1))) g = k + 1 from posAt_of (p := k + 1) (HSe.out.put _), HPr.out]
            omega
      · have q1 : decide ((k : Int) < (l.length : Int)) = false := decide_eq_false (by omega)
        go_wp2_with fail
        go_quiet (fail)
        go_wp2
        go_meet
        exact ⟨rfl, k, hk, ⟨by rw [HI.out, ahdN_end (by omega)]⟩, ⟨HSr.out.drewN _⟩, ⟨HK.out.drewN _⟩⟩
  case rest =>
    obtain ⟨rfl, q, hq, HI, HSc, HKc⟩ := hcut
    go_wp2
    rw [Exit.noGoto_ret]
    go_ret
    exact ⟨by rw [HI.out]; rfl, by rw [HI.out]; exact hq, by rw [HI.out]; exact HSc.out, HKc.out⟩
end Go.Proofs.Ytglghpgpnlkpmaa.V
