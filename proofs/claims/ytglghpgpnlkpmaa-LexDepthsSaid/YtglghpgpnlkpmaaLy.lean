/- Scan's iterator: what it hands on, in plain words, and its walk. -/
import Derived.Test.YtglghpgpnlkpmaaLw
import Derived.RangeFuncNested
import Derived.RangeFuncBound
import Derived.RangeFuncCalls
import Derived.RangeFuncLeaves
import Derived.Shelf.Abstract
import Derived.Shelf.RegionOpen
import Derived.WalkKit
import Derived.OwnWalkIn
import Derived.TacticsInMore
import Derived.LoopNIn
import Derived.LoopIn
import Derived.WalkMore
import Derived.Sort.CutIn
namespace Go.Proofs.Ytglghpgpnlkpmaa.V
open Go.RowKit Go.Shelf Go.Proofs.YtglghpgpnlkpmaaW.PrintWords Go.Proofs.YtglghpgpnlkpmaaW.PrintLast Go.Proofs.YtglghpgpnlkpmaaW.PrintMore
attribute [local go_sem] max2_int min2_int max_two min_two max_three min_three max_four min_four   -- for this text's walks alone
attribute [local go_sem] Oper.semAt_some
set_option linter.unusedVariables false
set_option linter.unusedSimpArgs false
set_option maxHeartbeats 40000000
set_option maxRecDepth 100000
/-- What the iterator hands on from p on, n tokens having come. -/
def scanGo (l : List Int) : Nat → Nat → Nat → List Bool → List (Tk × Int)
  | 0, _, _, _ => []
  | f + 1, n, p, os =>
    if (nextR l p os).1.2 = false then [((0, ⟨#[]⟩, (nextR l p os).1.1.2.2.1, 0), 3)]
    else if n = 8192 ∧ (nextR l p os).1.1.1 ≠ 10 then [((0, ⟨#[]⟩, (nextR l p os).1.1.2.2.1, 0), 4)]
    else if (nextR l p os).1.1.1 = 10 then [((nextR l p os).1.1, 0)]
    else ((nextR l p os).1.1, 0) :: scanGo l f (n + 1) (nextR l p os).2.1.toNat (nextR l p os).2.2
def scanAll (l : List Int) : List (Tk × Int) := if l.length > 65536 then [(tk0, 2)] else scanGo l 8193 0 0 []
def encX (x : Tk × Int) : Array Value := #[tkV x.1, .int .i64 x.2]
theorem scanGo_bad {l : List Int} {f n p : Nat} {os o2 : List Bool} {k a e : Int} {s : ByteArray} {b : Int} (h : nextR l p os = (((k, s, a, e), false), b, o2)) : scanGo l (f + 1) n p os = [((0, ⟨#[]⟩, a, 0), 3)] := by simp [scanGo, h]
theorem scanGo_many {l : List Int} {f p : Nat} {os o2 : List Bool} {k a e : Int} {s : ByteArray} {b : Int} (h : nextR l p os = (((k, s, a, e), true), b, o2)) (hk : k ≠ 10) : scanGo l (f + 1) 8192 p os = [((0, ⟨#[]⟩, a, 0), 4)] := by simp [scanGo, h, hk]
theorem scanGo_end {l : List Int} {f n p : Nat} {os o2 : List Bool} {a e : Int} {s : ByteArray} {b : Int} (h : nextR l p os = (((10, s, a, e), true), b, o2)) : scanGo l (f + 1) n p os = [((10, s, a, e), 0)] := by simp [scanGo, h]
theorem scanGo_tok {l : List Int} {f n p : Nat} {os o2 : List Bool} {k a e : Int} {s : ByteArray} {b : Int} (h : nextR l p os = (((k, s, a, e), true), b, o2)) (hk : k ≠ 10) (hn : n ≠ 8192) : scanGo l (f + 1) n p os = ((k, s, a, e), 0) :: scanGo l f (n + 1) b.toNat o2 := by simp [scanGo, h, hk, hn]

/-- What a round keeps: the scanner, bytes, truth values, the library's variable. -/
structure KeepC (W W' : World) : Prop where
  size : W.heap.size ≤ W'.heap.size
  zero : W'.heap[0]? = W.heap[0]?
  block : ∀ (k : Nat) (cs : Array Value) (t : TypeId) (fz : Nat × Nat), W.heap[k]? = some (Obj.cells cs t fz) → t = 60 ∨ t = 5 ∨ t = 4 → W'.heap[k]? = some (Obj.cells cs t fz)
theorem MaxOk.keepC {W W' : World} (h : MaxOk W) (hk : KeepC W W') : MaxOk W' := by
  obtain ⟨m, hm⟩ := h
  exact ⟨m, by simpa [World.cell?, hk.zero] using hm⟩
/-- The scanner at g over bytes of its own, ahead of it. -/
def It (W : World) (g : Nat) (A : Option Addr) (c : Nat) (l : List Int) (p : Int) (os : List Bool) : Prop :=
  ∃ vo, W.heap[g]? = some (.cells #[.slice A l.length c, .int .i64 p, vo] 60 (0, 0)) ∧ W.ownsRow 0 5 1 (.slice A l.length c) l.length (nums .u8 l) ∧ (∀ b, (Value.slice A l.length c).ownBlock = some b → b < g) ∧ W.ownsRow g 4 1 vo os.length (os.map Value.bool)
theorem own_transfer {W W' : World} {base n size : Nat} {e : TypeId} {v : Value} {xs : List Value} (h : W.ownsRow base e size v n xs) (hs : ∀ b cur, v.ownBlock = some b → W.heap[b]? = some (.cells cur e (0, 0)) → W'.heap[b]? = W.heap[b]?) : W'.ownsRow base e size v n xs := by
  refine ⟨h.1, ?_⟩
  rcases h.2 with hn | ⟨j, cap, cur, rfl, hb, hj, rest⟩
  · exact .inl hn
  · exact .inr ⟨j, cap, cur, rfl, hb, (hs j cur rfl hj).trans hj, rest⟩
theorem It.st {W : World} {g : Nat} {A : Option Addr} {c : Nat} {l : List Int} {p : Int} {os : List Bool} (h : It W g A c l p os) (hl : l.length ≤ 200000) : St W g A c l p os := by
  obtain ⟨vo, h1, h2, h3, h4⟩ := h
  have hk : ∀ W', (∀ k, k < g → W'.heap[k]? = W.heap[k]?) → Kd.C (Kd.int .u8) W' A l.length l := fun W' hW =>
    Kd.C_of_reads (h1 := fun _ => rfl) (own_reads' (own_transfer (W' := W') h2 (fun b cur hb _ => hW b (h3 b hb))))
  have hlc : l.length ≤ c := by
    rcases h2.2 with ⟨e, h0⟩ | ⟨j, cap, cur, e, _, _, hn, _⟩
    · simp at e; omega
    · simp at e; omega
  exact ⟨vo, ⟨⟨h1, hk W (fun _ _ => rfl), hlc, by omega⟩, hk⟩, h4⟩
theorem It.next {W W' : World} {g : Nat} {A : Option Addr} {c : Nat} {l : List Int} {p p' : Int} {os os' : List Bool} (h : It W g A c l p os) (hs : St W' g A c l p' os') (hk : KeepO g W W') : It W' g A c l p' os' := by
  obtain ⟨vo, h1, h2, h3, h4⟩ := h
  obtain ⟨vo', s1, s2⟩ := hs
  exact ⟨vo', s1.1.1, own_transfer h2 (fun b cur hb hc => hk.block b (blk_lt hc) (by have := h3 b hb; omega) (.inl (h3 b hb))), h3, s2⟩
theorem It.below {W W' : World} {g : Nat} {A : Option Addr} {c : Nat} {l : List Int} {p : Int} {os : List Bool} (h : It W g A c l p os) (hb : Below W.heap.size W W') : It W' g A c l p os := by
  obtain ⟨vo, h1, h2, h3, h4⟩ := h
  exact ⟨vo, blk_below h1 hb, pw_own_below h2 hb, h3, pw_own_below h4 hb⟩
theorem It.setFar {W : World} {g r : Nat} {A : Option Addr} {c : Nat} {l : List Int} {p : Int} {os : List Bool} {t : TypeId} {cs : Array Value} {fz : Nat × Nat} (h : It W g A c l p os) (hr : g < r) (hb : W.heap[r]? = some (.cells cs t fz)) (ht : t ≠ 4) (i : Nat) (v : Value) : It (W.setCell ⟨r, i, none⟩ v) g A c l p os := by
  obtain ⟨vo, h1, h2, h3, h4⟩ := h
  exact ⟨vo, blk_setOther h1 (by omega) i v, own_transfer h2 (fun b cur hb' _ => Below.heap_setCell W ⟨r, i, none⟩ v b (show b ≠ r by have := h3 b hb'; omega)), h3, h4.kept (grown_set W r i v) (own_ne h4 hb ht)⟩
theorem It.keepC {W W' : World} {g : Nat} {A : Option Addr} {c : Nat} {l : List Int} {p : Int} {os : List Bool} (h : It W g A c l p os) (hk : KeepC W W') : It W' g A c l p os := by
  obtain ⟨vo, h1, h2, h3, h4⟩ := h
  exact ⟨vo, hk.block _ _ _ _ h1 (.inl rfl), own_transfer h2 (fun b cur _ hc => (hk.block _ _ _ _ hc (.inr (.inl rfl))).trans hc.symm), h3, own_transfer h4 (fun b cur _ hc => (hk.block _ _ _ _ hc (.inr (.inr rfl))).trans hc.symm)⟩
attribute [irreducible] scanGo
/-- 'NextAt': what Next answers at p. -/
def NextAt (g : Nat) (A : Option Addr) (c : Nat) (l : List Int) (p : Nat) (os : List Bool) : Prop := ∀ W : World, St W g A c l p os → MaxOk W →
  Calls Try.prog 29 #[.pointer (some ⟨g, 0, none⟩)] W fun z w' => z = .returned (.tuple #[tkV (nextR l p os).1.1, .bool (nextR l p os).1.2]) ∧ St w' g A c l (nextR l p os).2.1 (nextR l p os).2.2 ∧ KeepO g W w'
theorem scan1_any (n l0 Bb : Nat) (A : Option Addr) (c : Nat) (l : List Int) (w : World) (hbox : w.heap[Bb]? = some (.cells #[.slice A l.length c] 22 (0, 0))) (ho : w.ownsRow 0 5 1 (.slice A l.length c) l.length (nums .u8 l)) (hlm : l.length ≤ 65536) (hM : MaxOk w) (hw0 : 0 < w.heap.size)
    (Pp : Nat → List Bool → Prop) (hP0 : Pp 0 []) (hPn : ∀ p os, Pp p os → NextAt w.heap.size A c l p os) (hPs : ∀ p os, Pp p os → (nextR l p os).1.2 = true → (nextR l p os).1.1.1 ≠ 10 → 0 ≤ (nextR l p os).2.1 ∧ Pp (nextR l p os).2.1.toNat (nextR l p os).2.2)
    (xs : List (Tk × Int)) (hxs : scanGo l 8193 0 0 [] = xs)
    (J Jx : List (Tk × Int) → World → Prop)
    (hJ0 : ∀ W', Below w.heap.size w W' → w.heap.size < W'.heap.size → J [] W')
    (hJ : ∀ pre W W', J pre W → KeepO w.heap.size W W' → J pre W')
    (hY : ∀ pre x rest Wb W tb, xs = pre ++ x :: rest → J pre Wb → KeepO w.heap.size Wb W → Wb.heap.size ≤ tb → tb < W.heap.size → (∃ cs, W.heap[w.heap.size]? = some (.cells cs 60 (0, 0))) → YieldAt Fence.wide (n - 1) Try.prog l0 (encX x) W fun e W' =>
      (e = .returned (.bool true) ∧ J (pre ++ [x]) W' ∧ KeepC W W' ∧ W'.heap[tb]? = W.heap[tb]?) ∨ (e = .returned (.bool false) ∧ Jx (pre ++ [x]) W')) :
    CallsIn Fence.wide n Try.prog 27 #[.func (.yield l0) #[] #[], .pointer (some ⟨Bb, 0, none⟩)] w fun e W' => (∃ v, e = .returned v) ∧ (J xs W' ∨ ∃ pre, pre <+: xs ∧ Jx pre W') := by
  have hu60 := Try.underlying60
  have hu33 := Try.underlying33
  have cB : w.cell? ⟨Bb, 0, none⟩ = some (.slice A l.length c) := (blk_cell hbox 0).trans rfl
  have hd : decide ((65536 : Int) < (l.length : Int)) = false := decide_eq_false (by omega)
  refine callsIn_of_wp Try.func27 rfl trivial ?_ rfl
  simp only [Try.ntmps27, List.size_toArray, List.length_cons, List.length_nil, Nat.reduceAdd, Nat.reduceSub, Array.replicate_succ, Array.replicate_zero, List.push_toArray, List.append_toArray, List.nil_append, List.cons_append]
  refine wpIn_wide.2 (wp_scope_straight ((wpIn_wide (n := n)).1 ?_))
  gi_wp2_with (refine ⟨trivial, (fun h => by cases h), ?_⟩; refine (callsIn_wide.2 (begin_any A l.length c w)).mono ?_; rintro e w1 ⟨rfl, rfl⟩)
  have hB1 := below_alloc (Below.refl w.heap.size w) (.cells #[.slice A l.length c, .int .i64 0, .slice none 0 0] 60)
  have hn1 := blk_new w (.cells #[.slice A l.length c, .int .i64 0, .slice none 0 0] 60)
  have hz1 : w.heap.size < (w.alloc (.cells #[.slice A l.length c, .int .i64 0, .slice none 0 0] 60)).heap.size := by simp
  have hJ1 := hJ0 _ hB1 hz1
  generalize w.alloc (.cells #[.slice A l.length c, .int .i64 0, .slice none 0 0] 60) = w1 at *
  have HI1 := Aside0.mk (show It w1 w.heap.size A c l ((0 : Nat) : Int) [] from ⟨_, hn1, pw_own_below ho hB1, fun b hb => (ho.lt b hb).2, World.ownsRow_nil _ _ _ _⟩)
  have HJ1 := Aside0.mk hJ1
  have HM1 := Aside0.mk (hM.below hB1)
  have HJ := Aside0.mk hJ
  have HY := Aside0.mk hY
  have HPn := Aside0.mk hPn
  have HPs := Aside0.mk hPs
  have HP0 := Aside0.mk hP0
  have HXs := Aside0.mk hxs
  obtain ⟨g, hg⟩ : ∃ g, w.heap.size = g := ⟨_, rfl⟩
  rw [hg] at HI1 HJ HY HPn hw0 ⊢
  clear hJ0 hJ hY hPn hPs hP0 hxs hB1 hn1 hz1 hJ1 hM cB ho hbox hd
  refine wpIn_label ?_
  gi_wp2
  gi_loopw [4] (fun u wr => ∃ (m p : Nat) (os : List Bool) (pre : List (Tk × Int)), u = .int .i64 (m : Int) ∧ m ≤ 8192 ∧ Aside0 (Pp p os) ∧ Aside0 (xs = pre ++ scanGo l (8193 - m) m p os) ∧ Aside0 (It wr g A c l p os) ∧ Aside0 (J pre wr) ∧ Aside0 (MaxOk wr)) (fun u _ => 8193 - (intOf u).toNat)
  case atStart => exact ⟨0, 0, [], [], rfl, by omega, HP0, ⟨by rw [← HXs.out]; rfl⟩, HI1, HJ1, HM1⟩
  case round =>
    obtain ⟨m, p, os, pre, rfl, hm, HPp, HX, HI, HJr, HM⟩ := hrel
    obtain ⟨⟨⟨⟨k, s, a, e⟩, b⟩, pn, on⟩, hR⟩ : ∃ R, nextR l p os = R := ⟨_, rfl⟩
    have hNx := HPn.out p os HPp.out wr (HI.out.st (by omega)) HM.out
    rw [hR] at hNx
    have HNx := Aside0.mk (show Calls Try.prog 29 #[.pointer (some ⟨g, 0, none⟩)] wr fun z w' => z = .returned (.tuple #[.agg #[.int .i64 k, .string s, .int .i64 a, .int .i64 e], .bool b]) ∧ St w' g A c l pn on ∧ KeepO g wr w' from hNx)
    have HR := Aside0.mk hR
    clear hNx hR
    gi_upto_region 6 with (refine ⟨trivial, (fun h => by cases h), ?_⟩; refine (callsIn_wide.2 HNx.out).mono ?_; rintro e2 w2 ⟨rfl, hs2, hk2⟩; have HI2 := Aside0.mk (HI.out.next hs2 hk2); have HK2 := Aside0.mk hk2; clear hs2 hk2)
    have hB3 := below_alloc (Below.refl w2.heap.size w2) (.cells #[.int .i64 k, .string s, .int .i64 a, .int .i64 e] 33)
    have hn3 := blk_new w2 (.cells #[.int .i64 k, .string s, .int .i64 a, .int .i64 e] 33)
    have hz3 : w2.heap.size < (w2.alloc (.cells #[.int .i64 k, .string s, .int .i64 a, .int .i64 e] 33)).heap.size := by simp
    generalize w2.alloc (.cells #[.int .i64 k, .string s, .int .i64 a, .int .i64 e] 33) = w3 at *
    have HI3 := Aside0.mk (HI2.out.below hB3)
    have HK3 := Aside0.mk (HK2.out.below hB3)
    have HZ2 := Aside0.mk HK2.out.size
    obtain ⟨tb, htb⟩ : ∃ tb, w2.heap.size = tb := ⟨_, rfl⟩
    rw [htb] at hn3 hz3 HZ2 ⊢
    have HT3 := Aside0.mk (show w3.heap[tb]? = some (B33 k s a e) from hn3)
    have HZ3 := Aside0.mk hz3
    have HM3 := Aside0.mk (HK3.out.maxOk HM.out (by omega))
    clear hB3 hn3 hz3 HI2 HK2 htb HNx
    obtain ⟨⟨t0, t1, t2, t3⟩, s0, s1, s2, s3⟩ := B33_facts HT3.out
    cases b
    · have hx := HX.out
      rw [show 8193 - m = (8192 - m) + 1 by omega, scanGo_bad HR.out] at hx
      obtain ⟨fn, tmps, assign, body, hy, hRd⟩ := HY.out pre _ [] wr w3 tb hx HJr.out HK3.out HZ2.out HZ3.out (by obtain ⟨vo, h1, _⟩ := HI3.out; exact ⟨_, h1⟩)
      have HXX := Aside0.mk hx
      have HRd := Aside0.mk hRd
      simp only [encX, tkV] at hy
      clear hx hRd
      gi_wp2_with fail
      refine ⟨(fun h => by cases h), HRd.out.mono ?_⟩
      rintro e4 w4 (⟨rfl, hJ4, hk4, ht4⟩ | ⟨rfl, hx4⟩)
      · have HJ4 := Aside0.mk hJ4
        have HT4 := Aside0.mk (show w4.heap[tb]? = some (B33 k s a e) from ht4.trans HT3.out)
        clear hJ4 hk4 ht4
        obtain ⟨⟨r0, r1, r2, r3⟩, q0, q1, q2, q3⟩ := B33_facts HT4.out
        gi_wp2_with fail
        try rw [Exit.noGoto_normal]
        go_end0
        exact ⟨⟨_, rfl⟩, .inl (HXX.out ▸ HJ4.out)⟩
      · have HX4 := Aside0.mk hx4
        clear hx4
        gi_wp2_with fail
        try rw [Exit.noGoto_normal]
        go_end0
        exact ⟨⟨_, rfl⟩, .inr ⟨_, ⟨_, by rw [HXX.out, List.append_nil]⟩, HX4.out⟩⟩
    · by_cases hk : k = 10
      · subst hk
        by_cases hm8 : m = 8192
        · subst hm8
          have hx := HX.out
          rw [show 8193 - 8192 = 0 + 1 from rfl, scanGo_end HR.out] at hx
          obtain ⟨fn, tmps, assign, body, hy, hRd⟩ := HY.out pre _ [] wr w3 tb hx HJr.out HK3.out HZ2.out HZ3.out (by obtain ⟨vo, h1, _⟩ := HI3.out; exact ⟨_, h1⟩)
          have HXX := Aside0.mk hx
          have HRd := Aside0.mk hRd
          simp only [encX, tkV] at hy
          clear hx hRd
          gi_wp2_with fail
          refine ⟨(fun h => by cases h), HRd.out.mono ?_⟩
          rintro e4 w4 (⟨rfl, hJ4, hk4, ht4⟩ | ⟨rfl, hx4⟩)
          · have HJ4 := Aside0.mk hJ4
            have HT4 := Aside0.mk (show w4.heap[tb]? = some (B33 10 s a e) from ht4.trans HT3.out)
            clear hJ4 hk4 ht4
            obtain ⟨⟨r0, r1, r2, r3⟩, q0, q1, q2, q3⟩ := B33_facts HT4.out
            gi_wp2_with fail
            try rw [Exit.noGoto_normal]
            go_end0
            exact ⟨⟨_, rfl⟩, .inl (HXX.out ▸ HJ4.out)⟩
          · have HX4 := Aside0.mk hx4
            clear hx4
            gi_wp2_with fail
            try rw [Exit.noGoto_normal]
            go_end0
            exact ⟨⟨_, rfl⟩, .inr ⟨_, ⟨_, by rw [HXX.out, List.append_nil]⟩, HX4.out⟩⟩
        · have zm : ((m : Int) == 8192) = false := by simp; omega
          have hx := HX.out
          rw [show 8193 - m = (8192 - m) + 1 by omega, scanGo_end HR.out] at hx
          obtain ⟨fn, tmps, assign, body, hy, hRd⟩ := HY.out pre _ [] wr w3 tb hx HJr.out HK3.out HZ2.out HZ3.out (by obtain ⟨vo, h1, _⟩ := HI3.out; exact ⟨_, h1⟩)
          have HXX := Aside0.mk hx
          have HRd := Aside0.mk hRd
          simp only [encX, tkV] at hy
          clear hx hRd
          gi_wp2_with fail
          refine ⟨(fun h => by cases h), HRd.out.mono ?_⟩
          rintro e4 w4 (⟨rfl, hJ4, hk4, ht4⟩ | ⟨rfl, hx4⟩)
          · have HJ4 := Aside0.mk hJ4
            have HT4 := Aside0.mk (show w4.heap[tb]? = some (B33 10 s a e) from ht4.trans HT3.out)
            clear hJ4 hk4 ht4
            obtain ⟨⟨r0, r1, r2, r3⟩, q0, q1, q2, q3⟩ := B33_facts HT4.out
            gi_wp2_with fail
            try rw [Exit.noGoto_normal]
            go_end0
            exact ⟨⟨_, rfl⟩, .inl (HXX.out ▸ HJ4.out)⟩
          · have HX4 := Aside0.mk hx4
            clear hx4
            gi_wp2_with fail
            try rw [Exit.noGoto_normal]
            go_end0
            exact ⟨⟨_, rfl⟩, .inr ⟨_, ⟨_, by rw [HXX.out, List.append_nil]⟩, HX4.out⟩⟩
      · have zk : (k == 10) = false := by simpa using hk
        have zk' : (k != 10) = true := by simpa using hk
        have HKn := Aside0.mk hk
        clear hk
        by_cases hm8 : m = 8192
        · subst hm8
          have hx := HX.out
          rw [show 8193 - 8192 = 0 + 1 from rfl, scanGo_many HR.out HKn.out] at hx
          obtain ⟨fn, tmps, assign, body, hy, hRd⟩ := HY.out pre _ [] wr w3 tb hx HJr.out HK3.out HZ2.out HZ3.out (by obtain ⟨vo, h1, _⟩ := HI3.out; exact ⟨_, h1⟩)
          have HXX := Aside0.mk hx
          have HRd := Aside0.mk hRd
          simp only [encX, tkV] at hy
          clear hx hRd
          gi_wp2_with fail
          refine ⟨(fun h => by cases h), HRd.out.mono ?_⟩
          rintro e4 w4 (⟨rfl, hJ4, hk4, ht4⟩ | ⟨rfl, hx4⟩)
          · have HJ4 := Aside0.mk hJ4
            have HT4 := Aside0.mk (show w4.heap[tb]? = some (B33 k s a e) from ht4.trans HT3.out)
            clear hJ4 hk4 ht4
            obtain ⟨⟨r0, r1, r2, r3⟩, q0, q1, q2, q3⟩ := B33_facts HT4.out
            gi_wp2_with fail
            try rw [Exit.noGoto_normal]
            go_end0
            exact ⟨⟨_, rfl⟩, .inl (HXX.out ▸ HJ4.out)⟩
          · have HX4 := Aside0.mk hx4
            clear hx4
            gi_wp2_with fail
            try rw [Exit.noGoto_normal]
            go_end0
            exact ⟨⟨_, rfl⟩, .inr ⟨_, ⟨_, by rw [HXX.out, List.append_nil]⟩, HX4.out⟩⟩
        · have zm : ((m : Int) == 8192) = false := by simp; omega
          have hx := HX.out
          rw [show 8193 - m = (8192 - m) + 1 by omega, scanGo_tok HR.out HKn.out hm8] at hx
          obtain ⟨fn, tmps, assign, body, hy, hRd⟩ := HY.out pre _ _ wr w3 tb hx HJr.out HK3.out HZ2.out HZ3.out (by obtain ⟨vo, h1, _⟩ := HI3.out; exact ⟨_, h1⟩)
          have HXX := Aside0.mk hx
          have HRd := Aside0.mk hRd
          simp only [encX, tkV] at hy
          clear hx hRd
          gi_wp2_with fail
          refine ⟨(fun h => by cases h), HRd.out.mono ?_⟩
          rintro e4 w4 (⟨rfl, hJ4, hk4, ht4⟩ | ⟨rfl, hx4⟩)
          · have HJ4 := Aside0.mk hJ4
            have HT4 := Aside0.mk (show w4.heap[tb]? = some (B33 k s a e) from ht4.trans HT3.out)
            have HI4 := Aside0.mk (HI3.out.keepC hk4)
            have HM4 := Aside0.mk (HM3.out.keepC hk4)
            have hp := HPs.out p os HPp.out (by rw [HR.out]) (by rw [HR.out]; exact HKn.out)
            rw [HR.out] at hp
            have HP := Aside0.mk hp
            clear hJ4 hk4 ht4 hp
            obtain ⟨⟨r0, r1, r2, r3⟩, q0, q1, q2, q3⟩ := B33_facts HT4.out
            gi_wp2_with fail
            exact ⟨⟨m + 1, pn.toNat, on, _, by go_num, by omega, ⟨HP.out.2⟩, ⟨by rw [show 8193 - (m + 1) = 8192 - m by omega, HXX.out, List.append_assoc]; rfl⟩, ⟨by rw [show ((pn.toNat : Nat) : Int) = pn from Int.toNat_of_nonneg HP.out.1]; exact HI4.out⟩, HJ4, HM4⟩, by simp [intOf]; omega⟩
          · have HX4 := Aside0.mk hx4
            clear hx4
            gi_wp2_with fail
            try rw [Exit.noGoto_normal]
            go_end0
            exact ⟨⟨_, rfl⟩, .inr ⟨_, ⟨_, by rw [HXX.out, List.append_assoc]; rfl⟩, HX4.out⟩⟩
end Go.Proofs.Ytglghpgpnlkpmaa.V
