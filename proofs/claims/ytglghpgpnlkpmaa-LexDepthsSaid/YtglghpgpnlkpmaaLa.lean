/- The scanner's state, and its smallest methods: has, cut. -/
import Derived.Test.YtglghpgpnlkpmaaVx1
import Derived.Test.YtglghpgpnlkpmaaVx2
import Derived.StillTailTactics
namespace Go.Proofs.Ytglghpgpnlkpmaa.V
open Go.RowKit Go.Proofs.YtglghpgpnlkpmaaW.PrintWords Go.Proofs.YtglghpgpnlkpmaaW.PrintLast Go.Proofs.YtglghpgpnlkpmaaW.PrintMore
attribute [local go_sem] max2_int min2_int max_two min_two max_three min_three max_four min_four   -- for this text's walks alone
set_option linter.unusedVariables false
set_option linter.unusedSimpArgs false

/-- The scanner at g: its bytes, how far it went, its open brackets (whatever value). -/
def Sc (w : World) (g : Nat) (A : Option Addr) (c : Nat) (l : List Int) (p : Int) (vo : Value) : Prop :=
  w.heap[g]? = some (.cells #[.slice A l.length c, .int .i64 p, vo] 60 (0, 0)) ∧ Kd.C (Kd.int .u8) w A l.length l ∧ l.length ≤ c ∧ l.length ≤ 4294967296
theorem Sc.below {w w' : World} {g : Nat} {A : Option Addr} {c : Nat} {l : List Int} {p : Int} {vo : Value} (h : Sc w g A c l p vo) (hb : Below w.heap.size w w') : Sc w' g A c l p vo :=
  ⟨blk_below h.1 hb, Kd.C_below h.2.1 hb, h.2.2⟩
def hasP (l : List Int) (i : Int) (x : ByteArray) : Bool := decide ((x.size : Int) ≤ (l.length : Int) - i) && ((strOfNums ((l.take (i + (x.size : Int)).toNat).drop i.toNat)).toList == x.toList)
theorem w64 {n : Int} (h0 : -9223372036854775808 ≤ n) (h1 : n ≤ 9223372036854775807) : wrap64 n = n := by unfold wrap64; omega
set_option maxHeartbeats 2000000 in
set_option maxRecDepth 100000 in
theorem has_any (g : Nat) (A : Option Addr) (c : Nat) (l : List Int) (p : Int) (vo : Value) (i : Int) (x : ByteArray) (w : World) (hS : Sc w g A c l p vo) (hi0 : 0 ≤ i) (hi1 : i ≤ 8589934592) (hx : x.size ≤ 1000) :
    Calls Try.prog 50 #[.pointer (some ⟨g, 0, none⟩), .int .i64 i, .string x] w fun e w' => e = .returned (.bool (hasP l i x)) ∧ Drawn0 w w' := by
  have hu60 := Try.underlying60
  obtain ⟨hb, hr, hc, hl⟩ := hS
  have HR := Aside0.mk hr
  have c0 : w.cell? ⟨g, 0, none⟩ = some (.slice A l.length c) := (blk_cell hb 0).trans rfl
  clear hr hb
  have e1 : wrap64 ((l.length : Int) - i) = (l.length : Int) - i := w64 (by omega) (by omega)
  have e2 : wrap64 (i + (x.size : Int)) = i + (x.size : Int) := w64 (by omega) (by omega)
  by_cases h : (x.size : Int) ≤ (l.length : Int) - i
  · obtain ⟨i0, hi0', hsz, hzz⟩ := info_parts info5
    obtain ⟨A2, hcut, hA2, hC2⟩ := print_mid_of (P := Try.prog) (Value.int .u8) 0 22 5 .i64 .i64 Try.underlying22 hi0' (by first | exact hzz.1 | exact hsz) A c l i (i + (x.size : Int)) hi0 (by omega) (by omega) hc
    have HR2 := Aside0.mk (Kd.C_of_reads (h1 := fun _ => rfl) (hA2 _ (Kd.reads_of_C HR.out)))
    have hcv := Kd.C_string (P := Try.prog) (A := A2) (c := (c - i.toNat)) Try.underlying22 Try.underlying5 Try.underlying9 HR2.out
    clear hA2 hC2 hsz hzz
    obtain ⟨m, hm⟩ : ∃ m, (l.take (i + (x.size : Int)).toNat).drop i.toNat = m := ⟨_, rfl⟩
    rw [hm] at hcut hcv
    have d1 : decide ((x.size : Int) ≤ (l.length : Int) - i) = true := decide_eq_true h
    go_enter Try.func50, Try.ntmps50
    go_wp2
    go_ret
    exact ⟨by simp [hasP, d1, hm], Drawn0.refl _⟩
  · have d1 : decide ((x.size : Int) ≤ (l.length : Int) - i) = false := decide_eq_false h
    go_enter Try.func50, Try.ntmps50
    go_wp2
    go_ret
    exact ⟨by simp [hasP, d1], Drawn0.refl _⟩
/-- A token's block: its cells; written over. -/
def B33 (k : Int) (s : ByteArray) (a e : Int) : Obj := .cells #[.int .i64 k, .string s, .int .i64 a, .int .i64 e] 33 (0, 0)
theorem B33_facts {w : World} {g : Nat} {k a e : Int} {s : ByteArray} (h : w.heap[g]? = some (B33 k s a e)) :
    (w.cell? ⟨g, 0, none⟩ = some (.int .i64 k) ∧ w.cell? ⟨g, 1, none⟩ = some (.string s) ∧ w.cell? ⟨g, 2, none⟩ = some (.int .i64 a) ∧ w.cell? ⟨g, 3, none⟩ = some (.int .i64 e)) ∧
    (w.frozen? ⟨g, 0, none⟩ = false ∧ w.frozen? ⟨g, 1, none⟩ = false ∧ w.frozen? ⟨g, 2, none⟩ = false ∧ w.frozen? ⟨g, 3, none⟩ = false) :=
  ⟨⟨(blk_cell h 0).trans rfl, (blk_cell h 1).trans rfl, (blk_cell h 2).trans rfl, (blk_cell h 3).trans rfl⟩, blk_frozen h 0, blk_frozen h 1, blk_frozen h 2, blk_frozen h 3⟩
theorem B33_put {w : World} {g : Nat} {k a e : Int} {s : ByteArray} (h : w.heap[g]? = some (B33 k s a e)) (k' : Int) (s' : ByteArray) (a' e' : Int) :
    ((((w.setCell ⟨g, 0, none⟩ (.int .i64 k')).setCell ⟨g, 1, none⟩ (.string s')).setCell ⟨g, 2, none⟩ (.int .i64 a')).setCell ⟨g, 3, none⟩ (.int .i64 e')).heap[g]? = some (B33 k' s' a' e') :=
  blk_put (cs := #[.int .i64 k', .string s', .int .i64 a', .int .i64 e]) (blk_put (cs := #[.int .i64 k', .string s', .int .i64 a, .int .i64 e]) (blk_put (cs := #[.int .i64 k', .string s, .int .i64 a, .int .i64 e]) (blk_put (cs := #[.int .i64 k, .string s, .int .i64 a, .int .i64 e]) h 0 _ rfl) 1 _ rfl) 2 _ rfl) 3 _ rfl
def cutS (l : List Int) (p e : Int) : ByteArray := strOfNums ((l.take e.toNat).drop p.toNat)
set_option maxHeartbeats 2000000 in
set_option maxRecDepth 100000 in
theorem cut_any (g : Nat) (A : Option Addr) (c : Nat) (l : List Int) (p : Int) (vo : Value) (k e : Int) (w : World) (hS : Sc w g A c l p vo) (hp : 0 ≤ p) (he0 : p ≤ e) (he1 : e ≤ l.length) :
    Calls Try.prog 52 #[.pointer (some ⟨g, 0, none⟩), .int .i64 k, .int .i64 e] w fun z w' => z = .returned (.agg #[.int .i64 k, .string (cutS l p e), .int .i64 p, .int .i64 e]) ∧ Below w.heap.size w w' := by
  have hu60 := Try.underlying60
  have hu33 := Try.underlying33
  obtain ⟨hb, hr, hc, hl⟩ := hS
  have HR := Aside0.mk hr
  have HB := Aside0.mk hb
  have c0 : w.cell? ⟨g, 0, none⟩ = some (.slice A l.length c) := (blk_cell hb 0).trans rfl
  have c1 : w.cell? ⟨g, 1, none⟩ = some (.int .i64 p) := (blk_cell hb 1).trans rfl
  have hg := blk_lt hb
  clear hr hb
  obtain ⟨i0, hi0', hsz, hzz⟩ := info_parts info5
  obtain ⟨A2, hcut, hA2, hC2⟩ := print_mid_of (P := Try.prog) (Value.int .u8) 0 22 5 .i64 .i64 Try.underlying22 hi0' (by first | exact hzz.1 | exact hsz) A c l p e hp he0 he1 hc
  have HR2 := Aside0.mk (Kd.C_of_reads (h1 := fun _ => rfl) (hA2 _ (Kd.reads_of_C HR.out)))
  have hcv := fun w' (hb : Below w.heap.size w w') => Kd.C_string (P := Try.prog) (A := A2) (c := (c - p.toNat)) Try.underlying22 Try.underlying5 Try.underlying9 (Kd.C_below HR2.out hb)
  clear hA2 hC2 hsz hzz
  obtain ⟨m, hm⟩ : ∃ m, (l.take e.toNat).drop p.toNat = m := ⟨_, rfl⟩
  unfold cutS
  rw [hm] at hcut hcv ⊢
  go_enter Try.func52, Try.ntmps52
  go_wp2
  have hB1 := below_alloc (Below.refl w.heap.size w) (.cells #[.int .i64 0, .string ⟨#[]⟩, .int .i64 0, .int .i64 0] 33)
  have c0' := (hB1.cell (p := ⟨g, 0, none⟩) hg).trans c0
  have c1' := (hB1.cell (p := ⟨g, 1, none⟩) hg).trans c1
  have hcv' := hcv _ hB1
  have hnew := blk_new w (.cells #[.int .i64 0, .string ⟨#[]⟩, .int .i64 0, .int .i64 0] 33)
  generalize w.alloc (.cells #[.int .i64 0, .string ⟨#[]⟩, .int .i64 0, .int .i64 0] 33) = W0 at *
  have hcv2 := hcv W0.drew (below_drew1 hB1)
  go_still_tail 18, (by kernel_rfl)
  change wpList _ _ _ _ _ W0.drew
  have hnew2 := blk_drew hnew
  have hB2 := below_drew1 hB1
  generalize W0.drew = W2 at *
  obtain ⟨⟨t0, t1, t2, t3⟩, f0, f1, f2, f3⟩ := B33_facts hnew2
  have HN := Aside0.mk hnew2
  have HB2 := Aside0.mk hB2
  clear hnew hnew2 hB1 hB2
  go_wp2
  refine bodyPost_ret (results_cell_row rfl _ _ w.heap.size 33 #[.int .i64 k, .string (strOfNums m), .int .i64 p, .int .i64 e] (0, 0) _ rfl (B33_put HN.out k (strOfNums m) p e) Try.underlying33 rfl (by kernel_rfl)) rfl ?_
  exact ⟨rfl, below_set (below_set (below_set (below_set HB2.out (Nat.le_refl _)) (Nat.le_refl _)) (Nat.le_refl _)) (Nat.le_refl _)⟩
end Go.Proofs.Ytglghpgpnlkpmaa.V
