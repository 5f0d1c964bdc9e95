/- The scanner: a sign. -/
import Derived.Test.YtglghpgpnlkpmaaLe
import Derived.Test.YtglghpgpnlkpmaaLc
namespace Go.Proofs.Ytglghpgpnlkpmaa.V
open Go.RowKit Go.Proofs.YtglghpgpnlkpmaaW.PrintWords Go.Proofs.YtglghpgpnlkpmaaW.PrintLast Go.Proofs.YtglghpgpnlkpmaaW.PrintMore
attribute [local go_sem] max2_int min2_int max_two min_two max_three min_three max_four min_four   -- for this text's walks alone
set_option linter.unusedVariables false
set_option linter.unusedSimpArgs false
set_option maxHeartbeats 40000000
set_option maxRecDepth 100000
/-- All but block g, and rows of truth values behind it, is as it was. -/
structure KeepO (g : Nat) (w w' : World) : Prop where
  os : w'.os = w.os
  tape : w'.tape = w.tape
  output : w'.output = w.output
  size : w.heap.size ≤ w'.heap.size
  block : ∀ k, k < w.heap.size → k ≠ g → (k < g ∨ ∀ cur fz, w.heap[k]? ≠ some (.cells cur 4 fz)) → w'.heap[k]? = w.heap[k]?
theorem KeepO.refl (g : Nat) (w : World) : KeepO g w w := ⟨rfl, rfl, rfl, Nat.le_refl _, fun _ _ _ _ => rfl⟩
theorem KeepG.o {g : Nat} {w w' : World} (h : KeepG g w w') : KeepO g w w' := ⟨h.os, h.tape, h.output, h.size, fun k hk hg _ => h.block k hk hg⟩
theorem KeepO.trans {g : Nat} {w w1 w2 : World} (h : KeepO g w w1) (k : KeepO g w1 w2) : KeepO g w w2 :=
  ⟨k.os.trans h.os, k.tape.trans h.tape, k.output.trans h.output, Nat.le_trans h.size k.size, fun j hj hg hc => by
    have h1 := h.block j hj hg hc
    rw [k.block j (Nat.lt_of_lt_of_le hj h.size) hg (hc.imp id (fun hh cur fz => by rw [h1]; exact hh cur fz)), h1]⟩
theorem KeepO.below {g : Nat} {w w1 w2 : World} (h : KeepO g w w1) (hb : Below w1.heap.size w1 w2) : KeepO g w w2 :=
  h.trans ⟨hb.os, hb.tape, hb.output, hb.size, fun k hk _ _ => hb.block k hk⟩
/-- The scanner at g, its open brackets os. -/
def St (w : World) (g : Nat) (A : Option Addr) (c : Nat) (l : List Int) (p : Int) (os : List Bool) : Prop :=
  ∃ vo, Sg w g A c l p vo ∧ w.ownsRow g 4 1 vo os.length (os.map Value.bool)
theorem St.below {w w' : World} {g : Nat} {A : Option Addr} {c : Nat} {l : List Int} {p : Int} {os : List Bool} (h : St w g A c l p os) (hb : Below w.heap.size w w') : St w' g A c l p os := by
  obtain ⟨vo, h1, h2⟩ := h
  exact ⟨vo, h1.below hb, pw_own_below h2 hb⟩
def sg3 : ByteArray := ⟨#[32, 61, 61, 61, 32, 33, 61, 61, 32, 62, 62, 62, 32]⟩
def sg2 : ByteArray := ⟨#[32, 61, 62, 32, 43, 61, 32, 45, 61, 32, 42, 61, 32, 37, 61, 32, 60, 61, 32, 62, 61, 32, 60, 60, 32, 62, 62, 32, 38, 38, 32, 124, 124, 32]⟩
def sg1 : ByteArray := ⟨#[32, 123, 32, 125, 32, 40, 32, 41, 32, 91, 32, 93, 32, 46, 32, 44, 32, 59, 32, 58, 32, 63, 32, 61, 32, 43, 32, 45, 32, 42, 32, 37, 32, 33, 32, 126, 32, 60, 32, 62, 32, 38, 32, 124, 32, 94, 32]⟩
/-- Has a text one of the four blanks? -/
def caB (t : ByteArray) : Bool := Lib.containsAny t.data.toList [32, 9, 13, 10]
def coB (lst t : ByteArray) : Bool := Lib.contains lst.data.toList ([32] ++ t.data.toList ++ [32])
def hitB (lst : ByteArray) (l : List Int) (p n : Nat) : Bool := decide (p + n ≤ l.length) && (!caB (cutS l p (p + n : Nat)) && coB lst (cutS l p (p + n : Nat)))
def signF (l : List Int) (p : Nat) : Nat → Nat
  | 0 => 0
  | 1 => if hitB sg1 l p 1 = true then 1 else 0
  | 2 => if hitB sg2 l p 2 = true then 2 else if hitB sg1 l p 1 = true then 1 else 0
  | _ => if hitB sg3 l p 3 = true then 3 else if hitB sg2 l p 2 = true then 2 else if hitB sg1 l p 1 = true then 1 else 0
/-- How long the sign at p is; 0: there is none. -/
def signN (l : List Int) (p : Nat) : Nat := signF l p 3
def signP (l : List Int) (p : Nat) : Tk := if signN l p = 0 then tk0 else (9, cutS l p (p + signN l p : Nat), (p : Int), ((p + signN l p : Nat) : Int))
/-- What a sign does to the open brackets. -/
def signO (l : List Int) (p : Nat) (os : List Bool) : List Bool := if (signP l p).2.1.toList = [123] then os ++ [false] else if (signP l p).2.1.toList = [125] then os.dropLast else os
theorem signF_hit1 {l : List Int} {p : Nat} (h : hitB sg1 l p 1 = true) : signF l p 1 = 1 := by simp [signF, h]
theorem signF_hit2 {l : List Int} {p : Nat} (h : hitB sg2 l p 2 = true) : signF l p 2 = 2 := by simp [signF, h]
theorem signF_hit3 {l : List Int} {p : Nat} (h : hitB sg3 l p 3 = true) : signF l p 3 = 3 := by simp [signF, h]
theorem signF_go1 {l : List Int} {p : Nat} (h : hitB sg1 l p 1 = false) : signF l p 1 = signF l p 0 := by simp [signF, h]
theorem signF_go2 {l : List Int} {p : Nat} (h : hitB sg2 l p 2 = false) : signF l p 2 = signF l p 1 := by simp [signF, h]
theorem signF_go3 {l : List Int} {p : Nat} (h : hitB sg3 l p 3 = false) : signF l p 3 = signF l p 2 := by simp [signF, h]
theorem signP_some {l : List Int} {p n : Nat} (h : signN l p = n) (h0 : n ≠ 0) {t : ByteArray} (ht : cutS l p (p + n : Nat) = t) : signP l p = (9, t, (p : Int), ((p + n : Nat) : Int)) := by
  unfold signP
  rw [h, if_neg h0, ht]
theorem signP_none {l : List Int} {p : Nat} (h : signN l p = 0) : signP l p = tk0 := by unfold signP; rw [if_pos h]
theorem signO_none {l : List Int} {p : Nat} {os : List Bool} (h : signN l p = 0) : signO l p os = os := by
  unfold signO
  rw [signP_none h]
  simp [tk0, Lib.toList_data]
theorem signO_some {l : List Int} {p : Nat} {os : List Bool} {t : ByteArray} {a b : Int} {k : Int} (h : signP l p = (k, t, a, b)) : signO l p os = if t.toList = [123] then os ++ [false] else if t.toList = [125] then os.dropLast else os := by
  unfold signO
  rw [h]
theorem cutN_size (l : List Int) (p n : Nat) (h : p + n ≤ l.length) : (cutS l p (p + n : Nat)).size = n := by
  unfold cutS
  rw [strOfNums_size, List.length_drop, List.length_take]
  omega
/-- strings.ContainsAny answers at the signs' texts. -/
def CaOk (l : List Int) : Prop := ∀ (p n : Nat) (W : World), n ≤ 3 → p + n ≤ l.length → Calls Try.prog 55 #[.string (cutS l p (p + n : Nat)), .string ⟨#[32, 9, 13, 10]⟩] W fun e w' => e = .returned (.bool (caB (cutS l p (p + n : Nat)))) ∧ Below W.heap.size W w'
theorem contains_one (lst t : ByteArray) (W : World) (hM : MaxOk W) (hl : lst.size ≤ 1000) : Calls Try.prog 56 #[.string lst, .string ((⟨#[32]⟩ : ByteArray) ++ t ++ ⟨#[32]⟩)] W fun e w' => e = .returned (.bool (coB lst t)) ∧ w' = W := by
  obtain ⟨m, hm⟩ := hM
  have hc := Try.strings_Contains lst ((⟨#[32]⟩ : ByteArray) ++ t ++ ⟨#[32]⟩) m W (by omega) hm
  have he : ((⟨#[32]⟩ : ByteArray) ++ t ++ ⟨#[32]⟩).data.toList = [32] ++ t.data.toList ++ [32] := by simp
  rw [he] at hc
  exact hc
theorem idx75_0 (a b c : Value) (w : World) : (Instr.index 75 (.agg #[a, b, c]) (.int .i64 0)).run Try.prog w = .ok a w := by
  simp [Instr.index, asIntOf, run_underlying Try.underlying75, Try.sizeOf9, Try.isAgg9, go_sem, part]
theorem idx75_1 (a b c : Value) (w : World) : (Instr.index 75 (.agg #[a, b, c]) (.int .i64 1)).run Try.prog w = .ok b w := by
  simp [Instr.index, asIntOf, run_underlying Try.underlying75, Try.sizeOf9, Try.isAgg9, go_sem, part]
theorem idx75_2 (a b c : Value) (w : World) : (Instr.index 75 (.agg #[a, b, c]) (.int .i64 2)).run Try.prog w = .ok c w := by
  simp [Instr.index, asIntOf, run_underlying Try.underlying75, Try.sizeOf9, Try.isAgg9, go_sem, part]
attribute [irreducible] signF signN signP signO hitB caB coB
theorem sign_any (g : Nat) (A : Option Addr) (c : Nat) (l : List Int) (p : Nat) (os : List Bool) (w : World) (hS : St w g A c l p os) (hM : MaxOk w) (hp : p ≤ l.length) (hlm : l.length ≤ 200000) (hos : os.length ≤ 1000000) (hCa : CaOk l) (hNB : ((cutS l p (p + 1 : Nat)).toList == [123]) = false ∧ ((cutS l p (p + 1 : Nat)).toList == [125]) = false) :
    Calls Try.prog 41 #[.pointer (some ⟨g, 0, none⟩)] w fun z w' => z = .returned (tkV (signP l p)) ∧ St w' g A c l p (signO l p os) ∧ KeepO g w w' := by
  have hu60 := Try.underlying60
  have hu33 := Try.underlying33
  have HSt := Aside0.mk hS
  have HM := Aside0.mk hM
  have HCa := Aside0.mk hCa
  have HNB := Aside0.mk hNB
  obtain ⟨vo, hSg, hO⟩ := hS
  have hg := blk_lt hSg.1.1
  have hc := hSg.1.2.2.1
  have hB1 := below_alloc (Below.refl w.heap.size w) (.cells #[.int .i64 0, .string ⟨#[]⟩, .int .i64 0, .int .i64 0] 33)
  have hnew := blk_new w (.cells #[.int .i64 0, .string ⟨#[]⟩, .int .i64 0, .int .i64 0] 33)
  have HSz := Aside0.mk (show (w.alloc (.cells #[.int .i64 0, .string ⟨#[]⟩, .int .i64 0, .int .i64 0] 33)).heap.size = w.heap.size + 1 by simp)
  clear hSg hO hM hCa hNB
  go_enter Try.func41, Try.ntmps41
  go_upto_region 1 with fail
  generalize w.alloc (.cells #[.int .i64 0, .string ⟨#[]⟩, .int .i64 0, .int .i64 0] 33) = W0 at *
  have HB1 := Aside0.mk hB1
  have HN := Aside0.mk hnew
  clear hB1 hnew
  go_upto_block 0 with fail
  have hB2 := below_alloc (Below.refl W0.heap.size W0) (.cells #[.string sg3, .string sg2, .string sg1] 75)
  unfold sg3 sg2 sg1 at hB2
  generalize W0.alloc (.cells #[.string ⟨#[32, 61, 61, 61, 32, 33, 61, 61, 32, 62, 62, 62, 32]⟩, .string ⟨#[32, 61, 62, 32, 43, 61, 32, 45, 61, 32, 42, 61, 32, 37, 61, 32, 60, 61, 32, 62, 61, 32, 60, 60, 32, 62, 62, 32, 38, 38, 32, 124, 124, 32]⟩, .string ⟨#[32, 123, 32, 125, 32, 40, 32, 41, 32, 91, 32, 93, 32, 46, 32, 44, 32, 59, 32, 58, 32, 63, 32, 61, 32, 43, 32, 45, 32, 42, 32, 37, 32, 33, 32, 126, 32, 60, 32, 62, 32, 38, 32, 124, 32, 94, 32]⟩] 75) = W1 at *
  have HFin := Aside0.mk (show ∀ W', Below W1.heap.size W1 W' → St W' g A c l p os ∧ Below w.heap.size w W' ∧ W'.heap[w.heap.size]? = some (B33 0 ⟨#[]⟩ 0 0) ∧ MaxOk W' from fun W' hb => by
    have hb2 := below_step hB2 hb
    have hb3 := below_step HB1.out hb2
    exact ⟨HSt.out.below hb3, hb3, blk_below HN.out hb2, HM.out.below hb3⟩)
  clear hB2
  go_wp2_with fail
  go_loopw [10] (fun u wr => Aside0 (Below W1.heap.size W1 wr) ∧ ((u = .int .i64 0 ∧ Aside0 (signN l p = signF l p 3)) ∨ (u = .int .i64 1 ∧ Aside0 (signN l p = signF l p 2)) ∨ (u = .int .i64 2 ∧ Aside0 (signN l p = signF l p 1)) ∨ (u = .int .i64 3 ∧ Aside0 (signN l p = signF l p 0)))) (fun u _ => 3 - (intOf u).toNat)
  case atStart => exact ⟨⟨Below.refl _ _⟩, .inl ⟨rfl, ⟨by unfold signN; rfl⟩⟩⟩
  case round =>
    obtain ⟨HB, hrel⟩ := hrel
    have HFr := Aside0.mk (HFin.out _ HB.out)
    obtain ⟨vo, hSg, hO⟩ := HFr.out.1
    have HSg := Aside0.mk hSg
    have HO := Aside0.mk hO
    have c0 : wr.cell? ⟨g, 0, none⟩ = some (.slice A l.length c) := (blk_cell hSg.1.1 0).trans rfl
    have c1 : wr.cell? ⟨g, 1, none⟩ = some (.int .i64 p) := (blk_cell hSg.1.1 1).trans rfl
    clear hSg hO
    rcases hrel with ⟨rfl, HI⟩ | ⟨rfl, HI⟩ | ⟨rfl, HI⟩ | ⟨rfl, HI⟩
    · have hgo : hitB sg3 l p 3 = false → signN l p = signF l p 2 := fun h => HI.out.trans (signF_go3 h)
      have HGo := Aside0.mk hgo
      have hix := idx75_0
      clear hgo
      by_cases hlen : p + 3 ≤ l.length
      · have d1 : decide ((l.length : Int) - (p : Int) < 3) = false := decide_eq_false (by omega)
        obtain ⟨t, ht⟩ : ∃ t, cutS l p (p + 3 : Nat) = t := ⟨_, rfl⟩
        have HCut := Aside0.mk (show ∀ W : World, Sc W g A c l p vo → Calls Try.prog 52 #[.pointer (some ⟨g, 0, none⟩), .int .i64 9, .int .i64 ((p : Int) + 3)] W fun z w' => z = .returned (.agg #[.int .i64 9, .string t, .int .i64 p, .int .i64 ((p : Int) + 3)]) ∧ Below W.heap.size W w' from fun W hs => ht ▸ cut_any g A c l p vo 9 ((p : Int) + 3) W hs (by omega) (by omega) (by omega))
        have hsz := cutN_size l p 3 hlen
        rw [ht] at hsz
        have HT := Aside0.mk ht
        have HCa' := Aside0.mk (show ∀ W : World, Calls Try.prog 55 #[.string t, .string ⟨#[32, 9, 13, 10]⟩] W fun e w' => e = .returned (.bool (caB t)) ∧ Below W.heap.size W w' from fun W => ht ▸ HCa.out p 3 W (by omega) hlen)
        have HCo := Aside0.mk (show ∀ b, coB sg3 t = b → ∀ W : World, MaxOk W → Calls Try.prog 56 #[.string sg3, .string ((⟨#[32]⟩ : ByteArray) ++ t ++ ⟨#[32]⟩)] W fun e w' => e = .returned (.bool b) ∧ w' = W from fun b hb W hm => hb ▸ contains_one sg3 t W hm (by decide))
        have HHit := Aside0.mk (show ∀ b, (!caB t && coB sg3 t) = b → hitB sg3 l p 3 = b from fun b hb => by unfold hitB; rw [ht, hb, decide_eq_true hlen, Bool.true_and])
        have hov1 : ¬ 9223372036854775807 < 1 + t.size := by omega
        have hov2 : ¬ 9223372036854775807 < 1 + t.size + 1 := by omega
        clear ht
        go_upto_region 7 with fail
        go_quiet (fail)
        have HDq := Aside0.mk (Drawn0.mk ⟨nq, (rfl : wr.drewN nq = wr.drewN nq)⟩)
        generalize wr.drewN nq = wd at *
        have HBd := Aside0.mk (HB.out.trans (HDq.out.below.mono HB.out.size))
        have HSd := Aside0.mk (HSg.out.below HDq.out.below)
        clear c0 c1
        have c0 : wd.cell? ⟨g, 0, none⟩ = some (.slice A l.length c) := (blk_cell HSd.out.1.1 0).trans rfl
        have c1 : wd.cell? ⟨g, 1, none⟩ = some (.int .i64 p) := (blk_cell HSd.out.1.1 1).trans rfl
        go_upto_region 8 with (go_at_call 52; refine (HCut.out _ HSd.out.1).mono ?_; rintro e w4 ⟨rfl, hb⟩; have HB4 := Aside0.mk (HBd.out.trans (hb.mono HBd.out.size)); clear hb)
        have hnb := blk_new w4 (.cells #[.int .i64 9, .string t, .int .i64 p, .int .i64 ((p : Int) + 3)] 33)
        have hb5 := HB4.out.alloc HB4.out.size (.cells #[.int .i64 9, .string t, .int .i64 p, .int .i64 ((p : Int) + 3)] 33)
        generalize w4.alloc (.cells #[.int .i64 9, .string t, .int .i64 p, .int .i64 ((p : Int) + 3)] 33) = w5 at *
        obtain ⟨gt, hgt⟩ : ∃ gt, w4.heap.size = gt := ⟨_, rfl⟩
        rw [hgt] at hnb ⊢
        clear hgt
        have HNb := Aside0.mk (show w5.heap[gt]? = some (B33 9 t p ((p : Int) + 3)) from hnb)
        have HB5 := Aside0.mk hb5
        clear hnb hb5 c0 c1
        obtain ⟨⟨t0, t1, t2, t3⟩, s0, s1, s2, s3⟩ := B33_facts HNb.out
        cases hca : caB t
        · rw [hca] at HCa' HHit
          cases hco : coB sg3 t
          · rw [hco] at HHit
            replace HCo := Aside0.mk (HCo.out false hco)
            have HH := Aside0.mk (HHit.out false rfl)
            unfold sg3 at HCo
            go_wp2_with (first | (go_at_call 55; refine (HCa'.out _).mono ?_; rintro e w6 ⟨rfl, hb⟩; have HB6 := Aside0.mk (HB5.out.trans (hb.mono HB5.out.size)); have HNb6 := Aside0.mk (blk_below HNb.out hb); clear hb; obtain ⟨⟨v0, v1, v2, v3⟩, x0, x1, x2, x3⟩ := B33_facts HNb6.out) | (go_at_call 56; refine (HCo.out _ (HFin.out _ HB6.out).2.2.2).mono ?_; rintro e w7 ⟨rfl, rfl⟩))
            go_roundw
            case rel => exact ⟨⟨HB6.out⟩, .inr (.inl ⟨by go_num, ⟨HGo.out HH.out⟩⟩)⟩
            case measure => simp [intOf]
          · rw [hco] at HHit
            replace HCo := Aside0.mk (HCo.out true hco)
            have HH := Aside0.mk (HHit.out true rfl)
            unfold sg3 at HCo
            have HN3 := Aside0.mk (HI.out.trans (signF_hit3 HH.out))
            go_upto_region 9 with (first | (go_at_call 55; refine (HCa'.out _).mono ?_; rintro e w6 ⟨rfl, hb⟩; have HB6 := Aside0.mk (HB5.out.trans (hb.mono HB5.out.size)); have HNb6 := Aside0.mk (blk_below HNb.out hb); clear hb; obtain ⟨⟨v0, v1, v2, v3⟩, x0, x1, x2, x3⟩ := B33_facts HNb6.out) | (go_at_call 56; refine (HCo.out _ (HFin.out _ HB6.out).2.2.2).mono ?_; rintro e w7 ⟨rfl, rfl⟩))
            have hne : ∀ x : UInt8, (t.toList == [x]) = false := fun x => by
              rw [Lib.toList_data]
              cases hh : (t.data.toList == [x])
              · rfl
              · exfalso
                have h1 : t.data.toList.length = 1 := by rw [eq_of_beq hh]; rfl
                rw [Array.length_toList] at h1
                have h2 : t.size = t.data.size := rfl
                omega
            have b1 := hne 123
            have b2 := hne 125
            clear hne
            have HF7 := Aside0.mk (HFin.out _ HB6.out)
            obtain ⟨⟨n0, n1, n2, n3⟩, m0, m1, m2, m3⟩ := B33_facts HF7.out.2.2.1
            have HP := Aside0.mk (signP_some HN3.out (by decide) HT.out)
            have HQ := Aside0.mk (show signO l p os = os from by rw [signO_some HP.out, if_neg (by simpa using b1), if_neg (by simpa using b2)])
            go_wp2_with fail
            refine bodyPost_ret (results_cell_row rfl _ _ w.heap.size 33 #[.int .i64 9, .string t, .int .i64 p, .int .i64 ((p : Int) + 3)] (0, 0) _ rfl (B33_put HF7.out.2.2.1 9 t p ((p : Int) + 3)) Try.underlying33 rfl (by kernel_rfl)) rfl ?_
            exact ⟨by rw [HP.out]; simp [tkV], by rw [HQ.out]; exact HSt.out.below (below_set (below_set (below_set (below_set HF7.out.2.1 (Nat.le_refl _)) (Nat.le_refl _)) (Nat.le_refl _)) (Nat.le_refl _)), (KeepO.refl g w).below (below_set (below_set (below_set (below_set HF7.out.2.1 (Nat.le_refl _)) (Nat.le_refl _)) (Nat.le_refl _)) (Nat.le_refl _))⟩

        · rw [hca] at HCa' HHit
          have HH := Aside0.mk (HHit.out false rfl)
          go_wp2_with (go_at_call 55; refine (HCa'.out _).mono ?_; rintro e w6 ⟨rfl, hb⟩; have HB6 := Aside0.mk (HB5.out.trans (hb.mono HB5.out.size)); clear hb)
          go_roundw
          case rel => exact ⟨⟨HB6.out⟩, .inr (.inl ⟨by go_num, ⟨HGo.out HH.out⟩⟩)⟩
          case measure => simp [intOf]
      · have d1 : decide ((l.length : Int) - (p : Int) < 3) = true := decide_eq_true (by omega)
        have HH := Aside0.mk (show hitB sg3 l p 3 = false from by unfold hitB; rw [decide_eq_false hlen]; rfl)
        go_wp2_with fail
        go_quiet (fail)
        go_wp2
        go_roundw
        case rel => exact ⟨⟨HB.out.trans (pw_below_drewN (Below.refl _ _) _)⟩, .inr (.inl ⟨by go_num, ⟨HGo.out HH.out⟩⟩)⟩
        case measure => simp [intOf]
    · have hgo : hitB sg2 l p 2 = false → signN l p = signF l p 1 := fun h => HI.out.trans (signF_go2 h)
      have HGo := Aside0.mk hgo
      have hix := idx75_1
      clear hgo
      by_cases hlen : p + 2 ≤ l.length
      · have d1 : decide ((l.length : Int) - (p : Int) < 2) = false := decide_eq_false (by omega)
        obtain ⟨t, ht⟩ : ∃ t, cutS l p (p + 2 : Nat) = t := ⟨_, rfl⟩
        have HCut := Aside0.mk (show ∀ W : World, Sc W g A c l p vo → Calls Try.prog 52 #[.pointer (some ⟨g, 0, none⟩), .int .i64 9, .int .i64 ((p : Int) + 2)] W fun z w' => z = .returned (.agg #[.int .i64 9, .string t, .int .i64 p, .int .i64 ((p : Int) + 2)]) ∧ Below W.heap.size W w' from fun W hs => ht ▸ cut_any g A c l p vo 9 ((p : Int) + 2) W hs (by omega) (by omega) (by omega))
        have hsz := cutN_size l p 2 hlen
        rw [ht] at hsz
        have HT := Aside0.mk ht
        have HCa' := Aside0.mk (show ∀ W : World, Calls Try.prog 55 #[.string t, .string ⟨#[32, 9, 13, 10]⟩] W fun e w' => e = .returned (.bool (caB t)) ∧ Below W.heap.size W w' from fun W => ht ▸ HCa.out p 2 W (by omega) hlen)
        have HCo := Aside0.mk (show ∀ b, coB sg2 t = b → ∀ W : World, MaxOk W → Calls Try.prog 56 #[.string sg2, .string ((⟨#[32]⟩ : ByteArray) ++ t ++ ⟨#[32]⟩)] W fun e w' => e = .returned (.bool b) ∧ w' = W from fun b hb W hm => hb ▸ contains_one sg2 t W hm (by decide))
        have HHit := Aside0.mk (show ∀ b, (!caB t && coB sg2 t) = b → hitB sg2 l p 2 = b from fun b hb => by unfold hitB; rw [ht, hb, decide_eq_true hlen, Bool.true_and])
        have hov1 : ¬ 9223372036854775807 < 1 + t.size := by omega
        have hov2 : ¬ 9223372036854775807 < 1 + t.size + 1 := by omega
        clear ht
        go_upto_region 7 with fail
        go_quiet (fail)
        have HDq := Aside0.mk (Drawn0.mk ⟨nq, (rfl : wr.drewN nq = wr.drewN nq)⟩)
        generalize wr.drewN nq = wd at *
        have HBd := Aside0.mk (HB.out.trans (HDq.out.below.mono HB.out.size))
        have HSd := Aside0.mk (HSg.out.below HDq.out.below)
        clear c0 c1
        have c0 : wd.cell? ⟨g, 0, none⟩ = some (.slice A l.length c) := (blk_cell HSd.out.1.1 0).trans rfl
        have c1 : wd.cell? ⟨g, 1, none⟩ = some (.int .i64 p) := (blk_cell HSd.out.1.1 1).trans rfl
        go_upto_region 8 with (go_at_call 52; refine (HCut.out _ HSd.out.1).mono ?_; rintro e w4 ⟨rfl, hb⟩; have HB4 := Aside0.mk (HBd.out.trans (hb.mono HBd.out.size)); clear hb)
        have hnb := blk_new w4 (.cells #[.int .i64 9, .string t, .int .i64 p, .int .i64 ((p : Int) + 2)] 33)
        have hb5 := HB4.out.alloc HB4.out.size (.cells #[.int .i64 9, .string t, .int .i64 p, .int .i64 ((p : Int) + 2)] 33)
        generalize w4.alloc (.cells #[.int .i64 9, .string t, .int .i64 p, .int .i64 ((p : Int) + 2)] 33) = w5 at *
        obtain ⟨gt, hgt⟩ : ∃ gt, w4.heap.size = gt := ⟨_, rfl⟩
        rw [hgt] at hnb ⊢
        clear hgt
        have HNb := Aside0.mk (show w5.heap[gt]? = some (B33 9 t p ((p : Int) + 2)) from hnb)
        have HB5 := Aside0.mk hb5
        clear hnb hb5 c0 c1
        obtain ⟨⟨t0, t1, t2, t3⟩, s0, s1, s2, s3⟩ := B33_facts HNb.out
        cases hca : caB t
        · rw [hca] at HCa' HHit
          cases hco : coB sg2 t
          · rw [hco] at HHit
            replace HCo := Aside0.mk (HCo.out false hco)
            have HH := Aside0.mk (HHit.out false rfl)
            unfold sg2 at HCo
            go_wp2_with (first | (go_at_call 55; refine (HCa'.out _).mono ?_; rintro e w6 ⟨rfl, hb⟩; have HB6 := Aside0.mk (HB5.out.trans (hb.mono HB5.out.size)); have HNb6 := Aside0.mk (blk_below HNb.out hb); clear hb; obtain ⟨⟨v0, v1, v2, v3⟩, x0, x1, x2, x3⟩ := B33_facts HNb6.out) | (go_at_call 56; refine (HCo.out _ (HFin.out _ HB6.out).2.2.2).mono ?_; rintro e w7 ⟨rfl, rfl⟩))
            go_roundw
            case rel => exact ⟨⟨HB6.out⟩, .inr (.inr (.inl ⟨by go_num, ⟨HGo.out HH.out⟩⟩))⟩
            case measure => simp [intOf]
          · rw [hco] at HHit
            replace HCo := Aside0.mk (HCo.out true hco)
            have HH := Aside0.mk (HHit.out true rfl)
            unfold sg2 at HCo
            have HN3 := Aside0.mk (HI.out.trans (signF_hit2 HH.out))
            go_upto_region 9 with (first | (go_at_call 55; refine (HCa'.out _).mono ?_; rintro e w6 ⟨rfl, hb⟩; have HB6 := Aside0.mk (HB5.out.trans (hb.mono HB5.out.size)); have HNb6 := Aside0.mk (blk_below HNb.out hb); clear hb; obtain ⟨⟨v0, v1, v2, v3⟩, x0, x1, x2, x3⟩ := B33_facts HNb6.out) | (go_at_call 56; refine (HCo.out _ (HFin.out _ HB6.out).2.2.2).mono ?_; rintro e w7 ⟨rfl, rfl⟩))
            have hne : ∀ x : UInt8, (t.toList == [x]) = false := fun x => by
              rw [Lib.toList_data]
              cases hh : (t.data.toList == [x])
              · rfl
              · exfalso
                have h1 : t.data.toList.length = 1 := by rw [eq_of_beq hh]; rfl
                rw [Array.length_toList] at h1
                have h2 : t.size = t.data.size := rfl
                omega
            have b1 := hne 123
            have b2 := hne 125
            clear hne
            have HF7 := Aside0.mk (HFin.out _ HB6.out)
            obtain ⟨⟨n0, n1, n2, n3⟩, m0, m1, m2, m3⟩ := B33_facts HF7.out.2.2.1
            have HP := Aside0.mk (signP_some HN3.out (by decide) HT.out)
            have HQ := Aside0.mk (show signO l p os = os from by rw [signO_some HP.out, if_neg (by simpa using b1), if_neg (by simpa using b2)])
            go_wp2_with fail
            refine bodyPost_ret (results_cell_row rfl _ _ w.heap.size 33 #[.int .i64 9, .string t, .int .i64 p, .int .i64 ((p : Int) + 2)] (0, 0) _ rfl (B33_put HF7.out.2.2.1 9 t p ((p : Int) + 2)) Try.underlying33 rfl (by kernel_rfl)) rfl ?_
            exact ⟨by rw [HP.out]; simp [tkV], by rw [HQ.out]; exact HSt.out.below (below_set (below_set (below_set (below_set HF7.out.2.1 (Nat.le_refl _)) (Nat.le_refl _)) (Nat.le_refl _)) (Nat.le_refl _)), (KeepO.refl g w).below (below_set (below_set (below_set (below_set HF7.out.2.1 (Nat.le_refl _)) (Nat.le_refl _)) (Nat.le_refl _)) (Nat.le_refl _))⟩

        · rw [hca] at HCa' HHit
          have HH := Aside0.mk (HHit.out false rfl)
          go_wp2_with (go_at_call 55; refine (HCa'.out _).mono ?_; rintro e w6 ⟨rfl, hb⟩; have HB6 := Aside0.mk (HB5.out.trans (hb.mono HB5.out.size)); clear hb)
          go_roundw
          case rel => exact ⟨⟨HB6.out⟩, .inr (.inr (.inl ⟨by go_num, ⟨HGo.out HH.out⟩⟩))⟩
          case measure => simp [intOf]
      · have d1 : decide ((l.length : Int) - (p : Int) < 2) = true := decide_eq_true (by omega)
        have HH := Aside0.mk (show hitB sg2 l p 2 = false from by unfold hitB; rw [decide_eq_false hlen]; rfl)
        go_wp2_with fail
        go_quiet (fail)
        go_wp2
        go_roundw
        case rel => exact ⟨⟨HB.out.trans (pw_below_drewN (Below.refl _ _) _)⟩, .inr (.inr (.inl ⟨by go_num, ⟨HGo.out HH.out⟩⟩))⟩
        case measure => simp [intOf]
    · have hgo : hitB sg1 l p 1 = false → signN l p = signF l p 0 := fun h => HI.out.trans (signF_go1 h)
      have HGo := Aside0.mk hgo
      have hix := idx75_2
      clear hgo
      by_cases hlen : p + 1 ≤ l.length
      · have d1 : decide ((l.length : Int) - (p : Int) < 1) = false := decide_eq_false (by omega)
        obtain ⟨t, ht⟩ : ∃ t, cutS l p (p + 1 : Nat) = t := ⟨_, rfl⟩
        have HCut := Aside0.mk (show ∀ W : World, Sc W g A c l p vo → Calls Try.prog 52 #[.pointer (some ⟨g, 0, none⟩), .int .i64 9, .int .i64 ((p : Int) + 1)] W fun z w' => z = .returned (.agg #[.int .i64 9, .string t, .int .i64 p, .int .i64 ((p : Int) + 1)]) ∧ Below W.heap.size W w' from fun W hs => ht ▸ cut_any g A c l p vo 9 ((p : Int) + 1) W hs (by omega) (by omega) (by omega))
        have hsz := cutN_size l p 1 hlen
        rw [ht] at hsz
        have HT := Aside0.mk ht
        have HCa' := Aside0.mk (show ∀ W : World, Calls Try.prog 55 #[.string t, .string ⟨#[32, 9, 13, 10]⟩] W fun e w' => e = .returned (.bool (caB t)) ∧ Below W.heap.size W w' from fun W => ht ▸ HCa.out p 1 W (by omega) hlen)
        have HCo := Aside0.mk (show ∀ b, coB sg1 t = b → ∀ W : World, MaxOk W → Calls Try.prog 56 #[.string sg1, .string ((⟨#[32]⟩ : ByteArray) ++ t ++ ⟨#[32]⟩)] W fun e w' => e = .returned (.bool b) ∧ w' = W from fun b hb W hm => hb ▸ contains_one sg1 t W hm (by decide))
        have HHit := Aside0.mk (show ∀ b, (!caB t && coB sg1 t) = b → hitB sg1 l p 1 = b from fun b hb => by unfold hitB; rw [ht, hb, decide_eq_true hlen, Bool.true_and])
        have hov1 : ¬ 9223372036854775807 < 1 + t.size := by omega
        have hov2 : ¬ 9223372036854775807 < 1 + t.size + 1 := by omega
        clear ht
        go_upto_region 7 with fail
        go_quiet (fail)
        have HDq := Aside0.mk (Drawn0.mk ⟨nq, (rfl : wr.drewN nq = wr.drewN nq)⟩)
        generalize wr.drewN nq = wd at *
        have HBd := Aside0.mk (HB.out.trans (HDq.out.below.mono HB.out.size))
        have HSd := Aside0.mk (HSg.out.below HDq.out.below)
        clear c0 c1
        have c0 : wd.cell? ⟨g, 0, none⟩ = some (.slice A l.length c) := (blk_cell HSd.out.1.1 0).trans rfl
        have c1 : wd.cell? ⟨g, 1, none⟩ = some (.int .i64 p) := (blk_cell HSd.out.1.1 1).trans rfl
        go_upto_region 8 with (go_at_call 52; refine (HCut.out _ HSd.out.1).mono ?_; rintro e w4 ⟨rfl, hb⟩; have HB4 := Aside0.mk (HBd.out.trans (hb.mono HBd.out.size)); clear hb)
        have hnb := blk_new w4 (.cells #[.int .i64 9, .string t, .int .i64 p, .int .i64 ((p : Int) + 1)] 33)
        have hb5 := HB4.out.alloc HB4.out.size (.cells #[.int .i64 9, .string t, .int .i64 p, .int .i64 ((p : Int) + 1)] 33)
        generalize w4.alloc (.cells #[.int .i64 9, .string t, .int .i64 p, .int .i64 ((p : Int) + 1)] 33) = w5 at *
        obtain ⟨gt, hgt⟩ : ∃ gt, w4.heap.size = gt := ⟨_, rfl⟩
        rw [hgt] at hnb ⊢
        clear hgt
        have HNb := Aside0.mk (show w5.heap[gt]? = some (B33 9 t p ((p : Int) + 1)) from hnb)
        have HB5 := Aside0.mk hb5
        clear hnb hb5 c0 c1
        obtain ⟨⟨t0, t1, t2, t3⟩, s0, s1, s2, s3⟩ := B33_facts HNb.out
        cases hca : caB t
        · rw [hca] at HCa' HHit
          cases hco : coB sg1 t
          · rw [hco] at HHit
            replace HCo := Aside0.mk (HCo.out false hco)
            have HH := Aside0.mk (HHit.out false rfl)
            unfold sg1 at HCo
            go_wp2_with (first | (go_at_call 55; refine (HCa'.out _).mono ?_; rintro e w6 ⟨rfl, hb⟩; have HB6 := Aside0.mk (HB5.out.trans (hb.mono HB5.out.size)); have HNb6 := Aside0.mk (blk_below HNb.out hb); clear hb; obtain ⟨⟨v0, v1, v2, v3⟩, x0, x1, x2, x3⟩ := B33_facts HNb6.out) | (go_at_call 56; refine (HCo.out _ (HFin.out _ HB6.out).2.2.2).mono ?_; rintro e w7 ⟨rfl, rfl⟩))
            go_roundw
            case rel => exact ⟨⟨HB6.out⟩, .inr (.inr (.inr ⟨by go_num, ⟨HGo.out HH.out⟩⟩))⟩
            case measure => simp [intOf]
          · rw [hco] at HHit
            replace HCo := Aside0.mk (HCo.out true hco)
            have HH := Aside0.mk (HHit.out true rfl)
            unfold sg1 at HCo
            have HN3 := Aside0.mk (HI.out.trans (signF_hit1 HH.out))
            go_upto_region 9 with (first | (go_at_call 55; refine (HCa'.out _).mono ?_; rintro e w6 ⟨rfl, hb⟩; have HB6 := Aside0.mk (HB5.out.trans (hb.mono HB5.out.size)); have HNb6 := Aside0.mk (blk_below HNb.out hb); clear hb; obtain ⟨⟨v0, v1, v2, v3⟩, x0, x1, x2, x3⟩ := B33_facts HNb6.out) | (go_at_call 56; refine (HCo.out _ (HFin.out _ HB6.out).2.2.2).mono ?_; rintro e w7 ⟨rfl, rfl⟩))
            have b1 : (t.toList == [123]) = false := by rw [← HT.out]; exact HNB.out.1
            have b2 : (t.toList == [125]) = false := by rw [← HT.out]; exact HNB.out.2
            have HF7 := Aside0.mk (HFin.out _ HB6.out)
            obtain ⟨⟨n0, n1, n2, n3⟩, m0, m1, m2, m3⟩ := B33_facts HF7.out.2.2.1
            have HP := Aside0.mk (signP_some HN3.out (by decide) HT.out)
            have HQ := Aside0.mk (show signO l p os = os from by rw [signO_some HP.out, if_neg (by simpa using b1), if_neg (by simpa using b2)])
            go_wp2_with fail
            refine bodyPost_ret (results_cell_row rfl _ _ w.heap.size 33 #[.int .i64 9, .string t, .int .i64 p, .int .i64 ((p : Int) + 1)] (0, 0) _ rfl (B33_put HF7.out.2.2.1 9 t p ((p : Int) + 1)) Try.underlying33 rfl (by kernel_rfl)) rfl ?_
            exact ⟨by rw [HP.out]; simp [tkV], by rw [HQ.out]; exact HSt.out.below (below_set (below_set (below_set (below_set HF7.out.2.1 (Nat.le_refl _)) (Nat.le_refl _)) (Nat.le_refl _)) (Nat.le_refl _)), (KeepO.refl g w).below (below_set (below_set (below_set (below_set HF7.out.2.1 (Nat.le_refl _)) (Nat.le_refl _)) (Nat.le_refl _)) (Nat.le_refl _))⟩

        · rw [hca] at HCa' HHit
          have HH := Aside0.mk (HHit.out false rfl)
          go_wp2_with (go_at_call 55; refine (HCa'.out _).mono ?_; rintro e w6 ⟨rfl, hb⟩; have HB6 := Aside0.mk (HB5.out.trans (hb.mono HB5.out.size)); clear hb)
          go_roundw
          case rel => exact ⟨⟨HB6.out⟩, .inr (.inr (.inr ⟨by go_num, ⟨HGo.out HH.out⟩⟩))⟩
          case measure => simp [intOf]
      · have d1 : decide ((l.length : Int) - (p : Int) < 1) = true := decide_eq_true (by omega)
        have HH := Aside0.mk (show hitB sg1 l p 1 = false from by unfold hitB; rw [decide_eq_false hlen]; rfl)
        go_wp2_with fail
        go_quiet (fail)
        go_wp2
        go_roundw
        case rel => exact ⟨⟨HB.out.trans (pw_below_drewN (Below.refl _ _) _)⟩, .inr (.inr (.inr ⟨by go_num, ⟨HGo.out HH.out⟩⟩))⟩
        case measure => simp [intOf]
    · obtain ⟨⟨n0, n1, n2, n3⟩, m0, m1, m2, m3⟩ := B33_facts HFr.out.2.2.1
      have h0 : signN l p = 0 := HI.out.trans (by simp [signF])
      have HZ := Aside0.mk h0
      clear h0
      go_wp2
      refine bodyPost_ret (results_cell_row rfl _ _ w.heap.size 33 #[.int .i64 0, .string ⟨#[]⟩, .int .i64 0, .int .i64 0] (0, 0) _ rfl (B33_put HFr.out.2.2.1 0 ⟨#[]⟩ 0 0) Try.underlying33 rfl (by kernel_rfl)) rfl ?_
      exact ⟨by rw [signP_none HZ.out]; rfl, by rw [signO_none HZ.out]; exact HSt.out.below (below_set (below_set (below_set (below_set HFr.out.2.1 (Nat.le_refl _)) (Nat.le_refl _)) (Nat.le_refl _)) (Nat.le_refl _)), (KeepO.refl g w).below (below_set (below_set (below_set (below_set HFr.out.2.1 (Nat.le_refl _)) (Nat.le_refl _)) (Nat.le_refl _)) (Nat.le_refl _))⟩
end Go.Proofs.Ytglghpgpnlkpmaa.V
