/- The reference's decoding of bytes is the model's own: rune, width, whether it is one. -/
import Derived.Test.YtceahnhpeadkoaaDoorVx4
import Derived.Test.YtceahnhpeadkoaaDoorHe
import Derived.Handy
namespace Go.Proofs.YtceahnhpeadkoaaDoor.V
open Go.RowKit Go.Proofs.YtceahnhpeadkoaaDoorW.PrintWords Go.Proofs.YtceahnhpeadkoaaDoorW.PrintLast Go.Proofs.YtceahnhpeadkoaaDoorW.PrintMore
set_option linter.unusedVariables false
set_option linter.unusedSimpArgs false

/-- Is a decoded rune one? -/
def goodD (p : Nat × Nat) : Bool := !(p.1 == 65533 && p.2 == 1)

theorem rd_nat (s : ByteArray) (p : Nat) : rd (bytesOf s) (p : Int) = ((s.data.toList.getD p 0).toNat : Int) := by
  unfold rd bytesOf
  rw [Int.toNat_natCast]
  by_cases h : p < s.data.toList.length
  · simp [List.getD_eq_getElem?_getD, List.getElem?_eq_getElem h]
  · simp [List.getD_eq_getElem?_getD, List.getElem?_eq_none (Nat.le_of_not_lt h)]

theorem cont_ref (s : ByteArray) (p : Nat) : shuckref1_cont.f (bytesOf s) (p : Int) = some (decide (p < s.data.toList.length ∧ (s.data.toList.getD p 0).toNat / 64 = 2)) := by
  unfold shuckref1_cont.f
  rw [bytesOf_length, ← data_length, rd_nat]
  have hb := (s.data.toList.getD p 0).toNat_lt
  generalize (s.data.toList.getD p 0).toNat = b at *
  by_cases h : p < s.data.toList.length
  · rw [if_pos (by omega), if_pos (by omega)]
    by_cases h2 : (b : Int) ≥ 128
    · rw [if_pos h2]; congr 1; rw [decide_eq_decide]; omega
    · rw [if_neg h2]; congr 1; symm; rw [decide_eq_false_iff_not]; omega
  · rw [if_neg (by omega)]; congr 1; symm; rw [decide_eq_false_iff_not]; omega

theorem w64_in {x : Int} (h : -9223372036854775808 ≤ x ∧ x ≤ 9223372036854775807) : wrap64 x = x := by unfold wrap64; omega
theorem w32_in {x : Int} (h : -2147483648 ≤ x ∧ x ≤ 2147483647) : wrap32 x = x := by unfold wrap32; omega

/-- The end of the reference's decoding: what its tests make of the code point. -/
def finD (i : Nat) (v least n : Int) : Int × Int × Int × Bool :=
  if v < least ∨ v > 1114111 ∨ (55296 ≤ v ∧ v ≤ 57343) then ((i : Int), 65533, 1, false) else ((i : Int), v, n, true)

theorem l0_end (k : Nat) (s : ByteArray) (i : Nat) (n v least : Int) (hv : 0 ≤ v ∧ v ≤ 2097151) : shuckref1_Decode.l0 (k + 1) (bytesOf s) i n v least n i 65533 1 false = some (finD i v least n) := by
  simp only [shuckref1_Decode.l0]
  rw [if_neg (by omega)]
  unfold finD
  rw [w32_in (x := v) (by omega)]
  by_cases h1 : v < least
  · rw [if_pos h1, if_pos (.inl h1)]
  rw [if_neg h1]
  by_cases h2 : v > 1114111
  · rw [if_pos h2, if_pos (.inr (.inl h2))]
  rw [if_neg h2]
  by_cases h3 : v ≥ 55296
  · rw [if_pos h3]
    by_cases h4 : v ≤ 57343
    · rw [if_pos h4, if_pos (.inr (.inr ⟨h3, h4⟩))]
    · rw [if_neg h4, if_neg (by omega)]
  · rw [if_neg h3, if_neg (by omega)]

theorem l0_step (k : Nat) (s : ByteArray) (i j : Nat) (J J2 : Int) (hJ : J = (j : Int)) (hJ2 : J2 = ((j + 1 : Nat) : Int)) (n v least : Int) (hi : i + j ≤ 4611686018427387904) (hj : (j : Int) < n) (hv : 0 ≤ v ∧ v ≤ 32767) :
    shuckref1_Decode.l0 (k + 1) (bytesOf s) i n v least J i 65533 1 false =
      if i + j < s.data.toList.length ∧ (s.data.toList.getD (i + j) 0).toNat / 64 = 2 then shuckref1_Decode.l0 k (bytesOf s) i n (v * 64 + ((s.data.toList.getD (i + j) 0).toNat % 64 : Nat)) least J2 i 65533 1 false
      else some ((i : Int), 65533, 1, false) := by
  subst hJ hJ2
  simp only [shuckref1_Decode.l0]
  rw [if_pos hj]
  have e0 : wrap64 ((i : Int) + (j : Int)) = ((i + j : Nat) : Int) := by rw [w64_in (by omega)]; omega
  have hb := (s.data.toList.getD (i + j) 0).toNat_lt
  rw [e0, cont_ref, rd_nat, bytesOf_length, ← data_length]
  simp only [Option.bind_some]
  generalize hbb : (s.data.toList.getD (i + j) 0).toNat = b at *
  by_cases h : i + j < s.data.toList.length ∧ b / 64 = 2
  · rw [if_pos h, if_pos (decide_eq_true h), if_pos (by omega), if_pos (by omega)]
    have e1 : wrap64 ((wrap64 ((wrap64 (v * 64)) + (wrap64 (b : Int)))) - 128) = v * 64 + (b % 64 : Nat) := by
      rw [w64_in (x := v * 64) (by omega), w64_in (x := (b : Int)) (by omega), w64_in (x := v * 64 + (b : Int)) (by omega), w64_in (by omega)]
      omega
    have e2 : wrap64 ((j : Int) + 1) = ((j + 1 : Nat) : Int) := by rw [w64_in (by omega)]; omega
    rw [e1, e2]
  · rw [if_neg h, if_neg (by simp only [decide_eq_true_eq]; exact h)]

theorem dec_ref (s : ByteArray) (i : Nat) (h : i < s.size) (hs : s.size ≤ 4611686018427387900) :
    shuckref1_Decode.f 12 (bytesOf s) i = some ((i : Int), ((Utf8.decode s i).1 : Int), ((Utf8.decode s i).2 : Int), goodD (Utf8.decode s i)) := by
  have hl : s.data.toList.length = s.size := data_length s
  rw [Lib.decode_N]
  unfold shuckref1_Decode.f
  rw [if_neg (by omega), bytesOf_length]
  rw [show decide ((i : Int) ≥ (s.size : Int)) = false by rw [decide_eq_false_iff_not]; omega]
  simp only [shuckref1_Decode.j0]
  rw [if_neg (by simp), if_pos (by omega), if_pos (by rw [bytesOf_length]; omega)]
  rw [show rd (bytesOf s) (i : Int) = ((s.data.toList.getD i 0).toNat : Int) from rd_nat s i]
  have k0 := (s.data.toList.getD i 0).toNat_lt
  have k1 := (s.data.toList.getD (i + 1) 0).toNat_lt
  have k2 := (s.data.toList.getD (i + 2) 0).toNat_lt
  have k3 := (s.data.toList.getD (i + 3) 0).toNat_lt
  have st1 := fun (k : Nat) (n v least : Int) (h1 : ((1 : Nat) : Int) < n) (h2 : 0 ≤ v ∧ v ≤ 32767) => l0_step k s i 1 1 2 rfl rfl n v least (by omega) h1 h2
  have st2 := fun (k : Nat) (n v least : Int) (h1 : ((2 : Nat) : Int) < n) (h2 : 0 ≤ v ∧ v ≤ 32767) => l0_step k s i 2 2 3 rfl rfl n v least (by omega) h1 h2
  have st3 := fun (k : Nat) (n v least : Int) (h1 : ((3 : Nat) : Int) < n) (h2 : 0 ≤ v ∧ v ≤ 32767) => l0_step k s i 3 3 4 rfl rfl n v least (by omega) h1 h2
  have en := fun (k : Nat) (n v least : Int) (hv : 0 ≤ v ∧ v ≤ 2097151) => l0_end k s i n v least hv
  rw [hl] at *
  generalize (s.data.toList.getD i 0).toNat = b0 at *
  have bad : goodD (65533, 1) = false := rfl
  by_cases c0 : b0 < 128
  · rw [if_pos (by omega)]
    have hD : Lib.decodeN (s.size - i) b0 (s.data.toList.getD (i + 1) 0).toNat (s.data.toList.getD (i + 2) 0).toNat (s.data.toList.getD (i + 3) 0).toNat = (b0, 1) := by unfold Lib.decodeN; rw [if_pos c0]
    rw [hD]
    have : goodD (b0, 1) = true := by unfold goodD; rw [show (b0 == 65533) = false by rw [beq_eq_false_iff_ne]; omega]; rfl
    rw [this, w32_in (by omega)]
    rfl
  rw [if_neg (by omega)]
  by_cases c1 : b0 / 32 = 6
  · rw [if_pos (by omega), show decide ((b0 : Int) ≤ 223) = true by rw [decide_eq_true_eq]; omega]
    simp only [shuckref1_Decode.j1, if_true, shuckref1_Decode.j3]
    rw [show wrap64 (wrap64 (b0 : Int) - 192) = ((b0 % 32 : Nat) : Int) by rw [w64_in (x := (b0 : Int)) (by omega), w64_in (by omega)]; omega]
    rw [st1 _ 2 _ 128 (by omega) (by omega)]
    by_cases g1 : i + 1 < s.size ∧ (s.data.toList.getD (i + 1) 0).toNat / 64 = 2
    · rw [if_pos g1, en _ 2 _ 128 (by omega)]
      unfold finD
      by_cases g2 : b0 % 32 * 64 + (s.data.toList.getD (i + 1) 0).toNat % 64 ≥ 128
      · rw [if_neg (by omega)]
        have hD : Lib.decodeN (s.size - i) b0 (s.data.toList.getD (i + 1) 0).toNat (s.data.toList.getD (i + 2) 0).toNat (s.data.toList.getD (i + 3) 0).toNat = (b0 % 32 * 64 + (s.data.toList.getD (i + 1) 0).toNat % 64, 2) := by unfold Lib.decodeN; rw [if_neg c0, if_pos ⟨c1, by omega, g1.2⟩, if_pos g2]
        rw [hD]
        have : goodD (b0 % 32 * 64 + (s.data.toList.getD (i + 1) 0).toNat % 64, 2) = true := by unfold goodD; simp
        rw [this]
        refine congrArg some (Prod.ext rfl (Prod.ext ?_ rfl))
        dsimp only
        omega
      · rw [if_pos (by omega)]
        have hD : Lib.decodeN (s.size - i) b0 (s.data.toList.getD (i + 1) 0).toNat (s.data.toList.getD (i + 2) 0).toNat (s.data.toList.getD (i + 3) 0).toNat = (65533, 1) := by unfold Lib.decodeN; rw [if_neg c0, if_pos ⟨c1, by omega, g1.2⟩, if_neg g2]
        rw [hD]
        rfl
    · rw [if_neg g1]
      have hD : Lib.decodeN (s.size - i) b0 (s.data.toList.getD (i + 1) 0).toNat (s.data.toList.getD (i + 2) 0).toNat (s.data.toList.getD (i + 3) 0).toNat = (65533, 1) := by unfold Lib.decodeN; rw [if_neg c0, if_neg (fun z => g1 ⟨by omega, z.2.2⟩), if_neg (by omega), if_neg (by omega)]
      rw [hD]
      rfl
  by_cases c2 : b0 / 16 = 14
  · rw [if_pos (by omega), show decide ((b0 : Int) ≤ 223) = false by rw [decide_eq_false_iff_not]; omega]
    simp only [shuckref1_Decode.j1]
    rw [if_neg (by simp), if_pos (by omega), show decide ((b0 : Int) ≤ 239) = true by rw [decide_eq_true_eq]; omega]
    simp only [shuckref1_Decode.j2, if_true, shuckref1_Decode.j3]
    rw [show wrap64 (wrap64 (b0 : Int) - 224) = ((b0 % 16 : Nat) : Int) by rw [w64_in (x := (b0 : Int)) (by omega), w64_in (by omega)]; omega]
    rw [st1 _ 3 _ 2048 (by omega) (by omega)]
    by_cases g1 : i + 1 < s.size ∧ (s.data.toList.getD (i + 1) 0).toNat / 64 = 2
    · rw [if_pos g1, st2 _ 3 _ 2048 (by omega) (by omega)]
      by_cases g2 : i + 2 < s.size ∧ (s.data.toList.getD (i + 2) 0).toNat / 64 = 2
      · rw [if_pos g2, en _ 3 _ 2048 (by omega)]
        unfold finD
        by_cases g3 : b0 % 16 * 4096 + (s.data.toList.getD (i + 1) 0).toNat % 64 * 64 + (s.data.toList.getD (i + 2) 0).toNat % 64 ≥ 2048 ∧ (b0 % 16 * 4096 + (s.data.toList.getD (i + 1) 0).toNat % 64 * 64 + (s.data.toList.getD (i + 2) 0).toNat % 64 < 55296 ∨ (57344 ≤ b0 % 16 * 4096 + (s.data.toList.getD (i + 1) 0).toNat % 64 * 64 + (s.data.toList.getD (i + 2) 0).toNat % 64 ∧ b0 % 16 * 4096 + (s.data.toList.getD (i + 1) 0).toNat % 64 * 64 + (s.data.toList.getD (i + 2) 0).toNat % 64 ≤ 1114111))
        · rw [if_neg (by omega)]
          have hD : Lib.decodeN (s.size - i) b0 (s.data.toList.getD (i + 1) 0).toNat (s.data.toList.getD (i + 2) 0).toNat (s.data.toList.getD (i + 3) 0).toNat = (b0 % 16 * 4096 + (s.data.toList.getD (i + 1) 0).toNat % 64 * 64 + (s.data.toList.getD (i + 2) 0).toNat % 64, 3) := by unfold Lib.decodeN; rw [if_neg c0, if_neg (fun z => c1 z.1), if_pos ⟨c2, ⟨by omega, g1.2⟩, ⟨by omega, g2.2⟩⟩, if_pos g3]
          rw [hD]
          have : goodD (b0 % 16 * 4096 + (s.data.toList.getD (i + 1) 0).toNat % 64 * 64 + (s.data.toList.getD (i + 2) 0).toNat % 64, 3) = true := by unfold goodD; simp
          rw [this]
          refine congrArg some (Prod.ext rfl (Prod.ext ?_ rfl))
          dsimp only
          omega
        · rw [if_pos (by omega)]
          have hD : Lib.decodeN (s.size - i) b0 (s.data.toList.getD (i + 1) 0).toNat (s.data.toList.getD (i + 2) 0).toNat (s.data.toList.getD (i + 3) 0).toNat = (65533, 1) := by unfold Lib.decodeN; rw [if_neg c0, if_neg (fun z => c1 z.1), if_pos ⟨c2, ⟨by omega, g1.2⟩, ⟨by omega, g2.2⟩⟩, if_neg g3]
          rw [hD]
          rfl
      · rw [if_neg g2]
        have hD : Lib.decodeN (s.size - i) b0 (s.data.toList.getD (i + 1) 0).toNat (s.data.toList.getD (i + 2) 0).toNat (s.data.toList.getD (i + 3) 0).toNat = (65533, 1) := by unfold Lib.decodeN; rw [if_neg c0, if_neg (fun z => c1 z.1), if_neg (fun z => g2 ⟨by omega, z.2.2.2⟩), if_neg (by omega)]
        rw [hD]
        rfl
    · rw [if_neg g1]
      have hD : Lib.decodeN (s.size - i) b0 (s.data.toList.getD (i + 1) 0).toNat (s.data.toList.getD (i + 2) 0).toNat (s.data.toList.getD (i + 3) 0).toNat = (65533, 1) := by unfold Lib.decodeN; rw [if_neg c0, if_neg (fun z => c1 z.1), if_neg (fun z => g1 ⟨by omega, z.2.1.2⟩), if_neg (by omega)]
      rw [hD]
      rfl
  by_cases c3 : b0 / 8 = 30
  · rw [if_pos (by omega), show decide ((b0 : Int) ≤ 223) = false by rw [decide_eq_false_iff_not]; omega]
    simp only [shuckref1_Decode.j1]
    rw [if_neg (by simp), if_pos (by omega), show decide ((b0 : Int) ≤ 239) = false by rw [decide_eq_false_iff_not]; omega]
    simp only [shuckref1_Decode.j2]
    rw [if_neg (by simp), if_pos (by omega), if_pos (by omega)]
    simp only [shuckref1_Decode.j3]
    rw [show wrap64 (wrap64 (b0 : Int) - 240) = ((b0 % 8 : Nat) : Int) by rw [w64_in (x := (b0 : Int)) (by omega), w64_in (by omega)]; omega]
    rw [st1 _ 4 _ 65536 (by omega) (by omega)]
    by_cases g1 : i + 1 < s.size ∧ (s.data.toList.getD (i + 1) 0).toNat / 64 = 2
    · rw [if_pos g1, st2 _ 4 _ 65536 (by omega) (by omega)]
      by_cases g2 : i + 2 < s.size ∧ (s.data.toList.getD (i + 2) 0).toNat / 64 = 2
      · rw [if_pos g2, st3 _ 4 _ 65536 (by omega) (by omega)]
        by_cases g4 : i + 3 < s.size ∧ (s.data.toList.getD (i + 3) 0).toNat / 64 = 2
        · rw [if_pos g4, en _ 4 _ 65536 (by omega)]
          unfold finD
          by_cases g3 : b0 % 8 * 262144 + (s.data.toList.getD (i + 1) 0).toNat % 64 * 4096 + (s.data.toList.getD (i + 2) 0).toNat % 64 * 64 + (s.data.toList.getD (i + 3) 0).toNat % 64 ≥ 65536 ∧ (b0 % 8 * 262144 + (s.data.toList.getD (i + 1) 0).toNat % 64 * 4096 + (s.data.toList.getD (i + 2) 0).toNat % 64 * 64 + (s.data.toList.getD (i + 3) 0).toNat % 64 < 55296 ∨ (57344 ≤ b0 % 8 * 262144 + (s.data.toList.getD (i + 1) 0).toNat % 64 * 4096 + (s.data.toList.getD (i + 2) 0).toNat % 64 * 64 + (s.data.toList.getD (i + 3) 0).toNat % 64 ∧ b0 % 8 * 262144 + (s.data.toList.getD (i + 1) 0).toNat % 64 * 4096 + (s.data.toList.getD (i + 2) 0).toNat % 64 * 64 + (s.data.toList.getD (i + 3) 0).toNat % 64 ≤ 1114111))
          · rw [if_neg (by omega)]
            have hD : Lib.decodeN (s.size - i) b0 (s.data.toList.getD (i + 1) 0).toNat (s.data.toList.getD (i + 2) 0).toNat (s.data.toList.getD (i + 3) 0).toNat = (b0 % 8 * 262144 + (s.data.toList.getD (i + 1) 0).toNat % 64 * 4096 + (s.data.toList.getD (i + 2) 0).toNat % 64 * 64 + (s.data.toList.getD (i + 3) 0).toNat % 64, 4) := by unfold Lib.decodeN; rw [if_neg c0, if_neg (fun z => c1 z.1), if_neg (fun z => c2 z.1), if_pos ⟨c3, ⟨by omega, g1.2⟩, ⟨by omega, g2.2⟩, ⟨by omega, g4.2⟩⟩, if_pos g3]
            rw [hD]
            have : goodD (b0 % 8 * 262144 + (s.data.toList.getD (i + 1) 0).toNat % 64 * 4096 + (s.data.toList.getD (i + 2) 0).toNat % 64 * 64 + (s.data.toList.getD (i + 3) 0).toNat % 64, 4) = true := by unfold goodD; simp
            rw [this]
            refine congrArg some (Prod.ext rfl (Prod.ext ?_ rfl))
            dsimp only
            omega
          · rw [if_pos (by omega)]
            have hD : Lib.decodeN (s.size - i) b0 (s.data.toList.getD (i + 1) 0).toNat (s.data.toList.getD (i + 2) 0).toNat (s.data.toList.getD (i + 3) 0).toNat = (65533, 1) := by unfold Lib.decodeN; rw [if_neg c0, if_neg (fun z => c1 z.1), if_neg (fun z => c2 z.1), if_pos ⟨c3, ⟨by omega, g1.2⟩, ⟨by omega, g2.2⟩, ⟨by omega, g4.2⟩⟩, if_neg g3]
            rw [hD]
            rfl
        · rw [if_neg g4]
          have hD : Lib.decodeN (s.size - i) b0 (s.data.toList.getD (i + 1) 0).toNat (s.data.toList.getD (i + 2) 0).toNat (s.data.toList.getD (i + 3) 0).toNat = (65533, 1) := by unfold Lib.decodeN; rw [if_neg c0, if_neg (fun z => c1 z.1), if_neg (fun z => c2 z.1), if_neg (fun z => g4 ⟨by omega, z.2.2.2.2⟩)]
          rw [hD]
          rfl
      · rw [if_neg g2]
        have hD : Lib.decodeN (s.size - i) b0 (s.data.toList.getD (i + 1) 0).toNat (s.data.toList.getD (i + 2) 0).toNat (s.data.toList.getD (i + 3) 0).toNat = (65533, 1) := by unfold Lib.decodeN; rw [if_neg c0, if_neg (fun z => c1 z.1), if_neg (fun z => c2 z.1), if_neg (fun z => g2 ⟨by omega, z.2.2.1.2⟩)]
        rw [hD]
        rfl
    · rw [if_neg g1]
      have hD : Lib.decodeN (s.size - i) b0 (s.data.toList.getD (i + 1) 0).toNat (s.data.toList.getD (i + 2) 0).toNat (s.data.toList.getD (i + 3) 0).toNat = (65533, 1) := by unfold Lib.decodeN; rw [if_neg c0, if_neg (fun z => c1 z.1), if_neg (fun z => c2 z.1), if_neg (fun z => g1 ⟨by omega, z.2.1.2⟩)]
      rw [hD]
      rfl
  have hD : Lib.decodeN (s.size - i) b0 (s.data.toList.getD (i + 1) 0).toNat (s.data.toList.getD (i + 2) 0).toNat (s.data.toList.getD (i + 3) 0).toNat = (65533, 1) := by unfold Lib.decodeN; rw [if_neg c0, if_neg (fun z => c1 z.1), if_neg (fun z => c2 z.1), if_neg (fun z => c3 z.1)]
  rw [hD]
  by_cases c4 : (b0 : Int) ≥ 192
  · rw [if_pos c4, show decide ((b0 : Int) ≤ 223) = false by rw [decide_eq_false_iff_not]; omega]
    simp only [shuckref1_Decode.j1]
    rw [if_neg (by simp), if_pos (by omega), show decide ((b0 : Int) ≤ 239) = false by rw [decide_eq_false_iff_not]; omega]
    simp only [shuckref1_Decode.j2]
    rw [if_neg (by simp), if_pos (by omega), if_neg (by omega)]
    rfl
  · rw [if_neg c4]
    simp only [shuckref1_Decode.j1]
    rw [if_neg (by simp), if_neg (by omega)]
    simp only [shuckref1_Decode.j2]
    rw [if_neg (by simp), if_neg (by omega)]
    rfl
end Go.Proofs.YtceahnhpeadkoaaDoor.V
