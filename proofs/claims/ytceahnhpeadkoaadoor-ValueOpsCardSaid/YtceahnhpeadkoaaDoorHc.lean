/- The small functions and function values of package value: what each operator of numbers makes of two numbers. -/
import Derived.Test.YtceahnhpeadkoaaDoorVx5
import Derived.Handy
namespace Go.Proofs.YtceahnhpeadkoaaDoor.V
open Go.RowKit Go.Proofs.YtceahnhpeadkoaaDoorW.PrintWords Go.Proofs.YtceahnhpeadkoaaDoorW.PrintLast Go.Proofs.YtceahnhpeadkoaaDoorW.PrintMore
attribute [local go_sem] max2_int min2_int max_two min_two max_three min_three max_four min_four   -- for this text's walks alone
set_option linter.unusedVariables false
set_option linter.unusedSimpArgs false

/-- 32 digits, signed. -/
def lowI (a : Int) : Int := wrap64 (wrap32 ((IntKind.u64.wrap a) % 4294967296))
theorem low_any (a : Int) (w : World) : Calls Tryd.prog 30 #[.int .i64 a] w fun e w' => e = .returned (.int .i64 (lowI a)) ∧ Drawn0 w w' := value_low.calls a _ w rfl

theorem and31 (b : Int) : Go.bits .and .i64 b 31 = b % 32 := by
  have h31 : BitVec.ofInt 64 31 = BitVec.ofNat 64 (2 ^ 5 - 1) := by decide
  have h : (BitVec.ofInt 64 b &&& BitVec.ofInt 64 31).toNat = (b % 32).toNat := by
    rw [h31, BitVec.toNat_and, BitVec.toNat_ofInt, BitVec.toNat_ofNat]
    rw [Nat.mod_eq_of_lt (by decide), Nat.and_two_pow_sub_one_eq_mod]
    omega
  show IntKind.i64.wrap ((BitVec.ofInt 64 b &&& BitVec.ofInt 64 31).toNat : Int) = _
  rw [h, IntKind.wrap_i64]
  omega

def shlI (a b : Int) : Int := lowI (wrap64 (lowI a * 2 ^ (b % 32).toNat))
theorem ret_int {k : IntKind} {a b : Int} (h : a = b) : Ending.returned (.int k a) = .returned (.int k b) := by rw [h]
def shrI (a b : Int) : Int := lowI a / 2 ^ (b % 32).toNat
def ushrI (a b : Int) : Int := (lowI a % 4294967296) / 2 ^ (b % 32).toNat

theorem c51 (a b : Int) (w : World) : Calls Tryd.prog 51 #[.int .i64 a, .int .i64 b] w fun e w' => e = .returned (.int .i64 (wrap64 (a - b))) ∧ Drawn0 w w' := by
  go_enter Tryd.func51, Tryd.ntmps51
  go_wp2
  go_ret
  exact ⟨rfl, Drawn0.refl _⟩
theorem c54 (a b : Int) (w : World) : Calls Tryd.prog 54 #[.int .i64 a, .int .i64 b] w fun e w' => e = .returned (.int .i64 (Go.bits .and .i64 (lowI a) (lowI b))) ∧ Drawn0 w w' := by
  go_enter Tryd.func54, Tryd.ntmps54
  go_wp2_with (go_at_call 30; refine (low_any _ _).mono ?_; rintro e w' ⟨rfl, nd, rfl⟩)
  go_ret
  exact ⟨rfl, ⟨_, rfl⟩⟩
theorem c55 (a b : Int) (w : World) : Calls Tryd.prog 55 #[.int .i64 a, .int .i64 b] w fun e w' => e = .returned (.int .i64 (Go.bits .or .i64 (lowI a) (lowI b))) ∧ Drawn0 w w' := by
  go_enter Tryd.func55, Tryd.ntmps55
  go_wp2_with (go_at_call 30; refine (low_any _ _).mono ?_; rintro e w' ⟨rfl, nd, rfl⟩)
  go_ret
  exact ⟨rfl, ⟨_, rfl⟩⟩
theorem c56 (a b : Int) (w : World) : Calls Tryd.prog 56 #[.int .i64 a, .int .i64 b] w fun e w' => e = .returned (.int .i64 (Go.bits .xor .i64 (lowI a) (lowI b))) ∧ Drawn0 w w' := by
  go_enter Tryd.func56, Tryd.ntmps56
  go_wp2_with (go_at_call 30; refine (low_any _ _).mono ?_; rintro e w' ⟨rfl, nd, rfl⟩)
  go_ret
  exact ⟨rfl, ⟨_, rfl⟩⟩
theorem sh_facts (b : Int) : 0 ≤ b % 32 ∧ b % 32 ≤ 31 := by omega
theorem c57 (a b : Int) (w : World) : Calls Tryd.prog 57 #[.int .i64 a, .int .i64 b] w fun e w' => e = .returned (.int .i64 (shlI a b)) ∧ Drawn0 w w' := by
  have h31 := and31 b
  obtain ⟨q0, q1⟩ := sh_facts b
  have q2 : b % 32 ≤ 64 := by omega
  have sh : ∀ yk, Op.shift .shl .i64 (lowI a) yk (b % 32) = pure (.int .i64 (IntKind.i64.wrap (lowI a * 2 ^ (b % 32).toNat))) := fun yk => shift_shl_i64 _ _ _ q0 q2
  go_enter Tryd.func57, Tryd.ntmps57
  go_wp2_with (go_at_call 30; refine (low_any _ _).mono ?_; rintro e w' ⟨rfl, nd, rfl⟩)
  go_ret
  exact ⟨rfl, ⟨_, rfl⟩⟩
theorem c58 (a b : Int) (w : World) : Calls Tryd.prog 58 #[.int .i64 a, .int .i64 b] w fun e w' => e = .returned (.int .i64 (shrI a b)) ∧ Drawn0 w w' := by
  have h31 := and31 b
  obtain ⟨q0, q1⟩ := sh_facts b
  have q2 : b % 32 ≤ 64 := by omega
  have sh : ∀ yk, Op.shift .shr .i64 (lowI a) yk (b % 32) = pure (.int .i64 (lowI a / 2 ^ (b % 32).toNat)) := fun yk => shift_shr_i64 _ _ _ q0 q2
  go_enter Tryd.func58, Tryd.ntmps58
  go_wp2_with (go_at_call 30; refine (low_any _ _).mono ?_; rintro e w' ⟨rfl, nd, rfl⟩)
  go_ret
  exact ⟨rfl, ⟨_, rfl⟩⟩
theorem ushr_in (x b : Int) (h : 0 ≤ x ∧ x < 4294967296) : wrap64 (x / 2 ^ (b % 32).toNat) = x / 2 ^ (b % 32).toNat := by
  have hp : (0 : Int) < 2 ^ (b % 32).toNat := Int.pow_pos (by decide)
  have h1 := Int.ediv_nonneg h.1 (Int.le_of_lt hp)
  have h2 : x / 2 ^ (b % 32).toNat ≤ x := Int.ediv_le_self _ h.1
  unfold wrap64
  omega
theorem c59 (a b : Int) (w : World) : Calls Tryd.prog 59 #[.int .i64 a, .int .i64 b] w fun e w' => e = .returned (.int .i64 (ushrI a b)) ∧ Drawn0 w w' := by
  have h31 := and31 b
  obtain ⟨q0, q1⟩ := sh_facts b
  have q2 : b % 32 ≤ 32 := by omega
  have sh : ∀ yk, Op.shift .shr .u32 (lowI a % 4294967296) yk (b % 32) = pure (.int .u32 ((lowI a % 4294967296) / 2 ^ (b % 32).toNat)) := fun yk => shift_shr_u32 _ _ _ q0 q2
  have sw := ushr_in (lowI a % 4294967296) b (by omega)
  go_enter Tryd.func59, Tryd.ntmps59
  go_wp2_with (go_at_call 30; refine (low_any _ _).mono ?_; rintro e w' ⟨rfl, nd, rfl⟩)
  go_ret
  exact ⟨ret_int sw, ⟨_, rfl⟩⟩
theorem c53_zero (a : Int) (w : World) : Calls Tryd.prog 53 #[.int .i64 a, .int .i64 0] w fun e w' => e = .returned (.tuple #[.int .i64 0, .bool false]) ∧ Drawn0 w w' := by
  go_enter Tryd.func53, Tryd.ntmps53
  go_wp2
  go_ret2
  exact ⟨rfl, Drawn0.refl _⟩
theorem c53 (a b : Int) (w : World) (hb : ¬ b = 0) : Calls Tryd.prog 53 #[.int .i64 a, .int .i64 b] w fun e w' => e = .returned (.tuple #[.int .i64 (Int.tmod a b), .bool true]) ∧ Drawn0 w w' := by
  have hb2 : (b == 0) = false := by simp [hb]
  go_enter Tryd.func53, Tryd.ntmps53
  go_wp2
  go_ret2
  exact ⟨rfl, Drawn0.refl _⟩
theorem c60 (c : Int) (w : World) : Calls Tryd.prog 60 #[.int .i64 c] w fun e w' => e = .returned (.bool (decide (c < 0))) ∧ Drawn0 w w' := by
  go_enter Tryd.func60, Tryd.ntmps60
  go_wp2
  go_ret
  exact ⟨rfl, Drawn0.refl _⟩
theorem c61 (c : Int) (w : World) : Calls Tryd.prog 61 #[.int .i64 c] w fun e w' => e = .returned (.bool (decide (c ≤ 0))) ∧ Drawn0 w w' := by
  go_enter Tryd.func61, Tryd.ntmps61
  go_wp2
  go_ret
  exact ⟨rfl, Drawn0.refl _⟩
theorem c62 (c : Int) (w : World) : Calls Tryd.prog 62 #[.int .i64 c] w fun e w' => e = .returned (.bool (decide (0 < c))) ∧ Drawn0 w w' := by
  go_enter Tryd.func62, Tryd.ntmps62
  go_wp2
  go_ret
  exact ⟨rfl, Drawn0.refl _⟩
theorem c63 (c : Int) (w : World) : Calls Tryd.prog 63 #[.int .i64 c] w fun e w' => e = .returned (.bool (decide (0 ≤ c))) ∧ Drawn0 w w' := by
  go_enter Tryd.func63, Tryd.ntmps63
  go_wp2
  go_ret
  exact ⟨rfl, Drawn0.refl _⟩
/-- The product of two numbers within the ends, and whether it is one. -/
def timesI (a b : Int) : Int := if 9007199254740991 < (a * b).natAbs then 0 else a * b
def timesB (a b : Int) : Bool := if 9007199254740991 < (a * b).natAbs then false else true
theorem c70 (n : Int) (w : World) (h0 : -9007199254740991 ≤ n) (h1 : n ≤ 9007199254740991) : Calls Tryd.prog 70 #[.int .i64 n] w fun e w' => e = .returned (.int .u64 (n.natAbs : Nat)) ∧ Drawn0 w w' := by
  have hmx : mx n (-n) = (n.natAbs : Nat) := by unfold mx; omega
  have hw : wrap64 (-n) = -n := by unfold wrap64; omega
  have hu : IntKind.u64.wrap ((n.natAbs : Nat) : Int) = (n.natAbs : Nat) := by rw [show IntKind.u64.wrap = fun m : Int => m % 18446744073709551616 from by funext m; simp [IntKind.wrap, IntKind.bits, IntKind.signed]]; show ((n.natAbs : Nat) : Int) % 18446744073709551616 = _; omega
  by_cases hn : 0 ≤ n
  · go_enter Tryd.func70, Tryd.ntmps70
    go_wp2
    all_goals
      go_ret
      exact ⟨ret_int (by omega), Drawn0.refl _⟩
  · go_enter Tryd.func70, Tryd.ntmps70
    go_wp2
    all_goals
      go_ret
      exact ⟨ret_int (by omega), Drawn0.refl _⟩
theorem c71 (x y : Nat) (w : World) (hx : x ≤ 9007199254740991) (hy : y ≤ 9007199254740991) : Calls Tryd.prog 71 #[.int .u64 x, .int .u64 y] w fun e w' => e = .returned (.tuple #[.int .u64 ((x * y / 18446744073709551616 : Nat) : Int), .int .u64 ((x * y % 18446744073709551616 : Nat) : Int)]) ∧ Drawn0 w w' :=
  (Tryd.bits_Mul64 x y (by omega) (by omega) w).mono fun _ _ ⟨h1, h2⟩ => ⟨h1, by rw [h2]; exact Drawn0.refl _⟩
theorem natAbs_mul_le (a b : Int) (ha0 : -9007199254740991 ≤ a) (ha1 : a ≤ 9007199254740991) (hb0 : -9007199254740991 ≤ b) (hb1 : b ≤ 9007199254740991) : a.natAbs * b.natAbs ≤ 9007199254740991 * 9007199254740991 :=
  Nat.mul_le_mul (by omega) (by omega)
theorem times_big (a b : Int) (h : ¬ (a.natAbs : Int) * (b.natAbs : Int) / 18446744073709551616 = 0 ∨ 9007199254740991 < (a.natAbs : Int) * (b.natAbs : Int) % 18446744073709551616) : timesI a b = 0 ∧ timesB a b = false := by
  have hna := Int.natAbs_mul a b
  have hc : ((a.natAbs * b.natAbs : Nat) : Int) = (a.natAbs : Int) * (b.natAbs : Int) := by simp
  rw [← hc] at h
  have : 9007199254740991 < (a * b).natAbs := by rw [hna]; generalize a.natAbs * b.natAbs = p at h ⊢; omega
  exact ⟨if_pos this, if_pos this⟩
theorem times_small (a b : Int) (h0 : (a.natAbs : Int) * (b.natAbs : Int) / 18446744073709551616 = 0) (h1 : (a.natAbs : Int) * (b.natAbs : Int) % 18446744073709551616 ≤ 9007199254740991) :
    timesI a b = a * b ∧ timesB a b = true ∧ ((a < 0 ↔ b < 0) → a * b = (a.natAbs : Int) * (b.natAbs : Int) % 18446744073709551616) ∧ (¬ (a < 0 ↔ b < 0) → a * b = -((a.natAbs : Int) * (b.natAbs : Int) % 18446744073709551616)) := by
  have hna := Int.natAbs_mul a b
  have hc : ((a.natAbs * b.natAbs : Nat) : Int) = (a.natAbs : Int) * (b.natAbs : Int) := by simp
  have hpp : (a.natAbs : Int) * (b.natAbs : Int) % 18446744073709551616 = (a.natAbs : Int) * (b.natAbs : Int) := by rw [← hc] at h0 h1 ⊢; omega
  have hn : ¬ 9007199254740991 < (a * b).natAbs := by rw [hna]; rw [hpp, ← hc] at h1; omega
  refine ⟨if_neg hn, if_neg hn, fun h => ?_, fun h => ?_⟩
  · rw [hpp]
    by_cases ha : a < 0
    · have hb : b < 0 := h.1 ha
      have e1 : (a.natAbs : Int) = -a := by omega
      have e2 : (b.natAbs : Int) = -b := by omega
      rw [e1, e2, Int.neg_mul_neg]
    · have hb : ¬ b < 0 := fun hb => ha (h.2 hb)
      have e1 : (a.natAbs : Int) = a := by omega
      have e2 : (b.natAbs : Int) = b := by omega
      rw [e1, e2]
  · rw [hpp]
    by_cases ha : a < 0
    · have hb : ¬ b < 0 := fun hb => h ⟨fun _ => hb, fun _ => ha⟩
      have e1 : (a.natAbs : Int) = -a := by omega
      have e2 : (b.natAbs : Int) = b := by omega
      rw [e1, e2, Int.neg_mul, Int.neg_neg]
    · have hb : b < 0 := by
        by_cases hb : b < 0
        · exact hb
        · exact absurd ⟨fun z => absurd z ha, fun z => absurd z hb⟩ h
      have e1 : (a.natAbs : Int) = a := by omega
      have e2 : (b.natAbs : Int) = -b := by omega
      rw [e1, e2, Int.mul_neg, Int.neg_neg]
theorem sgn_ne {a b : Int} (h : (!decide (a < 0) == decide (b < 0)) = true) : ¬ (a < 0 ↔ b < 0) := by
  by_cases ha : a < 0 <;> by_cases hb : b < 0 <;> first | omega | (simp_all; done) | (simp_all; omega)
theorem sgn_eq {a b : Int} (h : (!decide (a < 0) == decide (b < 0)) = false) : (a < 0 ↔ b < 0) := by
  by_cases ha : a < 0 <;> by_cases hb : b < 0 <;> first | omega | (simp_all; done) | (simp_all; omega)
theorem ret_ib {a b : Int} {p q : Bool} (h : a = b) (h2 : p = q) : Ending.returned (.tuple #[.int .i64 a, .bool p]) = .returned (.tuple #[.int .i64 b, .bool q]) := by rw [h, h2]
set_option maxHeartbeats 800000 in
theorem c52 (a b : Int) (w : World) (ha0 : -9007199254740991 ≤ a) (ha1 : a ≤ 9007199254740991) (hb0 : -9007199254740991 ≤ b) (hb1 : b ≤ 9007199254740991) :
    Calls Tryd.prog 52 #[.int .i64 a, .int .i64 b] w fun e w' => e = .returned (.tuple #[.int .i64 (timesI a b), .bool (timesB a b)]) ∧ Drawn0 w w' := by
  have hm := natAbs_mul_le a b ha0 ha1 hb0 hb1
  have hna := Int.natAbs_mul a b
  go_enter Tryd.func52, Tryd.ntmps52
  go_wp2_with (first | (go_at_call 70; refine (c70 _ _ (by omega) (by omega)).mono ?_; rintro e w' ⟨rfl, nd, rfl⟩) | (go_at_call 71; refine (c71 _ _ _ (by omega) (by omega)).mono ?_; rintro e w' ⟨rfl, nd, rfl⟩))
  · have h : 9007199254740991 < (a.natAbs : Int) * (b.natAbs : Int) % 18446744073709551616 := by assumption
    obtain ⟨e1, e2⟩ := times_big a b (.inr h)
    go_ret2
    exact ⟨ret_ib e1.symm e2.symm, ⟨_, rfl⟩⟩
  · have h0 : (a.natAbs : Int) * (b.natAbs : Int) / 18446744073709551616 = 0 := by assumption
    have h1 : (a.natAbs : Int) * (b.natAbs : Int) % 18446744073709551616 ≤ 9007199254740991 := by assumption
    have h2 : (!decide (a < 0) == decide (b < 0)) = true := by assumption
    obtain ⟨e1, e2, _, e3⟩ := times_small a b h0 h1
    have h3 := sgn_ne h2
    go_ret2
    exact ⟨ret_ib (by rw [e1, e3 h3]) e2.symm, ⟨_, rfl⟩⟩
  · have h0 : (a.natAbs : Int) * (b.natAbs : Int) / 18446744073709551616 = 0 := by assumption
    have h1 : (a.natAbs : Int) * (b.natAbs : Int) % 18446744073709551616 ≤ 9007199254740991 := by assumption
    have h2 : (!decide (a < 0) == decide (b < 0)) = false := by assumption
    obtain ⟨e1, e2, e3, _⟩ := times_small a b h0 h1
    have h3 := sgn_eq h2
    go_ret2
    exact ⟨ret_ib (by rw [e1, e3 h3]) e2.symm, ⟨_, rfl⟩⟩
  · have h : ¬ (a.natAbs : Int) * (b.natAbs : Int) / 18446744073709551616 = 0 := by assumption
    obtain ⟨e1, e2⟩ := times_big a b (.inl h)
    go_ret2
    exact ⟨ret_ib e1.symm e2.symm, ⟨_, rfl⟩⟩
end Go.Proofs.YtceahnhpeadkoaaDoor.V
