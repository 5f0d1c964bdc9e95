/- Plain law: what the reference reckons of two numbers is what value's function values do. -/
import Derived.Test.YtceahnhpeadkoaaDoorUr
import Derived.Test.YtceahnhpeadkoaaDoorUx8
namespace Go.Proofs.YtceahnhpeadkoaaDoor.V
open Go Go.RowKit Go.Proofs.YtceahnhpeadkoaaDoorW.PrintWords Go.Proofs.YtceahnhpeadkoaaDoorW.PrintLast Go.Proofs.YtceahnhpeadkoaaDoorW.PrintMore

theorem wrap_nat (x : BitVec 64) : IntKind.i64.wrap (x.toNat : Int) = x.toInt := by
  have h1 := BitVec.toInt_eq_toNat_cond x
  have h2 := x.isLt
  rw [h1, IntKind.wrap_i64]
  split <;> omega
theorem toInt32 (x : BitVec 32) : wrap64 (wrap32 ((x.toNat : Int) % 4294967296)) = x.toInt := by
  have h1 := BitVec.toInt_eq_toNat_cond x
  have h2 := x.isLt
  rw [h1]
  unfold wrap64 wrap32
  split <;> omega
theorem ofInt_toInt32 (a : Int) : (BitVec.ofInt 32 a).toInt = (a + 2147483648) % 4294967296 - 2147483648 := by
  rw [BitVec.toInt_ofInt]
  rw [Int.bmod_def]
  split <;> omega
theorem sext (a : Int) : BitVec.ofInt 64 ((a + 2147483648) % 4294967296 - 2147483648) = (BitVec.ofInt 32 a).signExtend 64 := by
  rw [← ofInt_toInt32]; rfl
theorem zext (a : Int) : BitVec.ofInt 64 (a % 4294967296) = (BitVec.ofInt 32 a).setWidth 64 := by
  apply BitVec.eq_of_toNat_eq
  rw [BitVec.toNat_ofInt, BitVec.toNat_setWidth, BitVec.toNat_ofInt]
  omega
theorem sext_toInt (x : BitVec 32) : (x.signExtend 64).toInt = x.toInt := BitVec.toInt_signExtend_of_le (by decide)
theorem zext_toInt (x : BitVec 32) : (x.setWidth 64).toInt = (x.toNat : Int) := by
  have h2 := x.isLt
  rw [BitVec.toInt_eq_toNat_cond, BitVec.toNat_setWidth]
  split <;> omega
theorem and_eq (a b : Int) : Go.bits .and .i64 ((a + 2147483648) % 4294967296 - 2147483648) ((b + 2147483648) % 4294967296 - 2147483648) = wrap64 (wrap32 ((Go.bits .and .i64 (a % 4294967296) (b % 4294967296)) % 4294967296)) := by
  show IntKind.i64.wrap ((BitVec.ofInt 64 _ &&& BitVec.ofInt 64 _).toNat : Int) = wrap64 (wrap32 (IntKind.i64.wrap ((BitVec.ofInt 64 _ &&& BitVec.ofInt 64 _).toNat : Int) % 4294967296))
  rw [sext, sext, zext, zext, wrap_nat, ← BitVec.signExtend_and, sext_toInt, ← BitVec.setWidth_and, wrap_nat, zext_toInt, toInt32]
theorem or_eq (a b : Int) : Go.bits .or .i64 ((a + 2147483648) % 4294967296 - 2147483648) ((b + 2147483648) % 4294967296 - 2147483648) = wrap64 (wrap32 ((Go.bits .or .i64 (a % 4294967296) (b % 4294967296)) % 4294967296)) := by
  show IntKind.i64.wrap ((BitVec.ofInt 64 _ ||| BitVec.ofInt 64 _).toNat : Int) = wrap64 (wrap32 (IntKind.i64.wrap ((BitVec.ofInt 64 _ ||| BitVec.ofInt 64 _).toNat : Int) % 4294967296))
  rw [sext, sext, zext, zext, wrap_nat, ← BitVec.signExtend_or, sext_toInt, ← BitVec.setWidth_or, wrap_nat, zext_toInt, toInt32]
theorem xor_eq (a b : Int) : Go.bits .xor .i64 ((a + 2147483648) % 4294967296 - 2147483648) ((b + 2147483648) % 4294967296 - 2147483648) = wrap64 (wrap32 ((Go.bits .xor .i64 (a % 4294967296) (b % 4294967296)) % 4294967296)) := by
  show IntKind.i64.wrap ((BitVec.ofInt 64 _ ^^^ BitVec.ofInt 64 _).toNat : Int) = wrap64 (wrap32 (IntKind.i64.wrap ((BitVec.ofInt 64 _ ^^^ BitVec.ofInt 64 _).toNat : Int) % 4294967296))
  rw [sext, sext, zext, zext, wrap_nat, ← BitVec.signExtend_xor, sext_toInt, ← BitVec.setWidth_xor, wrap_nat, zext_toInt, toInt32]
theorem bits_signed {x : Int} : -2147483648 ≤ wrap64 (wrap32 (x % 4294967296)) ∧ wrap64 (wrap32 (x % 4294967296)) ≤ 2147483647 := by
  unfold wrap64 wrap32
  omega
theorem exact_P (n : Int) : shuckref14_exact.f n = some (exactV n true) := by
  unfold shuckref14_exact.f exactV
  by_cases h : n > 9007199254740991
  · simp [h]
  · by_cases g : n < -9007199254740991
    · simp [h, g]
    · simp [h, g, shuckref14_Number.f]
theorem exactV_in {n : Int} (h0 : -9007199254740991 ≤ n) (h1 : n ≤ 9007199254740991) : exactV n true = (3, n, ⟨#[]⟩, ⟨#[]⟩, 0) := by
  unfold exactV
  rw [if_pos rfl, if_neg (by omega), if_neg (by omega)]
theorem times_P (j : Nat) (a b : Int) (ha0 : -9007199254740991 ≤ a) (ha1 : a ≤ 9007199254740991) (hb0 : -9007199254740991 ≤ b) (hb1 : b ≤ 9007199254740991) :
    shuckref14_times.f (j + 1) a b = some (exactV (timesI a b) (timesB a b)) := by
  have key : shuckref14_times.f (j + 1) a b = if a = 0 then some (3, wrap64 (a * b), ⟨#[]⟩, ⟨#[]⟩, 0) else if (b.natAbs : Int) > ((9007199254740991 / a.natAbs : Nat) : Int) then some (0, 0, ⟨#[]⟩, ⟨#[]⟩, 2) else some (3, wrap64 (a * b), ⟨#[]⟩, ⟨#[]⟩, 0) := by
    unfold shuckref14_times.f
    have hx : ∀ x : Int, 0 < x → x ≤ 9007199254740991 → wrap64 (Int.tdiv 9007199254740991 x) = ((9007199254740991 / x.toNat : Nat) : Int) := by
      intro x h0 h1
      have : Int.tdiv 9007199254740991 x = ((9007199254740991 / x.toNat : Nat) : Int) := by
        conv => lhs; rw [show x = (x.toNat : Int) by omega]
        rfl
      rw [this]
      have h2 : 9007199254740991 / x.toNat ≤ 9007199254740991 := Nat.div_le_self _ _
      generalize 9007199254740991 / x.toNat = q at h2
      unfold wrap64
      omega
    have hw : ∀ x : Int, -9007199254740991 ≤ x → x ≤ 9007199254740991 → wrap64 (-x) = -x := by
      intro x h0 h1; unfold wrap64; omega
    by_cases a0 : a < 0
    · rw [if_pos a0, hw a ha0 ha1]
      have e : a.natAbs = (-a).toNat := by omega
      simp only [shuckref14_times.j0]
      rw [hx (-a) (by omega) (by omega), ← e, hw b hb0 hb1]
      by_cases b0 : b < 0
      · rw [show (b.natAbs : Int) = -b by omega]
        simp [shuckref14_Number.f, b0, show ¬ (a = 0) by omega]
      · rw [show (b.natAbs : Int) = b by omega]
        simp [shuckref14_Number.f, b0, show ¬ (a = 0) by omega]
    · rw [if_neg a0]
      have e : a.natAbs = a.toNat := by omega
      simp only [shuckref14_times.j0]
      by_cases az : a = 0
      · subst az
        simp [shuckref14_Number.f]
      · rw [hx a (by omega) (by omega), ← e, hw b hb0 hb1]
        by_cases b0 : b < 0
        · rw [show (b.natAbs : Int) = -b by omega]
          simp [shuckref14_Number.f, b0, az]
        · rw [show (b.natAbs : Int) = b by omega]
          simp [shuckref14_Number.f, b0, az]
  rw [key]
  unfold timesI timesB
  have hm : (a * b).natAbs = a.natAbs * b.natAbs := Int.natAbs_mul a b
  by_cases az : a = 0
  · subst az
    simp [exactV, wrap64]
  · rw [if_neg az]
    have hp : 0 < a.natAbs := by omega
    by_cases hg : 9007199254740991 < (a * b).natAbs
    · have h2 : 9007199254740991 / a.natAbs < b.natAbs := by
        rw [Nat.div_lt_iff_lt_mul hp, Nat.mul_comm, ← hm]; exact hg
      rw [if_pos (by omega), if_pos hg, if_pos hg]
      rfl
    · have h2 : ¬ 9007199254740991 / a.natAbs < b.natAbs := by
        rw [Nat.div_lt_iff_lt_mul hp, Nat.mul_comm, ← hm]; exact hg
      rw [if_neg (by omega), if_neg hg, if_neg hg, exactV_in (by omega) (by omega)]
      have : wrap64 (a * b) = a * b := by unfold wrap64; omega
      rw [this]
theorem shift_n (b : Int) : IntKind.u64.wrap (Int.tmod (b % 4294967296) 32) = b % 32 := by
  rw [Int.tmod_eq_emod_of_nonneg (by omega), IntKind.wrap_u64]
  omega
theorem shl_eq (a b : Int) : wrap64 (wrap32 ((shl .i64 (a % 4294967296) (b % 32)) % 4294967296)) = shlI a b := by
  unfold shlI shl
  rw [lowI_eq (wrap64 _), lowI_eq a]
  have hb : min (b % 32).toNat IntKind.i64.bits = (b % 32).toNat := by
    show min (b % 32).toNat 64 = _
    omega
  rw [hb]
  obtain ⟨p, hp⟩ : ∃ p : Int, (2 : Int) ^ (b % 32).toNat = p := ⟨_, rfl⟩
  rw [hp]
  obtain ⟨t, ht⟩ : ∃ t : Int, (a + 2147483648) % 4294967296 - 2147483648 = a % 4294967296 - 4294967296 * t := ⟨(a % 4294967296 - ((a + 2147483648) % 4294967296 - 2147483648)) / 4294967296, by omega⟩
  rw [ht, Int.sub_mul, Int.mul_assoc]
  generalize a % 4294967296 * p = X
  generalize t * p = Y
  rw [IntKind.wrap_i64]
  unfold wrap64 wrap32
  omega
theorem shr_eq (a b : Int) : wrap64 (shr .i32 (wrap32 (a % 4294967296)) (b % 32)) = shrI a b := by
  unfold shrI shr
  have hb : min (b % 32).toNat IntKind.i32.bits = (b % 32).toNat := by
    show min (b % 32).toNat 32 = _
    omega
  rw [hb, lowI_eq]
  have hx : wrap32 (a % 4294967296) = (a + 2147483648) % 4294967296 - 2147483648 := by unfold wrap32; omega
  rw [hx]
  have hp : (0 : Int) < 2 ^ (b % 32).toNat := Int.pow_pos (by omega)
  generalize (2 : Int) ^ (b % 32).toNat = p at hp
  have hv : -2147483648 ≤ (a + 2147483648) % 4294967296 - 2147483648 ∧ (a + 2147483648) % 4294967296 - 2147483648 ≤ 2147483647 := by omega
  generalize (a + 2147483648) % 4294967296 - 2147483648 = v at hv
  have h1 : v / p ≤ 2147483647 := Int.le_trans (Int.ediv_le_ediv hp hv.2) (Int.ediv_le_self _ (by omega))
  have h2 : -2147483648 ≤ v / p := by
    rw [Int.le_ediv_iff_mul_le hp]
    have : -2147483648 * p ≤ -2147483648 * 1 := by omega
    omega
  unfold wrap64
  omega
theorem ushr_eq (a b : Int) : shr .i64 (a % 4294967296) (b % 32) = ushrI a b := by
  unfold ushrI shr
  have hb : min (b % 32).toNat IntKind.i64.bits = (b % 32).toNat := by
    show min (b % 32).toNat 64 = _
    omega
  rw [hb, lowI_eq, show ((a + 2147483648) % 4294967296 - 2147483648) % 4294967296 = a % 4294967296 by omega]
theorem ushr_range (a b : Int) : 0 ≤ ushrI a b ∧ ushrI a b ≤ 4294967295 := by
  unfold ushrI
  have hp : (0 : Int) < 2 ^ (b % 32).toNat := Int.pow_pos (by omega)
  generalize (2 : Int) ^ (b % 32).toNat = p at hp
  have hv : 0 ≤ lowI a % 4294967296 ∧ lowI a % 4294967296 ≤ 4294967295 := by omega
  generalize lowI a % 4294967296 = v at hv
  exact ⟨Int.ediv_nonneg hv.1 (by omega), Int.le_trans (Int.ediv_le_self _ hv.1) hv.2⟩
theorem shl_range (a b : Int) : -2147483648 ≤ shlI a b ∧ shlI a b ≤ 2147483647 := by
  unfold shlI
  have := lowI_eq (wrap64 (lowI a * 2 ^ (b % 32).toNat))
  omega
theorem shr_range (a b : Int) : -2147483648 ≤ shrI a b ∧ shrI a b ≤ 2147483647 := by
  unfold shrI
  have hp : (0 : Int) < 2 ^ (b % 32).toNat := Int.pow_pos (by omega)
  generalize (2 : Int) ^ (b % 32).toNat = p at hp
  have hv := lowI_eq a
  have hv2 : -2147483648 ≤ lowI a ∧ lowI a ≤ 2147483647 := by omega
  generalize lowI a = v at hv2
  constructor
  · rw [Int.le_ediv_iff_mul_le hp]
    have : -2147483648 * p ≤ -2147483648 * 1 := by omega
    omega
  · have h1 := Int.ediv_le_ediv hp hv2.2
    exact Int.le_trans h1 (Int.ediv_le_self _ (by omega))
theorem and_P (a b : Int) : Go.bits .and .i64 (lowI a) (lowI b) = wrap64 (wrap32 ((Go.bits .and .i64 (a % 4294967296) (b % 4294967296)) % 4294967296)) := by rw [lowI_eq, lowI_eq, and_eq]
theorem or_P (a b : Int) : Go.bits .or .i64 (lowI a) (lowI b) = wrap64 (wrap32 ((Go.bits .or .i64 (a % 4294967296) (b % 4294967296)) % 4294967296)) := by rw [lowI_eq, lowI_eq, or_eq]
theorem xor_P (a b : Int) : Go.bits .xor .i64 (lowI a) (lowI b) = wrap64 (wrap32 ((Go.bits .xor .i64 (a % 4294967296) (b % 4294967296)) % 4294967296)) := by rw [lowI_eq, lowI_eq, xor_eq]
/-- The reference's reckoning is value's. -/
theorem reckon_sum (j : Nat) (op : ByteArray) (a b : Int) (h : op.toList = [43]) : shuckref14_reckon.f (j + 1) op a b = some (exactV (wrap64 (a + b)) true) := by
  unfold shuckref14_reckon.f
  simp only [shuckref14_low.f, Option.bind_some, h, if_true, exact_P]
theorem reckon_P (j : Nat) (op : ByteArray) (a b : Int) (F : Int → Int → Int × Bool) (hF : numF op.toList = some F) (ha0 : -9007199254740991 ≤ a) (ha1 : a ≤ 9007199254740991) (hb0 : -9007199254740991 ≤ b) (hb1 : b ≤ 9007199254740991) :
    shuckref14_reckon.f (j + 1) op a b = some (exactV (F a b).1 (F a b).2) := by
  unfold shuckref14_reckon.f
  unfold numF at hF
  have hsg : ∀ x : Int, shuckref14_signed.f x = some (3, wrap64 (wrap32 (x % 4294967296)), ⟨#[]⟩) := fun x => rfl
  have hlw : ∀ x : Int, shuckref14_low.f x = some (x % 4294967296) := fun x => rfl
  have hnb : ∀ x : Int, shuckref14_Number.f x = some (3, x, ⟨#[]⟩) := fun x => rfl
  rw [hlw b, Option.bind_some, shift_n b]
  have h32 : (0 : Int) ≤ b % 32 := by omega
  generalize op.toList = o at hF
  split at hF
  · rename_i ho
    subst ho
    obtain rfl := Option.some.inj hF
    simp [exact_P]
  · split at hF
    · rename_i ho
      subst ho
      obtain rfl := Option.some.inj hF
      simp [times_P j a b ha0 ha1 hb0 hb1]
    · split at hF
      · rename_i ho
        subst ho
        obtain rfl := Option.some.inj hF
        by_cases hz : b = 0
        · simp [hz, exactV]
        · simp [hz, exact_P]
      · split at hF
        · rename_i ho
          subst ho
          obtain rfl := Option.some.inj hF
          have hr := @bits_signed (Go.bits .and .i64 (a % 4294967296) (b % 4294967296))
          rw [← and_P] at hr
          simp [hlw, hsg, ← and_P, exactV_in (show -9007199254740991 ≤ Go.bits .and .i64 (lowI a) (lowI b) by omega) (by omega)]
        · split at hF
          · rename_i ho
            subst ho
            obtain rfl := Option.some.inj hF
            have hr := @bits_signed (Go.bits .or .i64 (a % 4294967296) (b % 4294967296))
            rw [← or_P] at hr
            simp [hlw, hsg, ← or_P, exactV_in (show -9007199254740991 ≤ Go.bits .or .i64 (lowI a) (lowI b) by omega) (by omega)]
          · split at hF
            · rename_i ho
              subst ho
              obtain rfl := Option.some.inj hF
              have hr := @bits_signed (Go.bits .xor .i64 (a % 4294967296) (b % 4294967296))
              rw [← xor_P] at hr
              simp [hlw, hsg, ← xor_P, exactV_in (show -9007199254740991 ≤ Go.bits .xor .i64 (lowI a) (lowI b) by omega) (by omega)]
            · split at hF
              · rename_i ho
                subst ho
                obtain rfl := Option.some.inj hF
                have hr := shl_range a b
                simp [hlw, hsg, h32, shl_eq, exactV_in (show -9007199254740991 ≤ shlI a b by omega) (by omega)]
              · split at hF
                · rename_i ho
                  subst ho
                  obtain rfl := Option.some.inj hF
                  have hr := shr_range a b
                  simp [hnb, h32, shr_eq, exactV_in (show -9007199254740991 ≤ shrI a b by omega) (by omega)]
                · split at hF
                  · rename_i ho
                    subst ho
                    obtain rfl := Option.some.inj hF
                    have hr := ushr_range a b
                    simp [hlw, hnb, h32, ushr_eq, exactV_in (show -9007199254740991 ≤ ushrI a b by omega) (by omega)]
                  · cases hF
end Go.Proofs.YtceahnhpeadkoaaDoor.V
