/- The reference's rows of runes, and its two functions over them: how two texts compare, whether a text is good. -/
import Derived.Test.YtceahnhpeadkoaaDoorHp
import Derived.Outline
namespace Go.Proofs.YtceahnhpeadkoaaDoor.V
open Go.RowKit Go.Proofs.YtceahnhpeadkoaaDoorW.PrintWords Go.Proofs.YtceahnhpeadkoaaDoorW.PrintLast Go.Proofs.YtceahnhpeadkoaaDoorW.PrintMore
attribute [local go_sem] max2_int min2_int max_two min_two max_three min_three max_four min_four   -- for this text's walks alone
set_option linter.unusedVariables false
set_option linter.unusedSimpArgs false

theorem le_rounds {α : Type} {g : Nat → Option α} (hm : ∀ k, LeO (g k) (g (k + 1))) {k m : Nat} {r : α} (h : g k = some r) (hk : k ≤ m) : g m = some r := by
  induction hk with
  | refl => exact h
  | step _ ih => exact hm _ r ih

def rowsAux (s : ByteArray) : Nat → Nat → List S66
  | 0, _ => []
  | b + 1, i => if i < s.size then ⟨(i : Int), ((Utf8.decode s i).1 : Int), ((Utf8.decode s i).2 : Int), goodD (Utf8.decode s i)⟩ :: rowsAux s b (i + (Utf8.decode s i).2) else []
def rowsOf (s : ByteArray) : List S66 := rowsAux s s.size 0

theorem rows_runes (s : ByteArray) : ∀ b i, (rowsAux s b i).map (·.f1) = runesAux s b i
  | 0, i => rfl
  | b + 1, i => by
    unfold rowsAux runesAux
    split
    · rw [List.map_cons, rows_runes s b]
    · rfl
theorem rowsOf_runes (s : ByteArray) : (rowsOf s).map (·.f1) = runeL s := rows_runes s _ _

theorem width_le (s : ByteArray) (i : Nat) : 1 ≤ (Utf8.decode s i).2 ∧ (Utf8.decode s i).2 ≤ 4 := by
  rw [Lib.decode_N]
  rcases Lib.decodeN_shape (s.data.toList.length - i) (s.data.toList.getD i 0).toNat (s.data.toList.getD (i + 1) 0).toNat (s.data.toList.getD (i + 2) 0).toNat (s.data.toList.getD (i + 3) 0).toNat with ⟨c, e⟩ | ⟨c1, c2, c3, cv, e⟩ | ⟨c1, c2, c3, c4, cv, cs, e⟩ | ⟨c1, c2, c3, c4, c5, cv, cw, e⟩ | e
  all_goals (rw [e]; dsimp only; omega)

theorem runes_l0 (s : ByteArray) (hs : s.size ≤ 4611686018427387900) : ∀ (b i : Nat) (acc : List S66) (k : Nat), s.size - i ≤ b → i ≤ s.size + 4 → acc.length + b < 4398046511104 → b + 13 ≤ k →
    shuckref1_Runes.l0 k (bytesOf s) acc (i : Int) = some (acc ++ rowsAux s b i)
  | b, i, acc, 0, _, _, _, hk => by omega
  | b, i, acc, k + 1, hb, hi, ha, hk => by
    simp only [shuckref1_Runes.l0]
    rw [bytesOf_length]
    by_cases h : i < s.size
    · obtain ⟨c, rfl⟩ : ∃ c, b = c + 1 := ⟨b - 1, by omega⟩
      have hd := le_rounds (fun k => shuckref1_Decode.mono (bytesOf s) (i : Int) k) (dec_ref s i h hs) (show 12 ≤ k by omega)
      obtain ⟨hw, hw4⟩ := width_le s i
      rw [if_pos (by omega), hd]
      simp only [Option.bind_some]
      rw [if_pos (by omega), show wrap64 ((i : Int) + ((Utf8.decode s i).2 : Int)) = ((i + (Utf8.decode s i).2 : Nat) : Int) by rw [w64_in (by omega)]; omega]
      rw [runes_l0 s hs c _ _ k (by omega) (by omega) (by rw [List.length_append]; simp; omega) (by omega)]
      rw [show rowsAux s (c + 1) i = ⟨(i : Int), ((Utf8.decode s i).1 : Int), ((Utf8.decode s i).2 : Int), goodD (Utf8.decode s i)⟩ :: rowsAux s c (i + (Utf8.decode s i).2) by rw [rowsAux, if_pos h]]
      simp
    · rw [if_neg (by omega)]
      have : rowsAux s b i = [] := by cases b with | zero => rfl | succ b => rw [rowsAux, if_neg h]
      rw [this, List.append_nil]
theorem runes_ref (s : ByteArray) (hs : s.size ≤ 4398046511000) : shuckref1_Runes.f (s.size + 13) (bytesOf s) = some (rowsOf s) :=
  runes_l0 s (by omega) s.size 0 [] _ (by omega) (by omega) (by simp; omega) (Nat.le_refl _)

/-- '[]byte(s)', then the reference's Runes: its rows lie in new memory. -/
theorem bytes_any (s : ByteArray) (w : World) (hs : s.size ≤ 4398046511000) : ∃ cap W', (convert 9 64 (.string s)).run Tryd.prog w = .ok (.slice (some ⟨w.heap.size, 0, none⟩) s.size cap) W' ∧ Below w.heap.size w W' ∧
    Calls Tryd.prog 48 #[.slice (some ⟨w.heap.size, 0, none⟩) s.size cap] W' fun e w2 => ∃ A c, e = .returned (.slice A (rowsOf s).length c) ∧ (rowsOf s).length ≤ c ∧ Kd.C k66 w2 A (rowsOf s).length (rowsOf s) ∧ Below W'.heap.size W' w2 := by
  refine ⟨_, _, print_bytes 9 64 5 Tryd.underlying9 Tryd.underlying64 Tryd.underlying5 s w, bytes_below (Below.refl _ _) (Nat.le_refl _) 5 s, ?_⟩
  have hr : Kd.C (Kd.int .u8) (Lib.bytesWorld w 5 s) (some ⟨w.heap.size, 0, none⟩) (bytesOf s).length (bytesOf s) := by
    rw [bytesOf_length]
    exact Kd.C_of_reads (d := (0 : Int)) (h1 := fun _ => rfl) (bytes_reads w 5 s (by omega))
  have hc := shuckref1_Runes.calls (s.size + 13) (some ⟨w.heap.size, 0, none⟩) (grownCap w s.size 0 5) (bytesOf s) (rowsOf s) (Lib.bytesWorld w 5 s) hr (by rw [bytesOf_length]; exact grownCap_ge w s.size 0 5) (runes_ref s hs)
  rw [bytesOf_length] at hc
  refine hc.mono ?_
  rintro e w2 ⟨v, rfl, hR, hb⟩
  obtain ⟨A, c, rfl, hl, hC⟩ := Kd.R_reads hR
  exact ⟨A, c, rfl, hl, hC, hb⟩

theorem rows_length (s : ByteArray) : (rowsOf s).length = (runeL s).length := by rw [← rowsOf_runes, List.length_map]
/-- What is read of the rows: their runes. -/
theorem at_rune {w : World} {A : Option Addr} {s : ByteArray} (h : Kd.C k66 w A (rowsOf s).length (rowsOf s)) (k : Nat) (hk : k < (rowsOf s).length) :
    ∃ ad, A = some ad ∧ w.cell? ⟨(ad.add (k * 4)).block, (ad.add (k * 4)).off + 1, none⟩ = some (.int .i32 ((runeL s)[k]?.getD 0)) := by
  obtain ⟨ad, e, _, h1, _⟩ := at_T66 h (k : Int) (by omega) (by omega)
  refine ⟨ad, e, ?_⟩
  rw [Int.toNat_natCast] at h1
  rw [h1]
  have hk2 : k < (runeL s).length := by rw [← rows_length]; exact hk
  have : (rd_T66 (rowsOf s) (k : Int)).f1 = (runeL s)[k]?.getD 0 := by
    unfold rd_T66
    rw [Int.toNat_natCast, List.getD_eq_getElem?_getD, List.getElem?_eq_getElem hk, List.getElem?_eq_getElem hk2]
    simp only [Option.getD_some]
    simp [← rowsOf_runes]
  rw [this]
set_option maxHeartbeats 1600000 in
theorem less_any (a b : ByteArray) (w : World) (ha : a.size ≤ 4398046511000) (hb : b.size ≤ 4398046511000) :
    Calls Tryd.prog 44 #[.string a, .string b] w fun e w' => e = .returned (.int .i64 (cmpL (runeL a) (runeL b))) ∧ Below w.heap.size w w' := by
  obtain ⟨c1, W1, hv1, hb1, hc1⟩ := bytes_any a w ha
  have HB := Aside0.mk hb1
  have HC1 := Aside0.mk hc1
  have Ha := Aside0.mk ha
  have Hb := Aside0.mk hb
  clear hb1 hc1 ha hb
  go_enter Tryd.func44, Tryd.ntmps44
  go_wp2_with fail
  refine HC1.out.mono ?_
  rintro e w2 ⟨A1, d1, rfl, hl1, hC1, hB1⟩
  obtain ⟨c2, W2, hv2, hb2, hc2⟩ := bytes_any b w2 Hb.out
  have HB1 := Aside0.mk hB1
  have HCC1 := Aside0.mk hC1
  have HB2 := Aside0.mk hb2
  have HC2 := Aside0.mk hc2
  clear hB1 hC1 hb2 hc2
  go_wp2_with fail
  refine HC2.out.mono ?_
  rintro e w3 ⟨A2, d2, rfl, hl2, hC2, hB3⟩
  have hB31 := below_step HB2.out hB3
  have HCC3 := Aside0.mk (Kd.C_below HCC1.out hB31)
  have HCC2 := Aside0.mk hC2
  have HBW := Aside0.mk (below_step (below_step HB.out HB1.out) hB31)
  have HR1 := Aside0.mk (at_range a)
  have HR2 := Aside0.mk (at_range b)
  have LA := Aside0.mk (rows_length a)
  have LB := Aside0.mk (rows_length b)
  have la := runeL_length a
  have lb := runeL_length b
  rw [← LA.out] at la
  rw [← LB.out] at lb
  have ha := Ha.out
  have hb := Hb.out
  clear hB3 hB31 hC2 HB1 HB2 HCC1 HC1 HC2 HB
  go_wp2_with fail
  go_loopw [7] (fun i wr => ∃ k : Nat, k ≤ (rowsOf a).length ∧ k ≤ (rowsOf b).length ∧ i = .int .i64 k ∧ Aside0 (cmpL (runeL a) (runeL b) = cmpL ((runeL a).drop k) ((runeL b).drop k)) ∧ Aside0 (Drawn0 w3 wr)) (fun i _ => (rowsOf a).length - (intOf i).toNat)
  case atStart => exact ⟨0, Nat.zero_le _, Nat.zero_le _, rfl, ⟨by simp⟩, ⟨Drawn0.refl _⟩⟩
  case round =>
    obtain ⟨k, hkx, hky, rfl, HI, HD⟩ := hrel
    have HBr := Aside0.mk (below_step HBW.out (HD.out.below))
    by_cases h1 : k < (rowsOf a).length
    · by_cases h2 : k < (rowsOf b).length
      · obtain ⟨ad1, rfl, cx⟩ := at_rune (Kd.C_below HCC3.out HD.out.below) k h1
        obtain ⟨ad2, rfl, cy⟩ := at_rune (Kd.C_below HCC2.out HD.out.below) k h2
        obtain ⟨rx0, rx1⟩ := HR1.out k
        obtain ⟨ry0, ry1⟩ := HR2.out k
        have HD1 := Aside0.mk (drop_cons (l := runeL a) (by rw [← LA.out]; exact h1))
        have HD2 := Aside0.mk (drop_cons (l := runeL b) (by rw [← LB.out]; exact h2))
        obtain ⟨p, hp⟩ : ∃ p, (runeL a)[k]?.getD 0 = p := ⟨_, rfl⟩
        obtain ⟨q, hq⟩ : ∃ q, (runeL b)[k]?.getD 0 = q := ⟨_, rfl⟩
        rw [hp] at cx rx0 rx1 HD1
        rw [hq] at cy ry0 ry1 HD2
        clear hp hq
        have h1' : (k : Int) < ((rowsOf a).length : Int) := by omega
        have h2' : (k : Int) < ((rowsOf b).length : Int) := by omega
        by_cases h4 : p = q
        · subst h4
          have h5 : (p != p) = false := by simp
          have h6 : (p == p) = true := by simp
          go_wp2_with fail
          go_quiet (fail)
          go_wp2_with fail
          go_roundw
          case rel => exact ⟨k + 1, by omega, by omega, by go_num, ⟨by rw [HI.out, HD1.out, HD2.out]; simp [cmpL]⟩, ⟨HD.out.step _⟩⟩
          case measure => simp [intOf]; omega
        · have h5 : (p != q) = true := by simp [h4]
          have h6 : (p == q) = false := by simp [h4]
          have H4 := Aside0.mk h4
          clear h4
          go_wp2_with fail
          go_quiet (fail)
          go_wp2_with fail
          go_quiet (fail)
          go_wp2_with fail
          go_ret
          exact ⟨ret_int (by rw [HI.out, HD1.out, HD2.out]; simp [cmpL, H4.out]), pw_below_drewN (pw_below_drewN HBr.out _) _⟩
      · have h3 : decide ((k : Int) < ((rowsOf b).length : Int)) = false := by simp; omega
        go_wp2_with fail
        go_ret
        refine ⟨ret_int ?_, HBr.out⟩
        rw [HI.out, drop_all (runeL b) k (by rw [← LB.out]; omega), cmpL_end, List.length_drop, ← LA.out]
        omega
    · have h3 : decide ((k : Int) < ((rowsOf a).length : Int)) = false := by simp; omega
      go_wp2_with fail
      go_ret
      refine ⟨ret_int ?_, HBr.out⟩
      rw [HI.out, drop_all (runeL a) k (by rw [← LA.out]; omega), cmpL_nil, List.length_drop, ← LB.out]
      omega
def shuckref14_less.f (a b : ByteArray) : Option Int := if a.size ≤ 4398046511000 ∧ b.size ≤ 4398046511000 then some (cmpL (runeL a) (runeL b)) else none
theorem shuckref14_less.calls (a0 a1 : ByteArray) (r : Int) (w : World) (h : shuckref14_less.f a0 a1 = some r) :
    Calls Tryd.prog 44 #[.string a0, .string a1] w fun e w' => e = .returned (.int .i64 r) ∧ Below w.heap.size w w' := by
  unfold shuckref14_less.f at h
  split at h
  · injection h with h
    subst h
    exact less_any a0 a1 w (by omega) (by omega)
  · cases h

theorem at_good {w : World} {A : Option Addr} {s : ByteArray} (h : Kd.C k66 w A (rowsOf s).length (rowsOf s)) (k : Nat) (hk : k < (rowsOf s).length) :
    ∃ ad x, A = some ad ∧ (rowsOf s)[k]? = some x ∧ w.cell? ⟨(ad.add (k * 4)).block, (ad.add (k * 4)).off + 3, none⟩ = some (.bool x.f3) := by
  obtain ⟨ad, e, _, _, _, h1⟩ := at_T66 h (k : Int) (by omega) (by omega)
  rw [Int.toNat_natCast] at h1
  refine ⟨ad, _, e, List.getElem?_eq_getElem hk, ?_⟩
  rw [h1]
  unfold rd_T66
  rw [Int.toNat_natCast, List.getD_eq_getElem?_getD, List.getElem?_eq_getElem hk, Option.getD_some]
set_option maxHeartbeats 1600000 in
theorem good_any (a : ByteArray) (w : World) (ha : a.size ≤ 4398046511000) :
    Calls Tryd.prog 22 #[.string a] w fun e w' => e = .returned (.bool ((rowsOf a).all fun x => x.f3)) ∧ Below w.heap.size w w' := by
  obtain ⟨c1, W1, hv1, hb1, hc1⟩ := bytes_any a w ha
  have HB := Aside0.mk hb1
  have HC1 := Aside0.mk hc1
  clear hb1 hc1
  go_enter Tryd.func22, Tryd.ntmps22
  go_wp2_with fail
  refine HC1.out.mono ?_
  rintro e w2 ⟨A1, d1, rfl, hl1, hC1, hB1⟩
  have HCC := Aside0.mk hC1
  have HBW := Aside0.mk (below_step HB.out hB1)
  have LA := Aside0.mk (rows_length a)
  have la := runeL_length a
  rw [← LA.out] at la
  clear hB1 hC1 HB HC1
  go_wp2_with fail
  go_loopw [4] (fun i wr => ∃ k : Nat, k ≤ (rowsOf a).length ∧ i = .int .i64 k ∧ Aside0 (((rowsOf a).all fun x => x.f3) = ((rowsOf a).drop k).all fun x => x.f3) ∧ Aside0 (Drawn0 w2 wr)) (fun i _ => (rowsOf a).length - (intOf i).toNat)
  case atStart => exact ⟨0, Nat.zero_le _, rfl, ⟨by simp⟩, ⟨Drawn0.refl _⟩⟩
  case round =>
    obtain ⟨k, hkx, rfl, HI, HD⟩ := hrel
    have HBr := Aside0.mk (below_step HBW.out (HD.out.below))
    by_cases h1 : k < (rowsOf a).length
    · obtain ⟨ad1, x, rfl, hx, cx⟩ := at_good (Kd.C_below HCC.out HD.out.below) k h1
      have HX : Aside0 ((rowsOf a).drop k = x :: (rowsOf a).drop (k + 1)) := ⟨by
        rw [List.drop_eq_getElem_cons h1]
        rw [List.getElem?_eq_getElem h1] at hx
        injection hx with hx
        rw [hx]⟩
      clear hx
      obtain ⟨x0, x1, x2, x3⟩ := x
      have h1' : (k : Int) < ((rowsOf a).length : Int) := by omega
      cases x3
      · go_wp2_with fail
        go_ret
        exact ⟨by rw [HI.out, HX.out]; simp, HBr.out⟩
      · go_wp2_with fail
        go_roundw
        case rel => exact ⟨k + 1, by omega, by go_num, ⟨by rw [HI.out, HX.out]; simp⟩, ⟨HD.out⟩⟩
        case measure => simp [intOf]; omega
    · have h3 : decide ((k : Int) < ((rowsOf a).length : Int)) = false := by simp; omega
      go_wp2_with fail
      go_ret
      exact ⟨by rw [HI.out, List.drop_eq_nil_of_le (by omega)]; simp, HBr.out⟩
def shuckref1_Good.f (a : ByteArray) : Option Bool := if a.size ≤ 4398046511000 then some ((rowsOf a).all fun x => x.f3) else none
theorem shuckref1_Good.calls (a0 : ByteArray) (r : Bool) (w : World) (h : shuckref1_Good.f a0 = some r) :
    Calls Tryd.prog 22 #[.string a0] w fun e w' => e = .returned (.bool r) ∧ Below w.heap.size w w' := by
  unfold shuckref1_Good.f at h
  split at h
  · injection h with h
    subst h
    exact good_any a0 w (by omega)
  · cases h
end Go.Proofs.YtceahnhpeadkoaaDoor.V
