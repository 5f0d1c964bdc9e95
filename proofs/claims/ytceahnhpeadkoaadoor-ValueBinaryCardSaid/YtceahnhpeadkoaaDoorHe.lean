/- How two texts compare, rune by rune: package value's compared. -/
import Derived.Test.YtceahnhpeadkoaaDoorHc
import Derived.Outline
import Derived.Lib.MapLaws
namespace Go.Proofs.YtceahnhpeadkoaaDoor.V
open Go.RowKit Go.Proofs.YtceahnhpeadkoaaDoorW.PrintWords Go.Proofs.YtceahnhpeadkoaaDoorW.PrintLast Go.Proofs.YtceahnhpeadkoaaDoorW.PrintMore
attribute [local go_sem] max2_int min2_int max_two min_two max_three min_three max_four min_four   -- for this text's walks alone
set_option linter.unusedVariables false
set_option linter.unusedSimpArgs false

/-- The runes of a text, as Go's own conversion gives them. -/
def runesAux (s : ByteArray) : Nat → Nat → List Int
  | 0, _ => []
  | b + 1, i => if i < s.size then ((Utf8.decode s i).1 : Int) :: runesAux s b (i + (Utf8.decode s i).2) else []
def runeL (s : ByteArray) : List Int := runesAux s s.size 0

theorem runesFrom_eq (s : ByteArray) : ∀ (b i : Nat) (acc : Array Value), Conv.runesFrom s b i acc = acc ++ ((runesAux s b i).map (Value.int .i32)).toArray
  | 0, i, acc => by simp [Conv.runesFrom, runesAux]
  | b + 1, i, acc => by
    unfold Conv.runesFrom runesAux
    by_cases h : i < s.size
    · rw [if_pos h, if_pos h]
      show Conv.runesFrom s b (i + (Utf8.decode s i).2) (acc.push (.int .i32 (Int.ofNat (Utf8.decode s i).1))) = _
      rw [runesFrom_eq s b]
      apply Array.ext'
      simp
    · rw [if_neg h, if_neg h]
      simp
theorem runesFrom_all (s : ByteArray) : Conv.runesFrom s s.size 0 #[] = ((runeL s).map (Value.int .i32)).toArray := by rw [runesFrom_eq]; simp [runeL]

theorem runesAux_length (s : ByteArray) : ∀ b i, (runesAux s b i).length ≤ b
  | 0, i => by simp [runesAux]
  | b + 1, i => by
    unfold runesAux
    split
    · have := runesAux_length s b (i + (Utf8.decode s i).2)
      simp only [List.length_cons]; omega
    · simp
theorem runeL_length (s : ByteArray) : (runeL s).length ≤ s.size := runesAux_length s _ _

theorem decode_range (s : ByteArray) (i : Nat) : (Utf8.decode s i).1 ≤ 1114111 := by
  rw [Lib.decode_N]
  rcases Lib.decodeN_shape (s.data.toList.length - i) (s.data.toList.getD i 0).toNat (s.data.toList.getD (i + 1) 0).toNat (s.data.toList.getD (i + 2) 0).toNat (s.data.toList.getD (i + 3) 0).toNat with ⟨c, e⟩ | ⟨c1, c2, c3, cv, e⟩ | ⟨c1, c2, c3, c4, cv, cs, e⟩ | ⟨c1, c2, c3, c4, c5, cv, cw, e⟩ | e
  all_goals (rw [e]; dsimp only; omega)
theorem runesAux_range (s : ByteArray) : ∀ b i, ∀ r ∈ runesAux s b i, 0 ≤ r ∧ r ≤ 1114111
  | 0, i => by simp [runesAux]
  | b + 1, i => by
    intro r hr
    unfold runesAux at hr
    split at hr
    · rcases List.mem_cons.1 hr with rfl | h
      · have := decode_range s i; omega
      · exact runesAux_range s b _ r h
    · cases hr
theorem runeL_range (s : ByteArray) : ∀ r ∈ runeL s, 0 ≤ r ∧ r ≤ 1114111 := runesAux_range s _ _

theorem conv_any (s : ByteArray) (hs : s.size ≤ 70368744177664) (w : World) : ∃ cap W', (convert 9 70 (.string s)).run Tryd.prog w = .ok (.slice (some ⟨w.heap.size, 0, none⟩) (runeL s).length cap) W' ∧ Below w.heap.size w W' ∧ w.heap.size < W'.heap.size ∧ (runeL s).length ≤ cap ∧
    ∀ i, i < (runeL s).length → W'.cell? ⟨w.heap.size, i, none⟩ = some (.int .i32 ((runeL s)[i]?.getD 0)) := by
  have h := run_runes_of_string (P := Tryd.prog) w 9 70 21 s Tryd.underlying9 Tryd.underlying70 Tryd.underlying21 (by rw [runesFrom_all]; have := runeL_length s; simp; omega)
  rw [runesFrom_all] at h
  simp only [List.size_toArray, List.length_map] at h
  refine ⟨_, _, h, (Below.refl _ _).drew.alloc (by simp) _, by simp, grownCap_ge w _ 0 21, ?_⟩
  intro i hi
  have hb := blk_new w.drew (.cells (((runeL s).map (Value.int .i32)).toArray ++ Array.replicate (grownCap w (runeL s).length 0 21 - (runeL s).length) (.int .i32 0)) 21)
  have hc := blk_cell hb i
  rw [show w.drew.heap.size = w.heap.size from rfl] at hc
  rw [hc, Array.getElem?_append_left (by simpa using hi)]
  simp [hi]

/-- How two lists of runes compare: the difference at the first place where they differ; else that of their lengths. -/
def cmpL : List Int → List Int → Int
  | [], ys => -(ys.length : Int)
  | x :: xs, [] => (xs.length : Int) + 1
  | x :: xs, y :: ys => if x = y then cmpL xs ys else x - y

theorem cmpL_nil (y : List Int) : cmpL [] y = -(y.length : Int) := rfl
theorem cmpL_end (x : List Int) : cmpL x [] = (x.length : Int) := by
  cases x
  · rfl
  · simp [cmpL]
theorem drop_cons {l : List Int} {k : Nat} (h : k < l.length) : l.drop k = (l[k]?.getD 0) :: l.drop (k + 1) := by
  rw [List.drop_eq_getElem_cons h]; simp [h]
theorem drop_all (l : List Int) (k : Nat) (h : l.length ≤ k) : l.drop k = [] := List.drop_eq_nil_of_le h
theorem at_range (s : ByteArray) (k : Nat) : 0 ≤ (runeL s)[k]?.getD 0 ∧ (runeL s)[k]?.getD 0 ≤ 1114111 := by
  by_cases h : k < (runeL s).length
  · have := runeL_range s _ (List.getElem_mem h)
    simpa [h] using this
  · simp [List.getElem?_eq_none (Nat.le_of_not_lt h)]
set_option maxHeartbeats 800000 in
theorem compared_any (a b : ByteArray) (w : World) (ha : a.size ≤ 70368744177664) (hb : b.size ≤ 70368744177664) :
    Calls Tryd.prog 40 #[.string a, .string b] w fun e w' => e = .returned (.int .i64 (cmpL (runeL a) (runeL b))) ∧ Below w.heap.size w w' := by
  obtain ⟨c1, W1, hv1, hb1, hz1, hl1, hc1⟩ := conv_any a ha w
  obtain ⟨c2, W2, hv2, hb2, hz2, hl2, hc2⟩ := conv_any b hb W1
  have hc1' : ∀ i, i < (runeL a).length → W2.cell? ⟨w.heap.size, i, none⟩ = some (.int .i32 ((runeL a)[i]?.getD 0)) := fun i hi => (hb2.cell (p := ⟨w.heap.size, i, none⟩) hz1).trans (hc1 i hi)
  have HB := Aside0.mk (below_step hb1 hb2)
  have la := runeL_length a
  have lb := runeL_length b
  have HR1 := Aside0.mk (at_range a)
  have HR2 := Aside0.mk (at_range b)
  have HC1 := Aside0.mk hc1'
  have HC2 := Aside0.mk hc2
  clear hc1 hc1' hc2 hb1 hb2
  obtain ⟨x, hx⟩ : ∃ x, runeL a = x := ⟨_, rfl⟩
  obtain ⟨y, hy⟩ : ∃ y, runeL b = y := ⟨_, rfl⟩
  rw [hx] at hv1 HC1 HR1 la hl1 ⊢
  rw [hy] at hv2 HC2 HR2 lb hl2 ⊢
  clear hx hy
  go_enter Tryd.func40, Tryd.ntmps40
  go_wp2
  go_step3
  go_wp2
  go_step3
  go_wp2
  go_loop [7, 21] (fun c i => ∃ k : Nat, k ≤ x.length ∧ k ≤ y.length ∧ i = .int .i64 k ∧ c = .int .i64 ((x.length : Int) - (y.length : Int)) ∧ Aside0 (cmpL x y = cmpL (x.drop k) (y.drop k))) (fun _ i => x.length - (intOf i).toNat)
  case atStart => exact ⟨0, Nat.zero_le _, Nat.zero_le _, rfl, rfl, ⟨by simp⟩⟩
  case round =>
    obtain ⟨k, hkx, hky, rfl, rfl, HI⟩ := hrel
    by_cases h1 : k < x.length
    · have cx := HC1.out k h1
      by_cases h2 : k < y.length
      · have cy := HC2.out k h2
        have h3 : ((k : Int) == (y.length : Int)) = false := by rw [beq_eq_false_iff_ne]; omega
        obtain ⟨rx0, rx1⟩ := HR1.out k
        obtain ⟨ry0, ry1⟩ := HR2.out k
        have HD1 := Aside0.mk (drop_cons h1)
        have HD2 := Aside0.mk (drop_cons h2)
        obtain ⟨p, hp⟩ : ∃ p, x[k]?.getD 0 = p := ⟨_, rfl⟩
        obtain ⟨q, hq⟩ : ∃ q, y[k]?.getD 0 = q := ⟨_, rfl⟩
        rw [hp] at cx rx0 rx1 HD1
        rw [hq] at cy ry0 ry1 HD2
        clear hp hq
        by_cases h4 : p = q
        · subst h4
          have h5 : (p != p) = false := by simp
          have h6 : (p == p) = true := by simp
          go_wp2
          go_round
          case rel => exact ⟨k + 1, by omega, by omega, by go_num, rfl, ⟨by rw [HI.out, HD1.out, HD2.out]; simp [cmpL]⟩⟩
          case measure => simp [intOf]; omega
        · have h5 : (p != q) = true := by simp [h4]
          have h6 : (p == q) = false := by simp [h4]
          have H4 := Aside0.mk h4
          clear h4
          go_wp2
          try rw [Exit.noGoto_ret]
          go_ret
          exact ⟨ret_int (by rw [HI.out, HD1.out, HD2.out]; simp [cmpL, H4.out]), HB.out⟩
      · have h3 : ((k : Int) == (y.length : Int)) = true := by rw [beq_iff_eq]; omega
        go_wp2
        try rw [Exit.noGoto_ret]
        go_ret
        refine ⟨ret_int ?_, HB.out⟩
        rw [HI.out, drop_all y k (by omega), cmpL_end]
        simp; omega
    · go_wp2
      try rw [Exit.noGoto_ret]
      go_ret
      refine ⟨ret_int ?_, HB.out⟩
      rw [HI.out, drop_all x k (by omega), cmpL_nil]
      simp; omega
end Go.Proofs.YtceahnhpeadkoaaDoor.V
