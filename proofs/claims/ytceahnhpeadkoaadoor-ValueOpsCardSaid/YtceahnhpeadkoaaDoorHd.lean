/- What package value's numeric and ordered hand back: a function value that computes the operator. -/
import Derived.Test.YtceahnhpeadkoaaDoorHc
namespace Go.Proofs.YtceahnhpeadkoaaDoor.V
open Go.RowKit Go.Proofs.YtceahnhpeadkoaaDoorW.PrintWords Go.Proofs.YtceahnhpeadkoaaDoorW.PrintLast Go.Proofs.YtceahnhpeadkoaaDoorW.PrintMore
attribute [local go_sem] max2_int min2_int max_two min_two max_three min_three max_four min_four   -- for this text's walks alone
set_option linter.unusedVariables false
set_option linter.unusedSimpArgs false

/-- What the captured function of two numbers is to compute. -/
def Cap (j : Nat) (F : Int → Int → Int) : Prop := ∀ (a b : Int) (w : World), Calls Tryd.prog j #[.int .i64 a, .int .i64 b] w fun e w' => e = .returned (.int .i64 (F a b)) ∧ Drawn0 w w'

theorem c50_51 (g : Nat) (a b : Int) (W : World) (hc : W.cell? ⟨g, 0, none⟩ = some (.func (.func 51) #[] #[])) :
    Calls Tryd.prog 50 #[.int .i64 a, .int .i64 b, .pointer (some ⟨g, 0, none⟩)] W fun e W' => e = .returned (.tuple #[.int .i64 (wrap64 (a - b)), .bool true]) ∧ Drawn0 W W' := by
  go_enter Tryd.func50, Tryd.ntmps50
  go_wp2_with (go_at_call 51; refine (c51 _ _ _).mono ?_; rintro e w' ⟨rfl, nd, rfl⟩)
  go_ret2
  exact ⟨rfl, ⟨_, rfl⟩⟩
theorem c50_54 (g : Nat) (a b : Int) (W : World) (hc : W.cell? ⟨g, 0, none⟩ = some (.func (.func 54) #[] #[])) :
    Calls Tryd.prog 50 #[.int .i64 a, .int .i64 b, .pointer (some ⟨g, 0, none⟩)] W fun e W' => e = .returned (.tuple #[.int .i64 (Go.bits .and .i64 (lowI a) (lowI b)), .bool true]) ∧ Drawn0 W W' := by
  go_enter Tryd.func50, Tryd.ntmps50
  go_wp2_with (go_at_call 54; refine (c54 _ _ _).mono ?_; rintro e w' ⟨rfl, nd, rfl⟩)
  go_ret2
  exact ⟨rfl, ⟨_, rfl⟩⟩
theorem c50_55 (g : Nat) (a b : Int) (W : World) (hc : W.cell? ⟨g, 0, none⟩ = some (.func (.func 55) #[] #[])) :
    Calls Tryd.prog 50 #[.int .i64 a, .int .i64 b, .pointer (some ⟨g, 0, none⟩)] W fun e W' => e = .returned (.tuple #[.int .i64 (Go.bits .or .i64 (lowI a) (lowI b)), .bool true]) ∧ Drawn0 W W' := by
  go_enter Tryd.func50, Tryd.ntmps50
  go_wp2_with (go_at_call 55; refine (c55 _ _ _).mono ?_; rintro e w' ⟨rfl, nd, rfl⟩)
  go_ret2
  exact ⟨rfl, ⟨_, rfl⟩⟩
theorem c50_56 (g : Nat) (a b : Int) (W : World) (hc : W.cell? ⟨g, 0, none⟩ = some (.func (.func 56) #[] #[])) :
    Calls Tryd.prog 50 #[.int .i64 a, .int .i64 b, .pointer (some ⟨g, 0, none⟩)] W fun e W' => e = .returned (.tuple #[.int .i64 (Go.bits .xor .i64 (lowI a) (lowI b)), .bool true]) ∧ Drawn0 W W' := by
  go_enter Tryd.func50, Tryd.ntmps50
  go_wp2_with (go_at_call 56; refine (c56 _ _ _).mono ?_; rintro e w' ⟨rfl, nd, rfl⟩)
  go_ret2
  exact ⟨rfl, ⟨_, rfl⟩⟩
theorem c50_57 (g : Nat) (a b : Int) (W : World) (hc : W.cell? ⟨g, 0, none⟩ = some (.func (.func 57) #[] #[])) :
    Calls Tryd.prog 50 #[.int .i64 a, .int .i64 b, .pointer (some ⟨g, 0, none⟩)] W fun e W' => e = .returned (.tuple #[.int .i64 (shlI a b), .bool true]) ∧ Drawn0 W W' := by
  go_enter Tryd.func50, Tryd.ntmps50
  go_wp2_with (go_at_call 57; refine (c57 _ _ _).mono ?_; rintro e w' ⟨rfl, nd, rfl⟩)
  go_ret2
  exact ⟨rfl, ⟨_, rfl⟩⟩
theorem c50_58 (g : Nat) (a b : Int) (W : World) (hc : W.cell? ⟨g, 0, none⟩ = some (.func (.func 58) #[] #[])) :
    Calls Tryd.prog 50 #[.int .i64 a, .int .i64 b, .pointer (some ⟨g, 0, none⟩)] W fun e W' => e = .returned (.tuple #[.int .i64 (shrI a b), .bool true]) ∧ Drawn0 W W' := by
  go_enter Tryd.func50, Tryd.ntmps50
  go_wp2_with (go_at_call 58; refine (c58 _ _ _).mono ?_; rintro e w' ⟨rfl, nd, rfl⟩)
  go_ret2
  exact ⟨rfl, ⟨_, rfl⟩⟩
theorem c50_59 (g : Nat) (a b : Int) (W : World) (hc : W.cell? ⟨g, 0, none⟩ = some (.func (.func 59) #[] #[])) :
    Calls Tryd.prog 50 #[.int .i64 a, .int .i64 b, .pointer (some ⟨g, 0, none⟩)] W fun e W' => e = .returned (.tuple #[.int .i64 (ushrI a b), .bool true]) ∧ Drawn0 W W' := by
  go_enter Tryd.func50, Tryd.ntmps50
  go_wp2_with (go_at_call 59; refine (c59 _ _ _).mono ?_; rintro e w' ⟨rfl, nd, rfl⟩)
  go_ret2
  exact ⟨rfl, ⟨_, rfl⟩⟩

/-- What an operator of two numbers makes of them, and whether it is a number. -/
def numF (op : List UInt8) : Option (Int → Int → Int × Bool) :=
  if op = [45] then some fun a b => (wrap64 (a - b), true)
  else if op = [42] then some fun a b => (timesI a b, timesB a b)
  else if op = [37] then some fun a b => if b = 0 then (0, false) else (Int.tmod a b, true)
  else if op = [38] then some fun a b => (Go.bits .and .i64 (lowI a) (lowI b), true)
  else if op = [124] then some fun a b => (Go.bits .or .i64 (lowI a) (lowI b), true)
  else if op = [94] then some fun a b => (Go.bits .xor .i64 (lowI a) (lowI b), true)
  else if op = [60, 60] then some fun a b => (shlI a b, true)
  else if op = [62, 62] then some fun a b => (shrI a b, true)
  else if op = [62, 62, 62] then some fun a b => (ushrI a b, true)
  else none

/-- A function value that computes F of any two numbers within the ends, in any later world. -/
def FnOk (F : Int → Int → Int × Bool) (w : World) (v : Value) : Prop := ∃ k caps, v = .func (.func k) #[] caps ∧ ((k = 50 ∧ ∃ g : Nat, caps = #[.pointer (some ⟨g, 0, none⟩)]) ∨ (k = 52 ∧ caps = #[]) ∨ (k = 53 ∧ caps = #[])) ∧ ∀ (a b : Int) (W : World), Below w.heap.size w W →
  -9007199254740991 ≤ a → a ≤ 9007199254740991 → -9007199254740991 ≤ b → b ≤ 9007199254740991 →
  Calls Tryd.prog k (#[.int .i64 a, .int .i64 b] ++ caps) W fun e W' => e = .returned (.tuple #[.int .i64 (F a b).1, .bool (F a b).2]) ∧ Below W.heap.size W W'

theorem fnOk_cap {F : Int → Int → Int × Bool} {w : World} {j : Nat} (h : ∀ (g : Nat) (a b : Int) (W : World), W.cell? ⟨g, 0, none⟩ = some (.func (.func j) #[] #[]) →
    Calls Tryd.prog 50 #[.int .i64 a, .int .i64 b, .pointer (some ⟨g, 0, none⟩)] W fun e W' => e = .returned (.tuple #[.int .i64 (F a b).1, .bool (F a b).2]) ∧ Drawn0 W W') :
    FnOk F (w.alloc (.cells #[.func (.func j) #[] #[]] 68)) (.func (.func 50) #[] #[.pointer (some ⟨w.heap.size, 0, none⟩)]) := by
  refine ⟨50, _, rfl, .inl ⟨rfl, _, rfl⟩, fun a b W hb _ _ _ _ => ?_⟩
  refine (h w.heap.size a b W ?_).mono fun _ _ ⟨h1, h2⟩ => ⟨h1, h2.below⟩
  rw [hb.cell (p := ⟨w.heap.size, 0, none⟩) (by simp)]
  exact (blk_cell (blk_new w _) 0).trans rfl

def NumRes (op : List UInt8) (w : World) (e : Ending) (w' : World) : Prop := Below w.heap.size w w' ∧ ∃ v, e = .returned v ∧ (match numF op with | none => v = .nilFunc | some F => FnOk F w' v)

set_option maxHeartbeats 400000 in
theorem num_45 (w : World) : Calls Tryd.prog 38 #[.string ⟨#[45]⟩] w (NumRes [45] w) := by
  have hmf : ∀ (fn : Fn) (first cap : Array Value) (w : World), (Instr.makeFunc fn first cap).run Tryd.prog w = .ok (.func fn first cap) w := fun _ _ _ _ => rfl
  go_enter Tryd.func38, Tryd.ntmps38
  go_wp2
  go_ret
  exact ⟨(Below.refl _ _).alloc (Nat.le_refl _) _, _, rfl, fnOk_cap c50_51⟩
set_option maxHeartbeats 400000 in
theorem num_38 (w : World) : Calls Tryd.prog 38 #[.string ⟨#[38]⟩] w (NumRes [38] w) := by
  have hmf : ∀ (fn : Fn) (first cap : Array Value) (w : World), (Instr.makeFunc fn first cap).run Tryd.prog w = .ok (.func fn first cap) w := fun _ _ _ _ => rfl
  go_enter Tryd.func38, Tryd.ntmps38
  go_wp2
  go_ret
  exact ⟨(Below.refl _ _).alloc (Nat.le_refl _) _, _, rfl, fnOk_cap c50_54⟩
set_option maxHeartbeats 400000 in
theorem num_124 (w : World) : Calls Tryd.prog 38 #[.string ⟨#[124]⟩] w (NumRes [124] w) := by
  have hmf : ∀ (fn : Fn) (first cap : Array Value) (w : World), (Instr.makeFunc fn first cap).run Tryd.prog w = .ok (.func fn first cap) w := fun _ _ _ _ => rfl
  go_enter Tryd.func38, Tryd.ntmps38
  go_wp2
  go_ret
  exact ⟨(Below.refl _ _).alloc (Nat.le_refl _) _, _, rfl, fnOk_cap c50_55⟩
set_option maxHeartbeats 400000 in
theorem num_94 (w : World) : Calls Tryd.prog 38 #[.string ⟨#[94]⟩] w (NumRes [94] w) := by
  have hmf : ∀ (fn : Fn) (first cap : Array Value) (w : World), (Instr.makeFunc fn first cap).run Tryd.prog w = .ok (.func fn first cap) w := fun _ _ _ _ => rfl
  go_enter Tryd.func38, Tryd.ntmps38
  go_wp2
  go_ret
  exact ⟨(Below.refl _ _).alloc (Nat.le_refl _) _, _, rfl, fnOk_cap c50_56⟩
set_option maxHeartbeats 400000 in
theorem num_60_60 (w : World) : Calls Tryd.prog 38 #[.string ⟨#[60, 60]⟩] w (NumRes [60, 60] w) := by
  have hmf : ∀ (fn : Fn) (first cap : Array Value) (w : World), (Instr.makeFunc fn first cap).run Tryd.prog w = .ok (.func fn first cap) w := fun _ _ _ _ => rfl
  go_enter Tryd.func38, Tryd.ntmps38
  go_wp2
  go_ret
  exact ⟨(Below.refl _ _).alloc (Nat.le_refl _) _, _, rfl, fnOk_cap c50_57⟩
set_option maxHeartbeats 400000 in
theorem num_62_62 (w : World) : Calls Tryd.prog 38 #[.string ⟨#[62, 62]⟩] w (NumRes [62, 62] w) := by
  have hmf : ∀ (fn : Fn) (first cap : Array Value) (w : World), (Instr.makeFunc fn first cap).run Tryd.prog w = .ok (.func fn first cap) w := fun _ _ _ _ => rfl
  go_enter Tryd.func38, Tryd.ntmps38
  go_wp2
  go_ret
  exact ⟨(Below.refl _ _).alloc (Nat.le_refl _) _, _, rfl, fnOk_cap c50_58⟩
set_option maxHeartbeats 400000 in
theorem num_62_62_62 (w : World) : Calls Tryd.prog 38 #[.string ⟨#[62, 62, 62]⟩] w (NumRes [62, 62, 62] w) := by
  have hmf : ∀ (fn : Fn) (first cap : Array Value) (w : World), (Instr.makeFunc fn first cap).run Tryd.prog w = .ok (.func fn first cap) w := fun _ _ _ _ => rfl
  go_enter Tryd.func38, Tryd.ntmps38
  go_wp2
  go_ret
  exact ⟨(Below.refl _ _).alloc (Nat.le_refl _) _, _, rfl, fnOk_cap c50_59⟩
theorem fnOk_mul (w : World) : FnOk (fun a b => (timesI a b, timesB a b)) w (.func (.func 52) #[] #[]) :=
  ⟨52, #[], rfl, .inr (.inl ⟨rfl, rfl⟩), fun a b W _ h1 h2 h3 h4 => (c52 a b W h1 h2 h3 h4).mono fun _ _ ⟨g1, g2⟩ => ⟨g1, g2.below⟩⟩
theorem fnOk_mod (w : World) : FnOk (fun a b => if b = 0 then (0, false) else (Int.tmod a b, true)) w (.func (.func 53) #[] #[]) := by
  refine ⟨53, #[], rfl, .inr (.inr ⟨rfl, rfl⟩), fun a b W _ _ _ _ _ => ?_⟩
  by_cases hb : b = 0
  · subst hb; exact (c53_zero a W).mono fun _ _ ⟨g1, g2⟩ => ⟨g1, g2.below⟩
  · simp only [if_neg hb]; exact (c53 a b W hb).mono fun _ _ ⟨g1, g2⟩ => ⟨g1, g2.below⟩
set_option maxHeartbeats 400000 in
theorem num_42 (w : World) : Calls Tryd.prog 38 #[.string ⟨#[42]⟩] w (NumRes [42] w) := by
  go_enter Tryd.func38, Tryd.ntmps38
  go_wp2
  go_ret
  exact ⟨Below.refl _ _, _, rfl, fnOk_mul _⟩
set_option maxHeartbeats 400000 in
theorem num_37 (w : World) : Calls Tryd.prog 38 #[.string ⟨#[37]⟩] w (NumRes [37] w) := by
  go_enter Tryd.func38, Tryd.ntmps38
  go_wp2
  go_ret
  exact ⟨Below.refl _ _, _, rfl, fnOk_mod _⟩
theorem toList_lit {op : ByteArray} {l : List UInt8} (h : op.data.toList = l) : op = ⟨l.toArray⟩ := by subst h; cases op; simp
theorem toList_data (op : ByteArray) : op.toList = op.data.toList := ByteArray.toList_eq op
set_option maxHeartbeats 800000 in
theorem num_none (op : ByteArray) (h0 : ¬ op.toList = [45]) (h1 : ¬ op.toList = [42]) (h2 : ¬ op.toList = [37]) (h3 : ¬ op.toList = [38]) (h4 : ¬ op.toList = [124]) (h5 : ¬ op.toList = [94]) (h6 : ¬ op.toList = [60, 60]) (h7 : ¬ op.toList = [62, 62]) (h8 : ¬ op.toList = [62, 62, 62]) (w : World) : Calls Tryd.prog 38 #[.string op] w (NumRes op.toList w) := by
  have b0 : (op.toList == ([45] : List UInt8)) = false := by simp [h0]
  have b1 : (op.toList == ([42] : List UInt8)) = false := by simp [h1]
  have b2 : (op.toList == ([37] : List UInt8)) = false := by simp [h2]
  have b3 : (op.toList == ([38] : List UInt8)) = false := by simp [h3]
  have b4 : (op.toList == ([124] : List UInt8)) = false := by simp [h4]
  have b5 : (op.toList == ([94] : List UInt8)) = false := by simp [h5]
  have b6 : (op.toList == ([60, 60] : List UInt8)) = false := by simp [h6]
  have b7 : (op.toList == ([62, 62] : List UInt8)) = false := by simp [h7]
  have b8 : (op.toList == ([62, 62, 62] : List UInt8)) = false := by simp [h8]
  have hn : numF op.toList = none := by simp only [numF, if_neg h0, if_neg h1, if_neg h2, if_neg h3, if_neg h4, if_neg h5, if_neg h6, if_neg h7, if_neg h8]
  have Hn := Aside0.mk hn
  clear hn h0 h1 h2 h3 h4 h5 h6 h7 h8
  go_enter Tryd.func38, Tryd.ntmps38
  go_wp2
  go_ret
  exact ⟨Below.refl _ _, _, rfl, by rw [Hn.out]; exact rfl⟩
theorem num_any (op : ByteArray) (w : World) : Calls Tryd.prog 38 #[.string op] w (NumRes op.toList w) := by
  by_cases h0 : op.toList = [45]
  · have e := toList_lit ((toList_data op).symm.trans h0)
    rw [h0]; subst e; exact num_45 w
  by_cases h1 : op.toList = [42]
  · have e := toList_lit ((toList_data op).symm.trans h1)
    rw [h1]; subst e; exact num_42 w
  by_cases h2 : op.toList = [37]
  · have e := toList_lit ((toList_data op).symm.trans h2)
    rw [h2]; subst e; exact num_37 w
  by_cases h3 : op.toList = [38]
  · have e := toList_lit ((toList_data op).symm.trans h3)
    rw [h3]; subst e; exact num_38 w
  by_cases h4 : op.toList = [124]
  · have e := toList_lit ((toList_data op).symm.trans h4)
    rw [h4]; subst e; exact num_124 w
  by_cases h5 : op.toList = [94]
  · have e := toList_lit ((toList_data op).symm.trans h5)
    rw [h5]; subst e; exact num_94 w
  by_cases h6 : op.toList = [60, 60]
  · have e := toList_lit ((toList_data op).symm.trans h6)
    rw [h6]; subst e; exact num_60_60 w
  by_cases h7 : op.toList = [62, 62]
  · have e := toList_lit ((toList_data op).symm.trans h7)
    rw [h7]; subst e; exact num_62_62 w
  by_cases h8 : op.toList = [62, 62, 62]
  · have e := toList_lit ((toList_data op).symm.trans h8)
    rw [h8]; subst e; exact num_62_62_62 w
  exact num_none op h0 h1 h2 h3 h4 h5 h6 h7 h8 w

/-- What an operator of order says of how two compare. -/
def ordF (op : List UInt8) : Option (Int → Bool) :=
  if op = [60] then some fun c => decide (c < 0)
  else if op = [60, 61] then some fun c => decide (c ≤ 0)
  else if op = [62] then some fun c => decide (0 < c)
  else if op = [62, 61] then some fun c => decide (0 ≤ c)
  else none
def OFnOk (F : Int → Bool) (v : Value) : Prop := ∃ k, v = .func (.func k) #[] #[] ∧ (k = 60 ∨ k = 61 ∨ k = 62 ∨ k = 63) ∧ ∀ (c : Int) (W : World), Calls Tryd.prog k #[.int .i64 c] W fun e W' => e = .returned (.bool (F c)) ∧ Below W.heap.size W W'
def OrdRes (op : List UInt8) (w : World) (e : Ending) (w' : World) : Prop := Below w.heap.size w w' ∧ ∃ v, e = .returned v ∧ (match ordF op with | none => v = .nilFunc | some F => OFnOk F v)
theorem ord_60 (w : World) : Calls Tryd.prog 39 #[.string ⟨#[60]⟩] w (OrdRes [60] w) := by
  go_enter Tryd.func39, Tryd.ntmps39
  go_wp2
  go_ret
  exact ⟨Below.refl _ _, _, rfl, 60, rfl, by decide, fun c W => (c60 c W).mono fun _ _ ⟨g1, g2⟩ => ⟨g1, g2.below⟩⟩
theorem ord_60_61 (w : World) : Calls Tryd.prog 39 #[.string ⟨#[60, 61]⟩] w (OrdRes [60, 61] w) := by
  go_enter Tryd.func39, Tryd.ntmps39
  go_wp2
  go_ret
  exact ⟨Below.refl _ _, _, rfl, 61, rfl, by decide, fun c W => (c61 c W).mono fun _ _ ⟨g1, g2⟩ => ⟨g1, g2.below⟩⟩
theorem ord_62 (w : World) : Calls Tryd.prog 39 #[.string ⟨#[62]⟩] w (OrdRes [62] w) := by
  go_enter Tryd.func39, Tryd.ntmps39
  go_wp2
  go_ret
  exact ⟨Below.refl _ _, _, rfl, 62, rfl, by decide, fun c W => (c62 c W).mono fun _ _ ⟨g1, g2⟩ => ⟨g1, g2.below⟩⟩
theorem ord_62_61 (w : World) : Calls Tryd.prog 39 #[.string ⟨#[62, 61]⟩] w (OrdRes [62, 61] w) := by
  go_enter Tryd.func39, Tryd.ntmps39
  go_wp2
  go_ret
  exact ⟨Below.refl _ _, _, rfl, 63, rfl, by decide, fun c W => (c63 c W).mono fun _ _ ⟨g1, g2⟩ => ⟨g1, g2.below⟩⟩
theorem ord_none (op : ByteArray) (h0 : ¬ op.toList = [60]) (h1 : ¬ op.toList = [60, 61]) (h2 : ¬ op.toList = [62]) (h3 : ¬ op.toList = [62, 61]) (w : World) : Calls Tryd.prog 39 #[.string op] w (OrdRes op.toList w) := by
  have b0 : (op.toList == ([60] : List UInt8)) = false := by simp [h0]
  have b1 : (op.toList == ([60, 61] : List UInt8)) = false := by simp [h1]
  have b2 : (op.toList == ([62] : List UInt8)) = false := by simp [h2]
  have b3 : (op.toList == ([62, 61] : List UInt8)) = false := by simp [h3]
  have hn : ordF op.toList = none := by simp only [ordF, if_neg h0, if_neg h1, if_neg h2, if_neg h3]
  have Hn := Aside0.mk hn
  clear hn h0 h1 h2 h3
  go_enter Tryd.func39, Tryd.ntmps39
  go_wp2
  go_ret
  exact ⟨Below.refl _ _, _, rfl, by rw [Hn.out]; exact rfl⟩
theorem ord_any (op : ByteArray) (w : World) : Calls Tryd.prog 39 #[.string op] w (OrdRes op.toList w) := by
  by_cases h0 : op.toList = [60]
  · have e := toList_lit ((toList_data op).symm.trans h0)
    rw [h0]; subst e; exact ord_60 w
  by_cases h1 : op.toList = [60, 61]
  · have e := toList_lit ((toList_data op).symm.trans h1)
    rw [h1]; subst e; exact ord_60_61 w
  by_cases h2 : op.toList = [62]
  · have e := toList_lit ((toList_data op).symm.trans h2)
    rw [h2]; subst e; exact ord_62 w
  by_cases h3 : op.toList = [62, 61]
  · have e := toList_lit ((toList_data op).symm.trans h3)
    rw [h3]; subst e; exact ord_62_61 w
  exact ord_none op h0 h1 h2 h3 w
end Go.Proofs.YtceahnhpeadkoaaDoor.V
