/- Tokens on a text that has no error: the range over Scan's iterator. -/
import Derived.Test.YtglghpgpnlkpmaaLy
import Derived.RangeFuncBox
import Derived.Maps.AppendAt
namespace Go.Proofs.Ytglghpgpnlkpmaa.V
open Go.RowKit Go.Shelf Go.Proofs.YtglghpgpnlkpmaaW.PrintWords Go.Proofs.YtglghpgpnlkpmaaW.PrintLast Go.Proofs.YtglghpgpnlkpmaaW.PrintMore
attribute [local go_sem] max2_int min2_int max_two min_two max_three min_three max_four min_four   -- for this text's walks alone
attribute [local go_sem] Oper.semAt_some
set_option linter.unusedVariables false
set_option linter.unusedSimpArgs false
set_option maxHeartbeats 40000000
set_option maxRecDepth 100000
/-- A list of tokens' cells. -/
def tkCells : List (Tk × Int) → List Value
  | [] => []
  | x :: t => [.int .i64 x.1.1, .string x.1.2.1, .int .i64 x.1.2.2.1, .int .i64 x.1.2.2.2] ++ tkCells t
theorem tkCells_snoc (a : List (Tk × Int)) (x : Tk × Int) : tkCells (a ++ [x]) = tkCells a ++ [.int .i64 x.1.1, .string x.1.2.1, .int .i64 x.1.2.2.1, .int .i64 x.1.2.2.2] := by
  induction a with
  | nil => rfl
  | cons y t ih => simp [tkCells, ih]
theorem tkCells_length : ∀ a : List (Tk × Int), (tkCells a).length = a.length * 4
  | [] => rfl
  | x :: t => by simp [tkCells, tkCells_length t]; omega
theorem own_base {W : World} {b b' : Nat} {e : TypeId} {size : Nat} {v : Value} {n : Nat} {xs : List Value} (h : W.ownsRow b e size v n xs) (hb : b' ≤ b) : W.ownsRow b' e size v n xs := by
  refine ⟨h.1, ?_⟩
  rcases h.2 with hn | ⟨g, cap, cur, rfl, hg, rest⟩
  · exact .inl hn
  · exact .inr ⟨g, cap, cur, rfl, Nat.le_trans hb hg, rest⟩
theorem KeepO.at {g : Nat} {w w1 : World} (h : KeepO g w w1) {k : Nat} {o : Obj} (hk : w.heap[k]? = some o) (hg : k < g) : w1.heap[k]? = some o := (h.block k (blk_lt hk) (by omega) (.inl hg)).trans hk
section
variable {F : Fence} {n m : Nat} {P : Program}
theorem rangeFunc_step {g : Operand} {ps : Array Tmp} {assign body : Code} {Q : Exit → Act → World → Prop} {a : Act} {w : World}
    (hro : F.round = none) (h1 : 1 ≤ n) {gf : Nat} {lb : Array Value} (hg : a.eval g = .func (.func gf) #[] lb) (hFg : F.fn gf) (eg : ∀ args w, (callFunc gf args).run P w = .ok (.enter gf args) w)
    (h : ∀ fn, F.fn fn → ∀ rec : LoopState → Option Code → Loop, rec = (fun st pe => { state := st, pending := pe, fn, tmps := a.tmps, params := ps, assign, body, defers := w.heap.size }) →
      ∀ W1, W1 = (w.alloc (.deferred (some []))).alloc (.loop (rec .ready none)) →
      CallsIn F (n - 1) P gf (#[.func (.yield (w.heap.size + 1)) #[] #[]] ++ lb) W1 (rangePost F n P (w.heap.size + 1) Q { a with defers := [{ target := .collected w.heap.size, args := #[] }] ++ a.defers })) :
    (Code.rangeFunc g ps assign body).wpIn F n P Q a w := by
  refine wpIn_rangeFunc ?_
  intro fn hfn
  rw [hro]
  obtain ⟨rec, hrec⟩ : ∃ rec : LoopState → Option Code → Loop, rec = fun st pe => { state := st, pending := pe, fn, tmps := a.tmps, params := ps, assign, body, defers := w.heap.size } := ⟨_, rfl⟩
  obtain ⟨W1, hW1⟩ : ∃ W1, W1 = (w.alloc (.deferred (some []))).alloc (.loop (rec .ready none)) := ⟨_, rfl⟩
  refine ⟨w.heap.size + 1, [{ target := .collected w.heap.size, args := #[] }], W1, { target := .fn (.func gf) lb, args := #[.func (.yield (w.heap.size + 1)) #[] #[]] }, W1, gf,
    #[.func (.yield (w.heap.size + 1)) #[] #[]] ++ lb, W1, ?_, ?_, ?_, ?_, fun _ => h1, ?_⟩
  · rw [hW1, hrec]; exact run_enterLoop_outer _ _ _ _ _
  · simp only [resolve, hg]
    simp [go_sem]
  · intro f' hf'; simp [Target.leads] at hf'; subst hf'; exact hFg
  · simp [invoke, go_sem, eg]
  · have hh := h fn hfn rec hrec W1 hW1
    with_reducible exact hh
theorem round_step {l : Nat} {fn : FuncId} {rec : LoopState → Option Code → Loop} {tm : Array Value} {ps : Array Tmp} {assign body : Code} {de : Nat} {args : Array Value} {W : World} {R : Ending → World → Prop}
    (hfn : F.fn fn) (hrec : rec = (fun st pe => { state := st, pending := pe, fn, tmps := tm, params := ps, assign, body, defers := de })) (hl : W.heap[l]? = some (.loop (rec .ready none))) (hps : args.size = ps.size)
    (h : assign.wpIn (F.inRound l) m P (Exit.then (fun a₁ w₁ => ∃ w₂, (Instr.beginRound l).run P w₁ = .ok () w₂ ∧ body.wpIn (F.inRound l) m P (roundPost P l R) a₁ w₂) (fun _ _ _ => False)) { tmps := (ps.zip args).foldl (fun t (p, v) => t.setIfInBounds p v) tm, defers := [] } W) :
    YieldAt F m P l args W R := by
  subst hrec
  exact ⟨fn, _, assign, body, run_yield (P := P) hl hps, roundIn_of_wpIn hfn h⟩
theorem begin_rec {l : Nat} {fn : FuncId} {rec : LoopState → Option Code → Loop} {tm : Array Value} {ps : Array Tmp} {assign body : Code} {de : Nat} {W : World}
    (hrec : rec = (fun st pe => { state := st, pending := pe, fn, tmps := tm, params := ps, assign, body, defers := de })) (hl : W.heap[l]? = some (.loop (rec .ready none))) :
    (Instr.beginRound l).run P W = .ok () (W.putObj l (.loop (rec .busy none))) := by
  subst hrec
  exact run_beginRound hl rfl
theorem end_rec {l : Nat} {fn : FuncId} {rec : LoopState → Option Code → Loop} {tm : Array Value} {ps : Array Tmp} {assign body : Code} {de : Nat} {W : World}
    (hrec : rec = (fun st pe => { state := st, pending := pe, fn, tmps := tm, params := ps, assign, body, defers := de })) (hl : W.heap[l]? = some (.loop (rec .busy none))) :
    (Instr.endRound l none).run P W = .ok (.bool true) (W.putObj l (.loop (rec .ready none))) := by
  subst hrec
  exact run_endRound none hl
theorem out_rec {l : Nat} {fn : FuncId} {rec : LoopState → Option Code → Loop} {tm : Array Value} {ps : Array Tmp} {assign body : Code} {de : Nat} {W : World}
    (hrec : rec = (fun st pe => { state := st, pending := pe, fn, tmps := tm, params := ps, assign, body, defers := de })) (hl : W.heap[l]? = some (.loop (rec .ready none))) :
    (Instr.endLoop l).run P W = .ok none (W.putObj l (.loop (rec .exhausted none))) := by
  subst hrec
  exact run_endLoop hl (by simp)
end
theorem run_loadVar_one {P : Program} {ty : TypeId} {w : World} {a : Addr} {v : Value} (ha : (isAgg ty).run P w = .ok false w) (hc : w.cell? a = some v) : (loadVar ty a).run P w = .ok v w := by
  simp [loadVar, Sem.run_bind, ha, Result.andThen, load, Sem.run, hc]
theorem results_ccc {P : Program} {fn : Func} {p q u : Tmp} {t1 t2 t3 : TypeId} (h : fn.results = #[.cell p t1, .cell q t2, .cell u t3]) (tmps : Array Value) (w : World) {a1 a2 a3 : Addr} {v1 v2 v3 : Value}
    (h1 : tmps.getD p undef = .pointer (some a1)) (h2 : tmps.getD q undef = .pointer (some a2)) (h3 : tmps.getD u undef = .pointer (some a3))
    (l1 : (loadVar t1 a1).run P w = .ok v1 w) (l2 : (loadVar t2 a2).run P w = .ok v2 w) (l3 : (loadVar t3 a3).run P w = .ok v3 w) :
    (results fn tmps).run P w = .ok (.tuple #[v1, v2, v3]) w := by
  have h1' : tmps[p]?.getD undef = .pointer (some a1) := by simpa using h1
  have h2' : tmps[q]?.getD undef = .pointer (some a2) := by simpa using h2
  have h3' : tmps[u]?.getD undef = .pointer (some a3) := by simpa using h3
  simp [results, h, h1', h2', h3', asAddr, l1, l2, l3]
theorem own_ne' {w : World} {b k n size : Nat} {e t : TypeId} {v : Value} {xs : List Value} {cs : Array Value} {fz : Nat × Nat} (h : w.ownsRow b e size v n xs) (hb : w.heap[k]? = some (.cells cs t fz)) (ht : t ≠ e) : v.ownBlock ≠ some k := by
  rcases h.2 with ⟨rfl, _⟩ | ⟨j, cap, cur, rfl, _, hj, _⟩
  · simp [Value.ownBlock]
  · intro e
    obtain rfl : j = k := by simpa [Value.ownBlock] using e
    rw [hj] at hb
    cases hb
    exact ht rfl
theorem own_nc {w : World} {b k n size : Nat} {e : TypeId} {v : Value} {xs : List Value} {o : Obj} (h : w.ownsRow b e size v n xs) (hb : w.heap[k]? = some o) (ho : o.isCells = false) : v.ownBlock ≠ some k := by
  rcases h.2 with ⟨rfl, _⟩ | ⟨j, cap, cur, rfl, _, hj, _⟩
  · simp [Value.ownBlock]
  · intro e
    obtain rfl : j = k := by simpa [Value.ownBlock] using e
    rw [hj] at hb
    cases hb
    cases ho
/-- What holds between two rounds of Tokens' loop; w: where Tokens began; fn, tm, as, bo: what the loop's record bears. -/
structure TokI (w : World) (r l0 g : Nat) (rec : LoopState → Option Code → Loop) (st : LoopState) (pre : List (Tk × Int)) (v : Value) (W : World) : Prop where
  box : W.heap[r + 3]? = some (.cells #[v] 24 (0, 0))
  row : W.ownsRow (r + 4) 33 4 v pre.length (tkCells pre)
  ne : v.ownBlock ≠ some g
  r0 : W.heap[r]? = some (.cells #[.slice none 0 0] 24 (0, 0))
  r1 : W.heap[r + 1]? = some (.cells #[.int .i64 0] 3 (0, 0))
  r2 : W.heap[r + 2]? = some (.cells #[.int .i64 0] 25 (0, 0))
  lp : W.heap[l0 + 1]? = some (.loop (rec st none))
  df : W.heap[l0]? = some (.deferred (some []))
  below : Below r w W
theorem TokI.keepO {w W W' : World} {r l0 g : Nat} {rec : LoopState → Option Code → Loop} {st : LoopState} {pre : List (Tk × Int)} {v : Value} (h : TokI w r l0 g rec st pre v W) (hk : KeepO g W W') (hr : r + 3 < g) (hl : l0 + 1 < g) : TokI w r l0 g rec st pre v W' :=
  ⟨hk.at h.box hr, own_transfer h.row (fun b cur hb hc => hk.block b (blk_lt hc) (fun e => h.ne (by rw [hb, e])) (.inr fun cur' fz e => by rw [hc] at e; cases e)), h.ne, hk.at h.r0 (by omega), hk.at h.r1 (by omega), hk.at h.r2 (by omega), hk.at h.lp hl, hk.at h.df (by omega),
    ⟨hk.os.trans h.below.os, hk.tape.trans h.below.tape, hk.output.trans h.below.output, Nat.le_trans h.below.size hk.size, fun k hk1 => by
      have := blk_lt h.r0
      rw [hk.block k (by omega) (by omega) (.inl (by omega))]
      exact h.below.block k hk1⟩⟩
theorem tokens_ok (A : Option Addr) (c : Nat) (l : List Int) (w : World) (hC : Kd.C (Kd.int .u8) w A l.length l) (hn0 : A = none → c = 0) (hlm : l.length ≤ 65536) (hM : MaxOk w)
    (Pp : Nat → List Bool → Prop) (hP0 : Pp 0 []) (hPn : ∀ g A c p os, g ≠ 0 → Pp p os → NextAt g A c l p os) (hPs : ∀ p os, Pp p os → (nextR l p os).1.2 = true → (nextR l p os).1.1.1 ≠ 10 → 0 ≤ (nextR l p os).2.1 ∧ Pp (nextR l p os).2.1.toNat (nextR l p os).2.2)
    (xs : List (Tk × Int)) (hxs : scanGo l 8193 0 0 [] = xs) (hx0 : ∀ x ∈ xs, x.2 = 0) (hxl : xs.length ≤ 8193) :
    Calls Try.prog 11 #[.slice A l.length c] w fun z w' => ∃ v', z = .returned (.tuple #[v', .int .i64 0, .int .i64 0]) ∧ w'.ownsRow w.heap.size 33 4 v' xs.length (tkCells xs) ∧ Below w.heap.size w w' := by
  have hu33 := Try.underlying33
  refine (callsIn_wide (n := 10)).1 ?_
  refine callsIn_of_wp_marks Try.func11 rfl trivial ?_ rfl
  simp only [Try.ntmps11, List.size_toArray, List.length_cons, List.length_nil, Nat.reduceAdd, Nat.reduceSub, Array.replicate_succ, Array.replicate_zero, List.push_toArray, List.append_toArray, List.nil_append, List.cons_append]
  gi_upto_region 2 with fail
  have b0 := blk_alloc (blk_alloc (blk_alloc (blk_new w (.cells #[.slice none 0 0] 24)) (.cells #[.int .i64 0] 3)) (.cells #[.int .i64 0] 25)) (.cells #[.slice none 0 0] 24)
  have b1 := blk_alloc (blk_alloc (blk_new (w.alloc (.cells #[.slice none 0 0] 24)) (.cells #[.int .i64 0] 3)) (.cells #[.int .i64 0] 25)) (.cells #[.slice none 0 0] 24)
  have b2 := blk_alloc (blk_new ((w.alloc (.cells #[.slice none 0 0] 24)).alloc (.cells #[.int .i64 0] 3)) (.cells #[.int .i64 0] 25)) (.cells #[.slice none 0 0] 24)
  have b3 := blk_new (((w.alloc (.cells #[.slice none 0 0] 24)).alloc (.cells #[.int .i64 0] 3)).alloc (.cells #[.int .i64 0] 25)) (.cells #[.slice none 0 0] 24)
  have hB := below_alloc (below_alloc (below_alloc (below_alloc (Below.refl w.heap.size w) (.cells #[.slice none 0 0] 24)) (.cells #[.int .i64 0] 3)) (.cells #[.int .i64 0] 25)) (.cells #[.slice none 0 0] 24)
  have hz : ((((w.alloc (.cells #[.slice none 0 0] 24)).alloc (.cells #[.int .i64 0] 3)).alloc (.cells #[.int .i64 0] 25)).alloc (.cells #[.slice none 0 0] 24)).heap.size = w.heap.size + 4 := by simp
  simp only [World.size_alloc, Nat.add_assoc, Nat.reduceAdd] at b0 b1 b2 b3 ⊢
  generalize (((w.alloc (.cells #[.slice none 0 0] 24)).alloc (.cells #[.int .i64 0] 3)).alloc (.cells #[.int .i64 0] 25)).alloc (.cells #[.slice none 0 0] 24) = W0 at *
  have HSc := Aside0.mk (scan_any A c l W0 (Kd.C_below hC hB) (by omega) hn0)
  have hr0 : 0 < w.heap.size := by
    obtain ⟨m, hm⟩ := hM
    have := World.block_lt_of_cell? w _ hm
    simp at this
    omega
  have HB := Aside0.mk hB
  have HB0 := Aside0.mk (show W0.heap[w.heap.size]? = some (.cells #[.slice none 0 0] 24 (0, 0)) from b0)
  have HB1 := Aside0.mk (show W0.heap[w.heap.size + 1]? = some (.cells #[.int .i64 0] 3 (0, 0)) from b1)
  have HB2 := Aside0.mk (show W0.heap[w.heap.size + 2]? = some (.cells #[.int .i64 0] 25 (0, 0)) from b2)
  have HB3 := Aside0.mk (show W0.heap[w.heap.size + 3]? = some (.cells #[.slice none 0 0] 24 (0, 0)) from b3)
  have HM0 := Aside0.mk (hM.below hB)
  have HZ := Aside0.mk hz
  have HP0 := Aside0.mk hP0
  have HPn := Aside0.mk hPn
  have HPs := Aside0.mk hPs
  have HX := Aside0.mk (And.intro hxs (And.intro hx0 hxl))
  obtain ⟨r, hr⟩ : ∃ r, w.heap.size = r := ⟨_, rfl⟩
  rw [hr] at HB HB0 HB1 HB2 HB3 HZ hr0 ⊢
  have HR := Aside0.mk hr
  have HR0 := Aside0.mk hr0
  clear b0 b1 b2 b3 hB hz hC hn0 hM hP0 hPn hPs hxs hx0 hxl hr
  gi_wp2_with (refine ⟨trivial, ?_⟩; refine (callsIn_wide.2 HSc.out).mono ?_; rintro e1 w1 ⟨rfl, ⟨A1, c1, hbx, ho⟩, hb⟩; have HBx := Aside0.mk hbx; have HOb := Aside0.mk ho; have HBb := Aside0.mk hb; clear hbx ho hb)
  have HB3' := Aside0.mk (blk_below HB3.out HBb.out)
  have HB0' := Aside0.mk (blk_below HB0.out HBb.out)
  have HB1' := Aside0.mk (blk_below HB1.out HBb.out)
  have HB2' := Aside0.mk (blk_below HB2.out HBb.out)
  have HBw := Aside0.mk (show Below r w w1 from HB.out.trans (HBb.out.mono (by have := HZ.out; omega)))
  have HM1 := Aside0.mk (HM0.out.below HBb.out)
  have HZ1 := Aside0.mk HBb.out.size
  obtain ⟨b0, hb0⟩ : ∃ b0, W0.heap.size = b0 := ⟨_, rfl⟩
  rw [hb0] at HBx HOb HZ HZ1 ⊢
  clear HB0 HB1 HB2 HB3 HB HSc HM0 HBb hb0
  refine rangeFunc_step rfl (by decide) (gf := 27) (lb := #[.pointer (some ⟨b0, 0, none⟩)]) rfl trivial (enters_of Try.func27 (by kernel_rfl) rfl) ?_
  intro fn hfn rec hrec' W1 hW1
  have HRec := Aside0.mk hrec'
  clear hrec'
  have hzz : W1.heap.size = w1.heap.size + 2 := by rw [hW1]; simp
  have hl1 : W1.heap[w1.heap.size + 1]? = some (.loop (rec .ready none)) := by
    rw [hW1]; have := World.alloc_heap_new (w1.alloc (.deferred (some []))) (.loop (rec .ready none)); rwa [World.size_alloc] at this
  have hd1 : W1.heap[w1.heap.size]? = some (.deferred (some [])) := by
    rw [hW1]; exact (Below.heap_alloc _ _ _ (by simp)).trans (World.alloc_heap_new w1 _)
  have hb1 : Below w1.heap.size w1 W1 := by
    rw [hW1]; exact below_alloc (below_alloc (Below.refl _ _) _) _
  have hzr : r + 4 ≤ w1.heap.size := by have := HZ.out; have := HZ1.out; omega
  have HT1 := Aside0.mk (show TokI w r w1.heap.size W1.heap.size rec .ready [] (.slice none 0 0) W1 from
    ⟨blk_below HB3'.out hb1, World.ownsRow_nil _ _ _ _, by simp [Value.ownBlock], blk_below HB0'.out hb1, blk_below HB1'.out hb1, blk_below HB2'.out hb1, hl1, hd1, HBw.out.trans (hb1.mono (by omega))⟩)
  rw [show (#[Value.func (.yield (w1.heap.size + 1)) #[] #[]] ++ #[Value.pointer (some ⟨b0, 0, none⟩)] : Array Value) = #[Value.func (.yield (w1.heap.size + 1)) #[] #[], Value.pointer (some ⟨b0, 0, none⟩)] from rfl]
  have HZz := Aside0.mk hzz
  have hb1' := Aside0.mk hb1
  clear hzz hW1 hl1 hd1 hb1
  refine (scan1_any 9 (w1.heap.size + 1) b0 A1 c1 l W1 (blk_below HBx.out hb1'.out) (own_base (pw_own_below HOb.out hb1'.out) (Nat.zero_le _)) hlm (HM1.out.below hb1'.out) (by have := HZz.out; omega) Pp HP0.out (fun p os h => HPn.out _ _ _ _ _ (by have := HZz.out; omega) h) HPs.out xs HX.out.1 (fun pre W => ∃ v, TokI w r w1.heap.size W1.heap.size rec .ready pre v W) (fun _ _ => False) ?tk0 ?tk1 ?tk2).mono ?_
  case tk0 => exact fun W' hb hlt => ⟨_, HT1.out.keepO ((KeepO.refl _ _).below hb) (by have := HZz.out; omega) (by have := HZz.out; omega)⟩
  case tk1 => exact fun pre Wa Wb ⟨v, ht⟩ hk => ⟨v, ht.keepO hk (by have := HZz.out; omega) (by have := HZz.out; omega)⟩
  case tk2 =>
    rintro pre x rest Wb W tb hx ⟨v, htb⟩ hk htb1 htb2 ⟨cs, hg60⟩
    have ht := htb.keepO hk (by have := HZz.out; omega) (by have := HZz.out; omega)
    have hx2 : x.2 = 0 := HX.out.2.1 x (by rw [hx]; simp)
    obtain ⟨⟨k, s, a, e⟩, xe⟩ := x
    obtain rfl : xe = 0 := hx2
    refine round_step hfn HRec.out ht.lp rfl ?_
    simp only [encX, tkV]
    have HT := Aside0.mk ht
    have htne : ∀ b, v.ownBlock = some b → b < Wb.heap.size := fun b hb => (htb.row.lt b hb).2
    have hpl : pre.length ≤ 8193 := by have := HX.out.2.2; rw [hx] at this; simp at this; omega
    have HNe := Aside0.mk htne
    have HWb := Aside0.mk (And.intro (blk_lt htb.lp) (blk_lt htb.box))
    have HG60 := Aside0.mk hg60
    clear ht htb hk htne hx hg60
    gi_wp2
    have hl3 := blk_alloc HT.out.lp (.cells #[.int .i64 k, .string s, .int .i64 a, .int .i64 e] 33)
    refine ⟨_, begin_rec HRec.out hl3, ?_⟩
    have hn4 : ((W.alloc (.cells #[.int .i64 k, .string s, .int .i64 a, .int .i64 e] 33)).putObj (w1.heap.size + 1) (.loop (rec .busy none))).heap[W.heap.size]? = some (B33 k s a e) := (World.putObj_heap_other (by have := blk_lt HT.out.lp; omega)).trans (blk_new W _)
    have hl4 : ((W.alloc (.cells #[.int .i64 k, .string s, .int .i64 a, .int .i64 e] 33)).putObj (w1.heap.size + 1) (.loop (rec .busy none))).heap[w1.heap.size + 1]? = some (.loop (rec .busy none)) := World.putObj_heap_same (blk_lt hl3)
    have ho4 : ((W.alloc (.cells #[.int .i64 k, .string s, .int .i64 a, .int .i64 e] 33)).putObj (w1.heap.size + 1) (.loop (rec .busy none))).ownsRow (r + 4) 33 4 v pre.length (tkCells pre) := (HT.out.row.alloc _).kept (grownBy_putObj' _ _ _) (.inr (own_nc (HT.out.row.alloc _) hl3 rfl))
    have hs4 : ∀ k', k' < W.heap.size → k' ≠ w1.heap.size + 1 → ((W.alloc (.cells #[.int .i64 k, .string s, .int .i64 a, .int .i64 e] 33)).putObj (w1.heap.size + 1) (.loop (rec .busy none))).heap[k']? = W.heap[k']? := fun k' h1 h2 => (World.putObj_heap_other h2).trans (Below.heap_alloc W _ k' h1)
    have hb4 : Below r W ((W.alloc (.cells #[.int .i64 k, .string s, .int .i64 a, .int .i64 e] 33)).putObj (w1.heap.size + 1) (.loop (rec .busy none))) := ((Below.refl r W).alloc (by have := blk_lt HT.out.r0; omega) _).grown (grownBy_putObj' _ _ _) (by have := blk_lt HT.out.r0; simp; omega) (fun k' e' => by cases e'; omega)
    generalize (W.alloc (.cells #[.int .i64 k, .string s, .int .i64 a, .int .i64 e] 33)).putObj (w1.heap.size + 1) (.loop (rec .busy none)) = w4 at *
    have HN4 := Aside0.mk hn4
    have HL4 := Aside0.mk hl4
    have HO4 := Aside0.mk ho4
    have HS4 := Aside0.mk hs4
    have HB4 := Aside0.mk hb4
    have HX4 := Aside0.mk (show w4.heap[r + 3]? = some (.cells #[v] 24 (0, 0)) from (hs4 _ (blk_lt HT.out.box) (by omega)).trans HT.out.box)
    clear hl3 hn4 hl4 ho4 hs4 hb4
    have c5 : w4.cell? ⟨r + 3, 0, none⟩ = some v := (blk_cell HX4.out 0).trans rfl
    obtain ⟨⟨t0, t1, t2, t3⟩, s0, s1, s2, s3⟩ := B33_facts HN4.out
    obtain ⟨i0, hi, hz0, hz1, hz2⟩ := info_parts info33
    gi_wp2_with (gi_at_builtin; refine wpListIn_append_own _ rfl _ _ 24 rfl (r + 4) 33 i0 _ 4 40 Try.underlying24 hi hz0 hz1 hz2 rfl (by decide) _ _ _ rfl (HO4.out.alloc _) ⟨w4.heap.size, 0, none⟩ 1 1 [.int .i64 k, .string s, .int .i64 a, .int .i64 e] rfl rfl (World.news_of_block (cs := #[.int .i64 k, .string s, .int .i64 a, .int .i64 e]) (t := 33) (fr := (0, 0)) (heap_alloc_new w4 _)) (by simp [Value.oneCell']) (by simp only [maxLen]; omega) (by omega) (by have := HB4.out.size; have := blk_lt HX4.out; simp; omega) ?_; intro v' w5 hown hgr _; obtain ⟨gv, cap', rfl⟩ := ownsRow_succ hown; have HO5 := Aside0.mk hown; have HG5 := Aside0.mk hgr; have HX5 := Aside0.mk (show w5.heap[r + 3]? = some (.cells #[v] 24 (0, 0)) from (hgr.block _ (by have := blk_lt HX4.out; simp; omega) (fun e' => own_ne' HO4.out HX4.out (by decide) e'.symm)).trans (blk_alloc HX4.out _)); clear hown hgr; have c6 : w5.cell? ⟨r + 3, 0, none⟩ = some v := (blk_cell HX5.out 0).trans rfl; have f6 : w5.frozen? ⟨r + 3, 0, none⟩ = false := blk_frozen HX5.out 0)
    have hl5 : w5.heap[w1.heap.size + 1]? = some (.loop (rec .busy none)) := (HG5.out.block _ (by have := blk_lt HL4.out; simp; omega) (fun e' => own_nc HO4.out HL4.out rfl e'.symm)).trans (blk_alloc HL4.out _)
    have hl6 : (w5.setCell ⟨r + 3, 0, none⟩ (.slice (some ⟨gv, 0, none⟩) (pre.length + 1) cap')).heap[w1.heap.size + 1]? = some (.loop (rec .busy none)) := blk_setOther hl5 (by omega) 0 _
    have hKeep : ∀ k', k' < W.heap.size → k' ≠ w1.heap.size + 1 → k' ≠ r + 3 → v.ownBlock ≠ some k' → ((w5.setCell ⟨r + 3, 0, none⟩ (.slice (some ⟨gv, 0, none⟩) (pre.length + 1) cap')).putObj (w1.heap.size + 1) (.loop (rec .ready none))).heap[k']? = W.heap[k']? := fun k' h1 h2 h3 h4 => by
      have h41 : k' < w4.heap.size := Nat.lt_of_lt_of_le h1 HB4.out.size
      rw [World.putObj_heap_other h2, Below.heap_setCell w5 ⟨r + 3, 0, none⟩ _ k' h3, HG5.out.block k' (by simp; omega) (fun e' => h4 e'.symm), Below.heap_alloc w4 _ k' h41, HS4.out k' h1 h2]
    have hB7 : Below r W ((w5.setCell ⟨r + 3, 0, none⟩ (.slice (some ⟨gv, 0, none⟩) (pre.length + 1) cap')).putObj (w1.heap.size + 1) (.loop (rec .ready none))) := by
      have hrW : r ≤ w4.heap.size := by have := blk_lt HX4.out; omega
      refine Below.grown ((((HB4.out.alloc hrW _).grown HG5.out (by simp; omega) (fun k' e' => ?_)).setCell (p := ⟨r + 3, 0, none⟩) (by simp) _)) (grownBy_putObj' _ _ _) (by have := blk_lt hl6; omega) (fun k' e' => by cases e'; omega)
      have := (HO4.out.lt k' e').1
      omega
    have hrow7 : ((w5.setCell ⟨r + 3, 0, none⟩ (.slice (some ⟨gv, 0, none⟩) (pre.length + 1) cap')).putObj (w1.heap.size + 1) (.loop (rec .ready none))).ownsRow (r + 4) 33 4 (.slice (some ⟨gv, 0, none⟩) (pre.length + 1) cap') (pre.length + 1) (tkCells pre ++ [.int .i64 k, .string s, .int .i64 a, .int .i64 e]) :=
      (HO5.out.kept (grown_set w5 (r + 3) 0 _) (.inr (own_ne' HO5.out HX5.out (by decide)))).kept (grownBy_putObj' _ _ _) (.inr (own_nc (HO5.out.kept (grown_set w5 (r + 3) 0 _) (.inr (own_ne' HO5.out HX5.out (by decide)))) hl6 rfl))
    have hbox7 : ((w5.setCell ⟨r + 3, 0, none⟩ (.slice (some ⟨gv, 0, none⟩) (pre.length + 1) cap')).putObj (w1.heap.size + 1) (.loop (rec .ready none))).heap[r + 3]? = some (.cells #[.slice (some ⟨gv, 0, none⟩) (pre.length + 1) cap'] 24 (0, 0)) :=
      (World.putObj_heap_other (by omega)).trans (blk_put (cs := #[v]) HX5.out 0 _ rfl)
    have hlp7 : ((w5.setCell ⟨r + 3, 0, none⟩ (.slice (some ⟨gv, 0, none⟩) (pre.length + 1) cap')).putObj (w1.heap.size + 1) (.loop (rec .ready none))).heap[w1.heap.size + 1]? = some (.loop (rec .ready none)) := World.putObj_heap_same (blk_lt hl6)
    refine ⟨_, _, end_rec HRec.out hl6, ?_⟩
    generalize (w5.setCell ⟨r + 3, 0, none⟩ (.slice (some ⟨gv, 0, none⟩) (pre.length + 1) cap')).putObj (w1.heap.size + 1) (.loop (rec .ready none)) = w7 at *
    have hcells : ∀ (k' : Nat) (cs' : Array Value) (t' : TypeId) (fz : Nat × Nat), W.heap[k']? = some (Obj.cells cs' t' fz) → t' ≠ 33 → k' ≠ r + 3 → w7.heap[k']? = some (Obj.cells cs' t' fz) := fun k' cs' t' fz h1 h2 h3 =>
      (hKeep k' (blk_lt h1) (fun e' => by rw [e', HT.out.lp] at h1; cases h1) h3 (own_ne' HT.out.row h1 h2)).trans h1
    have hb24 : ∀ (k' : Nat) (cs' : Array Value) (t' : TypeId) (fz : Nat × Nat), W.heap[k']? = some (Obj.cells cs' t' fz) → t' ≠ 24 → k' ≠ r + 3 := fun k' cs' t' fz h1 h2 e' => by
      rw [e', HT.out.box] at h1
      cases h1
      exact h2 rfl
    have hg1 := HZz.out
    have hr0' := HR0.out
    have hwb := HWb.out
    have hlpt := blk_lt HT.out.lp
    have hrlt := blk_lt HT.out.r0
    have hg60 := HG60.out
    have hg7 := hcells _ _ _ _ hg60 (by decide) (hb24 _ _ _ _ hg60 (by decide))
    refine ⟨rfl, ⟨_, ⟨hbox7, by simpa [tkCells_snoc] using hrow7, fun e' => own_ne' hrow7 hg7 (by decide) e', hcells _ _ _ _ HT.out.r0 (by decide) (by omega), hcells _ _ _ _ HT.out.r1 (by decide) (by omega), hcells _ _ _ _ HT.out.r2 (by decide) (by omega), hlp7, ?_, HT.out.below.trans hB7⟩⟩, ⟨hB7.size, ?_, ?_⟩, ?_⟩
    · exact (hKeep _ (blk_lt HT.out.df) (by omega) (by omega) (own_nc HT.out.row HT.out.df rfl)).trans HT.out.df
    · refine hKeep 0 (by have := blk_lt HT.out.df; omega) (by omega) (by omega) (fun e' => ?_)
      have := (HT.out.row.lt 0 e').1
      omega
    · intro k' cs' t' fz h1 h2
      exact hcells _ _ _ _ h1 (by rcases h2 with rfl | rfl | rfl <;> decide) (hb24 _ _ _ _ h1 (by rcases h2 with rfl | rfl | rfl <;> decide))
    · refine (hKeep tb htb2 (by omega) (by omega) (fun e' => ?_)).trans (Array.getElem?_eq_getElem htb2)
      have := HNe.out tb e'
      omega
  · rintro e W2 ⟨⟨v, rfl⟩, (⟨v', ht⟩ | ⟨_, _, hf⟩)⟩
    · refine ⟨none, _, out_rec HRec.out ht.lp, ?_⟩
      have hx3 : (W2.putObj (w1.heap.size + 1) (.loop (rec .exhausted none))).heap[r + 3]? = some (.cells #[v'] 24 (0, 0)) := (World.putObj_heap_other (by omega)).trans ht.box
      have hx0 : (W2.putObj (w1.heap.size + 1) (.loop (rec .exhausted none))).heap[r]? = some (.cells #[.slice none 0 0] 24 (0, 0)) := (World.putObj_heap_other (by omega)).trans ht.r0
      have hx1 : (W2.putObj (w1.heap.size + 1) (.loop (rec .exhausted none))).heap[r + 1]? = some (.cells #[.int .i64 0] 3 (0, 0)) := (World.putObj_heap_other (by omega)).trans ht.r1
      have hx2 : (W2.putObj (w1.heap.size + 1) (.loop (rec .exhausted none))).heap[r + 2]? = some (.cells #[.int .i64 0] 25 (0, 0)) := (World.putObj_heap_other (by omega)).trans ht.r2
      have hdf : (W2.putObj (w1.heap.size + 1) (.loop (rec .exhausted none))).heap[w1.heap.size]? = some (.deferred (some [])) := (World.putObj_heap_other (by omega)).trans ht.df
      have hrw : (W2.putObj (w1.heap.size + 1) (.loop (rec .exhausted none))).ownsRow (r + 4) 33 4 v' xs.length (tkCells xs) := ht.row.kept (grownBy_putObj' _ _ _) (.inr (own_nc ht.row ht.lp rfl))
      have hbw : Below r w (W2.putObj (w1.heap.size + 1) (.loop (rec .exhausted none))) := ht.below.grown (grownBy_putObj' _ _ _) (by have := blk_lt ht.r0; omega) (fun k' e' => by cases e'; omega)
      clear ht
      generalize W2.putObj (w1.heap.size + 1) (.loop (rec .exhausted none)) = W3 at *
      obtain ⟨Av, cv, rfl⟩ := own_slice hrw
      have d3 : W3.cell? ⟨r + 3, 0, none⟩ = some (.slice Av xs.length cv) := (blk_cell hx3 0).trans rfl
      have d0 : W3.cell? ⟨r, 0, none⟩ = some (.slice none 0 0) := (blk_cell hx0 0).trans rfl
      have d1 : W3.cell? ⟨r + 1, 0, none⟩ = some (.int .i64 0) := (blk_cell hx1 0).trans rfl
      have d2 : W3.cell? ⟨r + 2, 0, none⟩ = some (.int .i64 0) := (blk_cell hx2 0).trans rfl
      have g0 : W3.frozen? ⟨r, 0, none⟩ = false := blk_frozen hx0 0
      have g1 : W3.frozen? ⟨r + 1, 0, none⟩ = false := blk_frozen hx1 0
      have g2 : W3.frozen? ⟨r + 2, 0, none⟩ = false := blk_frozen hx2 0
      have HX0 := Aside0.mk hx0
      have HX1 := Aside0.mk hx1
      have HX2 := Aside0.mk hx2
      have HDF := Aside0.mk hdf
      have HRW := Aside0.mk hrw
      have HBW := Aside0.mk hbw
      clear hx0 hx1 hx2 hx3 hdf hrw hbw
      gi_wp2
      have hK : (((W3.setCell ⟨r, 0, none⟩ (.slice Av xs.length cv)).setCell ⟨r + 1, 0, none⟩ (.int .i64 0)).setCell ⟨r + 2, 0, none⟩ (.int .i64 0)).heap[w1.heap.size]? = some (.deferred (some [])) := blk_setOther (blk_setOther (blk_setOther HDF.out (by omega) 0 _) (by omega) 0 _) (by omega) 0 _
      have k0 : (((W3.setCell ⟨r, 0, none⟩ (.slice Av xs.length cv)).setCell ⟨r + 1, 0, none⟩ (.int .i64 0)).setCell ⟨r + 2, 0, none⟩ (.int .i64 0)).heap[r]? = some (.cells #[.slice Av xs.length cv] 24 (0, 0)) := blk_setOther (blk_setOther (blk_put (cs := #[.slice none 0 0]) HX0.out 0 _ rfl) (by omega) 0 _) (by omega) 0 _
      have k1 : (((W3.setCell ⟨r, 0, none⟩ (.slice Av xs.length cv)).setCell ⟨r + 1, 0, none⟩ (.int .i64 0)).setCell ⟨r + 2, 0, none⟩ (.int .i64 0)).heap[r + 1]? = some (.cells #[.int .i64 0] 3 (0, 0)) := blk_setOther (blk_put (cs := #[.int .i64 0]) (blk_setOther HX1.out (by omega) 0 _) 0 _ rfl) (by omega) 0 _
      have k2 : (((W3.setCell ⟨r, 0, none⟩ (.slice Av xs.length cv)).setCell ⟨r + 1, 0, none⟩ (.int .i64 0)).setCell ⟨r + 2, 0, none⟩ (.int .i64 0)).heap[r + 2]? = some (.cells #[.int .i64 0] 25 (0, 0)) := blk_put (cs := #[.int .i64 0]) (blk_setOther (blk_setOther HX2.out (by omega) 0 _) (by omega) 0 _) 0 _ rfl
      have hB4 : Below r w (((W3.setCell ⟨r, 0, none⟩ (.slice Av xs.length cv)).setCell ⟨r + 1, 0, none⟩ (.int .i64 0)).setCell ⟨r + 2, 0, none⟩ (.int .i64 0)) := ((HBW.out.setCell (p := ⟨r, 0, none⟩) (Nat.le_refl _) _).setCell (p := ⟨r + 1, 0, none⟩) (Nat.le_succ _) _).setCell (p := ⟨r + 2, 0, none⟩) (by simp) _
      have hr1 := HRW.out.kept (grown_set W3 r 0 (.slice Av xs.length cv)) (.inr (own_ne' HRW.out HX0.out (by decide)))
      have hr2 := hr1.kept (grown_set _ (r + 1) 0 (.int .i64 0)) (.inr (own_ne' hr1 (blk_setOther HX1.out (by omega) 0 _) (by decide)))
      have hr3 := hr2.kept (grown_set _ (r + 2) 0 (.int .i64 0)) (.inr (own_ne' hr2 (blk_setOther (blk_setOther HX2.out (by omega) 0 _) (by omega) 0 _) (by decide)))
      generalize ((W3.setCell ⟨r, 0, none⟩ (.slice Av xs.length cv)).setCell ⟨r + 1, 0, none⟩ (.int .i64 0)).setCell ⟨r + 2, 0, none⟩ (.int .i64 0) = W4 at *
      have hne : ∀ k, k < r + 4 → (W4.putObj w1.heap.size (.deferred none)).heap[k]? = W4.heap[k]? := fun k hk => World.putObj_heap_other (by omega)
      refine ⟨by simp, .inl ⟨_, _, rfl, run_takeDeferred hK, ?_⟩⟩
      refine ⟨_, results_ccc rfl _ _ rfl rfl rfl (run_loadVar_one (Try.isAgg24 _) ((blk_cell ((hne r (by omega)).trans k0) 0).trans rfl)) (run_loadVar_one (Try.isAgg3 _) ((blk_cell ((hne (r + 1) (by omega)).trans k1) 0).trans rfl)) (run_loadVar_one (Try.isAgg25 _) ((blk_cell ((hne (r + 2) (by omega)).trans k2) 0).trans rfl)), ?_⟩
      rw [HR.out]
      exact ⟨_, rfl, own_base (hr3.kept (grownBy_putObj' _ _ _) (.inr (own_nc hr3 hK rfl))) (by omega), hB4.grown (grownBy_putObj' _ _ _) (by have := blk_lt k0; omega) (fun k' e' => by cases e'; omega)⟩
    · exact hf.elim
end Go.Proofs.Ytglghpgpnlkpmaa.V
