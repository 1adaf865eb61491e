/- The functions of one seat as Lean functions, each with its contract: the call of the Go function returns what the Lean function answers. Written by a program of this session out of the translation; contracts made by hand are laid between. -/
import Derived.Test.YtfjfnpegpcdnaaaGBx0
import Derived.Test.YtfjfnpegpcdnaaaGBx1
namespace Go.Proofs.Ytfjfnpegpcdnaaa.GB
open Go.RowKit Go.Proofs.YtfjfnpegpcdnaaaW.PrintWords Go.Proofs.YtfjfnpegpcdnaaaW.PrintLast Go.Proofs.YtfjfnpegpcdnaaaW.PrintMore
attribute [local go_sem] max2_int min2_int max_two min_two max_three min_three max_four min_four   -- for this text's walks alone
set_option linter.unusedVariables false
set_option linter.unusedSimpArgs false

/-! ### block_cross: function 24 -/
open Go.Maps

/-- Numbers that a moment of a crossing may hold. -/
def small (cs : List Int) : Bool := cs.all (fun x => decide (-1000 ≤ x) && decide (x ≤ 1000))
/-- What block.cross does from a moment on: state, place, cells (six of them), steps, the moments that were. -/
def block_cross.l0 : Nat → Int → Int → List Int → Int → List (List Int) → Int → List (List S57) → Option (Int × Int × Int × Int × List Int)
  | 0, _, _, _, _, _, _, _ => none
  | k + 1, st, p, cs, n, seen, W, R =>
    if st = -1 then some (2, st, n, p, cs.take W.toNat)
    else if p < 0 then some (0, st, n, p, cs.take W.toNat)
    else if p = W then some (1, st, n, p, cs.take W.toNat)
    else if small (st :: p :: cs) = true ∧ seen.length < 1000000 then
      (if (st :: p :: cs) ∈ seen then some (3, 0, 0, 0, [])
       else if 0 ≤ st ∧ st < (R.length : Int) ∧ p < 6 ∧ 0 ≤ rd cs p ∧ rd cs p < ((rd_L2 R st).length : Int) then
         block_cross.l0 k (rd_T57 (rd_L2 R st) (rd cs p)).f2 (wrap64 (p + (rd_T57 (rd_L2 R st) (rd cs p)).f1)) (cs.set p.toNat (rd_T57 (rd_L2 R st) (rd cs p)).f0) (wrap64 (n + 1)) ((st :: p :: cs) :: seen) W R
       else none)
    else none
def block_cross.f (k : Nat) (a0_0 a0_1 : Int) (l0_2 : List (List S57)) (a1 a2 : Int) (l3 : List Int) : Option (Int × Int × Int × Int × List Int) :=
  if l3.length ≤ 6 then block_cross.l0 k a1 a2 (l3 ++ List.replicate (6 - l3.length) 0) 0 [] (l3.length : Int) l0_2 else none
theorem block_cross.mono_l : ∀ k, ∀ y0 y1 y2 y3 y4 y5 y6, LeO (block_cross.l0 k y0 y1 y2 y3 y4 y5 y6) (block_cross.l0 (k + 1) y0 y1 y2 y3 y4 y5 y6)
  | 0 => fun _ _ _ _ _ _ _ r h => by simp [block_cross.l0] at h
  | k + 1 => by
    have ih0 := block_cross.mono_l k
    intro y0 y1 y2 y3 y4 y5 y6
    unfold block_cross.l0
    repeat' first
      | (with_reducible exact ih0 _ _ _ _ _ _ _)
      | (with_reducible exact LeO.refl _)
      | (with_reducible exact LeO.none _)
      | (with_reducible refine LeO.ite ?_ ?_)
      | exact ih0 _ _ _ _ _ _ _
      | exact LeO.none _
      | refine LeO.ite ?_ ?_
theorem block_cross.mono : ∀ a0 a1 a2 a3 a4 a5 k, LeO (block_cross.f k a0 a1 a2 a3 a4 a5) (block_cross.f (k + 1) a0 a1 a2 a3 a4 a5) := by
  intro a0 a1 a2 a3 a4 a5 k
  unfold block_cross.f
  exact LeO.ite (block_cross.mono_l k _ _ _ _ _ _ _) (LeO.none _)

/-! ### the map's keys -/
theorem laidOut_ : laidOutB Try.prog = true := by kernel_rfl
theorem keyed : Keyed Try.prog 72 := Keyed.of_law (deep_law_gate laidOut_ (of_decide_eq_true (by kernel_rfl)) (of_decide_eq_true (by kernel_rfl)) (by kernel_rfl) (by kernel_rfl))
def mom (a b x0 x1 x2 x3 x4 x5 : Int) : Value := .agg #[.int .i64 a, .int .i64 b, .int .i64 x0, .int .i64 x1, .int .i64 x2, .int .i64 x3, .int .i64 x4, .int .i64 x5]
theorem small_wf {x : Int} (h : -1000 ≤ x ∧ x ≤ 1000) : (Lit.int .i64 x).wf = true := by
  simp [Lit.wf, IntKind.min, IntKind.max, IntKind.signed, IntKind.bits]; omega
theorem lits3 (z : Nat) {x : Int} (w : (Lit.int .i64 x).wf = true) : Try.prog.keyLits (z + 1) 3 [.int .i64 x] = some [.int .i64 x] := by
  unfold Program.keyLits
  rw [Try.underlying3]
  simp [w]
theorem lits70 (z : Nat) {x0 x1 x2 x3 x4 x5 : Int} (w0 : (Lit.int .i64 x0).wf = true) (w1 : (Lit.int .i64 x1).wf = true) (w2 : (Lit.int .i64 x2).wf = true) (w3 : (Lit.int .i64 x3).wf = true) (w4 : (Lit.int .i64 x4).wf = true) (w5 : (Lit.int .i64 x5).wf = true) :
    Try.prog.keyLits (z + 2) 70 [.int .i64 x0, .int .i64 x1, .int .i64 x2, .int .i64 x3, .int .i64 x4, .int .i64 x5] = some [.int .i64 x0, .int .i64 x1, .int .i64 x2, .int .i64 x3, .int .i64 x4, .int .i64 x5] := by
  unfold Program.keyLits
  rw [Try.underlying70]
  have hc3 : Try.prog.cellsOf 3 = 1 := by kernel_rfl
  have hc70 : Try.prog.cellsOf 70 = 6 := by kernel_rfl
  simp only [hc3, hc70, List.length_cons, List.length_nil, Nat.zero_add, Nat.reduceAdd, if_true, List.range, List.range.loop, List.mapM_cons, List.mapM_nil, Nat.mul_one, List.drop_zero, List.drop_succ_cons, List.take_succ_cons, List.take_zero, lits3 z w0, lits3 z w1, lits3 z w2, lits3 z w3, lits3 z w4, lits3 z w5, Option.bind_eq_bind, Option.bind_some, Option.pure_def, Option.map_some, List.flatten_cons, List.flatten_nil, List.append_nil, List.cons_append, List.nil_append]
theorem key_of (a b x0 x1 x2 x3 x4 x5 : Int) (h : small [a, b, x0, x1, x2, x3, x4, x5] = true) : ∃ kl, keyOf Try.prog 72 (mom a b x0 x1 x2 x3 x4 x5) = some kl := by
  simp only [small, List.all_cons, List.all_nil, Bool.and_eq_true, decide_eq_true_eq, Bool.and_true] at h
  obtain ⟨h0, h1, h2, h3, h4, h5, h6, h7⟩ := h
  have w0 := small_wf h0
  have w1 := small_wf h1
  have w2 := small_wf h2
  have w3 := small_wf h3
  have w4 := small_wf h4
  have w5 := small_wf h5
  have w6 := small_wf h6
  have w7 := small_wf h7
  have hk : Try.prog.keyType 72 = true := by kernel_rfl
  have hc : Try.prog.cellsOf 72 = 8 := by kernel_rfl
  have hc3 : Try.prog.cellsOf 3 = 1 := by kernel_rfl
  have hc70 : Try.prog.cellsOf 70 = 6 := by kernel_rfl
  obtain ⟨z, hz⟩ : ∃ z, Try.prog.types.size + 1 = z + 3 := ⟨Try.prog.types.size - 2, by have h2 := of_decide_eq_true (p := 2 ≤ Try.prog.types.size) (by kernel_rfl); omega⟩
  have l72 : ∃ ls, Try.prog.keyLits (z + 3) 72 [.int .i64 a, .int .i64 b, .int .i64 x0, .int .i64 x1, .int .i64 x2, .int .i64 x3, .int .i64 x4, .int .i64 x5] = some ls := by
    unfold Program.keyLits
    rw [Try.underlying72]
    simp only [hc, hc3, hc70, List.length_cons, List.length_nil, Nat.zero_add, Nat.reduceAdd, List.mapM_cons, List.mapM_nil, Nat.mul_one, List.drop_zero, List.drop_succ_cons, List.take_succ_cons, List.take_zero, lits3 (z + 1) w0, lits3 (z + 1) w1, lits70 z w2 w3 w4 w5 w6 w7, Option.bind_eq_bind, Option.bind_some, Option.pure_def, Option.map_some]
    exact ⟨_, if_pos ⟨trivial, by decide +kernel⟩⟩
  obtain ⟨ls, hls⟩ := l72
  refine ⟨.string (keyBytes ls), ?_⟩
  unfold keyOf
  rw [Try.underlying72, hk]
  have hf : (mom a b x0 x1 x2 x3 x4 x5).formed Try.prog 72 = true := by
    unfold Value.formed mom
    rw [Try.underlying72]
    simp [hc]
  rw [hf, hz]
  simp only [Bool.and_self, if_true, mom, Value.cells]
  rw [hls]
  rfl

/-! ### the moments that were -/
theorem zero4 (w : World) : (zeroValue 4).run Try.prog w = .ok (.bool false) w := by kernel_rfl
def Tells (D : DataW Unit) (seen : List (List Int)) : Prop := ∀ a b x0 x1 x2 x3 x4 x5 kl, keyOf Try.prog 72 (mom a b x0 x1 x2 x3 x4 x5) = some kl → D.atKey kl (.lit (.bool false)) = .lit (.bool (decide ([a, b, x0, x1, x2, x3, x4, x5] ∈ seen)))
def Seen (w : World) (g : Nat) (seen : List (List Int)) : Prop := ∃ D : DataW Unit, w.ownsMap Try.prog 72 (plainElem Try.prog 4) g seen.length D ∧ IsMap D ∧ Tells D seen
theorem Seen.made (w : World) : Seen (w.alloc (.map #[] 0)) w.heap.size [] :=
  ⟨.map [], World.ownsMap_made w _ _ _, isMap_empty, fun _ _ _ _ _ _ _ _ _ _ => by simp [DataW.atKey]⟩
theorem Seen.kept {w w' : World} {g : Nat} {row : Option Nat} {seen : List (List Int)} (h : Seen w g seen) (hg : w.grownBy w' row) (hne : some g ≠ row) : Seen w' g seen := by
  obtain ⟨D, h1, h2⟩ := h
  exact ⟨D, h1.kept hg hne, h2⟩
theorem Seen.block {w w' : World} {g : Nat} {seen : List (List Int)} (h : Seen w g seen) (hb : w'.heap[g]? = w.heap[g]?) : Seen w' g seen := by
  obtain ⟨D, ⟨es, clock, e, F, hs, hD⟩, h2⟩ := h
  exact ⟨D, ⟨es, clock, hb.trans e, F, hs, hD⟩, h2⟩
theorem Seen.lt {w : World} {g : Nat} {seen : List (List Int)} (h : Seen w g seen) : g < w.heap.size := by obtain ⟨D, h1, _⟩ := h; exact h1.lt
theorem Seen.lookup {w : World} {g : Nat} {seen : List (List Int)} (h : Seen w g seen) {a b x0 x1 x2 x3 x4 x5 : Int} (hs : small [a, b, x0, x1, x2, x3, x4, x5] = true) :
    (Instr.lookup 73 (.map (some g)) (mom a b x0 x1 x2 x3 x4 x5) false).run Try.prog w = .ok (.bool (decide ([a, b, x0, x1, x2, x3, x4, x5] ∈ seen))) w := by
  obtain ⟨D, h1, h2, h3⟩ := h
  obtain ⟨kl, hk⟩ := key_of a b x0 x1 x2 x3 x4 x5 hs
  obtain ⟨v, ps, hrun, hv⟩ := h1.lookup keyed Try.underlying73 (zero4 w) (plainElem_bool Try.underlying4 false) hk
  rw [h3 _ _ _ _ _ _ _ _ _ hk] at hv
  obtain rfl : v = .bool (decide ([a, b, x0, x1, x2, x3, x4, x5] ∈ seen)) := by
    unfold plainElem at hv
    rw [Try.underlying4] at hv
    cases v <;> simp at hv
    rw [hv.1]
  exact hrun
theorem Tells.put {D : DataW Unit} {seen : List (List Int)} (hD : IsMap D) (h : Tells D seen) {a b x0 x1 x2 x3 x4 x5 : Int} {kl : Lit} (hk : keyOf Try.prog 72 (mom a b x0 x1 x2 x3 x4 x5) = some kl) : Tells (D.put kl (.lit (.bool true))) ([a, b, x0, x1, x2, x3, x4, x5] :: seen) := by
  intro a' b' y0 y1 y2 y3 y4 y5 kl' hk'
  by_cases e : kl' = kl
  · subst e
    have := keyed.inj hk hk'
    simp only [mom, Value.agg.injEq, Array.mk.injEq, List.cons.injEq, Value.int.injEq, true_and, and_true] at this
    obtain ⟨rfl, rfl, rfl, rfl, rfl, rfl, rfl, rfl⟩ := this
    rw [atKey_put_same hD (keyed.key hk)]
    simp
  · rw [atKey_put_other e, h _ _ _ _ _ _ _ _ _ hk']
    have : [a', b', y0, y1, y2, y3, y4, y5] ≠ [a, b, x0, x1, x2, x3, x4, x5] := by
      intro e'
      simp only [List.cons.injEq, and_true] at e'
      obtain ⟨rfl, rfl, rfl, rfl, rfl, rfl, rfl, rfl⟩ := e'
      rw [hk] at hk'
      exact e (Option.some.inj hk').symm
    simp [this]
theorem wpList_seen (w : World) {ops : Array Oper} {rest : List Oper} {o : Oper} {a : Act} {Q : Exit → Act → World → Prop}
    (hg : o.guard = none) (m x v : Operand) (hop : o.op = Op.mapUpdate 73 m x v) (g : Nat) (seen : List (List Int)) (hm : a.eval m = .map (some g)) (hs : Seen w g seen) (hn : seen.length < 1000000)
    (y0 y1 x0 x1 x2 x3 x4 x5 : Int) (hx : a.eval x = mom y0 y1 x0 x1 x2 x3 x4 x5) (hv : a.eval v = .bool true) (hsm : small [y0, y1, x0, x1, x2, x3, x4, x5] = true)
    (hK : ∀ w', Seen w' g ([y0, y1, x0, x1, x2, x3, x4, x5] :: seen) → w.grownBy w' (some g) → wpList Try.prog ops Q rest (a.put o.dst undef) w') :
    wpList Try.prog ops Q (o :: rest) a w := by
  obtain ⟨D, h1, h2, h3⟩ := hs
  obtain ⟨kl, hk⟩ := key_of y0 y1 x0 x1 x2 x3 x4 x5 hsm
  refine wpList_mapUpdate_own w hg m x v 73 hop 72 4 keyed Try.underlying73 (plainElem Try.prog 4) g seen.length D hm h1 (by unfold maxLen; omega) _ _ kl hx hv hk _ [] (plainElem_bool Try.underlying4 true) ?_
  intro w' h1' hgw
  exact hK w' ⟨_, h1', h2.put _ _, h3.put h2 hk⟩ hgw

/-! ### what stands in memory at a round's head -/
structure Mid (w : World) (a0_0 a0_1 : Int) (A : Option Addr) (n c gm : Nat) (st p x0 x1 x2 x3 x4 x5 : Int) (seen : List (List Int)) (w' : World) : Prop where
  b0 : w'.heap[w.heap.size]? = some (.cells #[.int .i64 a0_0, .int .i64 a0_1, .slice A n c] 24 (0, 0))
  b1 : w'.heap[w.heap.size + 1]? = some (.cells #[.int .i64 0, .int .i64 0, .int .i64 0, .int .i64 0, .slice none 0 0] 29 (0, 0))
  b2 : w'.heap[w.heap.size + 1 + 1]? = some (.cells #[.int .i64 st, .int .i64 p, .int .i64 x0, .int .i64 x1, .int .i64 x2, .int .i64 x3, .int .i64 x4, .int .i64 x5] 72 (0, 0))
  seen : Seen w' gm seen
  bel : Below w.heap.size w w'
section
variable {w w1 w2 : World} {a0_0 a0_1 : Int} {A : Option Addr} {n c gm : Nat} {st p x0 x1 x2 x3 x4 x5 : Int} {seen : List (List Int)}
theorem Mid.below (h : Mid w a0_0 a0_1 A n c gm st p x0 x1 x2 x3 x4 x5 seen w1) (hb : Below w1.heap.size w1 w2) : Mid w a0_0 a0_1 A n c gm st p x0 x1 x2 x3 x4 x5 seen w2 :=
  ⟨blk_below h.b0 hb, blk_below h.b1 hb, blk_below h.b2 hb, h.seen.block (hb.block _ h.seen.lt), below_then h.bel h.bel.size hb⟩
theorem Mid.drew (h : Mid w a0_0 a0_1 A n c gm st p x0 x1 x2 x3 x4 x5 seen w1) : Mid w a0_0 a0_1 A n c gm st p x0 x1 x2 x3 x4 x5 seen w1.drew := h.below (below_drew (Below.refl _ _))
theorem Mid.far (h : Mid w a0_0 a0_1 A n c gm st p x0 x1 x2 x3 x4 x5 seen w1) {g : Nat} (hg : w.heap.size + 1 + 1 < g) (hm : g ≠ gm) (j : Nat) (u : Value) : Mid w a0_0 a0_1 A n c gm st p x0 x1 x2 x3 x4 x5 seen (w1.setCell ⟨g, j, none⟩ u) :=
  ⟨blk_far h.b0 (by simp only; omega) u, blk_far h.b1 (by simp only; omega) u, blk_far h.b2 (by simp only; omega) u, h.seen.block (Below.heap_setCell w1 ⟨g, j, none⟩ u gm (fun e => hm e.symm)), h.bel.setCell (by simp only; omega) u⟩
theorem Mid.stored (h : Mid w a0_0 a0_1 A n c gm st p x0 x1 x2 x3 x4 x5 seen w1) (hm : w.heap.size + 1 + 1 < gm) {seen' : List (List Int)} (hs : Seen w2 gm seen') (hg : w1.grownBy w2 (some gm)) : Mid w a0_0 a0_1 A n c gm st p x0 x1 x2 x3 x4 x5 seen' w2 :=
  ⟨blk_grown h.b0 hg (by simp; omega), blk_grown h.b1 hg (by simp; omega), blk_grown h.b2 hg (by simp; omega), hs, pw_below_grown h.bel (some gm) h.bel.size hg (by intro k hk; cases hk; omega)⟩
end
theorem add_off (g off j : Nat) : (⟨g, off, none⟩ : Addr).add j = ⟨g, off + j, none⟩ := by unfold Addr.add; split <;> simp_all
theorem C_in {w : World} {g t : Nat} {cs : Array Value} (h : w.heap[g]? = some (.cells cs t (0, 0))) (off : Nat) (xs : List Int) (hl : xs.length ≤ 9223372036854775807) (hx : ∀ j p, xs[j]? = some p → cs[off + j]? = some (.int .i64 p)) : Kd.C (Kd.int .i64) w (some ⟨g, off, none⟩) xs.length xs := by
  refine ⟨rfl, hl, fun _ => ⟨_, rfl, fun j p hp => ⟨[.int .i64 p], rfl, rfl, fun i u hu => ?_⟩⟩⟩
  cases i with
  | succ i => simp at hu
  | zero =>
    simp only [List.getElem?_cons_zero, Option.some.injEq] at hu
    subst hu
    rw [show (Kd.int .i64).sz = 1 from rfl, Nat.mul_one, Nat.add_zero, add_off]
    exact (blk_cell h _).trans (hx j p hp)
theorem take_in (W : Nat) (st p x0 x1 x2 x3 x4 x5 : Int) : ∀ j q, ([x0, x1, x2, x3, x4, x5].take W)[j]? = some q → (#[Value.int .i64 st, .int .i64 p, .int .i64 x0, .int .i64 x1, .int .i64 x2, .int .i64 x3, .int .i64 x4, .int .i64 x5] : Array Value)[2 + j]? = some (.int .i64 q) := by
  intro j q h
  rw [List.getElem?_take] at h
  split at h
  · match j, h with
    | 0, h => simp at h; subst h; rfl
    | 1, h => simp at h; subst h; rfl
    | 2, h => simp at h; subst h; rfl
    | 3, h => simp at h; subst h; rfl
    | 4, h => simp at h; subst h; rfl
    | 5, h => simp at h; subst h; rfl
    | j + 6, h => simp at h
  · cases h
theorem cell_at (st p : Int) {x0 x1 x2 x3 x4 x5 : Int} (h0 : 0 ≤ p) (h1 : p < 6) : (#[Value.int .i64 st, .int .i64 p, .int .i64 x0, .int .i64 x1, .int .i64 x2, .int .i64 x3, .int .i64 x4, .int .i64 x5] : Array Value)[2 + p.toNat]? = some (.int .i64 (rd [x0, x1, x2, x3, x4, x5] p)) := by
  obtain ⟨m, rfl⟩ := Int.eq_ofNat_of_zero_le h0
  match m, h1 with
  | 0, _ => rfl
  | 1, _ => rfl
  | 2, _ => rfl
  | 3, _ => rfl
  | 4, _ => rfl
  | 5, _ => rfl
  | m + 6, h => exact absurd h (by omega)
theorem set_six (x0 x1 x2 x3 x4 x5 v : Int) {p : Int} (h0 : 0 ≤ p) (h1 : p < 6) : ∃ y0 y1 y2 y3 y4 y5 : Int, [x0, x1, x2, x3, x4, x5].set p.toNat v = [y0, y1, y2, y3, y4, y5] ∧ ∀ a b, (#[a, b, Value.int .i64 x0, .int .i64 x1, .int .i64 x2, .int .i64 x3, .int .i64 x4, .int .i64 x5] : Array Value).setIfInBounds (2 + p.toNat) (.int .i64 v) = #[a, b, .int .i64 y0, .int .i64 y1, .int .i64 y2, .int .i64 y3, .int .i64 y4, .int .i64 y5] := by
  obtain ⟨m, rfl⟩ := Int.eq_ofNat_of_zero_le h0
  match m, h1 with
  | 0, _ => exact ⟨v, x1, x2, x3, x4, x5, rfl, fun _ _ => rfl⟩
  | 1, _ => exact ⟨x0, v, x2, x3, x4, x5, rfl, fun _ _ => rfl⟩
  | 2, _ => exact ⟨x0, x1, v, x3, x4, x5, rfl, fun _ _ => rfl⟩
  | 3, _ => exact ⟨x0, x1, x2, v, x4, x5, rfl, fun _ _ => rfl⟩
  | 4, _ => exact ⟨x0, x1, x2, x3, v, x5, rfl, fun _ _ => rfl⟩
  | 5, _ => exact ⟨x0, x1, x2, x3, x4, v, rfl, fun _ _ => rfl⟩
  | m + 6, h => exact absurd h (by omega)
theorem Mid.next {w w1 : World} {a0_0 a0_1 : Int} {A : Option Addr} {n c gm : Nat} {st p x0 x1 x2 x3 x4 x5 : Int} {seen : List (List Int)} (h : Mid w a0_0 a0_1 A n c gm st p x0 x1 x2 x3 x4 x5 seen w1) (hm : w.heap.size + 1 + 1 < gm) (h0 : 0 ≤ p) (h1 : p < 6) (v st' p' : Int) :
    ∃ y0 y1 y2 y3 y4 y5 : Int, [x0, x1, x2, x3, x4, x5].set p.toNat v = [y0, y1, y2, y3, y4, y5] ∧ Mid w a0_0 a0_1 A n c gm st' p' y0 y1 y2 y3 y4 y5 seen (((w1.setCell ⟨w.heap.size + 1 + 1, 2 + p.toNat, none⟩ (.int .i64 v)).setCell ⟨w.heap.size + 1 + 1, 1, none⟩ (.int .i64 p')).setCell ⟨w.heap.size + 1 + 1, 0, none⟩ (.int .i64 st')) := by
  obtain ⟨y0, y1, y2, y3, y4, y5, e, hs⟩ := set_six x0 x1 x2 x3 x4 x5 v h0 h1
  refine ⟨y0, y1, y2, y3, y4, y5, e, ?_, ?_, ?_, ?_, ?_⟩
  · exact blk_far (blk_far (blk_far h.b0 (by simp only; omega) _) (by simp only; omega) _) (by simp only; omega) _
  · exact blk_far (blk_far (blk_far h.b1 (by simp only; omega) _) (by simp only; omega) _) (by simp only; omega) _
  · have e1 := blk_set h.b2 (2 + p.toNat) (.int .i64 v)
    rw [hs] at e1
    exact blk_set (blk_set e1 1 (.int .i64 p')) 0 (.int .i64 st')
  · exact h.seen.block ((Below.heap_setCell _ ⟨w.heap.size + 1 + 1, 0, none⟩ _ gm (by simp only; omega)).trans ((Below.heap_setCell _ ⟨w.heap.size + 1 + 1, 1, none⟩ _ gm (by simp only; omega)).trans (Below.heap_setCell _ ⟨w.heap.size + 1 + 1, 2 + p.toNat, none⟩ _ gm (by simp only; omega))))
  · exact ((h.bel.setCell (by simp only; omega) _).setCell (by simp only; omega) _).setCell (by simp only; omega) _
theorem clone_eq (l : List Int) (h : l.length < 17592186044416) : slices_Clone_int_int.f l = some l := by
  simp [slices_Clone_int_int.f, h]
/-- The five cells of a new variable of the kind of the results. -/
theorem laid_go {w W : World} {a0_0 a0_1 : Int} {A : Option Addr} {n c gm : Nat} {st p x0 x1 x2 x3 x4 x5 : Int} {seen : List (List Int)} {go : Nat} {cs : Array Value} (h : Mid w a0_0 a0_1 A n c gm st p x0 x1 x2 x3 x4 x5 seen W) (hb : W.heap[go]? = some (.cells cs 29 (0, 0))) (h1 : w.heap.size + 1 + 1 < go) (h2 : go ≠ gm) {v : Value} {l : List Int} (hr : Kd.R (Kd.int .i64) 3 W w.heap.size (fun _ => True) v l) (i : Nat) (u : Value) :
    Mid w a0_0 a0_1 A n c gm st p x0 x1 x2 x3 x4 x5 seen (W.setCell ⟨go, i, none⟩ u) ∧ (W.setCell ⟨go, i, none⟩ u).heap[go]? = some (.cells (cs.setIfInBounds i u) 29 (0, 0)) ∧ Kd.R (Kd.int .i64) 3 (W.setCell ⟨go, i, none⟩ u) w.heap.size (fun _ => True) v l :=
  ⟨h.far h1 h2 i u, blk_set hb i u, Kd.R_set hr hb (by decide) i u⟩
/-- The result, laid into the result's variable. -/
theorem laid_out {w W : World} {a0_0 a0_1 : Int} {A : Option Addr} {n c gm : Nat} {st p x0 x1 x2 x3 x4 x5 : Int} {seen : List (List Int)} (h : Mid w a0_0 a0_1 A n c gm st p x0 x1 x2 x3 x4 x5 seen W) (v0 v1 v2 v3 v4 : Value) :
    ((((((W.setCell ⟨w.heap.size + 1, 0, none⟩ v0).setCell ⟨w.heap.size + 1, 1, none⟩ v1).setCell ⟨w.heap.size + 1, 2, none⟩ v2).setCell ⟨w.heap.size + 1, 3, none⟩ v3).setCell ⟨w.heap.size + 1, 4, none⟩ v4)).heap[w.heap.size + 1]? = some (.cells #[v0, v1, v2, v3, v4] 29 (0, 0)) ∧
    Below w.heap.size w (((((W.setCell ⟨w.heap.size + 1, 0, none⟩ v0).setCell ⟨w.heap.size + 1, 1, none⟩ v1).setCell ⟨w.heap.size + 1, 2, none⟩ v2).setCell ⟨w.heap.size + 1, 3, none⟩ v3).setCell ⟨w.heap.size + 1, 4, none⟩ v4) ∧
    ∀ (v : Value) (l : List Int), Kd.R (Kd.int .i64) 3 W w.heap.size (fun _ => True) v l → Kd.R (Kd.int .i64) 3 (((((W.setCell ⟨w.heap.size + 1, 0, none⟩ v0).setCell ⟨w.heap.size + 1, 1, none⟩ v1).setCell ⟨w.heap.size + 1, 2, none⟩ v2).setCell ⟨w.heap.size + 1, 3, none⟩ v3).setCell ⟨w.heap.size + 1, 4, none⟩ v4) w.heap.size (fun _ => True) v l := by
  have e0 := blk_set h.b1 0 v0
  have e1 := blk_set e0 1 v1
  have e2 := blk_set e1 2 v2
  have e3 := blk_set e2 3 v3
  have e4 := blk_set e3 4 v4
  refine ⟨e4, (((((h.bel.setCell (by simp only; omega) _).setCell (by simp only; omega) _).setCell (by simp only; omega) _).setCell (by simp only; omega) _).setCell (by simp only; omega) _), fun v l hr => ?_⟩
  exact Kd.R_set (Kd.R_set (Kd.R_set (Kd.R_set (Kd.R_set hr h.b1 (by decide) 0 v0) e0 (by decide) 1 v1) e1 (by decide) 2 v2) e2 (by decide) 3 v3) e3 (by decide) 4 v4

theorem C_int {w : World} {A : Option Addr} {n : Nat} {xs : List Int} (h : Kd.C (Kd.int .i64) w A n xs) (i : Int) (h0 : 0 ≤ i) (h1 : i < n) : ∃ ad, A = some ad ∧ w.cell? (ad.add i.toNat) = some (.int .i64 (rd xs i)) := by
  obtain ⟨ad, c, e, hl, hk, hc⟩ := Kd.C_get h 0 i h0 h1
  obtain rfl : c = [.int .i64 (rd xs i)] := hk
  refine ⟨ad, e, ?_⟩
  have := hc 0 _ rfl
  rwa [show (Kd.int .i64).sz = 1 from rfl, Nat.mul_one, Nat.add_zero] at this
theorem cells_six (l : List Int) (h : l.length ≤ 6) : ∃ x0 x1 x2 x3 x4 x5 : Int, l ++ List.replicate (6 - l.length) 0 = [x0, x1, x2, x3, x4, x5] ∧ ∀ a b, (splice [Value.int .i64 a, .int .i64 b, .int .i64 0, .int .i64 0, .int .i64 0, .int .i64 0, .int .i64 0, .int .i64 0] 2 (l.map (Value.int .i64))).toArray = #[.int .i64 a, .int .i64 b, .int .i64 x0, .int .i64 x1, .int .i64 x2, .int .i64 x3, .int .i64 x4, .int .i64 x5] := by
  match l, h with
  | [], _ => exact ⟨0, 0, 0, 0, 0, 0, rfl, fun _ _ => rfl⟩
  | [a], _ => exact ⟨a, 0, 0, 0, 0, 0, rfl, fun _ _ => rfl⟩
  | [a, b], _ => exact ⟨a, b, 0, 0, 0, 0, rfl, fun _ _ => rfl⟩
  | [a, b, c], _ => exact ⟨a, b, c, 0, 0, 0, rfl, fun _ _ => rfl⟩
  | [a, b, c, d], _ => exact ⟨a, b, c, d, 0, 0, rfl, fun _ _ => rfl⟩
  | [a, b, c, d, e], _ => exact ⟨a, b, c, d, e, 0, rfl, fun _ _ => rfl⟩
  | [a, b, c, d, e, f], _ => exact ⟨a, b, c, d, e, f, rfl, fun _ _ => rfl⟩
  | _ :: _ :: _ :: _ :: _ :: _ :: _ :: _, h => simp at h
set_option maxHeartbeats 8000000 in
set_option maxRecDepth 100000 in
theorem block_cross.calls (k : Nat) (a0_0 a0_1 : Int) (A0_2 : Option Addr) (c0_2 : Nat) (l0_2 : List (List S57)) (a1 a2 : Int) (A3 : Option Addr) (c3 : Nat) (l3 : List Int) (r1 r2 r3 r4 : Int) (r5 : List Int) (w : World)
    (hr0_2 : Kd.C (Kd.slice 57 k57) w A0_2 l0_2.length l0_2) (hc0_2 : l0_2.length ≤ c0_2) (hr3 : Kd.C (Kd.int .i64) w A3 l3.length l3) (hc3 : l3.length ≤ c3) (h : block_cross.f k a0_0 a0_1 l0_2 a1 a2 l3 = some (r1, r2, r3, r4, r5)) :
    Calls Try.prog 24 #[.agg #[.int .i64 a0_0, .int .i64 a0_1, .slice A0_2 l0_2.length c0_2], .int .i64 a1, .int .i64 a2, .slice A3 l3.length c3] w fun e w' => ∃ v4_ : Value, e = .returned (.agg #[.int .i64 r1, .int .i64 r2, .int .i64 r3, .int .i64 r4, v4_]) ∧ Kd.R (Kd.int .i64) 3 w' w.heap.size (fun _ => True) v4_ r5 ∧ Below w.heap.size w w' := by
  have hu24 := Try.underlying24
  have hu29 := Try.underlying29
  have hu57 := Try.underlying57
  have hu72 := Try.underlying72
  have HR0_2 := Aside0.mk hr0_2
  have HC0_2 := Aside0.mk hc0_2
  have HR3 := Aside0.mk hr3
  have HC3 := Aside0.mk hc3
  have H := Aside0.mk h
  clear hr0_2 hc0_2 hr3 hc3 h
  by_cases hW : l3.length ≤ 6
  · have h := H.out
    simp only [block_cross.f, if_pos hW] at h
    clear H
    have H := Aside0.mk h
    clear h
    have hgB : Aside0 ((((w.alloc (.cells #[.int .i64 a0_0, .int .i64 a0_1, .slice A0_2 l0_2.length c0_2] 24 (0, 0))).alloc (.cells #[.int .i64 0, .int .i64 0, .int .i64 0, .int .i64 0, .slice none 0 0] 29 (0, 0))).alloc (.cells #[.int .i64 a1, .int .i64 a2, .int .i64 0, .int .i64 0, .int .i64 0, .int .i64 0, .int .i64 0, .int .i64 0] 72 (0, 0))).heap[w.heap.size + 1 + 1]? = some (.cells [.int .i64 a1, .int .i64 a2, .int .i64 0, .int .i64 0, .int .i64 0, .int .i64 0, .int .i64 0, .int .i64 0].toArray 72 (0, 0))) := ⟨by
      have := blk_new ((w.alloc (.cells #[.int .i64 a0_0, .int .i64 a0_1, .slice A0_2 l0_2.length c0_2] 24 (0, 0))).alloc (.cells #[.int .i64 0, .int .i64 0, .int .i64 0, .int .i64 0, .slice none 0 0] 29 (0, 0))) (.cells #[.int .i64 a1, .int .i64 a2, .int .i64 0, .int .i64 0, .int .i64 0, .int .i64 0, .int .i64 0, .int .i64 0] 72 (0, 0))
      simpa using this⟩
    have hsrc : Aside0 (0 < (l3.map (Value.int .i64)).length → some (⟨w.heap.size + 1 + 1, 2, none⟩ : Addr) = some ⟨w.heap.size + 1 + 1, 2, none⟩ ∧ ∃ ad, A3 = some ad ∧ ∀ j v, (l3.map (Value.int .i64))[j]? = some v → (((w.alloc (.cells #[.int .i64 a0_0, .int .i64 a0_1, .slice A0_2 l0_2.length c0_2] 24 (0, 0))).alloc (.cells #[.int .i64 0, .int .i64 0, .int .i64 0, .int .i64 0, .slice none 0 0] 29 (0, 0))).alloc (.cells #[.int .i64 a1, .int .i64 a2, .int .i64 0, .int .i64 0, .int .i64 0, .int .i64 0, .int .i64 0, .int .i64 0] 72 (0, 0))).cell? (ad.add j) = some v) := ⟨by
      intro hp
      refine ⟨rfl, ?_⟩
      have hC := Kd.C_alloc (Kd.C_alloc (Kd.C_alloc HR3.out (.cells #[.int .i64 a0_0, .int .i64 a0_1, .slice A0_2 l0_2.length c0_2] 24 (0, 0))) (.cells #[.int .i64 0, .int .i64 0, .int .i64 0, .int .i64 0, .slice none 0 0] 29 (0, 0))) (.cells #[.int .i64 a1, .int .i64 a2, .int .i64 0, .int .i64 0, .int .i64 0, .int .i64 0, .int .i64 0, .int .i64 0] 72 (0, 0))
      obtain ⟨ad, e, _⟩ := C_int hC 0 (by omega) (by simpa using hp)
      refine ⟨ad, e, fun j v hv => ?_⟩
      obtain ⟨hj, hv⟩ := List.getElem?_eq_some_iff.1 hv
      simp only [List.length_map] at hj
      obtain ⟨ad', e', hc⟩ := C_int hC (j : Int) (by omega) (by omega)
      rw [e] at e'
      cases e'
      simp only [List.getElem_map] at hv
      rw [← hv]
      simpa [rd, List.getD_eq_getElem?_getD, hj] using hc⟩
    have hn3 : Aside0 ((l3.map (Value.int .i64)).length = Nat.min l3.length 6) := ⟨by simp only [List.length_map]; exact (Nat.min_eq_left hW).symm⟩
    have hf3 : Aside0 (2 + (l3.map (Value.int .i64)).length ≤ [Value.int .i64 a1, .int .i64 a2, .int .i64 0, .int .i64 0, .int .i64 0, .int .i64 0, .int .i64 0, .int .i64 0].length) := ⟨by simp; omega⟩
    have ho3 : Aside0 (∀ v ∈ l3.map (Value.int .i64), v.oneCell' = true) := ⟨by simp [Value.oneCell']⟩
    have hW' := Aside0.mk hW
    clear hW
    have hmm := @run_makeMap Try.prog
    go_enter Try.func24, Try.ntmps24
    go_wp2_with ((with_reducible refine gate_dst (N := 20) rfl ?_); refine wpList_copy_splice rfl (.tmp 18) (.tmp 19) 25 25 rfl 3 Try.underlying25 (by kernel_rfl) (some ⟨w.heap.size + 1 + 1, 2, none⟩) A3 6 6 l3.length c3 rfl rfl (w.heap.size + 1 + 1) 2 [.int .i64 a1, .int .i64 a2, .int .i64 0, .int .i64 0, .int .i64 0, .int .i64 0, .int .i64 0, .int .i64 0] 72 hgB.out (l3.map (.int .i64)) hn3.out hsrc.out hf3.out ho3.out (w.heap.size + 1 + 1) _ (Below.refl _ _) (Nat.le_refl _) ?_; intro w4 hg4 hb4; have HG4 := Aside0.mk hg4.out; have HB4 := Aside0.mk hb4; clear hg4 hb4)
    have hx := cells_six l3 hW'.out
    obtain ⟨x0, x1, x2, x3, x4, x5, hx, hsp⟩ := hx
    have HG5 : Aside0 (w4.heap[w.heap.size + 1 + 1]? = some (.cells #[.int .i64 a1, .int .i64 a2, .int .i64 x0, .int .i64 x1, .int .i64 x2, .int .i64 x3, .int .i64 x4, .int .i64 x5] 72 (0, 0))) := ⟨by rw [HG4.out, hsp]⟩
    have H' := H.out
    rw [hx] at H'
    clear H HG4 hsp hx hgB hsrc hn3 hf3 ho3
    have H := Aside0.mk H'
    clear H'
    have BK0 : Aside0 (w4.heap[w.heap.size]? = some (.cells #[.int .i64 a0_0, .int .i64 a0_1, .slice A0_2 l0_2.length c0_2] 24 (0, 0))) := ⟨(HB4.out.block _ (by omega)).trans ((blk_alloc (blk_alloc (blk_new w _) _) _))⟩
    have BK1 : Aside0 (w4.heap[w.heap.size + 1]? = some (.cells #[.int .i64 0, .int .i64 0, .int .i64 0, .int .i64 0, .slice none 0 0] 29 (0, 0))) := ⟨(HB4.out.block _ (by omega)).trans (blk_alloc (by have := blk_new (w.alloc (.cells #[.int .i64 a0_0, .int .i64 a0_1, .slice A0_2 l0_2.length c0_2] 24 (0, 0))) (.cells #[.int .i64 0, .int .i64 0, .int .i64 0, .int .i64 0, .slice none 0 0] 29 (0, 0)); simpa using this) _)⟩
    have HB : Aside0 (Below w.heap.size w w4) := ⟨((((Below.refl w.heap.size w).alloc (Nat.le_refl _) _).alloc (by simp) _).alloc (by simp; omega) _).trans (HB4.out.mono (by omega))⟩
    have HZ : Aside0 (w.heap.size + 1 + 1 < w4.heap.size) := ⟨blk_lt HG5.out⟩
    clear HB4
    obtain ⟨gm, hgm⟩ : ∃ gm, gm = w4.heap.size := ⟨_, rfl⟩
    have BK0' := Aside0.mk (blk_alloc BK0.out (.map #[] 0))
    have BK1' := Aside0.mk (blk_alloc BK1.out (.map #[] 0))
    have BK2' := Aside0.mk (blk_alloc HG5.out (.map #[] 0))
    have HB' := Aside0.mk (HB.out.alloc HB.out.size (.map #[] 0))
    have HS' := Aside0.mk (Seen.made w4)
    have HZ' : Aside0 (w.heap.size + 1 + 1 < gm) := ⟨by rw [hgm]; exact HZ.out⟩
    rw [← hgm] at HS' ⊢
    clear BK0 BK1 HG5 HB HZ hgm
    generalize w4.alloc (.map #[] 0) = w5 at BK0' BK1' BK2' HB' HS' ⊢
    have MD0 : Aside0 (Mid w a0_0 a0_1 A0_2 l0_2.length c0_2 gm a1 a2 x0 x1 x2 x3 x4 x5 [] w5) := ⟨⟨BK0'.out, BK1'.out, BK2'.out, HS'.out, HB'.out⟩⟩
    clear BK0' BK1' BK2' HS' HB'
    go_loopg [11] k (fun kq v11 w' => ∃ (st p x0 x1 x2 x3 x4 x5 n : Int) (seen : List (List Int)), v11 = .int .i64 n ∧ Aside0 (block_cross.l0 kq st p [x0, x1, x2, x3, x4, x5] n seen (l3.length : Int) l0_2 = some (r1, r2, r3, r4, r5)) ∧ Aside0 (kq ≤ k) ∧ Aside0 (Mid w a0_0 a0_1 A0_2 l0_2.length c0_2 gm st p x0 x1 x2 x3 x4 x5 seen w'))
    case atStart => exact ⟨a1, a2, x0, x1, x2, x3, x4, x5, 0, [], rfl, H, ⟨Nat.le_refl _⟩, MD0⟩
    case round =>
      clear H MD0
      clear x0 x1 x2 x3 x4 x5
      obtain ⟨st, p, x0, x1, x2, x3, x4, x5, n, seen, rfl, H, HK, MD⟩ := hrel
      cases gk with
      | zero => exact absurd H.out (by simp [block_cross.l0])
      | succ k1 =>
        have h := H.out
        simp only [block_cross.l0] at h
        clear H
        have H := Aside0.mk h
        clear h
        have s0 : wr.cell? ⟨w.heap.size + 1 + 1, 0, none⟩ = some (.int .i64 st) := (blk_cell MD.out.b2 0).trans rfl
        have s1 : wr.cell? ⟨w.heap.size + 1 + 1, 1, none⟩ = some (.int .i64 p) := (blk_cell MD.out.b2 1).trans rfl
        obtain ⟨tk, htk⟩ : ∃ tk, tk = [x0, x1, x2, x3, x4, x5].take l3.length := ⟨_, rfl⟩
        have h := H.out
        rw [Int.toNat_natCast, ← htk] at h
        have HTL : Aside0 (tk.length = l3.length) := ⟨by rw [htk]; simp; have := hW'.out; omega⟩
        have HT := Aside0.mk htk
        clear H htk
        have H := Aside0.mk h
        clear h
        have hw0 : 0 ≤ (l3.length : Int) := by omega
        have hw6 : (l3.length : Int) ≤ 6 := by have := hW'.out; omega
        go_wp2_with fail
        refine start_ (n := 13) (S := fun w' => w'.cell? ⟨w.heap.size + 1 + 1, 0, none⟩ = some (.int .i64 st) ∧ w'.cell? ⟨w.heap.size + 1 + 1, 1, none⟩ = some (.int .i64 p)) (ds := [12]) #[false, false, false, false, false, false, false, false, false, false, false, false, false] (by kernel_rfl) rfl rfl ⟨s0, s1⟩ (fun hHeld => ?_)
        have MD1 := Aside0.mk MD.out.drew
        clear MD
        have MD := MD1
        clear MD1
        generalize wr.drew = w6 at MD hHeld ⊢
        refine pure_ (i := 0) (N := some 24) (v := ?_) (a' := ?_) #[true, false, false, false, false, false, false, false, false, false, false, false, false] rfl rfl (by kernel_rfl) (fun _ _ _ h => h) (Or.inl ⟨by rfl, ?_⟩) ?_ ?_
        rotate_left
        · intro w'; go_simp; with_reducible rfl
        rotate_left
        · simp only [Act.put, List.setIfInBounds_toArray, List.set_cons_zero, List.set_cons_succ, i64_w, i32_w]; rfl
        refine pure_ (i := 2) (N := some 26) (v := ?_) (a' := ?_) #[true, false, true, false, false, false, false, false, false, false, false, false, false] rfl rfl (by kernel_rfl) (fun _ _ _ h => h) (Or.inl ⟨by rfl, ?_⟩) ?_ ?_
        rotate_left
        · intro w'; go_simp; with_reducible rfl
        rotate_left
        · simp only [Act.put, List.setIfInBounds_toArray, List.set_cons_zero, List.set_cons_succ, i64_w, i32_w]; rfl
        refine pure_ (i := 3) (N := some 27) (v := ?_) (a' := ?_) #[true, false, true, true, false, false, false, false, false, false, false, false, false] rfl rfl (by kernel_rfl) (fun _ _ _ h => h) (Or.inl ⟨by rfl, ?_⟩) ?_ ?_
        rotate_left
        · intro w'; go_simp; with_reducible rfl
        rotate_left
        · simp only [Act.put, List.setIfInBounds_toArray, List.set_cons_zero, List.set_cons_succ, i64_w, i32_w]; rfl
        refine pure_ (i := 5) (N := some 29) (v := ?_) (a' := ?_) #[true, false, true, true, false, true, false, false, false, false, false, false, false] rfl rfl (by kernel_rfl) (fun _ _ _ h => h) (Or.inl ⟨by rfl, ?_⟩) ?_ ?_
        rotate_left
        · intro w'; go_simp; with_reducible rfl
        rotate_left
        · simp only [Act.put, List.setIfInBounds_toArray, List.set_cons_zero, List.set_cons_succ, i64_w, i32_w]; rfl
        refine pure_ (i := 6) (N := some 30) (v := ?_) (a' := ?_) #[true, false, true, true, false, true, true, false, false, false, false, false, false] rfl rfl (by kernel_rfl) (fun _ _ _ h => h) (Or.inl ⟨by rfl, ?_⟩) ?_ ?_
        rotate_left
        · intro w'; go_simp; with_reducible rfl
        rotate_left
        · simp only [Act.put, List.setIfInBounds_toArray, List.set_cons_zero, List.set_cons_succ, i64_w, i32_w]; rfl
        refine pure_ (i := 7) (N := some 31) (v := ?_) (a' := ?_) #[true, false, true, true, false, true, true, true, false, false, false, false, false] rfl rfl (by kernel_rfl) (fun _ _ _ h => h) (Or.inl ⟨by rfl, ?_⟩) ?_ ?_
        rotate_left
        · intro w'; go_simp; with_reducible rfl
        rotate_left
        · simp only [Act.put, List.setIfInBounds_toArray, List.set_cons_zero, List.set_cons_succ, i64_w, i32_w]; rfl
        refine pure_ (i := 8) (N := some 32) (v := ?_) (a' := ?_) #[true, false, true, true, false, true, true, true, true, false, false, false, false] rfl rfl (by kernel_rfl) (fun _ _ _ h => h) (Or.inl ⟨by rfl, ?_⟩) ?_ ?_
        rotate_left
        · intro w'; go_simp; with_reducible rfl
        rotate_left
        · simp only [Act.put, List.setIfInBounds_toArray, List.set_cons_zero, List.set_cons_succ, i64_w, i32_w]; rfl
        refine take_ (i := 1) (N := some 25) (v := ?_) (a' := ?_) #[true, true, true, true, false, true, true, true, true, false, false, false, false] rfl rfl (by kernel_rfl) (fun _ _ _ h => h) (Or.inl ⟨by rfl, ?_⟩) hHeld ?_ ?_
        rotate_left
        · rintro w' ⟨s0, s1⟩; go_simp; with_reducible rfl
        rotate_left
        · simp only [Act.put, List.setIfInBounds_toArray, List.set_cons_zero, List.set_cons_succ, i64_w, i32_w]; rfl
        refine take_ (i := 4) (N := some 28) (v := ?_) (a' := ?_) #[true, true, true, true, true, true, true, true, true, false, false, false, false] rfl rfl (by kernel_rfl) (fun _ _ _ h => h) (Or.inl ⟨by rfl, ?_⟩) hHeld ?_ ?_
        rotate_left
        · rintro w' ⟨s0, s1⟩; go_simp; with_reducible rfl
        rotate_left
        · simp only [Act.put, List.setIfInBounds_toArray, List.set_cons_zero, List.set_cons_succ, i64_w, i32_w]; rfl
        refine join_ (σ := Value × Nat) 1 #[true, true, true, true, true, true, true, true, true, true, true, true, false] (fun s_ => [(33, s_.1), (34, .agg #[.int .i64 0, .int .i64 st, .int .i64 n, .int .i64 p, s_.1]), (12, .pointer (some ⟨s_.2, 0, none⟩))]) (fun s_ w' => Mid w a0_0 a0_1 A0_2 l0_2.length c0_2 gm st p x0 x1 x2 x3 x4 x5 seen w' ∧ Kd.R (Kd.int .i64) 3 w' w.heap.size (fun _ => True) s_.1 tk ∧ w'.heap[s_.2]? = some (.cells #[.int .i64 0, .int .i64 0, .int .i64 0, .int .i64 0, .slice none 0 0] 29 (0, 0)) ∧ w.heap.size + 1 + 1 < s_.2 ∧ s_.2 ≠ gm ∧ ∃ A c, s_.1 = .slice A tk.length c) ?_ ?_
        rotate_left
        ·
          intro hCont
          refine two_ (i := 9) (j := 11) (Ni := some 33) (Nj := some 12) #[true, true, true, true, true, true, true, true, true, true, false, false, false] #[true, true, true, true, true, true, true, true, true, false, false, true, false] rfl rfl rfl rfl (by kernel_rfl) (by decide) (by decide) (fun K hK => ?_) (fun K hK => ?_)
          ·
            refine goes_ Try.func33 (by kernel_rfl) rfl #[.slice (some ⟨w.heap.size + 1 + 1, 2, none⟩) l3.length 6] (by rfl) rfl rfl (by (try simp only [List.map_toArray, List.map_cons, List.map_nil]); first | done | rfl) ?_
            have hl := HTL.out
            have hC := C_in MD.out.b2 2 tk (by rw [hl]; have := hW'.out; omega) (by rw [HT.out]; exact take_in l3.length st p x0 x1 x2 x3 x4 x5)
            have hcl := slices_Clone_int_int.calls _ 6 _ tk _ hC (by have := HTL.out; have := hW'.out; omega) (clone_eq _ (by have := HTL.out; have := hW'.out; omega))
            rw [hl] at hcl
            refine hcl.mono ?_
            rintro e w7 ⟨v, rfl, ho, hb⟩
            clear hC hl hcl
            have HO := Aside0.mk ho
            have MD7 := Aside0.mk (MD.out.below hb)
            have hs := Kd.R_slice ho
            clear ho hb
            obtain ⟨A9, c9, rfl⟩ := hs
            have v := Value.slice A9 tk.length c9
            refine ⟨_, rfl, hK.out _ _ ⟨(blk_cell MD7.out.b2 0).trans rfl, (blk_cell MD7.out.b2 1).trans rfl⟩ (fun hHeld => ?_)⟩
            clear hK K v
            refine norm_ (a' := ?_) ?_ ?_
            rotate_left
            · show Act.put _ (some 33) _ = _; simp only [Act.put, List.setIfInBounds_toArray, List.set_cons_zero, List.set_cons_succ, i64_w, i32_w]; rfl
            refine pure_ (i := 10) (N := some 34) (v := ?_) (a' := ?_) #[true, true, true, true, true, true, true, true, true, true, true, false, false] rfl rfl (by kernel_rfl) (fun _ _ _ h => h) (Or.inl ⟨by rfl, ?_⟩) ?_ ?_
            rotate_left
            · intro w'; go_simp; with_reducible rfl
            rotate_left
            · simp only [Act.put, List.setIfInBounds_toArray, List.set_cons_zero, List.set_cons_succ, i64_w, i32_w]; rfl
            refine one_ (i := 11) (N := some 12) #[true, true, true, true, true, true, true, true, true, true, true, true, false] rfl rfl (by kernel_rfl) (by decide) (fun K hK => ?_)
            refine box_step ?hg (N := 12) ?hd (cs := #[.int .i64 0, .int .i64 0, .int .i64 0, .int .i64 0, .slice none 0 0]) (t := 29) ?hr ?_; (case hd => rfl); (case hg => rfl); (case hr => first | (go_simp; done) | (go_simp; rfl))
            intro go hg w8 hbox hb8
            have MD8 := Aside0.mk (MD7.out.below hb8)
            have BO := Aside0.mk hbox
            have GO : Aside0 (w.heap.size + 1 + 1 < go) := ⟨by rw [hg]; exact blk_lt MD7.out.b2⟩
            have GM : Aside0 (go ≠ gm) := ⟨by rw [hg]; exact Nat.ne_of_gt MD7.out.seen.lt⟩
            have HO8 := Aside0.mk (Kd.R_below (Kd.R_lower HO.out MD.out.bel.size) hb8)
            clear hg hbox hb8
            refine hK.out _ _ ⟨(blk_cell MD8.out.b2 0).trans rfl, (blk_cell MD8.out.b2 1).trans rfl⟩ (fun hHeld => ?_)
            clear hK K
            refine norm_ (a' := ?_) ?_ ?_
            rotate_left
            · show Act.put _ (some 12) _ = _; simp only [Act.put, List.setIfInBounds_toArray, List.set_cons_zero, List.set_cons_succ, i64_w, i32_w]; rfl
            exact norm_ (by simp only [putAll, Act.put, List.setIfInBounds_toArray, List.set_cons_zero, List.set_cons_succ] <;> rfl) (hCont (.slice A9 tk.length c9, go) _ ⟨MD8.out, HO8.out, BO.out, GO.out, GM.out, _, _, rfl⟩)
          ·
            refine box_step ?hg (N := 12) ?hd (cs := #[.int .i64 0, .int .i64 0, .int .i64 0, .int .i64 0, .slice none 0 0]) (t := 29) ?hr ?_; (case hd => rfl); (case hg => rfl); (case hr => first | (go_simp; done) | (go_simp; rfl))
            intro go hg w8 hbox hb8
            have MD8 := Aside0.mk (MD.out.below hb8)
            have BO := Aside0.mk hbox
            have GO : Aside0 (w.heap.size + 1 + 1 < go) := ⟨by rw [hg]; exact blk_lt MD.out.b2⟩
            have GM : Aside0 (go ≠ gm) := ⟨by rw [hg]; exact Nat.ne_of_gt MD.out.seen.lt⟩
            clear hg hbox hb8
            refine hK.out _ _ ⟨(blk_cell MD8.out.b2 0).trans rfl, (blk_cell MD8.out.b2 1).trans rfl⟩ (fun hHeld => ?_)
            clear hK K
            refine norm_ (a' := ?_) ?_ ?_
            rotate_left
            · show Act.put _ (some 12) _ = _; simp only [Act.put, List.setIfInBounds_toArray, List.set_cons_zero, List.set_cons_succ, i64_w, i32_w]; rfl
            refine one_ (i := 9) (N := some 33) #[true, true, true, true, true, true, true, true, true, true, false, true, false] rfl rfl (by kernel_rfl) (by decide) (fun K hK => ?_)
            have MD' := MD
            clear MD
            have MD := MD8
            refine goes_ Try.func33 (by kernel_rfl) rfl #[.slice (some ⟨w.heap.size + 1 + 1, 2, none⟩) l3.length 6] (by rfl) rfl rfl (by (try simp only [List.map_toArray, List.map_cons, List.map_nil]); first | done | rfl) ?_
            have hl := HTL.out
            have hC := C_in MD.out.b2 2 tk (by rw [hl]; have := hW'.out; omega) (by rw [HT.out]; exact take_in l3.length st p x0 x1 x2 x3 x4 x5)
            have hcl := slices_Clone_int_int.calls _ 6 _ tk _ hC (by have := HTL.out; have := hW'.out; omega) (clone_eq _ (by have := HTL.out; have := hW'.out; omega))
            rw [hl] at hcl
            refine hcl.mono ?_
            rintro e w7 ⟨v, rfl, ho, hb⟩
            clear hC hl hcl
            have HO := Aside0.mk ho
            have MD7 := Aside0.mk (MD.out.below hb)
            have hs := Kd.R_slice ho
            have BO' := Aside0.mk (blk_below BO.out hb)
            clear ho hb
            obtain ⟨A9, c9, rfl⟩ := hs
            refine ⟨_, rfl, hK.out _ _ ⟨(blk_cell MD7.out.b2 0).trans rfl, (blk_cell MD7.out.b2 1).trans rfl⟩ (fun hHeld => ?_)⟩
            clear hK K
            refine norm_ (a' := ?_) ?_ ?_
            rotate_left
            · show Act.put _ (some 33) _ = _; simp only [Act.put, List.setIfInBounds_toArray, List.set_cons_zero, List.set_cons_succ, i64_w, i32_w]; rfl
            refine pure_ (i := 10) (N := some 34) (v := ?_) (a' := ?_) #[true, true, true, true, true, true, true, true, true, true, true, true, false] rfl rfl (by kernel_rfl) (fun _ _ _ h => h) (Or.inl ⟨by rfl, ?_⟩) ?_ ?_
            rotate_left
            · intro w'; go_simp; with_reducible rfl
            rotate_left
            · simp only [Act.put, List.setIfInBounds_toArray, List.set_cons_zero, List.set_cons_succ, i64_w, i32_w]; rfl
            exact norm_ (by simp only [putAll, Act.put, List.setIfInBounds_toArray, List.set_cons_zero, List.set_cons_succ] <;> rfl) (hCont (.slice A9 tk.length c9, go) _ ⟨MD7.out, Kd.R_lower HO.out MD.out.bel.size, BO'.out, GO.out, GM.out, _, _, rfl⟩)
        rintro ⟨vx, go⟩ w8 ⟨md, ho, bo, go2, gom, A9, c9, hv⟩
        simp only at md ho bo go2 gom hv
        subst hv
        clear MD hHeld
        have MD := Aside0.mk md
        have HO := Aside0.mk ho
        have BO := Aside0.mk bo
        have GO := Aside0.mk go2
        have GM := Aside0.mk gom
        have hw8 := blk_lt bo
        clear md ho bo gom
        refine norm_ (a' := ?_) ?_ ?_
        rotate_left
        · simp only [putAll, Act.put, List.setIfInBounds_toArray, List.set_cons_zero, List.set_cons_succ]; rfl
        have f0 := blk_frozen BO.out 0
        have f1 := blk_frozen BO.out 1
        have f2 := blk_frozen BO.out 2
        have f3 := blk_frozen BO.out 3
        have f4 := blk_frozen BO.out 4
        have o0 : w8.cell? ⟨go, 0, none⟩ = some (.int .i64 0) := (blk_cell BO.out 0).trans rfl
        have o1 : w8.cell? ⟨go, 1, none⟩ = some (.int .i64 0) := (blk_cell BO.out 1).trans rfl
        have o2 : w8.cell? ⟨go, 2, none⟩ = some (.int .i64 0) := (blk_cell BO.out 2).trans rfl
        have o3 : w8.cell? ⟨go, 3, none⟩ = some (.int .i64 0) := (blk_cell BO.out 3).trans rfl
        have o4 : w8.cell? ⟨go, 4, none⟩ = some (.slice none 0 0) := (blk_cell BO.out 4).trans rfl
        refine last_ (i := 12) (N := none) #[true, true, true, true, true, true, true, true, true, true, true, true, true] rfl rfl (by kernel_rfl) (by decide) (fun K hK => ?_)
        refine skip_ (w1 := ?_) (by rfl) rfl ?_ ?_
        rotate_left
        · go_simp; rfl
        refine hK.out _ _ ?_
        clear hK K
        refine done_ (by kernel_rfl) ?_
        obtain ⟨m0, q0, z0⟩ := laid_go MD.out BO.out GO.out GM.out HO.out 0 (.int .i64 0)
        obtain ⟨m1, q1, z1⟩ := laid_go m0 q0 GO.out GM.out z0 1 (.int .i64 st)
        obtain ⟨m2, q2, z2⟩ := laid_go m1 q1 GO.out GM.out z1 2 (.int .i64 n)
        obtain ⟨m3, q3, z3⟩ := laid_go m2 q2 GO.out GM.out z2 3 (.int .i64 p)
        obtain ⟨m4, q4, z4⟩ := laid_go m3 q3 GO.out GM.out z3 4 (.slice A9 tk.length c9)
        have MDW := Aside0.mk m4
        have BOW : Aside0 ((((((w8.setCell ⟨go, 0, none⟩ (.int .i64 0)).setCell ⟨go, 1, none⟩ (.int .i64 st)).setCell ⟨go, 2, none⟩ (.int .i64 n)).setCell ⟨go, 3, none⟩ (.int .i64 p)).setCell ⟨go, 4, none⟩ (.slice A9 tk.length c9)).heap[go]? = some (.cells #[.int .i64 0, .int .i64 st, .int .i64 n, .int .i64 p, .slice A9 tk.length c9] 29 (0, 0))) := ⟨q4⟩
        have HOW := Aside0.mk z4
        clear m0 m1 m2 m3 m4 q0 q1 q2 q3 q4 z0 z1 z2 z3 z4 f0 f1 f2 f3 f4 o0 o1 o2 o3 o4 MD BO HO hw8 s0 s1
        generalize (((((w8.setCell ⟨go, 0, none⟩ (.int .i64 0)).setCell ⟨go, 1, none⟩ (.int .i64 st)).setCell ⟨go, 2, none⟩ (.int .i64 n)).setCell ⟨go, 3, none⟩ (.int .i64 p)).setCell ⟨go, 4, none⟩ (.slice A9 tk.length c9)) = W at MDW BOW HOW ⊢
        have s0 : W.cell? ⟨w.heap.size + 1 + 1, 0, none⟩ = some (.int .i64 st) := (blk_cell MDW.out.b2 0).trans rfl
        have s1 : W.cell? ⟨w.heap.size + 1 + 1, 1, none⟩ = some (.int .i64 p) := (blk_cell MDW.out.b2 1).trans rfl
        have h := H.out
        clear H
        by_cases c1 : st = -1
        · rw [if_pos c1] at h
          simp only [Option.some.injEq, Prod.mk.injEq] at h
          obtain ⟨rfl, rfl, rfl, rfl, rfl⟩ := h
          have d1 : (st == -1) = true := beq_iff_eq.mpr c1
          clear c1
          have g1 : w.heap.size + 1 ≠ go := by have := GO.out; omega
          have g2 : go ≠ w.heap.size + 1 := by have := GO.out; omega
          have o0 : W.cell? ⟨go, 0, none⟩ = some (.int .i64 0) := (blk_cell BOW.out 0).trans rfl
          have o1 : W.cell? ⟨go, 1, none⟩ = some (.int .i64 st) := (blk_cell BOW.out 1).trans rfl
          have o2 : W.cell? ⟨go, 2, none⟩ = some (.int .i64 n) := (blk_cell BOW.out 2).trans rfl
          have o3 : W.cell? ⟨go, 3, none⟩ = some (.int .i64 p) := (blk_cell BOW.out 3).trans rfl
          have o4 : W.cell? ⟨go, 4, none⟩ = some (.slice A9 tk.length c9) := (blk_cell BOW.out 4).trans rfl
          have e0 : W.cell? ⟨w.heap.size + 1, 0, none⟩ = some (.int .i64 0) := (blk_cell MDW.out.b1 0).trans rfl
          have e1 : W.cell? ⟨w.heap.size + 1, 1, none⟩ = some (.int .i64 0) := (blk_cell MDW.out.b1 1).trans rfl
          have e2 : W.cell? ⟨w.heap.size + 1, 2, none⟩ = some (.int .i64 0) := (blk_cell MDW.out.b1 2).trans rfl
          have e3 : W.cell? ⟨w.heap.size + 1, 3, none⟩ = some (.int .i64 0) := (blk_cell MDW.out.b1 3).trans rfl
          have e4 : W.cell? ⟨w.heap.size + 1, 4, none⟩ = some (.slice none 0 0) := (blk_cell MDW.out.b1 4).trans rfl
          have f0 := blk_frozen BOW.out 0
          have f1 := blk_frozen BOW.out 1
          have f2 := blk_frozen BOW.out 2
          have f3 := blk_frozen BOW.out 3
          have f4 := blk_frozen BOW.out 4
          have k0 := blk_frozen MDW.out.b1 0
          have k1 := blk_frozen MDW.out.b1 1
          have k2 := blk_frozen MDW.out.b1 2
          have k3 := blk_frozen MDW.out.b1 3
          have k4 := blk_frozen MDW.out.b1 4
          go_wp2
          obtain ⟨ma, qa, za⟩ := laid_go MDW.out BOW.out GO.out GM.out HOW.out 0 (.int .i64 2)
          obtain ⟨mb, qb, zb⟩ := laid_out ma (.int .i64 2) (.int .i64 st) (.int .i64 n) (.int .i64 p) (.slice A9 tk.length c9)
          refine bodyPost_ret (results_cell_row rfl _ _ (w.heap.size + 1) 29 #[.int .i64 2, .int .i64 st, .int .i64 n, .int .i64 p, .slice A9 tk.length c9] (0, 0) _ rfl mb Try.underlying29 rfl (by kernel_rfl)) rfl ?_
          exact ⟨_, rfl, zb _ _ za, qb⟩
        · rw [if_neg c1] at h
          have d1 : (st == -1) = false := beq_eq_false_iff_ne.mpr c1
          clear c1
          by_cases c2 : p < 0
          · rw [if_pos c2] at h
            simp only [Option.some.injEq, Prod.mk.injEq] at h
            obtain ⟨rfl, rfl, rfl, rfl, rfl⟩ := h
            have d2 : decide (p < 0) = true := decide_eq_true c2
            clear c2
            have g1 : w.heap.size + 1 ≠ go := by have := GO.out; omega
            have g2 : go ≠ w.heap.size + 1 := by have := GO.out; omega
            have o0 : W.cell? ⟨go, 0, none⟩ = some (.int .i64 0) := (blk_cell BOW.out 0).trans rfl
            have o1 : W.cell? ⟨go, 1, none⟩ = some (.int .i64 st) := (blk_cell BOW.out 1).trans rfl
            have o2 : W.cell? ⟨go, 2, none⟩ = some (.int .i64 n) := (blk_cell BOW.out 2).trans rfl
            have o3 : W.cell? ⟨go, 3, none⟩ = some (.int .i64 p) := (blk_cell BOW.out 3).trans rfl
            have o4 : W.cell? ⟨go, 4, none⟩ = some (.slice A9 tk.length c9) := (blk_cell BOW.out 4).trans rfl
            have e0 : W.cell? ⟨w.heap.size + 1, 0, none⟩ = some (.int .i64 0) := (blk_cell MDW.out.b1 0).trans rfl
            have e1 : W.cell? ⟨w.heap.size + 1, 1, none⟩ = some (.int .i64 0) := (blk_cell MDW.out.b1 1).trans rfl
            have e2 : W.cell? ⟨w.heap.size + 1, 2, none⟩ = some (.int .i64 0) := (blk_cell MDW.out.b1 2).trans rfl
            have e3 : W.cell? ⟨w.heap.size + 1, 3, none⟩ = some (.int .i64 0) := (blk_cell MDW.out.b1 3).trans rfl
            have e4 : W.cell? ⟨w.heap.size + 1, 4, none⟩ = some (.slice none 0 0) := (blk_cell MDW.out.b1 4).trans rfl
            have f0 := blk_frozen BOW.out 0
            have f1 := blk_frozen BOW.out 1
            have f2 := blk_frozen BOW.out 2
            have f3 := blk_frozen BOW.out 3
            have f4 := blk_frozen BOW.out 4
            have k0 := blk_frozen MDW.out.b1 0
            have k1 := blk_frozen MDW.out.b1 1
            have k2 := blk_frozen MDW.out.b1 2
            have k3 := blk_frozen MDW.out.b1 3
            have k4 := blk_frozen MDW.out.b1 4
            go_wp2
            obtain ⟨ma, qa, za⟩ := laid_go MDW.out BOW.out GO.out GM.out HOW.out 0 (.int .i64 0)
            obtain ⟨mb, qb, zb⟩ := laid_out ma (.int .i64 0) (.int .i64 st) (.int .i64 n) (.int .i64 p) (.slice A9 tk.length c9)
            refine bodyPost_ret (results_cell_row rfl _ _ (w.heap.size + 1) 29 #[.int .i64 0, .int .i64 st, .int .i64 n, .int .i64 p, .slice A9 tk.length c9] (0, 0) _ rfl mb Try.underlying29 rfl (by kernel_rfl)) rfl ?_
            exact ⟨_, rfl, zb _ _ za, qb⟩
          · rw [if_neg c2] at h
            have d2 : decide (p < 0) = false := decide_eq_false c2
            by_cases c3 : p = (l3.length : Int)
            · rw [if_pos c3] at h
              simp only [Option.some.injEq, Prod.mk.injEq] at h
              obtain ⟨rfl, rfl, rfl, rfl, rfl⟩ := h
              have d3 : (p == (l3.length : Int)) = true := beq_iff_eq.mpr c3
              clear c2 c3
              have g1 : w.heap.size + 1 ≠ go := by have := GO.out; omega
              have g2 : go ≠ w.heap.size + 1 := by have := GO.out; omega
              have o0 : W.cell? ⟨go, 0, none⟩ = some (.int .i64 0) := (blk_cell BOW.out 0).trans rfl
              have o1 : W.cell? ⟨go, 1, none⟩ = some (.int .i64 st) := (blk_cell BOW.out 1).trans rfl
              have o2 : W.cell? ⟨go, 2, none⟩ = some (.int .i64 n) := (blk_cell BOW.out 2).trans rfl
              have o3 : W.cell? ⟨go, 3, none⟩ = some (.int .i64 p) := (blk_cell BOW.out 3).trans rfl
              have o4 : W.cell? ⟨go, 4, none⟩ = some (.slice A9 tk.length c9) := (blk_cell BOW.out 4).trans rfl
              have e0 : W.cell? ⟨w.heap.size + 1, 0, none⟩ = some (.int .i64 0) := (blk_cell MDW.out.b1 0).trans rfl
              have e1 : W.cell? ⟨w.heap.size + 1, 1, none⟩ = some (.int .i64 0) := (blk_cell MDW.out.b1 1).trans rfl
              have e2 : W.cell? ⟨w.heap.size + 1, 2, none⟩ = some (.int .i64 0) := (blk_cell MDW.out.b1 2).trans rfl
              have e3 : W.cell? ⟨w.heap.size + 1, 3, none⟩ = some (.int .i64 0) := (blk_cell MDW.out.b1 3).trans rfl
              have e4 : W.cell? ⟨w.heap.size + 1, 4, none⟩ = some (.slice none 0 0) := (blk_cell MDW.out.b1 4).trans rfl
              have f0 := blk_frozen BOW.out 0
              have f1 := blk_frozen BOW.out 1
              have f2 := blk_frozen BOW.out 2
              have f3 := blk_frozen BOW.out 3
              have f4 := blk_frozen BOW.out 4
              have k0 := blk_frozen MDW.out.b1 0
              have k1 := blk_frozen MDW.out.b1 1
              have k2 := blk_frozen MDW.out.b1 2
              have k3 := blk_frozen MDW.out.b1 3
              have k4 := blk_frozen MDW.out.b1 4
              go_wp2
              obtain ⟨ma, qa, za⟩ := laid_go MDW.out BOW.out GO.out GM.out HOW.out 0 (.int .i64 1)
              obtain ⟨mb, qb, zb⟩ := laid_out ma (.int .i64 1) (.int .i64 st) (.int .i64 n) (.int .i64 p) (.slice A9 tk.length c9)
              refine bodyPost_ret (results_cell_row rfl _ _ (w.heap.size + 1) 29 #[.int .i64 1, .int .i64 st, .int .i64 n, .int .i64 p, .slice A9 tk.length c9] (0, 0) _ rfl mb Try.underlying29 rfl (by kernel_rfl)) rfl ?_
              exact ⟨_, rfl, zb _ _ za, qb⟩
            · rw [if_neg c3] at h
              have d3 : (p == (l3.length : Int)) = false := beq_eq_false_iff_ne.mpr c3
              clear c3
              by_cases c4 : small [st, p, x0, x1, x2, x3, x4, x5] = true ∧ seen.length < 1000000
              · rw [if_pos c4] at h
                obtain ⟨c4, c4l⟩ := c4
                have LS := Aside0.mk c4l
                have SM := Aside0.mk c4
                clear c4 c4l
                have s2 : W.cell? ⟨w.heap.size + 1 + 1, 2, none⟩ = some (.int .i64 x0) := (blk_cell MDW.out.b2 2).trans rfl
                have s3 : W.cell? ⟨w.heap.size + 1 + 1, 3, none⟩ = some (.int .i64 x1) := (blk_cell MDW.out.b2 3).trans rfl
                have s4 : W.cell? ⟨w.heap.size + 1 + 1, 4, none⟩ = some (.int .i64 x2) := (blk_cell MDW.out.b2 4).trans rfl
                have s5 : W.cell? ⟨w.heap.size + 1 + 1, 5, none⟩ = some (.int .i64 x3) := (blk_cell MDW.out.b2 5).trans rfl
                have s6 : W.cell? ⟨w.heap.size + 1 + 1, 6, none⟩ = some (.int .i64 x4) := (blk_cell MDW.out.b2 6).trans rfl
                have s7 : W.cell? ⟨w.heap.size + 1 + 1, 7, none⟩ = some (.int .i64 x5) := (blk_cell MDW.out.b2 7).trans rfl
                by_cases c5 : [st, p, x0, x1, x2, x3, x4, x5] ∈ seen
                · rw [if_pos c5] at h
                  simp only [Option.some.injEq, Prod.mk.injEq] at h
                  obtain ⟨rfl, rfl, rfl, rfl, rfl⟩ := h
                  have hrun := MDW.out.seen.lookup SM.out
                  rw [decide_eq_true c5] at hrun
                  unfold mom at hrun
                  clear c5
                  have e0 : W.cell? ⟨w.heap.size + 1, 0, none⟩ = some (.int .i64 0) := (blk_cell MDW.out.b1 0).trans rfl
                  have e1 : W.cell? ⟨w.heap.size + 1, 1, none⟩ = some (.int .i64 0) := (blk_cell MDW.out.b1 1).trans rfl
                  have e2 : W.cell? ⟨w.heap.size + 1, 2, none⟩ = some (.int .i64 0) := (blk_cell MDW.out.b1 2).trans rfl
                  have e3 : W.cell? ⟨w.heap.size + 1, 3, none⟩ = some (.int .i64 0) := (blk_cell MDW.out.b1 3).trans rfl
                  have e4 : W.cell? ⟨w.heap.size + 1, 4, none⟩ = some (.slice none 0 0) := (blk_cell MDW.out.b1 4).trans rfl
                  have k0 := blk_frozen MDW.out.b1 0
                  have k1_ := blk_frozen MDW.out.b1 1
                  have k2 := blk_frozen MDW.out.b1 2
                  have k3 := blk_frozen MDW.out.b1 3
                  have k4 := blk_frozen MDW.out.b1 4
                  go_wp2
                  obtain ⟨mb, qb, zb⟩ := laid_out MDW.out (.int .i64 3) (.int .i64 0) (.int .i64 0) (.int .i64 0) (.slice none 0 0)
                  refine bodyPost_ret (results_cell_row rfl _ _ (w.heap.size + 1) 29 #[.int .i64 3, .int .i64 0, .int .i64 0, .int .i64 0, .slice none 0 0] (0, 0) _ rfl mb Try.underlying29 rfl (by kernel_rfl)) rfl ?_
                  exact ⟨_, rfl, Kd.R_nil _ _ _ _ _, qb⟩
                · rw [if_neg c5] at h
                  have hrun := MDW.out.seen.lookup SM.out
                  rw [decide_eq_false c5] at hrun
                  unfold mom at hrun
                  clear c5
                  by_cases c6 : 0 ≤ st ∧ st < (l0_2.length : Int) ∧ p < 6 ∧ 0 ≤ rd [x0, x1, x2, x3, x4, x5] p ∧ rd [x0, x1, x2, x3, x4, x5] p < ((rd_L2 l0_2 st).length : Int)
                  · rw [if_pos c6] at h
                    obtain ⟨y0, y1, y2, y3, y4⟩ := c6
                    obtain ⟨xv, hxv0⟩ : ∃ xv, xv = rd [x0, x1, x2, x3, x4, x5] p := ⟨_, rfl⟩
                    rw [← hxv0] at y3 y4 h
                    have H := Aside0.mk h
                    clear h
                    have hp0 : 0 ≤ p := by omega
                    have hxv : Aside0 ((#[Value.int .i64 st, .int .i64 p, .int .i64 x0, .int .i64 x1, .int .i64 x2, .int .i64 x3, .int .i64 x4, .int .i64 x5] : Array Value)[2 + p.toNat]? = some (.int .i64 xv)) := ⟨by rw [hxv0]; exact cell_at st p hp0 y2⟩
                    clear hxv0
                    go_wp2_with (at_mapUpdate; refine wpList_seen _ rfl (.tmp 60) (.tmp 61) (.const (.bool true)) rfl gm seen rfl MDW.out.seen LS.out st p x0 x1 x2 x3 x4 x5 rfl rfl SM.out ?_; intro w9 hs9 hg9; have HS9 := Aside0.mk hs9; have HG9 := Aside0.mk hg9; clear hs9 hg9)
                    have MD9 := Aside0.mk (MDW.out.stored HZ'.out HS9.out HG9.out)
                    clear HS9 HG9 hrun s0 s1 s2 s3 s4 s5 s6 s7 MDW BOW HOW
                    obtain ⟨adL, AR, cR, eL, hxL, hlR, hCR⟩ := at_L2 HR0_2.out st y0 y1
                    cases eL
                    obtain ⟨adT, eT, hx0, hx1, hx2⟩ := at_T57 hCR xv y3 y4
                    cases eT
                    have hxL := Aside0.mk hxL
                    have hx0 := Aside0.mk hx0
                    have hx1 := Aside0.mk hx1
                    have hx2 := Aside0.mk hx2
                    clear hlR hCR
                    refine start_ (n := 15) (S := fun w' => Mid w a0_0 a0_1 (some adL) l0_2.length c0_2 gm st p x0 x1 x2 x3 x4 x5 ([st, p, x0, x1, x2, x3, x4, x5] :: seen) w') (ds := [14]) #[false, false, false, false, false, false, false, false, false, false, false, false, false, false, false] (by kernel_rfl) rfl rfl MD9.out.drew (fun hHeld => ?_)
                    generalize w9.drew = wa at hHeld ⊢
                    refine pure_ (i := 0) (N := some 62) (v := ?_) (a' := ?_) #[true, false, false, false, false, false, false, false, false, false, false, false, false, false, false] rfl rfl (by kernel_rfl) (fun _ _ _ h => h) (Or.inl ⟨by rfl, ?_⟩) ?_ ?_
                    rotate_left
                    · intro w'; go_simp; with_reducible rfl
                    rotate_left
                    · simp only [Act.put, List.setIfInBounds_toArray, List.set_cons_zero, List.set_cons_succ, i64_w, i32_w]; rfl
                    refine pure_ (i := 2) (N := some 64) (v := ?_) (a' := ?_) #[true, false, true, false, false, false, false, false, false, false, false, false, false, false, false] rfl rfl (by kernel_rfl) (fun _ _ _ h => h) (Or.inl ⟨by rfl, ?_⟩) ?_ ?_
                    rotate_left
                    · intro w'; go_simp; with_reducible rfl
                    rotate_left
                    · simp only [Act.put, List.setIfInBounds_toArray, List.set_cons_zero, List.set_cons_succ, i64_w, i32_w]; rfl
                    refine pure_ (i := 6) (N := some 68) (v := ?_) (a' := ?_) #[true, false, true, false, false, false, true, false, false, false, false, false, false, false, false] rfl rfl (by kernel_rfl) (fun _ _ _ h => h) (Or.inl ⟨by rfl, ?_⟩) ?_ ?_
                    rotate_left
                    · intro w'; go_simp; with_reducible rfl
                    rotate_left
                    · simp only [Act.put, List.setIfInBounds_toArray, List.set_cons_zero, List.set_cons_succ, i64_w, i32_w]; rfl
                    refine pure_ (i := 8) (N := some 70) (v := ?_) (a' := ?_) #[true, false, true, false, false, false, true, false, true, false, false, false, false, false, false] rfl rfl (by kernel_rfl) (fun _ _ _ h => h) (Or.inl ⟨by rfl, ?_⟩) ?_ ?_
                    rotate_left
                    · intro w'; go_simp; with_reducible rfl
                    rotate_left
                    · simp only [Act.put, List.setIfInBounds_toArray, List.set_cons_zero, List.set_cons_succ, i64_w, i32_w]; rfl
                    refine take_ (i := 1) (N := some 63) (v := ?_) (a' := ?_) #[true, true, true, false, false, false, true, false, true, false, false, false, false, false, false] rfl rfl (by kernel_rfl) (fun _ _ _ h => h) (Or.inl ⟨by rfl, ?_⟩) hHeld ?_ ?_
                    rotate_left
                    · rintro w' hs; have b1 : w'.cell? ⟨w.heap.size, 2, none⟩ = some (.slice (some adL) l0_2.length c0_2) := (blk_cell hs.b0 2).trans rfl; clear hs; go_simp; with_reducible rfl
                    rotate_left
                    · simp only [Act.put, List.setIfInBounds_toArray, List.set_cons_zero, List.set_cons_succ, i64_w, i32_w]; rfl
                    refine take_ (i := 3) (N := some 65) (v := ?_) (a' := ?_) #[true, true, true, true, false, false, true, false, true, false, false, false, false, false, false] rfl rfl (by kernel_rfl) (fun _ _ _ h => h) (Or.inl ⟨by rfl, ?_⟩) hHeld ?_ ?_
                    rotate_left
                    · rintro w' hs; have b1 : w'.cell? ⟨w.heap.size + 1 + 1, 0, none⟩ = some (.int .i64 st) := (blk_cell hs.b2 0).trans rfl; clear hs; go_simp; with_reducible rfl
                    rotate_left
                    · simp only [Act.put, List.setIfInBounds_toArray, List.set_cons_zero, List.set_cons_succ, i64_w, i32_w]; rfl
                    refine take_ (i := 7) (N := some 69) (v := ?_) (a' := ?_) #[true, true, true, true, false, false, true, true, true, false, false, false, false, false, false] rfl rfl (by kernel_rfl) (fun _ _ _ h => h) (Or.inl ⟨by rfl, ?_⟩) hHeld ?_ ?_
                    rotate_left
                    · rintro w' hs; have b1 : w'.cell? ⟨w.heap.size + 1 + 1, 1, none⟩ = some (.int .i64 p) := (blk_cell hs.b2 1).trans rfl; clear hs; go_simp; with_reducible rfl
                    rotate_left
                    · simp only [Act.put, List.setIfInBounds_toArray, List.set_cons_zero, List.set_cons_succ, i64_w, i32_w]; rfl
                    refine pure_ (i := 4) (N := some 66) (v := ?_) (a' := ?_) #[true, true, true, true, true, false, true, true, true, false, false, false, false, false, false] rfl rfl (by kernel_rfl) (fun _ _ _ h => h) (Or.inl ⟨by rfl, ?_⟩) ?_ ?_
                    rotate_left
                    · intro w'; go_simp; with_reducible rfl
                    rotate_left
                    · simp only [Act.put, List.setIfInBounds_toArray, List.set_cons_zero, List.set_cons_succ, i64_w, i32_w]; rfl
                    refine take_ (i := 5) (N := some 67) (v := ?_) (a' := ?_) #[true, true, true, true, true, true, true, true, true, false, false, false, false, false, false] rfl rfl (by kernel_rfl) (fun _ _ _ h => h) (Or.inl ⟨by rfl, ?_⟩) hHeld ?_ ?_
                    rotate_left
                    · rintro w' hs; have b1 : w'.cell? (adL.add st.toNat) = some (.slice (some adT) (rd_L2 l0_2 st).length cR) := (hs.bel.cell (World.block_lt_of_cell? w _ hxL.out)).trans hxL.out; clear hs; go_simp; with_reducible rfl
                    rotate_left
                    · simp only [Act.put, List.setIfInBounds_toArray, List.set_cons_zero, List.set_cons_succ, i64_w, i32_w]; rfl
                    refine pure_ (i := 9) (N := some 71) (v := ?_) (a' := ?_) #[true, true, true, true, true, true, true, true, true, true, false, false, false, false, false] rfl rfl (by kernel_rfl) (fun _ _ _ h => h) (Or.inl ⟨by rfl, ?_⟩) ?_ ?_
                    rotate_left
                    · intro w'; go_simp; with_reducible rfl
                    rotate_left
                    · simp only [Act.put, List.setIfInBounds_toArray, List.set_cons_zero, List.set_cons_succ, i64_w, i32_w]; rfl
                    refine take_ (i := 10) (N := some 72) (v := ?_) (a' := ?_) #[true, true, true, true, true, true, true, true, true, true, true, false, false, false, false] rfl rfl (by kernel_rfl) (fun _ _ _ h => h) (Or.inl ⟨by rfl, ?_⟩) hHeld ?_ ?_
                    rotate_left
                    · rintro w' hs; have b1 : w'.cell? ⟨w.heap.size + 1 + 1, 2 + p.toNat, none⟩ = some (.int .i64 xv) := (blk_cell hs.b2 _).trans hxv.out; clear hs; go_simp; with_reducible rfl
                    rotate_left
                    · simp only [Act.put, List.setIfInBounds_toArray, List.set_cons_zero, List.set_cons_succ, i64_w, i32_w]; rfl
                    refine pure_ (i := 11) (N := some 73) (v := ?_) (a' := ?_) #[true, true, true, true, true, true, true, true, true, true, true, true, false, false, false] rfl rfl (by kernel_rfl) (fun _ _ _ h => h) (Or.inl ⟨by rfl, ?_⟩) ?_ ?_
                    rotate_left
                    · intro w'; go_simp; with_reducible rfl
                    rotate_left
                    · simp only [Act.put, List.setIfInBounds_toArray, List.set_cons_zero, List.set_cons_succ, i64_w, i32_w]; rfl
                    refine take_ (i := 12) (N := some 74) (v := ?_) (a' := ?_) #[true, true, true, true, true, true, true, true, true, true, true, true, true, false, false] rfl rfl (by kernel_rfl) (fun _ _ _ h => h) (Or.inl ⟨by rfl, ?_⟩) hHeld ?_ ?_
                    rotate_left
                    · rintro w' hs; have b0 := (hs.bel.cell (World.block_lt_of_cell? w _ hx0.out)).trans hx0.out; have b1 := (hs.bel.cell (World.block_lt_of_cell? w _ hx1.out)).trans hx1.out; have b2 := (hs.bel.cell (World.block_lt_of_cell? w _ hx2.out)).trans hx2.out; clear hs; go_simp; with_reducible rfl
                    rotate_left
                    · simp only [Act.put, List.setIfInBounds_toArray, List.set_cons_zero, List.set_cons_succ, i64_w, i32_w]; rfl
                    refine one_ (i := 13) (N := some 13) #[true, true, true, true, true, true, true, true, true, true, true, true, true, true, false] rfl rfl (by kernel_rfl) (by decide) (fun K hK => ?_)
                    refine box_step ?hg (N := 13) ?hd (cs := #[.int .i64 0, .int .i64 0, .int .i64 0]) (t := 57) ?hr ?_; (case hd => rfl); (case hg => rfl); (case hr => first | (go_simp; done) | (go_simp; rfl))
                    intro gr hgr wb hbox hbb
                    have MDB := Aside0.mk (Mid.below hHeld hbb)
                    have BR := Aside0.mk hbox
                    have GR : Aside0 (w.heap.size + 1 + 1 < gr) := ⟨by rw [hgr]; exact blk_lt hHeld.b2⟩
                    have GRM : Aside0 (gr ≠ gm) := ⟨by rw [hgr]; exact Nat.ne_of_gt hHeld.seen.lt⟩
                    clear hgr hbb hHeld
                    refine hK.out _ _ MDB.out (fun hHeld => ?_)
                    clear hK K hHeld
                    have f0 := blk_frozen hbox 0
                    have f1 := blk_frozen hbox 1
                    have f2 := blk_frozen hbox 2
                    have o0 : wb.cell? ⟨gr, 0, none⟩ = some (.int .i64 0) := (blk_cell hbox 0).trans rfl
                    have o1 : wb.cell? ⟨gr, 1, none⟩ = some (.int .i64 0) := (blk_cell hbox 1).trans rfl
                    have o2 : wb.cell? ⟨gr, 2, none⟩ = some (.int .i64 0) := (blk_cell hbox 2).trans rfl
                    clear hbox
                    refine norm_ (a' := ?_) ?_ ?_
                    rotate_left
                    · show Act.put _ (some 13) _ = _; simp only [Act.put, List.setIfInBounds_toArray, List.set_cons_zero, List.set_cons_succ, i64_w, i32_w]; rfl
                    refine last_ (i := 14) (N := none) #[true, true, true, true, true, true, true, true, true, true, true, true, true, true, true] rfl rfl (by kernel_rfl) (by decide) (fun K hK => ?_)
                    refine skip_ (w1 := ?_) (by rfl) rfl ?_ ?_
                    rotate_left
                    · go_simp; rfl
                    refine hK.out _ _ ?_
                    clear hK K
                    refine done_ (by kernel_rfl) ?_
                    have br := BR.out
                    have BW := Aside0.mk (blk_set (blk_set (blk_set br 0 (.int .i64 (rd_T57 (rd_L2 l0_2 st) xv).f0)) 1 (.int .i64 (rd_T57 (rd_L2 l0_2 st) xv).f1)) 2 (.int .i64 (rd_T57 (rd_L2 l0_2 st) xv).f2))
                    have MW := Aside0.mk (((MDB.out.far GR.out GRM.out 0 (.int .i64 (rd_T57 (rd_L2 l0_2 st) xv).f0)).far GR.out GRM.out 1 (.int .i64 (rd_T57 (rd_L2 l0_2 st) xv).f1)).far GR.out GRM.out 2 (.int .i64 (rd_T57 (rd_L2 l0_2 st) xv).f2))
                    clear br BR MDB f0 f1 f2 o0 o1 o2
                    generalize ((wb.setCell ⟨gr, 0, none⟩ (.int .i64 (rd_T57 (rd_L2 l0_2 st) xv).f0)).setCell ⟨gr, 1, none⟩ (.int .i64 (rd_T57 (rd_L2 l0_2 st) xv).f1)).setCell ⟨gr, 2, none⟩ (.int .i64 (rd_T57 (rd_L2 l0_2 st) xv).f2) = W2 at BW MW ⊢
                    generalize rd_T57 (rd_L2 l0_2 st) xv = ru at BW H hx0 hx1 hx2 ⊢
                    have o0 : W2.cell? ⟨gr, 0, none⟩ = some (.int .i64 ru.f0) := (blk_cell BW.out 0).trans rfl
                    have o1 : W2.cell? ⟨gr, 1, none⟩ = some (.int .i64 ru.f1) := (blk_cell BW.out 1).trans rfl
                    have o2 : W2.cell? ⟨gr, 2, none⟩ = some (.int .i64 ru.f2) := (blk_cell BW.out 2).trans rfl
                    have s0 : W2.cell? ⟨w.heap.size + 1 + 1, 0, none⟩ = some (.int .i64 st) := (blk_cell MW.out.b2 0).trans rfl
                    have s1 : W2.cell? ⟨w.heap.size + 1 + 1, 1, none⟩ = some (.int .i64 p) := (blk_cell MW.out.b2 1).trans rfl
                    have sx : W2.cell? ⟨w.heap.size + 1 + 1, 2 + p.toNat, none⟩ = some (.int .i64 xv) := (blk_cell MW.out.b2 _).trans hxv.out
                    have f0 := blk_frozen MW.out.b2 0
                    have f1 := blk_frozen MW.out.b2 1
                    have fx := blk_frozen MW.out.b2 (2 + p.toNat)
                    have g1 : w.heap.size + 1 + 1 ≠ gr := by have := GR.out; omega
                    have g2 : gr ≠ w.heap.size + 1 + 1 := by have := GR.out; omega
                    have p1 : 1 ≠ 2 + p.toNat := by omega
                    have p2 : 0 ≠ 2 + p.toNat := by omega
                    go_wp2
                    obtain ⟨z0, z1, z2, z3, z4, z5, ez, mz⟩ := MW.out.next HZ'.out hp0 y2 ru.f0 ru.f2 (wrap64 (p + ru.f1))
                    have h := H.out
                    rw [ez] at h
                    go_roundg k1
                    case measure => have := HK.out; omega
                    case rel => exact ⟨ru.f2, wrap64 (p + ru.f1), z0, z1, z2, z3, z4, z5, wrap64 (n + 1), _, rfl, ⟨h⟩, ⟨by have := HK.out; omega⟩, ⟨mz⟩⟩
                  · rw [if_neg c6] at h
                    cases h
              · rw [if_neg c4] at h
                cases h
  · have h := H.out
    simp only [block_cross.f, if_neg hW] at h
    cases h

end Go.Proofs.Ytfjfnpegpcdnaaa.GB
