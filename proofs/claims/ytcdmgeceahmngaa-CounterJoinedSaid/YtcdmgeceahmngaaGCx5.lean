/- The functions of one seat as Lean functions, each with its contract: the call of the Go function returns what the Lean function answers. Written by a program of this session out of the translation; contracts made by hand are laid between. -/
import Derived.Test.YtcdmgeceahmngaaGCx0
import Derived.Test.YtcdmgeceahmngaaGCx4
namespace Go.Proofs.Ytcdmgeceahmngaa.GC
open Go.RowKit Go.Proofs.YtcdmgeceahmngaaW.PrintWords Go.Proofs.YtcdmgeceahmngaaW.PrintLast Go.Proofs.YtcdmgeceahmngaaW.PrintMore
attribute [local go_sem] max2_int min2_int max_two min_two max_three min_three max_four min_four   -- for this text's walks alone
set_option linter.unusedVariables false
set_option linter.unusedSimpArgs false

/-! ### counter_run: function 23 -/

/-! ### a call of a function value -/
section
variable {P : Program} {ops : Array Oper} {Q : Exit → Act → World → Prop}
theorem goesV_ {oi : Oper} {N : Option Tmp} {a : Act} {w : World} {K : Act → World → Prop} {f : FuncId} {fn : Func} {c : Operand} {ags : Array Operand} {ts : Array TypeId} (hf : P.funcs[f]? = some fn) (hname : (fn.name == "runtime.NumGoroutine") = false) (hb : fn.body.isSome = true) (args : Array Value)
    (hw : Region.wanted oi (yielded ops a.tmps) = true) (hN : oi.dst = N) (hop : oi.op = .call { callee := .value c, args := ags, argTypes := ts }) (hc : a.eval c = .func (.func f) #[] #[]) (hargs : ags.map a.eval = args)
    (h : Calls P f args w fun e w' => ∃ v, e = .returned v ∧ K (a.put N v) w') : if Region.wanted oi (yielded ops a.tmps) = true then Oper.wp P oi a w K Q else K (a.put N undef) w := by
  refine call_ f args hw hN ?_ h
  have he := enters_ hf hname hb args w
  unfold execOp
  simp [hop, resolve, Deferred.ofValue, invoke, hc, hargs, he]
theorem goesVL_ {rest : List Oper} {oi : Oper} {a : Act} {w : World} (N : Option Tmp) (hd : oi.dst = N) (hg : oi.guard = none) {f : FuncId} {fn : Func} {c : Operand} {ags : Array Operand} {ts : Array TypeId} (hf : P.funcs[f]? = some fn) (hname : (fn.name == "runtime.NumGoroutine") = false) (hb : fn.body.isSome = true) (args : Array Value)
    (hop : oi.op = .call { callee := .value c, args := ags, argTypes := ts }) (hc : a.eval c = .func (.func f) #[] #[]) (hargs : ags.map a.eval = args)
    (h : Calls P f args w fun e w' => ∃ v, e = .returned v ∧ wpList P ops Q rest (a.put N v) w') : wpList P ops Q (oi :: rest) a w := by
  refine wpList_plain hg fun K hK => ?_
  have he := enters_ hf hname hb args w
  have hrun : (execOp a.eval oi).run P w = .ok (.enter f args) w := by
    unfold execOp
    simp [hop, resolve, Deferred.ofValue, invoke, hc, hargs, he]
  unfold Oper.wp
  rw [hrun, Oper.upon_enter]
  refine h.mono fun e w'' hh => ?_
  obtain ⟨v, rfl, hk⟩ := hh
  subst hd
  exact hK _ _ hk
end

/-! ### the actions -/
/-- A row of one's own, at an element. -/
theorem elem_int {w : World} {base g cap n : Nat} {ok : Nat → Prop} {rs : List Int} (h : Kd.R (Kd.int .i64) 3 w base ok (.slice (some ⟨g, 0, none⟩) n cap) rs) (i : Int) (h0 : 0 ≤ i) (h1 : i < n) :
    w.cell? ⟨g, i.toNat, none⟩ = some (.int .i64 (rd rs i)) ∧ w.frozen? ⟨g, i.toNat, none⟩ = false := by
  obtain ⟨c, hl, hM, hc, hf⟩ := Kd.R_elem h 0 i h0 h1
  obtain rfl : c = [.int .i64 (rd rs i)] := hM
  have e := hc 0 _ rfl
  have f := hf 0
  rw [show (Kd.int .i64).sz = 1 from rfl, Nat.mul_one, Nat.add_zero] at e f
  exact ⟨e, f⟩
theorem row_lt {w : World} {base g cap n : Nat} {ok : Nat → Prop} {rs : List Int} (h : Kd.R (Kd.int .i64) 3 w base ok (.slice (some ⟨g, 0, none⟩) n cap) rs) : g < w.heap.size := Kd.R_lt h g (by simp [Value.ownBlock])
theorem row_base {w : World} {base g cap n : Nat} {ok : Nat → Prop} {rs : List Int} (h : Kd.R (Kd.int .i64) 3 w base ok (.slice (some ⟨g, 0, none⟩) n cap) rs) : base ≤ g := Kd.R_base h g (by simp [Value.ownBlock])
theorem set_int {w : World} {base g cap n : Nat} {ok : Nat → Prop} {rs : List Int} (h : Kd.R (Kd.int .i64) 3 w base ok (.slice (some ⟨g, 0, none⟩) n cap) rs) (i : Int) (h0 : 0 ≤ i) (h1 : i < n) (y : Int) :
    Kd.R (Kd.int .i64) 3 (w.setCell ⟨g, i.toNat, none⟩ (.int .i64 y)) base ok (.slice (some ⟨g, 0, none⟩) n cap) (rs.set i.toNat y) := by
  obtain ⟨c, hl, hM, hc, hf⟩ := Kd.R_elem h 0 i h0 h1
  have := (Kd.R_seg (okp := fun k => ok k ∧ k ≠ g) h i h0 h1 (seg := [.int .i64 y]) (j := 0) hl hc (Nat.le_refl _) (x' := y) (by
    obtain rfl : c = [.int .i64 (rd rs i)] := hM
    rfl) (fun _ h => h)).1
  rw [show (Kd.int .i64).sz = 1 from rfl, Nat.mul_one, Nat.add_zero] at this
  exact this
set_option maxHeartbeats 8000000 in
set_option maxRecDepth 100000 in
theorem act_inc (x0 x1 x2 x3 : Int) (g cap n : Nat) (rs : List Int) (base : Nat) (ok : Nat → Prop) (w : World) (hR : Kd.R (Kd.int .i64) 3 w base ok (.slice (some ⟨g, 0, none⟩) n cap) rs) (h0 : 0 ≤ x1) (h1 : x1 < n) :
    Calls Try.prog 37 #[.agg #[.int .i64 x0, .int .i64 x1, .int .i64 x2, .int .i64 x3], .slice (some ⟨g, 0, none⟩) n cap] w fun e w' => ∃ w1, Below w.heap.size w w1 ∧
      ((rd rs x1 = 1152921504606846976 ∧ e = .returned (.tuple #[.int .i64 0, .bool false]) ∧ w' = w1) ∨ (rd rs x1 ≠ 1152921504606846976 ∧ e = .returned (.tuple #[.int .i64 x2, .bool true]) ∧ w' = w1.setCell ⟨g, x1.toNat, none⟩ (.int .i64 (wrap64 (rd rs x1 + 1))))) := by
  have hu35 := Try.underlying35
  have HR := Aside0.mk hR
  have HL := Aside0.mk (row_lt hR)
  clear hR
  by_cases c : rd rs x1 = 1152921504606846976
  · have c1 : (rd rs x1 == 1152921504606846976) = true := beq_iff_eq.mpr c
    have C := Aside0.mk c
    clear c
    go_enter Try.func37, Try.ntmps37
    go_wp2_with ((with_reducible refine gate_dst (N := 2) rfl ?_); (try (refine gate_guard (by rfl) ?_; dsimp only)); refine box_event ?hg (N := 2) ?hd (cs := #[.int .i64 x0, .int .i64 x1, .int .i64 x2, .int .i64 x3]) (t := 35) ?hr ?_; (case hd => rfl); (case hg => rfl); (case hr => first | (go_simp; done) | (go_simp; rfl)); intro gb hg w4 hbox hb; have e0 : w4.cell? ⟨gb, 0, none⟩ = some (.int .i64 x0) := (blk_cell hbox 0).trans rfl; have e1 : w4.cell? ⟨gb, 1, none⟩ = some (.int .i64 x1) := (blk_cell hbox 1).trans rfl; have e2 : w4.cell? ⟨gb, 2, none⟩ = some (.int .i64 x2) := (blk_cell hbox 2).trans rfl; obtain ⟨e3, f3⟩ := elem_int (Kd.R_below HR.out hb) x1 h0 h1; have HBB := Aside0.mk hb; clear hbox hb hg)
    refine bodyPost_ret (results_tmp2 rfl _ _ _) rfl ?_
    exact ⟨_, HBB.out, .inl ⟨C.out, rfl, rfl⟩⟩
  · have c1 : (rd rs x1 == 1152921504606846976) = false := beq_eq_false_iff_ne.mpr c
    have C := Aside0.mk c
    clear c
    go_enter Try.func37, Try.ntmps37
    go_wp2_with ((with_reducible refine gate_dst (N := 2) rfl ?_); (try (refine gate_guard (by rfl) ?_; dsimp only)); refine box_event ?hg (N := 2) ?hd (cs := #[.int .i64 x0, .int .i64 x1, .int .i64 x2, .int .i64 x3]) (t := 35) ?hr ?_; (case hd => rfl); (case hg => rfl); (case hr => first | (go_simp; done) | (go_simp; rfl)); intro gb hg w4 hbox hb; have e0 : w4.cell? ⟨gb, 0, none⟩ = some (.int .i64 x0) := (blk_cell hbox 0).trans rfl; have e1 : w4.cell? ⟨gb, 1, none⟩ = some (.int .i64 x1) := (blk_cell hbox 1).trans rfl; have e2 : w4.cell? ⟨gb, 2, none⟩ = some (.int .i64 x2) := (blk_cell hbox 2).trans rfl; obtain ⟨e3, f3⟩ := elem_int (Kd.R_below HR.out hb) x1 h0 h1; have hne : gb ≠ g := fun h => Nat.ne_of_gt HL.out (hg.symm.trans h); have hne' : g ≠ gb := fun h => hne h.symm; have HBB := Aside0.mk hb; clear hbox hb hg)
    refine bodyPost_ret (results_tmp2 rfl _ _ _) rfl ?_
    exact ⟨_, HBB.out, .inr ⟨C.out, rfl, rfl⟩⟩
set_option maxHeartbeats 8000000 in
set_option maxRecDepth 100000 in
theorem act_dec (x0 x1 x2 x3 : Int) (g cap n : Nat) (rs : List Int) (base : Nat) (ok : Nat → Prop) (w : World) (hR : Kd.R (Kd.int .i64) 3 w base ok (.slice (some ⟨g, 0, none⟩) n cap) rs) (h0 : 0 ≤ x1) (h1 : x1 < n) :
    Calls Try.prog 38 #[.agg #[.int .i64 x0, .int .i64 x1, .int .i64 x2, .int .i64 x3], .slice (some ⟨g, 0, none⟩) n cap] w fun e w' => ∃ w1, Below w.heap.size w w1 ∧
      ((rd rs x1 = 0 ∧ e = .returned (.tuple #[.int .i64 x3, .bool true]) ∧ w' = w1) ∨ (rd rs x1 ≠ 0 ∧ e = .returned (.tuple #[.int .i64 x2, .bool true]) ∧ w' = w1.setCell ⟨g, x1.toNat, none⟩ (.int .i64 (wrap64 (rd rs x1 - 1))))) := by
  have hu35 := Try.underlying35
  have HR := Aside0.mk hR
  have HL := Aside0.mk (row_lt hR)
  clear hR
  by_cases c : rd rs x1 = 0
  · have c1 : (rd rs x1 == 0) = true := beq_iff_eq.mpr c
    have C := Aside0.mk c
    clear c
    go_enter Try.func38, Try.ntmps38
    go_wp2_with ((with_reducible refine gate_dst (N := 2) rfl ?_); (try (refine gate_guard (by rfl) ?_; dsimp only)); refine box_event ?hg (N := 2) ?hd (cs := #[.int .i64 x0, .int .i64 x1, .int .i64 x2, .int .i64 x3]) (t := 35) ?hr ?_; (case hd => rfl); (case hg => rfl); (case hr => first | (go_simp; done) | (go_simp; rfl)); intro gb hg w4 hbox hb; have e0 : w4.cell? ⟨gb, 0, none⟩ = some (.int .i64 x0) := (blk_cell hbox 0).trans rfl; have e1 : w4.cell? ⟨gb, 1, none⟩ = some (.int .i64 x1) := (blk_cell hbox 1).trans rfl; have e2 : w4.cell? ⟨gb, 2, none⟩ = some (.int .i64 x2) := (blk_cell hbox 2).trans rfl; have ez : w4.cell? ⟨gb, 3, none⟩ = some (.int .i64 x3) := (blk_cell hbox 3).trans rfl; obtain ⟨e3, f3⟩ := elem_int (Kd.R_below HR.out hb) x1 h0 h1; have HBB := Aside0.mk hb; clear hbox hb hg)
    refine bodyPost_ret (results_tmp2 rfl _ _ _) rfl ?_
    exact ⟨_, HBB.out, .inl ⟨C.out, rfl, rfl⟩⟩
  · have c1 : (rd rs x1 == 0) = false := beq_eq_false_iff_ne.mpr c
    have C := Aside0.mk c
    clear c
    go_enter Try.func38, Try.ntmps38
    go_wp2_with ((with_reducible refine gate_dst (N := 2) rfl ?_); (try (refine gate_guard (by rfl) ?_; dsimp only)); refine box_event ?hg (N := 2) ?hd (cs := #[.int .i64 x0, .int .i64 x1, .int .i64 x2, .int .i64 x3]) (t := 35) ?hr ?_; (case hd => rfl); (case hg => rfl); (case hr => first | (go_simp; done) | (go_simp; rfl)); intro gb hg w4 hbox hb; have e0 : w4.cell? ⟨gb, 0, none⟩ = some (.int .i64 x0) := (blk_cell hbox 0).trans rfl; have e1 : w4.cell? ⟨gb, 1, none⟩ = some (.int .i64 x1) := (blk_cell hbox 1).trans rfl; have e2 : w4.cell? ⟨gb, 2, none⟩ = some (.int .i64 x2) := (blk_cell hbox 2).trans rfl; have ez : w4.cell? ⟨gb, 3, none⟩ = some (.int .i64 x3) := (blk_cell hbox 3).trans rfl; obtain ⟨e3, f3⟩ := elem_int (Kd.R_below HR.out hb) x1 h0 h1; have hne : gb ≠ g := fun h => Nat.ne_of_gt HL.out (hg.symm.trans h); have hne' : g ≠ gb := fun h => hne h.symm; have HBB := Aside0.mk hb; clear hbox hb hg)
    refine bodyPost_ret (results_tmp2 rfl _ _ _) rfl ?_
    exact ⟨_, HBB.out, .inr ⟨C.out, rfl, rfl⟩⟩

set_option maxHeartbeats 8000000 in
theorem actions (w : World) : Calls Try.prog 34 #[] w fun e w' => e = .returned (.agg #[.func (.func 37) #[] #[], .func (.func 38) #[] #[]]) ∧ Below w.heap.size w w' := by
  have hu66 := Try.underlying66
  go_enter Try.func34, Try.ntmps34
  go_wp2_with ((with_reducible refine gate_dst (N := 0) rfl ?_); (try (refine gate_guard (by rfl) ?_; dsimp only)); refine box_event ?hg (N := 0) ?hd (cs := #[.nilFunc, .nilFunc]) (t := 66) ?hr ?_; (case hd => rfl); (case hg => rfl); (case hr => first | (go_simp; done) | (go_simp; rfl)); intro gb hg w4 hbox hb; have e0 : w4.cell? ⟨gb, 0, none⟩ = some .nilFunc := (blk_cell hbox 0).trans rfl; have e1 : w4.cell? ⟨gb, 1, none⟩ = some .nilFunc := (blk_cell hbox 1).trans rfl; have f0 := blk_frozen hbox 0; have f1 := blk_frozen hbox 1; have HG : Aside0 (w.heap.size ≤ gb) := ⟨Nat.le_of_eq hg.symm⟩; have HBX := Aside0.mk hbox; have HBB := Aside0.mk hb; clear hbox hb hg)
  refine bodyPost_ret (results_cell_row rfl _ _ gb 66 #[.func (.func 37) #[] #[], .func (.func 38) #[] #[]] (0, 0) _ rfl (by first | exact (blk_set (blk_set HBX.out 0 _) 1 _)) Try.underlying66 rfl (by kernel_rfl)) rfl ?_
  exact ⟨rfl, (HBB.out.setCell HG.out _).setCell HG.out _⟩
theorem never_calls (a : Int) (w : World) : Calls Try.prog 24 #[.int .i64 a] w fun e w' => e = .returned (.bool false) ∧ Drawn0 w w' := by
  go_enter Try.func24, Try.ntmps24
  go_wp2
  go_ret
  exact ⟨by first | rfl | (simp; done) | (simp [*]; done), by repeat (first | exact Drawn0.refl _ | apply Drawn0.step)⟩

/-- What counter.run does from a moment on, where nothing is enough: steps, place, contents. -/
def counter_run.l0 : Nat → Int → Int → List Int → Int → List S35 → Option (Int × List Int × Int × Bool)
  | 0, _, _, _, _, _ => none
  | k + 1, i, at_, rs, n, code =>
    if i < n then
      (if 0 ≤ at_ ∧ at_ < (code.length : Int) then
        (if (rd_T35 code at_).f0 = 2 then some (at_, rs, i, true)
        else if 0 ≤ (rd_T35 code at_).f1 ∧ (rd_T35 code at_).f1 < (rs.length : Int) then
          (if (rd_T35 code at_).f0 = 0 then
            (if rd rs (rd_T35 code at_).f1 = 1152921504606846976 then some (0, [], 0, false)
            else counter_run.l0 k (wrap64 (i + 1)) (rd_T35 code at_).f2 (rs.set (rd_T35 code at_).f1.toNat (wrap64 (rd rs (rd_T35 code at_).f1 + 1))) n code)
          else if (rd_T35 code at_).f0 = 1 then
            (if rd rs (rd_T35 code at_).f1 = 0 then counter_run.l0 k (wrap64 (i + 1)) (rd_T35 code at_).f3 rs n code
            else counter_run.l0 k (wrap64 (i + 1)) (rd_T35 code at_).f2 (rs.set (rd_T35 code at_).f1.toNat (wrap64 (rd rs (rd_T35 code at_).f1 - 1))) n code)
          else none)
        else none)
      else none)
    else some (at_, rs, n, true)
def counter_run.f (k : Nat) (a0_0 : Int) (l0_1 : List S35) (a1_0 : Int) (l1_1 : List Int) (a2 : Int) : Option (Int × List Int × Int × Bool) :=
  if l1_1.length < 17592186044416 then counter_run.l0 k 0 a1_0 l1_1 a2 l0_1 else none
theorem counter_run.mono_l : ∀ k, ∀ y0 y1 y2 y3 y4, LeO (counter_run.l0 k y0 y1 y2 y3 y4) (counter_run.l0 (k + 1) y0 y1 y2 y3 y4)
  | 0 => fun _ _ _ _ _ r h => by simp [counter_run.l0] at h
  | k + 1 => by
    have ih0 := counter_run.mono_l k
    intro y0 y1 y2 y3 y4
    unfold counter_run.l0
    repeat' first
      | (with_reducible exact ih0 _ _ _ _ _)
      | (with_reducible exact LeO.refl _)
      | (with_reducible exact LeO.none _)
      | (with_reducible refine LeO.ite ?_ ?_)
      | exact ih0 _ _ _ _ _
      | exact LeO.none _
      | refine LeO.ite ?_ ?_
theorem counter_run.mono : ∀ a0 a1 a2 a3 a4 k, LeO (counter_run.f k a0 a1 a2 a3 a4) (counter_run.f (k + 1) a0 a1 a2 a3 a4) := by
  intro a0 a1 a2 a3 a4 k
  unfold counter_run.f
  exact LeO.ite (counter_run.mono_l k _ _ _ _ _) (LeO.none _)

/-! ### what stands in memory at a round's head -/
structure Mid (w : World) (a0_0 : Int) (A : Option Addr) (n c gd : Nat) (v : Value) (rs : List Int) (w' : World) : Prop where
  b0 : w'.heap[w.heap.size]? = some (.cells #[.int .i64 a0_0, .slice A n c] 24 (0, 0))
  b2 : w'.heap[w.heap.size + 1 + 1]? = some (.cells #[.int .i64 0, .slice none 0 0] 29 (0, 0))
  bd : w'.heap[gd]? = some (.cells #[.func (.func 37) #[] #[], .func (.func 38) #[] #[]] 66 (0, 0))
  row : Kd.R (Kd.int .i64) 3 w' w.heap.size (fun _ => True) v rs
  bel : Below w.heap.size w w'
section
variable {w w1 w2 : World} {a0_0 : Int} {A : Option Addr} {n c gd g cap m : Nat} {v : Value} {rs : List Int}
theorem Mid.below (h : Mid w a0_0 A n c gd v rs w1) (hb : Below w1.heap.size w1 w2) : Mid w a0_0 A n c gd v rs w2 :=
  ⟨blk_below h.b0 hb, blk_below h.b2 hb, blk_below h.bd hb, Kd.R_below h.row hb, below_then h.bel h.bel.size hb⟩
theorem Mid.drew (h : Mid w a0_0 A n c gd v rs w1) : Mid w a0_0 A n c gd v rs w1.drew := h.below (below_drew (Below.refl _ _))
/-- A cell of a block of another kind. -/
theorem Mid.far (h : Mid w a0_0 A n c gd v rs w1) {gx t : Nat} {cs : Array Value} (hx : w1.heap[gx]? = some (.cells cs t (0, 0))) (ht : 3 ≠ t) (h1 : w.heap.size + 1 + 1 < gx) (h2 : gd ≠ gx) (j : Nat) (u : Value) : Mid w a0_0 A n c gd v rs (w1.setCell ⟨gx, j, none⟩ u) :=
  ⟨blk_far h.b0 (by simp only; omega) u, blk_far h.b2 (by simp only; omega) u, blk_far h.bd (by simpa using h2) u, Kd.R_set h.row hx (fun q hq => by obtain rfl : q = 3 := List.mem_singleton.1 hq; exact ht) j u, h.bel.setCell (by simp only; omega) u⟩
theorem Mid.put (h : Mid w a0_0 A n c gd (.slice (some ⟨g, 0, none⟩) m cap) rs w1) (i : Int) (h0 : 0 ≤ i) (h1 : i < m) (y : Int) : Mid w a0_0 A n c gd (.slice (some ⟨g, 0, none⟩) m cap) (rs.set i.toNat y) (w1.setCell ⟨g, i.toNat, none⟩ (.int .i64 y)) := by
  have e0 := Kd.R_ne h.row h.b0 (by decide)
  have e2 := Kd.R_ne h.row h.b2 (by decide)
  have ed := Kd.R_ne h.row h.bd (by decide)
  simp only [Value.ownBlock, ne_eq, Option.some.injEq] at e0 e2 ed
  exact ⟨blk_far h.b0 (by simpa using e0) _, blk_far h.b2 (by simpa using e2) _, blk_far h.bd (by simpa using ed) _, set_int h.row i h0 h1 y, h.bel.setCell (row_base h.row) _⟩
/-- The result, laid into the result's variable. -/
theorem Mid.out (h : Mid w a0_0 A n c gd v rs w1) (u0 u1 : Value) :
    (((w1.setCell ⟨w.heap.size + 1 + 1, 0, none⟩ u0).setCell ⟨w.heap.size + 1 + 1, 1, none⟩ u1)).heap[w.heap.size + 1 + 1]? = some (.cells #[u0, u1] 29 (0, 0)) ∧
    Below w.heap.size w ((w1.setCell ⟨w.heap.size + 1 + 1, 0, none⟩ u0).setCell ⟨w.heap.size + 1 + 1, 1, none⟩ u1) ∧
    Kd.R (Kd.int .i64) 3 ((w1.setCell ⟨w.heap.size + 1 + 1, 0, none⟩ u0).setCell ⟨w.heap.size + 1 + 1, 1, none⟩ u1) w.heap.size (fun _ => True) v rs := by
  have e0 := blk_set h.b2 0 u0
  have e1 := blk_set e0 1 u1
  exact ⟨e1, ((h.bel.setCell (by simp only; omega) _).setCell (by simp only; omega) _), Kd.R_set (Kd.R_set h.row h.b2 (by decide) 0 u0) e0 (by decide) 1 u1⟩
end
/-- An instruction, laid into its variable. -/
theorem Mid.x4 {w w1 : World} {a0_0 : Int} {A : Option Addr} {n c gd : Nat} {v : Value} {rs : List Int} (h : Mid w a0_0 A n c gd v rs w1) {gx : Nat} (hx : w1.heap[gx]? = some (.cells #[.int .i64 0, .int .i64 0, .int .i64 0, .int .i64 0] 35 (0, 0))) (h1 : w.heap.size + 1 + 1 < gx) (h2 : gd ≠ gx) (u0 u1 u2 u3 : Value) :
    Mid w a0_0 A n c gd v rs ((((w1.setCell ⟨gx, 0, none⟩ u0).setCell ⟨gx, 1, none⟩ u1).setCell ⟨gx, 2, none⟩ u2).setCell ⟨gx, 3, none⟩ u3) ∧ ((((w1.setCell ⟨gx, 0, none⟩ u0).setCell ⟨gx, 1, none⟩ u1).setCell ⟨gx, 2, none⟩ u2).setCell ⟨gx, 3, none⟩ u3).heap[gx]? = some (.cells #[u0, u1, u2, u3] 35 (0, 0)) := by
  have m0 := h.far hx (by decide) h1 h2 0 u0
  have q0 := blk_set hx 0 u0
  have m1 := m0.far q0 (by decide) h1 h2 1 u1
  have q1 := blk_set q0 1 u1
  have m2 := m1.far q1 (by decide) h1 h2 2 u2
  have q2 := blk_set q1 2 u2
  exact ⟨m2.far q2 (by decide) h1 h2 3 u3, blk_set q2 3 u3⟩
theorem clone_eq (l : List Int) (h : l.length < 17592186044416) : slices_Clone_int_int.f l = some l := by
  simp [slices_Clone_int_int.f, h]
set_option maxHeartbeats 8000000 in
set_option maxRecDepth 100000 in
theorem counter_run.calls (k : Nat) (a0_0 : Int) (A0_1 : Option Addr) (c0_1 : Nat) (l0_1 : List S35) (a1_0 : Int) (A1_1 : Option Addr) (c1_1 : Nat) (l1_1 : List Int) (a2 : Int) (r1 : Int) (r2 : List Int) (r3 : Int) (r4 : Bool) (w : World)
    (hr0_1 : Kd.C k35 w A0_1 l0_1.length l0_1) (hc0_1 : l0_1.length ≤ c0_1) (hr1_1 : Kd.C (Kd.int .i64) w A1_1 l1_1.length l1_1) (hc1_1 : l1_1.length ≤ c1_1) (h : counter_run.f k a0_0 l0_1 a1_0 l1_1 a2 = some (r1, r2, r3, r4)) :
    Calls Try.prog 23 #[.agg #[.int .i64 a0_0, .slice A0_1 l0_1.length c0_1], .agg #[.int .i64 a1_0, .slice A1_1 l1_1.length c1_1], .int .i64 a2, .func (.func 24) #[] #[]] w fun e w' => ∃ v2_ : Value, e = .returned (.tuple #[.agg #[.int .i64 r1, v2_], .int .i64 r3, .bool r4]) ∧ Kd.R (Kd.int .i64) 3 w' w.heap.size (fun _ => True) v2_ r2 ∧ Below w.heap.size w w' := by
  have hu24 := Try.underlying24
  have hu29 := Try.underlying29
  have hu35 := Try.underlying35
  have hu66 := Try.underlying66
  have HR0 := Aside0.mk hr0_1
  have HC0 := Aside0.mk hc0_1
  have HR1 := Aside0.mk hr1_1
  have HC1 := Aside0.mk hc1_1
  have H := Aside0.mk h
  clear hr0_1 hc0_1 hr1_1 hc1_1 h
  by_cases hW : l1_1.length < 17592186044416
  · have h := H.out
    simp only [counter_run.f, if_pos hW] at h
    clear H
    have H := Aside0.mk h
    have HW := Aside0.mk hW
    clear h hW
    obtain ⟨w1, hw1⟩ : ∃ w1, w1 = ((w.alloc (.cells #[.int .i64 a0_0, .slice A0_1 l0_1.length c0_1] 24 (0, 0))).alloc (.cells #[.int .i64 a1_0, .slice A1_1 l1_1.length c1_1] 29 (0, 0))).alloc (.cells #[.int .i64 0, .slice none 0 0] 29 (0, 0)) := ⟨_, rfl⟩
    have BK0 : Aside0 (w1.heap[w.heap.size]? = some (.cells #[.int .i64 a0_0, .slice A0_1 l0_1.length c0_1] 24 (0, 0))) := ⟨by rw [hw1]; exact blk_alloc (blk_alloc (blk_new w _) _) _⟩
    have BK1 : Aside0 (w1.heap[w.heap.size + 1]? = some (.cells #[.int .i64 a1_0, .slice A1_1 l1_1.length c1_1] 29 (0, 0))) := ⟨by
      rw [hw1]
      refine blk_alloc ?_ _
      have := blk_new (w.alloc (.cells #[.int .i64 a0_0, .slice A0_1 l0_1.length c0_1] 24 (0, 0))) (.cells #[.int .i64 a1_0, .slice A1_1 l1_1.length c1_1] 29 (0, 0))
      simpa using this⟩
    have BK2 : Aside0 (w1.heap[w.heap.size + 1 + 1]? = some (.cells #[.int .i64 0, .slice none 0 0] 29 (0, 0))) := ⟨by
      rw [hw1]
      have := blk_new ((w.alloc (.cells #[.int .i64 a0_0, .slice A0_1 l0_1.length c0_1] 24 (0, 0))).alloc (.cells #[.int .i64 a1_0, .slice A1_1 l1_1.length c1_1] 29 (0, 0))) (.cells #[.int .i64 0, .slice none 0 0] 29 (0, 0))
      simpa using this⟩
    have HB : Aside0 (Below w.heap.size w w1) := ⟨by rw [hw1]; exact (((Below.refl w.heap.size w).alloc (Nat.le_refl _) _).alloc (by simp) _).alloc (by simp; omega) _⟩
    have HW1 := Aside0.mk hw1
    clear hw1
    go_enter Try.func23, Try.ntmps23
    go_wp2_with fail
    rw [← HW1.out]
    clear HW1
    refine start_ (n := 7) (S := fun w' => w'.cell? ⟨w.heap.size + 1, 0, none⟩ = some (.int .i64 a1_0) ∧ w'.cell? ⟨w.heap.size + 1, 1, none⟩ = some (.slice A1_1 l1_1.length c1_1)) (ds := []) #[false, false, false, false, false, false, false] (by kernel_rfl) rfl rfl ⟨(blk_cell (blk_drew BK1.out) 0).trans rfl, (blk_cell (blk_drew BK1.out) 1).trans rfl⟩ (fun hHeld => ?_)
    have BK0' := Aside0.mk (blk_drew BK0.out)
    have BK1' := Aside0.mk (blk_drew BK1.out)
    have BK2' := Aside0.mk (blk_drew BK2.out)
    have HB' := Aside0.mk (below_drew HB.out)
    clear BK0 BK1 BK2 HB
    generalize w1.drew = w2 at BK0' BK1' BK2' HB' hHeld ⊢
    refine pure_ (i := 0) (N := some 18) (v := ?_) (a' := ?_) #[true, false, false, false, false, false, false] rfl rfl (by kernel_rfl) (fun _ _ _ h => h) (Or.inl ⟨by rfl, ?_⟩) ?_ ?_
    rotate_left
    · intro w'; go_simp; with_reducible rfl
    rotate_left
    · simp only [Act.put, List.setIfInBounds_toArray, List.set_cons_zero, List.set_cons_succ, i64_w, i32_w]; rfl
    refine pure_ (i := 2) (N := some 20) (v := ?_) (a' := ?_) #[true, false, true, false, false, false, false] rfl rfl (by kernel_rfl) (fun _ _ _ h => h) (Or.inl ⟨by rfl, ?_⟩) ?_ ?_
    rotate_left
    · intro w'; go_simp; with_reducible rfl
    rotate_left
    · simp only [Act.put, List.setIfInBounds_toArray, List.set_cons_zero, List.set_cons_succ, i64_w, i32_w]; rfl
    refine take_ (i := 1) (N := some 19) (v := ?_) (a' := ?_) #[true, true, true, false, false, false, false] rfl rfl (by kernel_rfl) (fun _ _ _ h => h) (Or.inl ⟨by rfl, ?_⟩) hHeld ?_ ?_
    rotate_left
    · rintro w' ⟨s0, s1⟩; go_simp; with_reducible rfl
    rotate_left
    · simp only [Act.put, List.setIfInBounds_toArray, List.set_cons_zero, List.set_cons_succ, i64_w, i32_w]; rfl
    refine take_ (i := 3) (N := some 21) (v := ?_) (a' := ?_) #[true, true, true, true, false, false, false] rfl rfl (by kernel_rfl) (fun _ _ _ h => h) (Or.inl ⟨by rfl, ?_⟩) hHeld ?_ ?_
    rotate_left
    · rintro w' ⟨s0, s1⟩; go_simp; with_reducible rfl
    rotate_left
    · simp only [Act.put, List.setIfInBounds_toArray, List.set_cons_zero, List.set_cons_succ, i64_w, i32_w]; rfl
    refine one_ (i := 4) (N := some 22) #[true, true, true, true, true, false, false] rfl rfl (by kernel_rfl) (by decide) (fun K hK => ?_)
    refine goes_ Try.func33 (by kernel_rfl) rfl #[.slice A1_1 l1_1.length c1_1] (by rfl) rfl rfl (by (try simp only [List.map_toArray, List.map_cons, List.map_nil]); first | done | rfl) ?_
    refine (slices_Clone_int_int.calls A1_1 c1_1 l1_1 l1_1 w2 (Kd.C_below HR1.out HB'.out) HC1.out (clone_eq l1_1 HW.out)).mono ?_
    rintro e w' ⟨v0, rfl, ho, hb⟩
    obtain ⟨A4, c4, rfl⟩ := Kd.R_slice ho
    refine ⟨.slice A4 l1_1.length c4, rfl, hK.out _ _ ⟨(blk_cell (blk_below BK1'.out hb) 0).trans rfl, (blk_cell (blk_below BK1'.out hb) 1).trans rfl⟩ (fun hHeld => ?_)⟩
    clear hK K
    refine norm_ (a' := ?_) ?_ ?_
    rotate_left
    · show Act.put _ (some 22) _ = _; simp only [Act.put, List.setIfInBounds_toArray, List.set_cons_zero, List.set_cons_succ, i64_w, i32_w]; rfl
    refine pure_ (i := 5) (N := some 11) (v := ?_) (a' := ?_) #[true, true, true, true, true, true, false] rfl rfl (by kernel_rfl) (fun _ _ _ h => h) (Or.inl ⟨by rfl, ?_⟩) ?_ ?_
    rotate_left
    · intro w'; go_simp; with_reducible rfl
    rotate_left
    · simp only [Act.put, List.setIfInBounds_toArray, List.set_cons_zero, List.set_cons_succ, i64_w, i32_w]; rfl
    refine pure_ (i := 6) (N := some 12) (v := ?_) (a' := ?_) #[true, true, true, true, true, true, true] rfl rfl (by kernel_rfl) (fun _ _ _ h => h) (Or.inl ⟨by rfl, ?_⟩) ?_ ?_
    rotate_left
    · intro w'; go_simp; with_reducible rfl
    rotate_left
    · simp only [Act.put, List.setIfInBounds_toArray, List.set_cons_zero, List.set_cons_succ, i64_w, i32_w]; rfl
    refine done_ (by kernel_rfl) ?_
    have MD0 : Aside0 (w'.heap[w.heap.size]? = some (.cells #[.int .i64 a0_0, .slice A0_1 l0_1.length c0_1] 24 (0, 0)) ∧ w'.heap[w.heap.size + 1 + 1]? = some (.cells #[.int .i64 0, .slice none 0 0] 29 (0, 0)) ∧ Kd.R (Kd.int .i64) 3 w' w.heap.size (fun _ => True) (.slice A4 l1_1.length c4) l1_1 ∧ Below w.heap.size w w') := ⟨blk_below BK0'.out hb, blk_below BK2'.out hb, Kd.R_lower ho HB'.out.size, below_then HB'.out HB'.out.size hb⟩
    clear BK0' BK1' BK2' HB' ho hb
    go_wp2_with (first | ((with_reducible refine gate_callee (f := 34) rfl ?_); go_loud (refine goesL_ (some 23) rfl rfl Try.func34 (by kernel_rfl) rfl #[] rfl (by simp) ?_; refine (actions _).mono ?_; rintro e w3 ⟨rfl, hb3⟩; refine ⟨_, rfl, ?_⟩; have HB3 := Aside0.mk hb3; clear hb3)) | ((with_reducible refine gate_dst (N := 13) rfl ?_); (try (refine gate_guard (by rfl) ?_; dsimp only)); refine box_event ?hg (N := 13) ?hd (cs := #[.nilFunc, .nilFunc]) (t := 66) ?hr ?_; (case hd => rfl); (case hg => rfl); (case hr => first | (go_simp; done) | (go_simp; rfl)); intro gd hg w4 hbox hb; have e0 : w4.cell? ⟨gd, 0, none⟩ = some .nilFunc := (blk_cell hbox 0).trans rfl; have e1 : w4.cell? ⟨gd, 1, none⟩ = some .nilFunc := (blk_cell hbox 1).trans rfl; have f0 := blk_frozen hbox 0; have f1 := blk_frozen hbox 1; have HG := Aside0.mk hg; have HBX := Aside0.mk hbox; have HB4 := Aside0.mk hb; clear hbox hb hg))
    obtain ⟨W, hWe⟩ : ∃ W, W = (w4.setCell ⟨gd, 0, none⟩ (.func (.func 37) #[] #[])).setCell ⟨gd, 1, none⟩ (.func (.func 38) #[] #[]) := ⟨_, rfl⟩
    rw [← hWe]
    have MDL : Aside0 (Mid w a0_0 A0_1 l0_1.length c0_1 gd (.slice A4 l1_1.length c4) l1_1 W) := ⟨by
      obtain ⟨q0, q2, qr, qb⟩ := MD0.out
      have z0 := blk_below (blk_below q0 HB3.out) HB4.out
      have z2 := blk_below (blk_below q2 HB3.out) HB4.out
      have zr := Kd.R_below (Kd.R_below qr HB3.out) HB4.out
      have zb := below_then (below_then qb qb.size HB3.out) (below_then qb qb.size HB3.out).size HB4.out
      have l2 := blk_lt (blk_below q2 HB3.out)
      have hg : w.heap.size + 1 + 1 < gd := by rw [HG.out]; exact l2
      have s0 := blk_set HBX.out 0 (.func (.func 37) #[] #[])
      rw [hWe]
      exact ⟨blk_far (blk_far z0 (by simp only; omega) _) (by simp only; omega) _, blk_far (blk_far z2 (by simp only; omega) _) (by simp only; omega) _, blk_set s0 1 _, Kd.R_set (Kd.R_set zr HBX.out (by decide) 0 _) s0 (by decide) 1 _, (zb.setCell (by simp only; omega) _).setCell (by simp only; omega) _⟩⟩
    have GDL : Aside0 (w.heap.size + 1 + 1 < gd) := ⟨by rw [HG.out]; exact blk_lt (blk_below MD0.out.2.1 HB3.out)⟩
    clear hWe MD0 HB3 HB4 HG HBX e0 e1 f0 f1
    go_loopg [25, 11] k (fun kq v25 v11 w' => ∃ (i at_ : Int) (rs : List Int), v25 = .int .i64 i ∧ v11 = .int .i64 at_ ∧ Aside0 (counter_run.l0 kq i at_ rs a2 l0_1 = some (r1, r2, r3, r4)) ∧ Aside0 (kq ≤ k) ∧ Aside0 (rs.length = l1_1.length) ∧ Aside0 (Mid w a0_0 A0_1 l0_1.length c0_1 gd (.slice A4 l1_1.length c4) rs w'))
    case atStart => exact ⟨0, a1_0, l1_1, rfl, rfl, H, ⟨Nat.le_refl _⟩, ⟨rfl⟩, MDL⟩
    case round =>
      clear H MDL
      obtain ⟨i, at_, rs, rfl, rfl, H, HK, HL, MD⟩ := hrel
      cases gk with
      | zero => exact absurd H.out (by simp [counter_run.l0])
      | succ k1 =>
        have h := H.out
        simp only [counter_run.l0] at h
        clear H
        by_cases c1 : i < a2
        · rw [if_pos c1] at h
          have d1 : decide (i < a2) = true := decide_eq_true c1
          clear c1
          by_cases c2 : 0 ≤ at_ ∧ at_ < (l0_1.length : Int)
          · rw [if_pos c2] at h
            obtain ⟨y0, y1⟩ := c2
            obtain ⟨ad, e, hx0, hx1, hx2, hx3⟩ := at_T35 HR0.out at_ y0 y1
            cases e
            replace hx0 := (MD.out.bel.cell (World.block_lt_of_cell? w _ hx0)).trans hx0
            replace hx1 := (MD.out.bel.cell (World.block_lt_of_cell? w _ hx1)).trans hx1
            replace hx2 := (MD.out.bel.cell (World.block_lt_of_cell? w _ hx2)).trans hx2
            replace hx3 := (MD.out.bel.cell (World.block_lt_of_cell? w _ hx3)).trans hx3
            generalize rd_T35 l0_1 at_ = ru at h hx0 hx1 hx2 hx3
            have q1 : wr.cell? ⟨w.heap.size, 1, none⟩ = some (.slice (some ad) l0_1.length c0_1) := (blk_cell MD.out.b0 1).trans rfl
            by_cases c3 : ru.f0 = 2
            · rw [if_pos c3] at h
              have d3 : (ru.f0 == 2) = true := beq_iff_eq.mpr c3
              clear c3
              simp only [Option.some.injEq, Prod.mk.injEq] at h
              obtain ⟨rfl, rfl, rfl, rfl⟩ := h
              go_wp2_with ((with_reducible refine gate_dst (N := 15) rfl ?_); (try (refine gate_guard (by rfl) ?_; dsimp only)); refine box_event ?hg (N := 15) ?hd (cs := #[.int .i64 0, .int .i64 0, .int .i64 0, .int .i64 0]) (t := 35) ?hr ?_; (case hd => rfl); (case hg => rfl); (case hr => first | (go_simp; done) | (go_simp; rfl)); intro gx hg w5 hbox hb; have MD5 := Aside0.mk (MD.out.below hb); have BX := Aside0.mk hbox; have GX : Aside0 (w.heap.size + 1 + 1 < gx) := ⟨by rw [hg]; exact blk_lt MD.out.b2⟩; have GD : Aside0 (gd ≠ gx) := ⟨fun h => Nat.ne_of_lt (blk_lt MD.out.bd) (h.trans hg)⟩; have gn1 : w.heap.size + 1 + 1 ≠ gx := Nat.ne_of_lt GX.out; have gn2 : gx ≠ w.heap.size + 1 + 1 := Nat.ne_of_gt GX.out; have hc0 : w5.cell? ⟨gx, 0, none⟩ = some (.int .i64 0) := (blk_cell hbox 0).trans rfl; have hc1 : w5.cell? ⟨gx, 1, none⟩ = some (.int .i64 0) := (blk_cell hbox 1).trans rfl; have hc2 : w5.cell? ⟨gx, 2, none⟩ = some (.int .i64 0) := (blk_cell hbox 2).trans rfl; have hc3 : w5.cell? ⟨gx, 3, none⟩ = some (.int .i64 0) := (blk_cell hbox 3).trans rfl; have hf0 := blk_frozen hbox 0; have hf1 := blk_frozen hbox 1; have hf2 := blk_frozen hbox 2; have hf3 := blk_frozen hbox 3; clear hb hbox hg; have e0 : w5.cell? ⟨w.heap.size + 1 + 1, 0, none⟩ = some (.int .i64 0) := (blk_cell MD5.out.b2 0).trans rfl; have e1 : w5.cell? ⟨w.heap.size + 1 + 1, 1, none⟩ = some (.slice none 0 0) := (blk_cell MD5.out.b2 1).trans rfl; have k0 := blk_frozen MD5.out.b2 0; have k1_ := blk_frozen MD5.out.b2 1)
              obtain ⟨mw, qw⟩ := MD5.out.x4 BX.out GX.out GD.out (.int .i64 ru.f0) (.int .i64 ru.f1) (.int .i64 ru.f2) (.int .i64 ru.f3)
              obtain ⟨o1, o2, o3⟩ := mw.out (.int .i64 at_) (.slice A4 l1_1.length c4)
              refine bodyPost_ret (results_ctt rfl _ _ (w.heap.size + 1 + 1) 29 #[.int .i64 at_, .slice A4 l1_1.length c4] (0, 0) _ rfl o1 Try.underlying29 rfl (by kernel_rfl)) rfl ?_
              exact ⟨_, rfl, o3, o2⟩
            · rw [if_neg c3] at h
              have d3 : (ru.f0 == 2) = false := beq_eq_false_iff_ne.mpr c3
              clear c3
              by_cases c4_ : 0 ≤ ru.f1 ∧ ru.f1 < (rs.length : Int)
              · rw [if_pos c4_] at h
                obtain ⟨y2, y3⟩ := c4_
                obtain ⟨g, cap, e, -, -, -⟩ := Kd.R_form MD.out.row (by omega)
                injection e with e1 e2 e3
                subst e1
                subst e3
                clear e2
                have y3' : ru.f1 < (l1_1.length : Int) := by have := HL.out; omega
                clear y3
                have Y2 := Aside0.mk y2
                have Y3 := Aside0.mk y3'
                clear y2 y3'
                have H := Aside0.mk h
                clear h
                go_wp2_with ((with_reducible refine gate_dst (N := 15) rfl ?_); (try (refine gate_guard (by rfl) ?_; dsimp only)); refine box_event ?hg (N := 15) ?hd (cs := #[.int .i64 0, .int .i64 0, .int .i64 0, .int .i64 0]) (t := 35) ?hr ?_; (case hd => rfl); (case hg => rfl); (case hr => first | (go_simp; done) | (go_simp; rfl)); intro gx hg w5 hbox hb; have MD5 := Aside0.mk (MD.out.below hb); have BX := Aside0.mk hbox; have GX : Aside0 (w.heap.size + 1 + 1 < gx) := ⟨by rw [hg]; exact blk_lt MD.out.b2⟩; have GD : Aside0 (gd ≠ gx) := ⟨fun h => Nat.ne_of_lt (blk_lt MD.out.bd) (h.trans hg)⟩; have gn1 : w.heap.size + 1 + 1 ≠ gx := Nat.ne_of_lt GX.out; have gn2 : gx ≠ w.heap.size + 1 + 1 := Nat.ne_of_gt GX.out; have hc0 : w5.cell? ⟨gx, 0, none⟩ = some (.int .i64 0) := (blk_cell hbox 0).trans rfl; have hc1 : w5.cell? ⟨gx, 1, none⟩ = some (.int .i64 0) := (blk_cell hbox 1).trans rfl; have hc2 : w5.cell? ⟨gx, 2, none⟩ = some (.int .i64 0) := (blk_cell hbox 2).trans rfl; have hc3 : w5.cell? ⟨gx, 3, none⟩ = some (.int .i64 0) := (blk_cell hbox 3).trans rfl; have hf0 := blk_frozen hbox 0; have hf1 := blk_frozen hbox 1; have hf2 := blk_frozen hbox 2; have hf3 := blk_frozen hbox 3; clear hb hbox hg)
                obtain ⟨mw, qw⟩ := MD5.out.x4 BX.out GX.out GD.out (.int .i64 ru.f0) (.int .i64 ru.f1) (.int .i64 ru.f2) (.int .i64 ru.f3)
                have MW := Aside0.mk mw
                have QW := Aside0.mk qw
                clear mw qw MD5 BX hc0 hc1 hc2 hc3 hf0 hf1 hf2 hf3 hx0 hx1 hx2 hx3 q1 MD
                generalize (((w5.setCell ⟨gx, 0, none⟩ (.int .i64 ru.f0)).setCell ⟨gx, 1, none⟩ (.int .i64 ru.f1)).setCell ⟨gx, 2, none⟩ (.int .i64 ru.f2)).setCell ⟨gx, 3, none⟩ (.int .i64 ru.f3) = W9 at MW QW ⊢
                have h := H.out
                clear H
                by_cases c5 : ru.f0 = 0
                · rw [if_pos c5] at h
                  rw [c5] at QW
                  clear d3 c5
                  by_cases c6 : rd rs ru.f1 = 1152921504606846976
                  · rw [if_pos c6] at h
                    simp only [Option.some.injEq, Prod.mk.injEq] at h
                    obtain ⟨rfl, rfl, rfl, rfl⟩ := h
                    have C6 := Aside0.mk c6
                    clear c6
                    refine start_ (n := 12) (S := fun w' => Mid w a0_0 (some ad) l0_1.length c0_1 gd (.slice (some ⟨g, 0, none⟩) l1_1.length c4) rs w' ∧ w'.heap[gx]? = some (.cells #[.int .i64 0, .int .i64 ru.f1, .int .i64 ru.f2, .int .i64 ru.f3] 35 (0, 0))) (ds := [6]) #[false, false, false, false, false, false, false, false, false, false, false, false] (by kernel_rfl) rfl rfl ⟨MW.out.drew, blk_drew QW.out⟩ (fun hHeld => ?_)
                    clear MW QW
                    generalize W9.drew = wa at hHeld ⊢
                    refine pure_ (i := 0) (N := some 41) (v := ?_) (a' := ?_) #[true, false, false, false, false, false, false, false, false, false, false, false] rfl rfl (by kernel_rfl) (fun _ _ _ h => h) (Or.inl ⟨by rfl, ?_⟩) ?_ ?_
                    rotate_left
                    · intro w'; go_simp; with_reducible rfl
                    rotate_left
                    · simp only [Act.put, List.setIfInBounds_toArray, List.set_cons_zero, List.set_cons_succ, i64_w, i32_w]; rfl
                    refine take_ (i := 1) (N := some 42) (v := ?_) (a' := ?_) #[true, true, false, false, false, false, false, false, false, false, false, false] rfl rfl (by kernel_rfl) (fun _ _ _ h => h) (Or.inl ⟨by rfl, ?_⟩) hHeld ?_ ?_
                    rotate_left
                    · rintro w' ⟨hm, hx⟩; have b1 : w'.cell? ⟨gx, 0, none⟩ = some (.int .i64 0) := (blk_cell hx 0).trans rfl; clear hm hx; go_simp; with_reducible rfl
                    rotate_left
                    · simp only [Act.put, List.setIfInBounds_toArray, List.set_cons_zero, List.set_cons_succ, i64_w, i32_w]; rfl
                    refine pure_ (i := 2) (N := some 43) (v := ?_) (a' := ?_) #[true, true, true, false, false, false, false, false, false, false, false, false] rfl rfl (by kernel_rfl) (fun _ _ _ h => h) (Or.inl ⟨by rfl, ?_⟩) ?_ ?_
                    rotate_left
                    · intro w'; go_simp; with_reducible rfl
                    rotate_left
                    · simp only [Act.put, List.setIfInBounds_toArray, List.set_cons_zero, List.set_cons_succ, i64_w, i32_w]; rfl
                    refine take_ (i := 3) (N := some 44) (v := ?_) (a' := ?_) #[true, true, true, true, false, false, false, false, false, false, false, false] rfl rfl (by kernel_rfl) (fun _ _ _ h => h) (Or.inl ⟨by rfl, ?_⟩) hHeld ?_ ?_
                    rotate_left
                    · rintro w' ⟨hm, hx⟩; have b1 : w'.cell? ⟨gd, 0, none⟩ = some (.func (.func 37) #[] #[]) := (blk_cell hm.bd 0).trans rfl; clear hm hx; go_simp; with_reducible rfl
                    rotate_left
                    · simp only [Act.put, List.setIfInBounds_toArray, List.set_cons_zero, List.set_cons_succ, i64_w, i32_w]; rfl
                    refine take_ (i := 4) (N := some 45) (v := ?_) (a' := ?_) #[true, true, true, true, true, false, false, false, false, false, false, false] rfl rfl (by kernel_rfl) (fun _ _ _ h => h) (Or.inl ⟨by rfl, ?_⟩) hHeld ?_ ?_
                    rotate_left
                    · rintro w' ⟨hm, hx⟩; have b0 : w'.cell? ⟨gx, 0, none⟩ = some (.int .i64 0) := (blk_cell hx 0).trans rfl; have b1 : w'.cell? ⟨gx, 1, none⟩ = some (.int .i64 ru.f1) := (blk_cell hx 1).trans rfl; have b2 : w'.cell? ⟨gx, 2, none⟩ = some (.int .i64 ru.f2) := (blk_cell hx 2).trans rfl; have b3 : w'.cell? ⟨gx, 3, none⟩ = some (.int .i64 ru.f3) := (blk_cell hx 3).trans rfl; clear hm hx; go_simp; with_reducible rfl
                    rotate_left
                    · simp only [Act.put, List.setIfInBounds_toArray, List.set_cons_zero, List.set_cons_succ, i64_w, i32_w]; rfl
                    refine pure_ (i := 5) (N := some 46) (v := ?_) (a' := ?_) #[true, true, true, true, true, true, false, false, false, false, false, false] rfl rfl (by kernel_rfl) (fun _ _ _ h => h) (Or.inl ⟨by rfl, ?_⟩) ?_ ?_
                    rotate_left
                    · intro w'; go_simp; with_reducible rfl
                    rotate_left
                    · simp only [Act.put, List.setIfInBounds_toArray, List.set_cons_zero, List.set_cons_succ, i64_w, i32_w]; rfl
                    refine last_ (i := 6) (N := some 47) #[true, true, true, true, true, true, true, false, false, false, false, false] rfl rfl (by kernel_rfl) (by decide) (fun K hK => ?_)
                    refine goesV_ Try.func37 (by kernel_rfl) rfl #[.agg #[.int .i64 0, .int .i64 ru.f1, .int .i64 ru.f2, .int .i64 ru.f3], .slice (some ⟨g, 0, none⟩) l1_1.length c4] (by rfl) rfl rfl (by rfl) (by (try simp only [List.map_toArray, List.map_cons, List.map_nil]); first | done | rfl) ?_
                    refine (act_inc 0 ru.f1 ru.f2 ru.f3 g c4 l1_1.length rs w.heap.size (fun _ => True) wa hHeld.1.row Y2.out Y3.out).mono ?_
                    rintro e w6 ⟨w7, hb7, hq⟩
                    obtain ⟨-, rfl, rfl⟩ := hq.resolve_right (fun h => h.1 C6.out)
                    have M7 := Aside0.mk (hHeld.1.below hb7)
                    clear hb7 hHeld
                    refine ⟨.tuple #[.int .i64 0, .bool false], rfl, hK.out _ _ ?_⟩
                    clear hK K
                    refine norm_ (a' := ?_) ?_ ?_
                    rotate_left
                    · show Act.put _ (some 47) _ = _; simp only [Act.put, List.setIfInBounds_toArray, List.set_cons_zero, List.set_cons_succ, i64_w, i32_w]; rfl
                    refine pure_ (i := 7) (N := some 40) (v := ?_) (a' := ?_) #[true, true, true, true, true, true, true, true, false, false, false, false] rfl rfl (by kernel_rfl) (fun _ _ _ h => h) (Or.inl ⟨by rfl, ?_⟩) ?_ ?_
                    rotate_left
                    · intro w'; go_simp; with_reducible rfl
                    rotate_left
                    · simp only [Act.put, List.setIfInBounds_toArray, List.set_cons_zero, List.set_cons_succ, i64_w, i32_w]; rfl
                    refine pure_ (i := 8) (N := some 48) (v := ?_) (a' := ?_) #[true, true, true, true, true, true, true, true, true, false, false, false] rfl rfl (by kernel_rfl) (fun _ _ _ h => h) (Or.inl ⟨by rfl, ?_⟩) ?_ ?_
                    rotate_left
                    · intro w'; go_simp; with_reducible rfl
                    rotate_left
                    · simp only [Act.put, List.setIfInBounds_toArray, List.set_cons_zero, List.set_cons_succ, i64_w, i32_w]; rfl
                    refine pure_ (i := 9) (N := some 49) (v := ?_) (a' := ?_) #[true, true, true, true, true, true, true, true, true, true, false, false] rfl rfl (by kernel_rfl) (fun _ _ _ h => h) (Or.inl ⟨by rfl, ?_⟩) ?_ ?_
                    rotate_left
                    · intro w'; go_simp; with_reducible rfl
                    rotate_left
                    · simp only [Act.put, List.setIfInBounds_toArray, List.set_cons_zero, List.set_cons_succ, i64_w, i32_w]; rfl
                    refine pure_ (i := 10) (N := some 16) (v := ?_) (a' := ?_) #[true, true, true, true, true, true, true, true, true, true, true, false] rfl rfl (by kernel_rfl) (fun _ _ _ h => h) (Or.inl ⟨by rfl, ?_⟩) ?_ ?_
                    rotate_left
                    · intro w'; go_simp; with_reducible rfl
                    rotate_left
                    · simp only [Act.put, List.setIfInBounds_toArray, List.set_cons_zero, List.set_cons_succ, i64_w, i32_w]; rfl
                    refine pure_ (i := 11) (N := some 17) (v := ?_) (a' := ?_) #[true, true, true, true, true, true, true, true, true, true, true, true] rfl rfl (by kernel_rfl) (fun _ _ _ h => h) (Or.inl ⟨by rfl, ?_⟩) ?_ ?_
                    rotate_left
                    · intro w'; go_simp; with_reducible rfl
                    rotate_left
                    · simp only [Act.put, List.setIfInBounds_toArray, List.set_cons_zero, List.set_cons_succ, i64_w, i32_w]; rfl
                    refine done_ (by kernel_rfl) ?_
                    have e0 : w6.cell? ⟨w.heap.size + 1 + 1, 0, none⟩ = some (.int .i64 0) := (blk_cell M7.out.b2 0).trans rfl
                    have e1 : w6.cell? ⟨w.heap.size + 1 + 1, 1, none⟩ = some (.slice none 0 0) := (blk_cell M7.out.b2 1).trans rfl
                    have k0 := blk_frozen M7.out.b2 0
                    have k1_ := blk_frozen M7.out.b2 1
                    go_wp2_with fail
                    obtain ⟨o1, o2, -⟩ := M7.out.out (.int .i64 0) (.slice none 0 0)
                    refine bodyPost_ret (results_ctt rfl _ _ (w.heap.size + 1 + 1) 29 #[.int .i64 0, .slice none 0 0] (0, 0) _ rfl o1 Try.underlying29 rfl (by kernel_rfl)) rfl ?_
                    exact ⟨_, rfl, Kd.R_nil _ _ _ _ _, o2⟩
                  · rw [if_neg c6] at h
                    have H := Aside0.mk h
                    have C6 := Aside0.mk c6
                    clear c6 h
                    refine start_ (n := 12) (S := fun w' => Mid w a0_0 (some ad) l0_1.length c0_1 gd (.slice (some ⟨g, 0, none⟩) l1_1.length c4) rs w' ∧ w'.heap[gx]? = some (.cells #[.int .i64 0, .int .i64 ru.f1, .int .i64 ru.f2, .int .i64 ru.f3] 35 (0, 0))) (ds := [6]) #[false, false, false, false, false, false, false, false, false, false, false, false] (by kernel_rfl) rfl rfl ⟨MW.out.drew, blk_drew QW.out⟩ (fun hHeld => ?_)
                    clear MW QW
                    generalize W9.drew = wa at hHeld ⊢
                    refine pure_ (i := 0) (N := some 41) (v := ?_) (a' := ?_) #[true, false, false, false, false, false, false, false, false, false, false, false] rfl rfl (by kernel_rfl) (fun _ _ _ h => h) (Or.inl ⟨by rfl, ?_⟩) ?_ ?_
                    rotate_left
                    · intro w'; go_simp; with_reducible rfl
                    rotate_left
                    · simp only [Act.put, List.setIfInBounds_toArray, List.set_cons_zero, List.set_cons_succ, i64_w, i32_w]; rfl
                    refine take_ (i := 1) (N := some 42) (v := ?_) (a' := ?_) #[true, true, false, false, false, false, false, false, false, false, false, false] rfl rfl (by kernel_rfl) (fun _ _ _ h => h) (Or.inl ⟨by rfl, ?_⟩) hHeld ?_ ?_
                    rotate_left
                    · rintro w' ⟨hm, hx⟩; have b1 : w'.cell? ⟨gx, 0, none⟩ = some (.int .i64 0) := (blk_cell hx 0).trans rfl; clear hm hx; go_simp; with_reducible rfl
                    rotate_left
                    · simp only [Act.put, List.setIfInBounds_toArray, List.set_cons_zero, List.set_cons_succ, i64_w, i32_w]; rfl
                    refine pure_ (i := 2) (N := some 43) (v := ?_) (a' := ?_) #[true, true, true, false, false, false, false, false, false, false, false, false] rfl rfl (by kernel_rfl) (fun _ _ _ h => h) (Or.inl ⟨by rfl, ?_⟩) ?_ ?_
                    rotate_left
                    · intro w'; go_simp; with_reducible rfl
                    rotate_left
                    · simp only [Act.put, List.setIfInBounds_toArray, List.set_cons_zero, List.set_cons_succ, i64_w, i32_w]; rfl
                    refine take_ (i := 3) (N := some 44) (v := ?_) (a' := ?_) #[true, true, true, true, false, false, false, false, false, false, false, false] rfl rfl (by kernel_rfl) (fun _ _ _ h => h) (Or.inl ⟨by rfl, ?_⟩) hHeld ?_ ?_
                    rotate_left
                    · rintro w' ⟨hm, hx⟩; have b1 : w'.cell? ⟨gd, 0, none⟩ = some (.func (.func 37) #[] #[]) := (blk_cell hm.bd 0).trans rfl; clear hm hx; go_simp; with_reducible rfl
                    rotate_left
                    · simp only [Act.put, List.setIfInBounds_toArray, List.set_cons_zero, List.set_cons_succ, i64_w, i32_w]; rfl
                    refine take_ (i := 4) (N := some 45) (v := ?_) (a' := ?_) #[true, true, true, true, true, false, false, false, false, false, false, false] rfl rfl (by kernel_rfl) (fun _ _ _ h => h) (Or.inl ⟨by rfl, ?_⟩) hHeld ?_ ?_
                    rotate_left
                    · rintro w' ⟨hm, hx⟩; have b0 : w'.cell? ⟨gx, 0, none⟩ = some (.int .i64 0) := (blk_cell hx 0).trans rfl; have b1 : w'.cell? ⟨gx, 1, none⟩ = some (.int .i64 ru.f1) := (blk_cell hx 1).trans rfl; have b2 : w'.cell? ⟨gx, 2, none⟩ = some (.int .i64 ru.f2) := (blk_cell hx 2).trans rfl; have b3 : w'.cell? ⟨gx, 3, none⟩ = some (.int .i64 ru.f3) := (blk_cell hx 3).trans rfl; clear hm hx; go_simp; with_reducible rfl
                    rotate_left
                    · simp only [Act.put, List.setIfInBounds_toArray, List.set_cons_zero, List.set_cons_succ, i64_w, i32_w]; rfl
                    refine pure_ (i := 5) (N := some 46) (v := ?_) (a' := ?_) #[true, true, true, true, true, true, false, false, false, false, false, false] rfl rfl (by kernel_rfl) (fun _ _ _ h => h) (Or.inl ⟨by rfl, ?_⟩) ?_ ?_
                    rotate_left
                    · intro w'; go_simp; with_reducible rfl
                    rotate_left
                    · simp only [Act.put, List.setIfInBounds_toArray, List.set_cons_zero, List.set_cons_succ, i64_w, i32_w]; rfl
                    refine last_ (i := 6) (N := some 47) #[true, true, true, true, true, true, true, false, false, false, false, false] rfl rfl (by kernel_rfl) (by decide) (fun K hK => ?_)
                    refine goesV_ Try.func37 (by kernel_rfl) rfl #[.agg #[.int .i64 0, .int .i64 ru.f1, .int .i64 ru.f2, .int .i64 ru.f3], .slice (some ⟨g, 0, none⟩) l1_1.length c4] (by rfl) rfl rfl (by rfl) (by (try simp only [List.map_toArray, List.map_cons, List.map_nil]); first | done | rfl) ?_
                    refine (act_inc 0 ru.f1 ru.f2 ru.f3 g c4 l1_1.length rs w.heap.size (fun _ => True) wa hHeld.1.row Y2.out Y3.out).mono ?_
                    rintro e w6 ⟨w7, hb7, hq⟩
                    obtain ⟨-, rfl, rfl⟩ := hq.resolve_left (fun h => C6.out h.1)
                    have M7 := Aside0.mk (hHeld.1.below hb7)
                    clear hb7 hHeld
                    refine ⟨.tuple #[.int .i64 ru.f2, .bool true], rfl, hK.out _ _ ?_⟩
                    clear hK K
                    refine norm_ (a' := ?_) ?_ ?_
                    rotate_left
                    · show Act.put _ (some 47) _ = _; simp only [Act.put, List.setIfInBounds_toArray, List.set_cons_zero, List.set_cons_succ, i64_w, i32_w]; rfl
                    refine pure_ (i := 7) (N := some 40) (v := ?_) (a' := ?_) #[true, true, true, true, true, true, true, true, false, false, false, false] rfl rfl (by kernel_rfl) (fun _ _ _ h => h) (Or.inl ⟨by rfl, ?_⟩) ?_ ?_
                    rotate_left
                    · intro w'; go_simp; with_reducible rfl
                    rotate_left
                    · simp only [Act.put, List.setIfInBounds_toArray, List.set_cons_zero, List.set_cons_succ, i64_w, i32_w]; rfl
                    refine pure_ (i := 8) (N := some 48) (v := ?_) (a' := ?_) #[true, true, true, true, true, true, true, true, true, false, false, false] rfl rfl (by kernel_rfl) (fun _ _ _ h => h) (Or.inl ⟨by rfl, ?_⟩) ?_ ?_
                    rotate_left
                    · intro w'; go_simp; with_reducible rfl
                    rotate_left
                    · simp only [Act.put, List.setIfInBounds_toArray, List.set_cons_zero, List.set_cons_succ, i64_w, i32_w]; rfl
                    refine pure_ (i := 9) (N := some 49) (v := ?_) (a' := ?_) #[true, true, true, true, true, true, true, true, true, true, false, false] rfl rfl (by kernel_rfl) (fun _ _ _ h => h) (Or.inl ⟨by rfl, ?_⟩) ?_ ?_
                    rotate_left
                    · intro w'; go_simp; with_reducible rfl
                    rotate_left
                    · simp only [Act.put, List.setIfInBounds_toArray, List.set_cons_zero, List.set_cons_succ, i64_w, i32_w]; rfl
                    refine pure_ (i := 10) (N := some 16) (v := ?_) (a' := ?_) #[true, true, true, true, true, true, true, true, true, true, true, false] rfl rfl (by kernel_rfl) (fun _ _ _ h => h) (Or.inl ⟨by rfl, ?_⟩) ?_ ?_
                    rotate_left
                    · intro w'; go_simp; with_reducible rfl
                    rotate_left
                    · simp only [Act.put, List.setIfInBounds_toArray, List.set_cons_zero, List.set_cons_succ, i64_w, i32_w]; rfl
                    refine pure_ (i := 11) (N := some 17) (v := ?_) (a' := ?_) #[true, true, true, true, true, true, true, true, true, true, true, true] rfl rfl (by kernel_rfl) (fun _ _ _ h => h) (Or.inl ⟨by rfl, ?_⟩) ?_ ?_
                    rotate_left
                    · intro w'; go_simp; with_reducible rfl
                    rotate_left
                    · simp only [Act.put, List.setIfInBounds_toArray, List.set_cons_zero, List.set_cons_succ, i64_w, i32_w]; rfl
                    refine done_ (by kernel_rfl) ?_
                    have M8 := Aside0.mk (M7.out.put ru.f1 Y2.out Y3.out (wrap64 (rd rs ru.f1 + 1)))
                    clear M7
                    generalize w7.setCell ⟨g, ru.f1.toNat, none⟩ (.int .i64 (wrap64 (rd rs ru.f1 + 1))) = w8 at M8 ⊢
                    go_wp2_with (refine goesVL_ (some 56) rfl rfl Try.func24 (by kernel_rfl) rfl #[.int .i64 ru.f2] rfl (by rfl) (by simp [Act.eval]) ?_; refine (never_calls ru.f2 _).mono ?_; rintro e w9 ⟨rfl, hb9⟩; refine ⟨_, rfl, ?_⟩; have M9 := Aside0.mk (M8.out.below hb9.below); clear hb9)
                    go_roundg k1
                    case measure => omega
                    case rel => exact ⟨wrap64 (i + 1), ru.f2, _, rfl, rfl, H, ⟨by have := HK.out; omega⟩, ⟨by rw [List.length_set]; exact HL.out⟩, M9⟩
                · rw [if_neg c5] at h
                  clear c5
                  by_cases c5 : ru.f0 = 1
                  · rw [if_pos c5] at h
                    rw [c5] at QW
                    clear d3 c5
                    by_cases c6 : rd rs ru.f1 = 0
                    · rw [if_pos c6] at h
                      have H := Aside0.mk h
                      have C6 := Aside0.mk c6
                      clear c6 h
                      refine start_ (n := 12) (S := fun w' => Mid w a0_0 (some ad) l0_1.length c0_1 gd (.slice (some ⟨g, 0, none⟩) l1_1.length c4) rs w' ∧ w'.heap[gx]? = some (.cells #[.int .i64 1, .int .i64 ru.f1, .int .i64 ru.f2, .int .i64 ru.f3] 35 (0, 0))) (ds := [6]) #[false, false, false, false, false, false, false, false, false, false, false, false] (by kernel_rfl) rfl rfl ⟨MW.out.drew, blk_drew QW.out⟩ (fun hHeld => ?_)
                      clear MW QW
                      generalize W9.drew = wa at hHeld ⊢
                      refine pure_ (i := 0) (N := some 41) (v := ?_) (a' := ?_) #[true, false, false, false, false, false, false, false, false, false, false, false] rfl rfl (by kernel_rfl) (fun _ _ _ h => h) (Or.inl ⟨by rfl, ?_⟩) ?_ ?_
                      rotate_left
                      · intro w'; go_simp; with_reducible rfl
                      rotate_left
                      · simp only [Act.put, List.setIfInBounds_toArray, List.set_cons_zero, List.set_cons_succ, i64_w, i32_w]; rfl
                      refine take_ (i := 1) (N := some 42) (v := ?_) (a' := ?_) #[true, true, false, false, false, false, false, false, false, false, false, false] rfl rfl (by kernel_rfl) (fun _ _ _ h => h) (Or.inl ⟨by rfl, ?_⟩) hHeld ?_ ?_
                      rotate_left
                      · rintro w' ⟨hm, hx⟩; have b1 : w'.cell? ⟨gx, 0, none⟩ = some (.int .i64 1) := (blk_cell hx 0).trans rfl; clear hm hx; go_simp; with_reducible rfl
                      rotate_left
                      · simp only [Act.put, List.setIfInBounds_toArray, List.set_cons_zero, List.set_cons_succ, i64_w, i32_w]; rfl
                      refine pure_ (i := 2) (N := some 43) (v := ?_) (a' := ?_) #[true, true, true, false, false, false, false, false, false, false, false, false] rfl rfl (by kernel_rfl) (fun _ _ _ h => h) (Or.inl ⟨by rfl, ?_⟩) ?_ ?_
                      rotate_left
                      · intro w'; go_simp; with_reducible rfl
                      rotate_left
                      · simp only [Act.put, List.setIfInBounds_toArray, List.set_cons_zero, List.set_cons_succ, i64_w, i32_w]; rfl
                      refine take_ (i := 3) (N := some 44) (v := ?_) (a' := ?_) #[true, true, true, true, false, false, false, false, false, false, false, false] rfl rfl (by kernel_rfl) (fun _ _ _ h => h) (Or.inl ⟨by rfl, ?_⟩) hHeld ?_ ?_
                      rotate_left
                      · rintro w' ⟨hm, hx⟩; have b1 : w'.cell? ⟨gd, 1, none⟩ = some (.func (.func 38) #[] #[]) := (blk_cell hm.bd 1).trans rfl; clear hm hx; go_simp; with_reducible rfl
                      rotate_left
                      · simp only [Act.put, List.setIfInBounds_toArray, List.set_cons_zero, List.set_cons_succ, i64_w, i32_w]; rfl
                      refine take_ (i := 4) (N := some 45) (v := ?_) (a' := ?_) #[true, true, true, true, true, false, false, false, false, false, false, false] rfl rfl (by kernel_rfl) (fun _ _ _ h => h) (Or.inl ⟨by rfl, ?_⟩) hHeld ?_ ?_
                      rotate_left
                      · rintro w' ⟨hm, hx⟩; have b0 : w'.cell? ⟨gx, 0, none⟩ = some (.int .i64 1) := (blk_cell hx 0).trans rfl; have b1 : w'.cell? ⟨gx, 1, none⟩ = some (.int .i64 ru.f1) := (blk_cell hx 1).trans rfl; have b2 : w'.cell? ⟨gx, 2, none⟩ = some (.int .i64 ru.f2) := (blk_cell hx 2).trans rfl; have b3 : w'.cell? ⟨gx, 3, none⟩ = some (.int .i64 ru.f3) := (blk_cell hx 3).trans rfl; clear hm hx; go_simp; with_reducible rfl
                      rotate_left
                      · simp only [Act.put, List.setIfInBounds_toArray, List.set_cons_zero, List.set_cons_succ, i64_w, i32_w]; rfl
                      refine pure_ (i := 5) (N := some 46) (v := ?_) (a' := ?_) #[true, true, true, true, true, true, false, false, false, false, false, false] rfl rfl (by kernel_rfl) (fun _ _ _ h => h) (Or.inl ⟨by rfl, ?_⟩) ?_ ?_
                      rotate_left
                      · intro w'; go_simp; with_reducible rfl
                      rotate_left
                      · simp only [Act.put, List.setIfInBounds_toArray, List.set_cons_zero, List.set_cons_succ, i64_w, i32_w]; rfl
                      refine last_ (i := 6) (N := some 47) #[true, true, true, true, true, true, true, false, false, false, false, false] rfl rfl (by kernel_rfl) (by decide) (fun K hK => ?_)
                      refine goesV_ Try.func38 (by kernel_rfl) rfl #[.agg #[.int .i64 1, .int .i64 ru.f1, .int .i64 ru.f2, .int .i64 ru.f3], .slice (some ⟨g, 0, none⟩) l1_1.length c4] (by rfl) rfl rfl (by rfl) (by (try simp only [List.map_toArray, List.map_cons, List.map_nil]); first | done | rfl) ?_
                      refine (act_dec 1 ru.f1 ru.f2 ru.f3 g c4 l1_1.length rs w.heap.size (fun _ => True) wa hHeld.1.row Y2.out Y3.out).mono ?_
                      rintro e w6 ⟨w7, hb7, hq⟩
                      obtain ⟨-, rfl, rfl⟩ := hq.resolve_right (fun h => h.1 C6.out)
                      have M7 := Aside0.mk (hHeld.1.below hb7)
                      clear hb7 hHeld
                      refine ⟨.tuple #[.int .i64 ru.f3, .bool true], rfl, hK.out _ _ ?_⟩
                      clear hK K
                      refine norm_ (a' := ?_) ?_ ?_
                      rotate_left
                      · show Act.put _ (some 47) _ = _; simp only [Act.put, List.setIfInBounds_toArray, List.set_cons_zero, List.set_cons_succ, i64_w, i32_w]; rfl
                      refine pure_ (i := 7) (N := some 40) (v := ?_) (a' := ?_) #[true, true, true, true, true, true, true, true, false, false, false, false] rfl rfl (by kernel_rfl) (fun _ _ _ h => h) (Or.inl ⟨by rfl, ?_⟩) ?_ ?_
                      rotate_left
                      · intro w'; go_simp; with_reducible rfl
                      rotate_left
                      · simp only [Act.put, List.setIfInBounds_toArray, List.set_cons_zero, List.set_cons_succ, i64_w, i32_w]; rfl
                      refine pure_ (i := 8) (N := some 48) (v := ?_) (a' := ?_) #[true, true, true, true, true, true, true, true, true, false, false, false] rfl rfl (by kernel_rfl) (fun _ _ _ h => h) (Or.inl ⟨by rfl, ?_⟩) ?_ ?_
                      rotate_left
                      · intro w'; go_simp; with_reducible rfl
                      rotate_left
                      · simp only [Act.put, List.setIfInBounds_toArray, List.set_cons_zero, List.set_cons_succ, i64_w, i32_w]; rfl
                      refine pure_ (i := 9) (N := some 49) (v := ?_) (a' := ?_) #[true, true, true, true, true, true, true, true, true, true, false, false] rfl rfl (by kernel_rfl) (fun _ _ _ h => h) (Or.inl ⟨by rfl, ?_⟩) ?_ ?_
                      rotate_left
                      · intro w'; go_simp; with_reducible rfl
                      rotate_left
                      · simp only [Act.put, List.setIfInBounds_toArray, List.set_cons_zero, List.set_cons_succ, i64_w, i32_w]; rfl
                      refine pure_ (i := 10) (N := some 16) (v := ?_) (a' := ?_) #[true, true, true, true, true, true, true, true, true, true, true, false] rfl rfl (by kernel_rfl) (fun _ _ _ h => h) (Or.inl ⟨by rfl, ?_⟩) ?_ ?_
                      rotate_left
                      · intro w'; go_simp; with_reducible rfl
                      rotate_left
                      · simp only [Act.put, List.setIfInBounds_toArray, List.set_cons_zero, List.set_cons_succ, i64_w, i32_w]; rfl
                      refine pure_ (i := 11) (N := some 17) (v := ?_) (a' := ?_) #[true, true, true, true, true, true, true, true, true, true, true, true] rfl rfl (by kernel_rfl) (fun _ _ _ h => h) (Or.inl ⟨by rfl, ?_⟩) ?_ ?_
                      rotate_left
                      · intro w'; go_simp; with_reducible rfl
                      rotate_left
                      · simp only [Act.put, List.setIfInBounds_toArray, List.set_cons_zero, List.set_cons_succ, i64_w, i32_w]; rfl
                      refine done_ (by kernel_rfl) ?_
                      have M8 := Aside0.mk M7.out
                      clear M7
                      go_wp2_with (refine goesVL_ (some 56) rfl rfl Try.func24 (by kernel_rfl) rfl #[.int .i64 ru.f3] rfl (by rfl) (by simp [Act.eval]) ?_; refine (never_calls ru.f3 _).mono ?_; rintro e w9 ⟨rfl, hb9⟩; refine ⟨_, rfl, ?_⟩; have M9 := Aside0.mk (M8.out.below hb9.below); clear hb9)
                      go_roundg k1
                      case measure => omega
                      case rel => exact ⟨wrap64 (i + 1), ru.f3, _, rfl, rfl, H, ⟨by have := HK.out; omega⟩, ⟨by exact HL.out⟩, M9⟩
                    · rw [if_neg c6] at h
                      have H := Aside0.mk h
                      have C6 := Aside0.mk c6
                      clear c6 h
                      refine start_ (n := 12) (S := fun w' => Mid w a0_0 (some ad) l0_1.length c0_1 gd (.slice (some ⟨g, 0, none⟩) l1_1.length c4) rs w' ∧ w'.heap[gx]? = some (.cells #[.int .i64 1, .int .i64 ru.f1, .int .i64 ru.f2, .int .i64 ru.f3] 35 (0, 0))) (ds := [6]) #[false, false, false, false, false, false, false, false, false, false, false, false] (by kernel_rfl) rfl rfl ⟨MW.out.drew, blk_drew QW.out⟩ (fun hHeld => ?_)
                      clear MW QW
                      generalize W9.drew = wa at hHeld ⊢
                      refine pure_ (i := 0) (N := some 41) (v := ?_) (a' := ?_) #[true, false, false, false, false, false, false, false, false, false, false, false] rfl rfl (by kernel_rfl) (fun _ _ _ h => h) (Or.inl ⟨by rfl, ?_⟩) ?_ ?_
                      rotate_left
                      · intro w'; go_simp; with_reducible rfl
                      rotate_left
                      · simp only [Act.put, List.setIfInBounds_toArray, List.set_cons_zero, List.set_cons_succ, i64_w, i32_w]; rfl
                      refine take_ (i := 1) (N := some 42) (v := ?_) (a' := ?_) #[true, true, false, false, false, false, false, false, false, false, false, false] rfl rfl (by kernel_rfl) (fun _ _ _ h => h) (Or.inl ⟨by rfl, ?_⟩) hHeld ?_ ?_
                      rotate_left
                      · rintro w' ⟨hm, hx⟩; have b1 : w'.cell? ⟨gx, 0, none⟩ = some (.int .i64 1) := (blk_cell hx 0).trans rfl; clear hm hx; go_simp; with_reducible rfl
                      rotate_left
                      · simp only [Act.put, List.setIfInBounds_toArray, List.set_cons_zero, List.set_cons_succ, i64_w, i32_w]; rfl
                      refine pure_ (i := 2) (N := some 43) (v := ?_) (a' := ?_) #[true, true, true, false, false, false, false, false, false, false, false, false] rfl rfl (by kernel_rfl) (fun _ _ _ h => h) (Or.inl ⟨by rfl, ?_⟩) ?_ ?_
                      rotate_left
                      · intro w'; go_simp; with_reducible rfl
                      rotate_left
                      · simp only [Act.put, List.setIfInBounds_toArray, List.set_cons_zero, List.set_cons_succ, i64_w, i32_w]; rfl
                      refine take_ (i := 3) (N := some 44) (v := ?_) (a' := ?_) #[true, true, true, true, false, false, false, false, false, false, false, false] rfl rfl (by kernel_rfl) (fun _ _ _ h => h) (Or.inl ⟨by rfl, ?_⟩) hHeld ?_ ?_
                      rotate_left
                      · rintro w' ⟨hm, hx⟩; have b1 : w'.cell? ⟨gd, 1, none⟩ = some (.func (.func 38) #[] #[]) := (blk_cell hm.bd 1).trans rfl; clear hm hx; go_simp; with_reducible rfl
                      rotate_left
                      · simp only [Act.put, List.setIfInBounds_toArray, List.set_cons_zero, List.set_cons_succ, i64_w, i32_w]; rfl
                      refine take_ (i := 4) (N := some 45) (v := ?_) (a' := ?_) #[true, true, true, true, true, false, false, false, false, false, false, false] rfl rfl (by kernel_rfl) (fun _ _ _ h => h) (Or.inl ⟨by rfl, ?_⟩) hHeld ?_ ?_
                      rotate_left
                      · rintro w' ⟨hm, hx⟩; have b0 : w'.cell? ⟨gx, 0, none⟩ = some (.int .i64 1) := (blk_cell hx 0).trans rfl; have b1 : w'.cell? ⟨gx, 1, none⟩ = some (.int .i64 ru.f1) := (blk_cell hx 1).trans rfl; have b2 : w'.cell? ⟨gx, 2, none⟩ = some (.int .i64 ru.f2) := (blk_cell hx 2).trans rfl; have b3 : w'.cell? ⟨gx, 3, none⟩ = some (.int .i64 ru.f3) := (blk_cell hx 3).trans rfl; clear hm hx; go_simp; with_reducible rfl
                      rotate_left
                      · simp only [Act.put, List.setIfInBounds_toArray, List.set_cons_zero, List.set_cons_succ, i64_w, i32_w]; rfl
                      refine pure_ (i := 5) (N := some 46) (v := ?_) (a' := ?_) #[true, true, true, true, true, true, false, false, false, false, false, false] rfl rfl (by kernel_rfl) (fun _ _ _ h => h) (Or.inl ⟨by rfl, ?_⟩) ?_ ?_
                      rotate_left
                      · intro w'; go_simp; with_reducible rfl
                      rotate_left
                      · simp only [Act.put, List.setIfInBounds_toArray, List.set_cons_zero, List.set_cons_succ, i64_w, i32_w]; rfl
                      refine last_ (i := 6) (N := some 47) #[true, true, true, true, true, true, true, false, false, false, false, false] rfl rfl (by kernel_rfl) (by decide) (fun K hK => ?_)
                      refine goesV_ Try.func38 (by kernel_rfl) rfl #[.agg #[.int .i64 1, .int .i64 ru.f1, .int .i64 ru.f2, .int .i64 ru.f3], .slice (some ⟨g, 0, none⟩) l1_1.length c4] (by rfl) rfl rfl (by rfl) (by (try simp only [List.map_toArray, List.map_cons, List.map_nil]); first | done | rfl) ?_
                      refine (act_dec 1 ru.f1 ru.f2 ru.f3 g c4 l1_1.length rs w.heap.size (fun _ => True) wa hHeld.1.row Y2.out Y3.out).mono ?_
                      rintro e w6 ⟨w7, hb7, hq⟩
                      obtain ⟨-, rfl, rfl⟩ := hq.resolve_left (fun h => C6.out h.1)
                      have M7 := Aside0.mk (hHeld.1.below hb7)
                      clear hb7 hHeld
                      refine ⟨.tuple #[.int .i64 ru.f2, .bool true], rfl, hK.out _ _ ?_⟩
                      clear hK K
                      refine norm_ (a' := ?_) ?_ ?_
                      rotate_left
                      · show Act.put _ (some 47) _ = _; simp only [Act.put, List.setIfInBounds_toArray, List.set_cons_zero, List.set_cons_succ, i64_w, i32_w]; rfl
                      refine pure_ (i := 7) (N := some 40) (v := ?_) (a' := ?_) #[true, true, true, true, true, true, true, true, false, false, false, false] rfl rfl (by kernel_rfl) (fun _ _ _ h => h) (Or.inl ⟨by rfl, ?_⟩) ?_ ?_
                      rotate_left
                      · intro w'; go_simp; with_reducible rfl
                      rotate_left
                      · simp only [Act.put, List.setIfInBounds_toArray, List.set_cons_zero, List.set_cons_succ, i64_w, i32_w]; rfl
                      refine pure_ (i := 8) (N := some 48) (v := ?_) (a' := ?_) #[true, true, true, true, true, true, true, true, true, false, false, false] rfl rfl (by kernel_rfl) (fun _ _ _ h => h) (Or.inl ⟨by rfl, ?_⟩) ?_ ?_
                      rotate_left
                      · intro w'; go_simp; with_reducible rfl
                      rotate_left
                      · simp only [Act.put, List.setIfInBounds_toArray, List.set_cons_zero, List.set_cons_succ, i64_w, i32_w]; rfl
                      refine pure_ (i := 9) (N := some 49) (v := ?_) (a' := ?_) #[true, true, true, true, true, true, true, true, true, true, false, false] rfl rfl (by kernel_rfl) (fun _ _ _ h => h) (Or.inl ⟨by rfl, ?_⟩) ?_ ?_
                      rotate_left
                      · intro w'; go_simp; with_reducible rfl
                      rotate_left
                      · simp only [Act.put, List.setIfInBounds_toArray, List.set_cons_zero, List.set_cons_succ, i64_w, i32_w]; rfl
                      refine pure_ (i := 10) (N := some 16) (v := ?_) (a' := ?_) #[true, true, true, true, true, true, true, true, true, true, true, false] rfl rfl (by kernel_rfl) (fun _ _ _ h => h) (Or.inl ⟨by rfl, ?_⟩) ?_ ?_
                      rotate_left
                      · intro w'; go_simp; with_reducible rfl
                      rotate_left
                      · simp only [Act.put, List.setIfInBounds_toArray, List.set_cons_zero, List.set_cons_succ, i64_w, i32_w]; rfl
                      refine pure_ (i := 11) (N := some 17) (v := ?_) (a' := ?_) #[true, true, true, true, true, true, true, true, true, true, true, true] rfl rfl (by kernel_rfl) (fun _ _ _ h => h) (Or.inl ⟨by rfl, ?_⟩) ?_ ?_
                      rotate_left
                      · intro w'; go_simp; with_reducible rfl
                      rotate_left
                      · simp only [Act.put, List.setIfInBounds_toArray, List.set_cons_zero, List.set_cons_succ, i64_w, i32_w]; rfl
                      refine done_ (by kernel_rfl) ?_
                      have M8 := Aside0.mk (M7.out.put ru.f1 Y2.out Y3.out (wrap64 (rd rs ru.f1 - 1)))
                      clear M7
                      generalize w7.setCell ⟨g, ru.f1.toNat, none⟩ (.int .i64 (wrap64 (rd rs ru.f1 - 1))) = w8 at M8 ⊢
                      go_wp2_with (refine goesVL_ (some 56) rfl rfl Try.func24 (by kernel_rfl) rfl #[.int .i64 ru.f2] rfl (by rfl) (by simp [Act.eval]) ?_; refine (never_calls ru.f2 _).mono ?_; rintro e w9 ⟨rfl, hb9⟩; refine ⟨_, rfl, ?_⟩; have M9 := Aside0.mk (M8.out.below hb9.below); clear hb9)
                      go_roundg k1
                      case measure => omega
                      case rel => exact ⟨wrap64 (i + 1), ru.f2, _, rfl, rfl, H, ⟨by have := HK.out; omega⟩, ⟨by rw [List.length_set]; exact HL.out⟩, M9⟩
                  · rw [if_neg c5] at h
                    cases h
              · rw [if_neg c4_] at h
                cases h
          · rw [if_neg c2] at h
            cases h
        · rw [if_neg c1] at h
          have d1 : decide (i < a2) = false := decide_eq_false c1
          clear c1
          simp only [Option.some.injEq, Prod.mk.injEq] at h
          obtain ⟨rfl, rfl, rfl, rfl⟩ := h
          have e0 : wr.cell? ⟨w.heap.size + 1 + 1, 0, none⟩ = some (.int .i64 0) := (blk_cell MD.out.b2 0).trans rfl
          have e1 : wr.cell? ⟨w.heap.size + 1 + 1, 1, none⟩ = some (.slice none 0 0) := (blk_cell MD.out.b2 1).trans rfl
          have k0 := blk_frozen MD.out.b2 0
          have k1_ := blk_frozen MD.out.b2 1
          go_wp2_with fail
          obtain ⟨o1, o2, o3⟩ := MD.out.out (.int .i64 at_) (.slice A4 l1_1.length c4)
          refine bodyPost_ret (results_ctt rfl _ _ (w.heap.size + 1 + 1) 29 #[.int .i64 at_, .slice A4 l1_1.length c4] (0, 0) _ rfl o1 Try.underlying29 rfl (by kernel_rfl)) rfl ?_
          exact ⟨_, rfl, o3, o2⟩
  · have h := H.out
    simp only [counter_run.f, if_neg hW] at h
    cases h

/-! ### counter_never: function 24 -/
def counter_never.f (a0 : Int) : Option (Bool) := some false
set_option maxHeartbeats 8000000 in
set_option maxRecDepth 100000 in
theorem counter_never.calls (a0 : Int) (r : Bool) (w : World) (h : counter_never.f a0 = some r) :
  Calls Try.prog 24 #[.int .i64 a0] w fun e w' => e = .returned (.bool r) ∧ Drawn0 w w' := by
 have H : (some false) = some r := h
 clear h
 obtain rfl := Option.some.inj H
 go_enter Try.func24, Try.ntmps24
 go_wp2
 go_ret
 exact ⟨by first | rfl | (simp; done) | (simp [*]; done), by repeat (first | exact Drawn0.refl _ | apply Drawn0.step)⟩

end Go.Proofs.Ytcdmgeceahmngaa.GC
