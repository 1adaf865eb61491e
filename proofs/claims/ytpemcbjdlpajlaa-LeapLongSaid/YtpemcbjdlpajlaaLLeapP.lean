/- The program's single leap. -/
import Derived.Test.YtpemcbjdlpajlaaLLeap
import Derived.Test.YtpemcbjdlpajlaaG1x5
import Derived.Test.YtpemcbjdlpajlaaG1x7
import Derived.Test.YtpemcbjdlpajlaaG1x8
namespace Go.Proofs.Ytpemcbjdlpajlaa.Pure
open Go.RowKit Go.Proofs.YtpemcbjdlpajlaaW.PrintWords Go.Proofs.YtpemcbjdlpajlaaW.PrintLast Go.Proofs.YtpemcbjdlpajlaaW.PrintMore Go.Proofs.Ytpemcbjdlpajlaa.G1
set_option linter.unusedVariables false
set_option linter.unusedSimpArgs false

theorem VL.mem {s : Int} {l : List S62} (h : VL s l) : ∀ x ∈ l, 1 ≤ x.f1 ∧ x.f1 ≤ 1152921504606846976 := by
  intro x hx
  obtain ⟨i, hi, rfl⟩ := List.getElem_of_mem hx
  have := h.2.1 i (by omega) (by omega)
  simp only [OkRun, rd_T62, Int.toNat_natCast, List.getD_eq_getElem?_getD, List.getElem?_eq_getElem hi, Option.getD_some] at this
  exact ⟨this.2.2.1, this.2.2.2.1⟩
theorem VL.len {s : Int} {l : List S62} (h : VL s l) : l.length ≤ 2000 := by have := h.1; omega
theorem mv_some {r : S37} {st sy s : Int} {A A' : List S62} {k : Int} (h : VL s A) (e : mv r st sy A = some (k, A')) : 1 ≤ k ∧ k ≤ 1152921504606846977 ∧ A'.length ≤ A.length ∧ ∀ x ∈ A', x ∈ A := by
  unfold mv at e
  split at e
  · cases A with
    | nil =>
      simp only at e
      split at e
      · cases e
      · simp only [Option.some.injEq, Prod.mk.injEq] at e
        obtain ⟨rfl, rfl⟩ := e
        simp
    | cons x t =>
      simp only at e
      have := h.mem x (by simp)
      split at e
      · simp only [Option.some.injEq, Prod.mk.injEq] at e
        obtain ⟨rfl, rfl⟩ := e
        rw [wrap_id (by omega) (by omega)]
        exact ⟨by omega, by omega, by simp, fun y hy => by simp [hy]⟩
      · simp only [Option.some.injEq, Prod.mk.injEq] at e
        obtain ⟨rfl, rfl⟩ := e
        exact ⟨by omega, by omega, Nat.le_refl _, fun y hy => hy⟩
  · simp only [Option.some.injEq, Prod.mk.injEq] at e
    obtain ⟨rfl, rfl⟩ := e
    exact ⟨by omega, by omega, Nat.le_refl _, fun y hy => hy⟩
theorem VM.at {n s : Int} {Q : List (List S37)} (h : VM n s Q) {st sy : Int} (h0 : 0 ≤ st) (h1 : st < n) (h2 : 0 ≤ sy) (h3 : sy < s) : st < (Q.length : Int) ∧ sy < ((rd_L2 Q st).length : Int) ∧ OkRule n s (rule Q st sy) := by
  have := h.2.2.2.2.2 st h0 h1
  exact ⟨by have := h.2.2.2.2.1; omega, by have := this.1; omega, this.2 sy h2 h3⟩
theorem out_len {r : S37} {pos k : Int} {A B : List S62} (hA : A.length ≤ 2000) (hB : B.length ≤ 2000) : (out r pos k A B).2.2.2.1.length ≤ 2001 ∧ (out r pos k A B).2.2.2.2.length ≤ 2001 := by
  have h1 := push_len B r.f0 k
  have h2 := pop_len A
  unfold out
  split <;> simp only <;> omega
theorem ahead_VL {r : S37} {s : Int} {L R : List S62} (vL : VL s L) (vR : VL s R) : VL s (ahead r L R) := by unfold ahead; split <;> assumption
theorem copied_ev (st pos sy : Int) (L R : List S62) (hL : L.length ≤ 2000) (hR : R.length ≤ 2000) : leap_copied.f st pos sy L R = some (st, pos, sy, L, R) := by
  unfold leap_copied.f
  rw [run_ev L (by omega), run_ev R (by omega)]
  rfl
/-- The program's single leap, where the tape is valid and has not stopped. -/
theorem leap_Leap_ev (n s : Int) (Q : List (List S37)) (st pos sy : Int) (L R : List S62) (vm : VM n s Q) (vt : VT n s st pos sy L R) (h0 : 0 ≤ st) :
    match mv (rule Q st sy) st sy (ahead (rule Q st sy) L R) with
      | none => Ev (fun k => leap_Leap.f k n s Q st pos sy L R) (st, pos, sy, L, R, 0, true, 0)
      | some (k, A) => let o := out (rule Q st sy) pos k A (ahead (rule Q st sy) R L)
        (VT n s o.1 o.2.1 o.2.2.1 o.2.2.2.1 o.2.2.2.2 → Ev (fun k => leap_Leap.f k n s Q st pos sy L R) (o.1, o.2.1, o.2.2.1, o.2.2.2.1, o.2.2.2.2, k, false, 0)) ∧
        (¬ VT n s o.1 o.2.1 o.2.2.1 o.2.2.2.1 o.2.2.2.2 → Ev (fun k => leap_Leap.f k n s Q st pos sy L R) (0, 0, 0, [], [], 0, false, 4)) := by
  obtain ⟨b1, b2, ok⟩ := vm.at h0 vt.2.1 vt.2.2.1 vt.2.2.2.1
  have vL := vt.2.2.2.2.2.2.1
  have vR := vt.2.2.2.2.2.2.2
  have e := leap_ev n s Q st pos sy L R h0 b1 vt.2.2.1 b2 vL.len vR.len
  have top : ∀ w r, Ev (fun k => leap_leap.f k n s Q st pos sy L R) w → Ev (fun k => if w.2.2.2.2.2.2 = true then ((leap_copied.f st pos sy L R).bind fun bt244 => (some (bt244.1, bt244.2.1, bt244.2.2.1, bt244.2.2.2.1, bt244.2.2.2.2, (0 : Int), true, (0 : Int)))) else ((leap_fits.f k n s w.1 w.2.1 w.2.2.1 w.2.2.2.1 w.2.2.2.2.1).bind fun t253 => (if t253 = true then (some (w.1, w.2.1, w.2.2.1, w.2.2.2.1, w.2.2.2.2.1, w.2.2.2.2.2.1, false, (0 : Int))) else (some (0, 0, 0, ([] : List S62), ([] : List S62), 0, false, 4))))) r → Ev (fun k => leap_Leap.f k n s Q st pos sy L R) r := by
    intro w r hw h
    unfold leap_Leap.f
    refine Ev.bind' ((leap_Fits_ev n s Q st pos sy L R).pos ⟨vm, vt⟩) ?_
    simp only [↓reduceIte]
    exact Ev.ifn (by omega) (Ev.bind' hw h)
  cases hm : mv (rule Q st sy) st sy (ahead (rule Q st sy) L R) with
  | none =>
    rw [hm] at e
    refine top _ _ e ?_
    simp only [↓reduceIte, copied_ev st pos sy L R vL.len vR.len, Option.bind_some]
    exact Ev.now _
  | some p =>
    obtain ⟨k, A⟩ := p
    rw [hm] at e
    simp only at e ⊢
    have f := leap_within n s (out (rule Q st sy) pos k A (ahead (rule Q st sy) R L)).1 (out (rule Q st sy) pos k A (ahead (rule Q st sy) R L)).2.1 (out (rule Q st sy) pos k A (ahead (rule Q st sy) R L)).2.2.1 (out (rule Q st sy) pos k A (ahead (rule Q st sy) R L)).2.2.2.1 (out (rule Q st sy) pos k A (ahead (rule Q st sy) R L)).2.2.2.2
    constructor
    · intro v
      refine top _ _ e ?_
      simp only [Bool.false_eq_true, ↓reduceIte]
      refine Ev.bind' (f.pos v) ?_
      simp only [↓reduceIte]
      exact Ev.now _
    · intro v
      refine top _ _ e ?_
      simp only [Bool.false_eq_true, ↓reduceIte]
      refine Ev.bind' (f.neg v) ?_
      simp only [Bool.false_eq_true, ↓reduceIte]
      exact Ev.now _
theorem leap_no (n s : Int) (Q : List (List S37)) (st pos sy : Int) (L R : List S62) (h : ¬ Fit n s Q st pos sy L R) :
    Ev (fun k => leap_Leap.f k n s Q st pos sy L R) (0, 0, 0, [], [], 0, false, 1) := by
  unfold leap_Leap.f
  refine Ev.bind' ((leap_Fits_ev n s Q st pos sy L R).neg h) ?_
  simp only [Bool.false_eq_true, ↓reduceIte]
  exact Ev.now _
theorem leap_stop (n s : Int) (Q : List (List S37)) (pos sy : Int) (L R : List S62) (h : Fit n s Q (-1) pos sy L R) :
    Ev (fun k => leap_Leap.f k n s Q (-1) pos sy L R) (0, 0, 0, [], [], 0, false, 5) := by
  unfold leap_Leap.f
  refine Ev.bind' ((leap_Fits_ev n s Q (-1) pos sy L R).pos h) ?_
  simp only [↓reduceIte]
  exact Ev.now _
end Go.Proofs.Ytpemcbjdlpajlaa.Pure
