/- The laws' own helpers, in plain words. -/
import Derived.Test.YtfjfnpegpcdnaaaSCross
import Derived.Test.YtfjfnpegpcdnaaaSRefValid
import Derived.Test.YtfjfnpegpcdnaaaGBx1
import Derived.Test.YtfjfnpegpcdnaaaGBx3
import Derived.Test.YtfjfnpegpcdnaaaGBx7
namespace Go.Proofs.Ytfjfnpegpcdnaaa.Pure
open Go.RowKit Go.Proofs.YtfjfnpegpcdnaaaW.PrintWords Go.Proofs.YtfjfnpegpcdnaaaW.PrintLast Go.Proofs.YtfjfnpegpcdnaaaW.PrintMore Go.Proofs.Ytfjfnpegpcdnaaa.GB
set_option linter.unusedVariables false
set_option linter.unusedSimpArgs false

theorem wide_loop (n s : Int) (R : List (List S57)) (hR : R.length ≤ 17592186044416) : ∀ (d : Nat) (i x : Int), 0 ≤ i → (R.length : Int) - i = d → ∃ b, Ev (fun k => standstilllaw05_wide.l0 k x i n s R) b := by
  intro d
  induction d with
  | zero =>
    intro i x h0 hd
    refine ⟨decide (x > 1000), Ev.succ ?_⟩
    simp only [standstilllaw05_wide.l0]
    exact Ev.ifn (by omega) (Ev.now _)
  | succ d ih =>
    intro i x h0 hd
    by_cases hx : x ≤ 1000
    · obtain ⟨b, hb⟩ := ih (i + 1) (wrap64 (x + ((rd_L2 R i).length : Int))) (by omega) (by omega)
      refine ⟨b, Ev.succ ?_⟩
      simp only [standstilllaw05_wide.l0, wrap_id (x := i + 1) (by omega) (by omega)]
      exact Ev.ifp (by omega) (Ev.ifp hx (Ev.ifp h0 hb))
    · refine ⟨decide (x > 1000), Ev.succ ?_⟩
      simp only [standstilllaw05_wide.l0]
      exact Ev.ifp (by omega) (Ev.ifn hx (Ev.now _))
theorem wide_ev (n s : Int) (R : List (List S57)) (hR : R.length ≤ 17592186044416) : ∃ b, Ev (fun k => standstilllaw05_wide.f k n s R) b := wide_loop n s R hR R.length 0 _ (by omega) (by omega)
theorem same_loop (l : List Int) (hl : l.length ≤ 17592186044416) : ∀ (d : Nat) (i : Int), 0 ≤ i → (l.length : Int) - i = d → Ev (fun k => standstillref01_SameInts.l0 k l l i) true := by
  intro d
  induction d with
  | zero =>
    intro i h0 hd
    refine Ev.succ ?_
    simp only [standstillref01_SameInts.l0]
    exact Ev.ifn (by omega) (Ev.now _)
  | succ d ih =>
    intro i h0 hd
    refine Ev.succ ?_
    simp only [standstillref01_SameInts.l0, wrap_id (x := i + 1) (by omega) (by omega)]
    exact Ev.ifp (by omega) (Ev.ifp h0 (Ev.ifp (by omega) (Ev.ifp (by trivial) (ih (i + 1) (by omega) (by omega)))))
theorem same_ints (l : List Int) (hl : l.length ≤ 17592186044416) : Ev (fun k => standstillref01_SameInts.f k l l) true := by
  unfold standstillref01_SameInts.f
  exact Ev.ifp rfl (same_loop l hl l.length 0 (by omega) (by omega))
theorem same_exit (a b c d : Int) (l : List Int) (hl : l.length ≤ 17592186044416) : Ev (fun k => standstillref05_Same.f k a b c d l a b c d l) true := by
  unfold standstillref05_Same.f
  exact Ev.ifp rfl (Ev.ifp rfl (Ev.ifp rfl (Ev.ifp rfl (Ev.bind' (same_ints l hl) (Ev.now _)))))
theorem word_loop (n s : Int) (R : List (List S57)) (l : List Int) (hl : l.length ≤ 17592186044416) : ∀ (d : Nat) (i : Int), 0 ≤ i → (l.length : Int) - i = d → EvP (fun k => standstillref05_Word.l0 k l i n s R) ((∀ j, i ≤ j → j < (l.length : Int) → 0 ≤ rd l j ∧ rd l j < s) ∧ 1 ≤ l.length ∧ l.length ≤ 6) := by
  intro d
  induction d with
  | zero =>
    intro i h0 hd
    refine EvP.succ ?_
    simp only [standstillref05_Word.l0]
    refine EvP.ifn (by omega) (EvP.ite (fun h => EvP.now ?_) (fun h => EvP.false (fun v => by omega)))
    simp only [decide_eq_true_eq]
    exact ⟨fun h' => ⟨all_end (by omega), by omega, by omega⟩, fun h' => by omega⟩
  | succ d ih =>
    intro i h0 hd
    refine EvP.succ ?_
    simp only [standstillref05_Word.l0, wrap_id (x := i + 1) (by omega) (by omega)]
    refine EvP.ifp (by omega) (EvP.ifp h0 (EvP.ite (fun h => EvP.false (fun v => by have := v.1 i (by omega) (by omega); omega)) (fun h => EvP.ite (fun h => EvP.false (fun v => by have := v.1 i (by omega) (by omega); omega)) (fun h' => ?_))))
    exact EvP.iff (and_congr_left' (all_step (P := fun j => 0 ≤ rd l j ∧ rd l j < s) (by omega) (by omega))) (ih (i + 1) (by omega) (by omega))
theorem word_ev (n s : Int) (R : List (List S57)) (l : List Int) (hl : l.length ≤ 17592186044416) : EvP (fun k => standstillref05_Word.f k n s R l) (Digits s l ∧ 1 ≤ l.length ∧ l.length ≤ 6) := by
  unfold standstillref05_Word.f
  exact EvP.iff (and_congr_left' ⟨fun h => digits_get.2 h, fun h => digits_get.1 h⟩) (word_loop n s R l hl l.length 0 (by omega) (by omega))
theorem awake_ev : Ev standstilllaw05_awake.f true := Ev.of (fun k => standstilllaw05_awake.mono k) (k := 60) (by decide +kernel)
end Go.Proofs.Ytfjfnpegpcdnaaa.Pure
