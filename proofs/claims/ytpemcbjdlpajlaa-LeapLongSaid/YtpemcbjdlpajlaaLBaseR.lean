/- Which machines and tapes are valid, by the specification. -/
import Derived.Test.YtpemcbjdlpajlaaLBase
import Derived.Test.YtpemcbjdlpajlaaG1x3
namespace Go.Proofs.Ytpemcbjdlpajlaa.Pure
open Go.RowKit Go.Proofs.YtpemcbjdlpajlaaW.PrintWords Go.Proofs.YtpemcbjdlpajlaaW.PrintLast Go.Proofs.YtpemcbjdlpajlaaW.PrintMore Go.Proofs.Ytpemcbjdlpajlaa.G1
set_option linter.unusedVariables false
set_option linter.unusedSimpArgs false

theorem ref_list (s : Int) (l : List S62) : EvP (fun k => standstillref04_list.f k l s) (VL s l) := by
  unfold standstillref04_list.f
  refine EvP.ite (fun h => EvP.false (fun v => by have := v.1; omega)) (fun h => ?_)
  have key : ∀ (d : Nat) (i : Int), 0 ≤ i → (l.length : Int) - i = d → EvP (fun k => standstillref04_list.l0 k l s i) ((∀ j, i ≤ j → j < (l.length : Int) → OkRun s l j) ∧ (0 < (l.length : Int) → (rd_T62 l ((l.length : Int) - 1)).f0 ≠ 0)) := by
    intro d
    induction d with
    | zero =>
      intro i h0 hd
      refine EvP.succ ?_
      simp only [standstillref04_list.l0]
      refine EvP.ifn (by omega) ?_
      refine EvP.ite (fun h => EvP.true ⟨all_end (by omega), fun _ => by omega⟩) (fun h => ?_)
      simp only [wrap_id (x := (l.length : Int) - 1) (by omega) (by omega)]
      refine EvP.ifp (by omega) ?_
      refine EvP.ifp (by omega) ?_
      exact EvP.now ⟨fun h => ⟨all_end (by omega), fun _ => by simpa using h⟩, fun h => by simpa using h.2 (by omega)⟩
    | succ d ih =>
      intro i h0 hd
      have nx := ih (i + 1) (by omega) (by omega)
      refine EvP.succ ?_
      simp only [standstillref04_list.l0]
      refine EvP.ifp (by omega) ?_
      refine EvP.ifp (by omega) ?_
      simp only [wrap_id (x := i + 1) (by omega) (by omega)]
      simp only [wrap_id (x := i - 1) (by omega) (by omega)]
      have bad : ¬ OkRun s l i → EvP (fun _ => some false) ((∀ j, i ≤ j → j < (l.length : Int) → OkRun s l j) ∧ (0 < (l.length : Int) → (rd_T62 l ((l.length : Int) - 1)).f0 ≠ 0)) := fun hb => EvP.false (fun h => hb (h.1 i (by omega) (by omega)))
      have good : OkRun s l i → EvP (fun k => standstillref04_list.l0 k l s (i + 1)) ((∀ j, i ≤ j → j < (l.length : Int) → OkRun s l j) ∧ (0 < (l.length : Int) → (rd_T62 l ((l.length : Int) - 1)).f0 ≠ 0)) := fun hg => EvP.iff (and_congr_left' (all_step (by omega) hg)) nx
      simp only [OkRun] at bad good
      repeat' (first | refine EvP.ite (fun _ => ?_) (fun _ => ?_))
      all_goals first | exact bad (by omega) | exact good (by omega) | (exfalso; omega)
  exact EvP.iff ⟨fun h' => ⟨by omega, h'.1, h'.2⟩, fun h' => ⟨h'.2.1, h'.2.2⟩⟩ (key l.length 0 (by omega) (by omega))
theorem ref_within (n s st pos sy : Int) (L R : List S62) : EvP (fun k => standstillref04_Within.f k st pos sy L R n s) (VT n s st pos sy L R) := by
  unfold standstillref04_Within.f
  repeat' (first | refine EvP.ite (fun _ => ?_) (fun _ => ?_))
  case' _ => refine EvP.bind (ref_list s L) (fun h => ?_) (fun h => ?_)
  all_goals first | exact EvP.false (fun v => by simp only [VT] at v; omega) | skip
  · simp only [↓reduceIte]
    refine EvP.bind (ref_list s R) (fun h' => EvP.true ⟨by omega, by omega, by omega, by omega, by omega, by omega, h, h'⟩) (fun h' => EvP.false (fun v => h' v.2.2.2.2.2.2.2))
  · simp only [Bool.false_eq_true, ↓reduceIte]
    exact EvP.false (fun v => h v.2.2.2.2.2.2.1)
theorem ref_fits (n s : Int) (Q : List (List S37)) (st pos sy : Int) (L R : List S62) : EvP (fun k => standstillref04_Fits.f k n s Q st pos sy L R) (Fit n s Q st pos sy L R) := by
  unfold standstillref04_Fits.f
  refine EvP.bind (ref_valid n s Q) (fun h => ?_) (fun h => ?_)
  · simp only [↓reduceIte]
    exact EvP.bind (ref_within n s st pos sy L R) (fun h' => EvP.true ⟨h, h'⟩) (fun h' => EvP.false (fun v => h' v.2))
  · simp only [Bool.false_eq_true, ↓reduceIte]
    exact EvP.false (fun v => h v.1)
end Go.Proofs.Ytpemcbjdlpajlaa.Pure
