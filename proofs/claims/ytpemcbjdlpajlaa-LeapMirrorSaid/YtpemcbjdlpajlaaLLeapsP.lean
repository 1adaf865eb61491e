/- The program's many leaps, where it refuses them. -/
import Derived.Test.YtpemcbjdlpajlaaLLeapP
import Derived.Test.YtpemcbjdlpajlaaG1x13
namespace Go.Proofs.Ytpemcbjdlpajlaa.Pure
open Go.RowKit Go.Proofs.YtpemcbjdlpajlaaW.PrintWords Go.Proofs.YtpemcbjdlpajlaaW.PrintLast Go.Proofs.YtpemcbjdlpajlaaW.PrintMore Go.Proofs.Ytpemcbjdlpajlaa.G1
set_option linter.unusedVariables false
set_option linter.unusedSimpArgs false

theorem leaps_arg (n s : Int) (Q : List (List S37)) (st pos sy : Int) (L R : List S62) (N : Int) (h : N < 0 ∨ N > 1000000) (vm : VM n s Q) (vt : VT n s st pos sy L R) :
    Ev (fun k => leap_Leaps.f k n s Q st pos sy L R N) (0, 0, 0, [], [], 0, 0, false, 2) := by
  unfold leap_Leaps.f
  refine Ev.bind' ((leap_Fits_ev n s Q st pos sy L R).pos ⟨vm, vt⟩) ?_
  simp only [↓reduceIte]
  refine Ev.ite (fun _ => Ev.succ ?_) (fun _ => Ev.succ ?_)
  · simp only [leap_Leaps.j0, ↓reduceIte]; exact Ev.now _
  · simp only [leap_Leaps.j0, decide_eq_true_eq]; exact Ev.ifp (by omega) (Ev.now _)
theorem leaps_no (n s : Int) (Q : List (List S37)) (st pos sy : Int) (L R : List S62) (N : Int) (h : ¬ Fit n s Q st pos sy L R) :
    Ev (fun k => leap_Leaps.f k n s Q st pos sy L R N) (0, 0, 0, [], [], 0, 0, false, 1) := by
  unfold leap_Leaps.f
  refine Ev.bind' ((leap_Fits_ev n s Q st pos sy L R).neg h) ?_
  simp only [Bool.false_eq_true, ↓reduceIte]
  exact Ev.now _
end Go.Proofs.Ytpemcbjdlpajlaa.Pure
