/- Cells put in front of runs, by the specification. -/
import Derived.Test.YtpemcbjdlpajlaaLLeap
import Derived.Test.YtpemcbjdlpajlaaG1x11
namespace Go.Proofs.Ytpemcbjdlpajlaa.Pure
open Go.RowKit Go.Proofs.YtpemcbjdlpajlaaW.PrintWords Go.Proofs.YtpemcbjdlpajlaaW.PrintLast Go.Proofs.YtpemcbjdlpajlaaW.PrintMore Go.Proofs.Ytpemcbjdlpajlaa.G1
set_option linter.unusedVariables false
set_option linter.unusedSimpArgs false

theorem rpush_ev (x c : Int) (l : List S62) (h : l.length < 8796093022207) : Ev (fun k => standstillref04_Push.f k l x c) (push l x c) := by
  have yes : Ev (fun k => standstillref04_Push.j0 k l x c true) l := Ev.succ (by simp only [standstillref04_Push.j0, ↓reduceIte]; exact Ev.now _)
  unfold standstillref04_Push.f push
  by_cases hc : c = 0
  · simpa [hc] using yes
  · refine Ev.ifn hc ?_
    rw [if_neg hc]
    have no : ¬ (x = 0 ∧ l.length = 0) → Ev (fun k => standstillref04_Push.j0 k l x c false) (putIn x c l) := by
      intro hn
      refine Ev.succ ?_
      simp only [standstillref04_Push.j0, Bool.false_eq_true, ↓reduceIte]
      cases l with
      | nil => simpa [putIn] using Ev.now _
      | cons r t =>
        simp only [List.length_cons] at h
        rw [putIn]
        refine Ev.ifp (by simp only [List.length_cons]; omega) (Ev.ifp (by simp only [List.length_cons]; omega) ?_)
        rw [rd0]
        by_cases hx : r.f0 = x
        · refine Ev.ifp hx ?_
          simp only [Option.bind_some]
          refine Ev.ifp (by simp only [List.length_cons]; omega) (Ev.ifp (by simp only [List.drop_one, List.tail_cons, List.length_cons, List.length_nil]; omega) ?_)
          simp only [hx, ↓reduceIte, List.drop_one, List.tail_cons, List.cons_append, List.nil_append]
          exact Ev.now _
        · refine Ev.ifn hx ?_
          simp only [Option.bind_some, hx, ↓reduceIte]
          refine Ev.ifp (by simp only [List.length_cons, List.length_nil]; omega) ?_
          exact Ev.now _
    by_cases hx : x = 0
    · refine Ev.ifp hx ?_
      by_cases hl : l.length = 0
      · rw [if_pos ⟨hx, hl⟩]
        simpa [hl] using yes
      · rw [if_neg (fun h => hl h.2)]
        have : ((l.length : Int) == 0) = false := beq_eq_false_iff_ne.mpr (by omega)
        rw [this]
        exact no (fun h => hl h.2)
    · refine Ev.ifn hx ?_
      rw [if_neg (fun h => hx h.1)]
      exact no (fun h => hx h.1)
end Go.Proofs.Ytpemcbjdlpajlaa.Pure
