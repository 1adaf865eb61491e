/- The laws' own helpers. -/
import Derived.Test.YtpemcbjdlpajlaaLBase
import Derived.Test.YtpemcbjdlpajlaaG1x2
import Derived.Test.YtpemcbjdlpajlaaG1x8
namespace Go.Proofs.Ytpemcbjdlpajlaa.Pure
open Go.RowKit Go.Proofs.YtpemcbjdlpajlaaW.PrintWords Go.Proofs.YtpemcbjdlpajlaaW.PrintLast Go.Proofs.YtpemcbjdlpajlaaW.PrintMore Go.Proofs.Ytpemcbjdlpajlaa.G1
set_option linter.unusedVariables false
set_option linter.unusedSimpArgs false

theorem wide_ev (n s : Int) (Q : List (List S37)) (a b c : Int) (l : List Int) (st pos sy : Int) (L R : List S62) (hQ : Q.length ≤ 17592186044416) : ∃ w, Ev (fun k => standstilllaw04_wide.f k n s Q a b c l st pos sy L R) w := by
  unfold standstilllaw04_wide.f
  have key : ∀ (d : Nat) (i x : Int), 0 ≤ i → (Q.length : Int) - i = d → ∃ w, Ev (fun k => standstilllaw04_wide.l0 k x i n s Q) w := by
    intro d
    induction d with
    | zero => intro i x h0 hd; refine ⟨decide (x > 5000), Ev.succ ?_⟩; simp only [standstilllaw04_wide.l0]; exact Ev.ifn (by omega) (Ev.now _)
    | succ d ih =>
      intro i x h0 hd
      obtain ⟨w, e⟩ := ih (i + 1) (wrap64 (x + ((rd_L2 Q i).length : Int))) (by omega) (by omega)
      by_cases hx : x ≤ 5000
      · refine ⟨w, Ev.succ ?_⟩
        simp only [standstilllaw04_wide.l0]
        refine Ev.ifp (by omega) (Ev.ifp hx (Ev.ifp h0 ?_))
        rw [wrap_id (x := i + 1) (by omega) (by omega)]
        exact e
      · refine ⟨decide (x > 5000), Ev.succ ?_⟩
        simp only [standstilllaw04_wide.l0]
        exact Ev.ifp (by omega) (Ev.ifn hx (Ev.now _))
  exact key Q.length 0 _ (by omega) (by omega)
theorem runs_self (l : List S62) (hl : l.length ≤ 17592186044416) : Ev (fun k => standstillref04_SameRuns.f k l l) true := by
  unfold standstillref04_SameRuns.f
  refine Ev.ifp rfl ?_
  have key : ∀ (d : Nat) (i : Int), 0 ≤ i → (l.length : Int) - i = d → Ev (fun k => standstillref04_SameRuns.l0 k l l i) true := by
    intro d
    induction d with
    | zero => intro i h0 hd; refine Ev.succ ?_; simp only [standstillref04_SameRuns.l0]; exact Ev.ifn (by omega) (Ev.now _)
    | succ d ih =>
      intro i h0 hd
      refine Ev.succ ?_
      simp only [standstillref04_SameRuns.l0]
      refine Ev.ifp (by omega) (Ev.ifp (by omega) (Ev.ifp (by omega) (Ev.ifn (by simp) ?_)))
      rw [wrap_id (by omega) (by omega)]
      exact ih (i + 1) (by omega) (by omega)
  exact key l.length 0 (by omega) (by omega)
theorem same_self (st pos sy : Int) (L R : List S62) (hL : L.length ≤ 17592186044416) (hR : R.length ≤ 17592186044416) : Ev (fun k => standstillref04_Same.f k st pos sy L R st pos sy L R) true := by
  unfold standstillref04_Same.f
  refine Ev.ifp rfl (Ev.ifp rfl (Ev.ifp rfl (Ev.bind' (runs_self L hL) ?_)))
  simp only [↓reduceIte]
  exact Ev.bind' (runs_self R hR) (Ev.now _)
end Go.Proofs.Ytpemcbjdlpajlaa.Pure
