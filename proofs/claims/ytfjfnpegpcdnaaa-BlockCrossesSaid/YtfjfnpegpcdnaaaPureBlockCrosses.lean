/- The pure statement of BlockCrosses: the program's crossings are the documented ones. No condition. -/
import Derived.Test.YtfjfnpegpcdnaaaSLaw
import Derived.Test.YtfjfnpegpcdnaaaSRefCross
import Derived.Test.YtfjfnpegpcdnaaaStmtBlockCrosses
namespace Go.Proofs.Ytfjfnpegpcdnaaa.Pure
open Go.RowKit Go.Proofs.YtfjfnpegpcdnaaaW.PrintWords Go.Proofs.YtfjfnpegpcdnaaaW.PrintLast Go.Proofs.YtfjfnpegpcdnaaaW.PrintMore Go.Proofs.Ytfjfnpegpcdnaaa.GB
set_option linter.unusedVariables false
set_option linter.unusedSimpArgs false

theorem BlockCrosses : BlockCrossesStmt := by
  intro n s R st p l hn hs hR hst hp hl
  have hRl : R.length ≤ 17592186044416 := by have h := hR.1; simp only [reachBytes] at h; omega
  have hll : l.length ≤ 17592186044416 := by have h := hl.1; simp only [reachBytes] at h; omega
  refine Ev.rounds (g := fun k => standstilllaw05_BlockCrosses.f k n s R st p l) ?_
  have yes : Ev (fun k => (standstilllaw05_awake.f k).bind fun t => some t) true := Ev.bind' awake_ev (Ev.now _)
  have skip : Ev (fun k => standstilllaw05_BlockCrosses.j0 k st p l true n s R) true := by
    refine Ev.succ ?_
    simp only [standstilllaw05_BlockCrosses.j0, ↓reduceIte]
    exact yes
  have none0 : Ev (fun k => (standstillref05_Same.f k 0 0 0 0 [] 0 0 0 0 ([] : List Int)).bind fun t => (if t = true then ((standstilllaw05_awake.f k).bind fun t => (some t)) else (some false))) true := by
    refine Ev.bind' (same_exit 0 0 0 0 [] (by simp)) ?_
    simp only [↓reduceIte]
    exact yes
  have bad : Ev (fun k => standstilllaw05_BlockCrosses.j1 k st p l 2 true n s R 0 0 0 0 []) true := by
    refine Ev.succ ?_
    simp only [standstilllaw05_BlockCrosses.j1, ↓reduceIte]
    exact none0
  have main : Ev (fun k => standstilllaw05_BlockCrosses.j0 k st p l false n s R) true := by
    refine Ev.succ ?_
    simp only [standstilllaw05_BlockCrosses.j0, Bool.false_eq_true, ↓reduceIte]
    by_cases vm : VM n s R
    · by_cases ha : Args n s st p l
      · obtain ⟨r, hr, hs⟩ := Cross_ok vm ha
        obtain ⟨r', hr', hs'⟩ := refcross_ev vm ha.2.2.2.1 ha.good
        have e := hs'.one hs
        subst e
        have hlen : r'.2.2.2.2.length ≤ 17592186044416 := by
          rcases hs with ⟨m, h1, h2, e⟩ | ⟨h1, e⟩
          · have := (it_good vm ha.good m h1).2.2.2.2.1
            rw [e]
            simp only
            omega
          · rw [e]
            simp
        obtain ⟨a0, a1, a2, a3, a4, a5, a6⟩ := ha
        refine Ev.bind' hr (Ev.bind' ((ref_valid n s R).pos vm) ?_)
        simp only [↓reduceIte]
        refine Ev.ifn (by omega) (Ev.ifn (by omega) (Ev.bind' ((word_ev n s R l hll).pos ⟨a6, a2, a3⟩) ?_))
        simp only [↓reduceIte]
        refine Ev.ifn (by omega) ?_
        rw [decide_eq_false (by omega)]
        refine Ev.succ ?_
        simp only [standstilllaw05_BlockCrosses.j1, Bool.false_eq_true, ↓reduceIte]
        refine Ev.bind' hr' (Ev.bind' (same_exit _ _ _ _ _ hlen) ?_)
        simp only [↓reduceIte]
        exact yes
      · refine Ev.bind' (Cross_arg vm ha hll) (Ev.bind' ((ref_valid n s R).pos vm) ?_)
        simp only [↓reduceIte]
        refine Ev.ite (fun _ => bad) (fun _ => Ev.ite (fun _ => bad) (fun _ => ?_))
        by_cases hw : Digits s l ∧ 1 ≤ l.length ∧ l.length ≤ 6
        · refine Ev.bind' ((word_ev n s R l hll).pos hw) ?_
          simp only [↓reduceIte]
          refine Ev.ite (fun _ => bad) (fun _ => ?_)
          rw [decide_eq_true (by
            have h2 : ¬ p < (l.length : Int) := fun h => ha ⟨by omega, by omega, by omega, by omega, by omega, h, hw.1⟩
            omega)]
          exact bad
        · refine Ev.bind' ((word_ev n s R l hll).neg hw) ?_
          simp only [Bool.false_eq_true, ↓reduceIte]
          exact bad
    · refine Ev.bind' (Cross_form st p l vm) (Ev.bind' ((ref_valid n s R).neg vm) ?_)
      simp only [Bool.false_eq_true, ↓reduceIte]
      exact none0
  obtain ⟨b, hb⟩ := wide_ev n s R hRl
  unfold standstilllaw05_BlockCrosses.f
  refine Ev.bind' hb (Ev.ite (fun _ => skip) (fun _ => ?_))
  by_cases h1 : (l.length : Int) > 1000
  · rw [decide_eq_true h1]; exact skip
  · rw [decide_eq_false h1]; exact main
end Go.Proofs.Ytfjfnpegpcdnaaa.Pure
