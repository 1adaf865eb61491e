/- Which machines are valid, by the specification. -/
import Derived.Test.YtfjfnpegpcdnaaaSSem
import Derived.Test.YtfjfnpegpcdnaaaGBx4
namespace Go.Proofs.Ytfjfnpegpcdnaaa.Pure
open Go.RowKit Go.Proofs.YtfjfnpegpcdnaaaW.PrintWords Go.Proofs.YtfjfnpegpcdnaaaW.PrintLast Go.Proofs.YtfjfnpegpcdnaaaW.PrintMore Go.Proofs.Ytfjfnpegpcdnaaa.GB
set_option linter.unusedVariables false
set_option linter.unusedSimpArgs false

theorem ref_valid (n s : Int) (R : List (List S57)) : EvP (fun k => standstillref01_Valid.f k n s R) (VM n s R) := by
  have no : ¬ VM n s R → EvP (fun k => standstillref01_Valid.j0 k true n s R) (VM n s R) := fun h => EvP.succ (by simp only [standstillref01_Valid.j0, ↓reduceIte]; exact EvP.false h)
  have rows : 2 ≤ s → s ≤ 4 → n ≤ 6 → (R.length : Int) = n → ∀ (d : Nat) (i : Int), 0 ≤ i → n - i = d → EvP (fun k => standstillref01_Valid.l0 k i n s R) (∀ i', i ≤ i' → i' < n → OkRow n s R i') := by
    intro s2 s4 n6 hR d
    induction d with
    | zero => intro i h0 hd; refine EvP.succ ?_; simp only [standstillref01_Valid.l0]; refine EvP.ifn (by omega) ?_; exact EvP.true (all_end (by omega))
    | succ d ih =>
      intro i h0 hd
      have nx := ih (i + 1) (by omega) (by omega)
      refine EvP.succ ?_
      simp only [standstillref01_Valid.l0]
      refine EvP.ifp (by omega) ?_
      refine EvP.ifp (by omega) ?_
      refine EvP.ifp (by omega) ?_
      refine EvP.ite (fun hr => ?_) (fun hr => EvP.false (fun h => hr (h i (by omega) (by omega)).1))
      have inner : ∀ (e : Nat) (j : Int), 0 ≤ j → s - j = e → EvP (fun k => standstillref01_Valid.l1 k i j n s R) ((∀ j', j ≤ j' → j' < s → OkRule n s (rd_T57 (rd_L2 R i) j')) ∧ (∀ i', i + 1 ≤ i' → i' < n → OkRow n s R i')) := by
        intro e
        induction e with
        | zero =>
          intro j g0 ge
          refine EvP.succ ?_
          simp only [standstillref01_Valid.l1]
          refine EvP.ifn (by omega) ?_
          simp only [wrap_id (x := i + 1) (by omega) (by omega)]
          exact EvP.iff ⟨fun h => ⟨all_end (by omega), h⟩, fun h => h.2⟩ nx
        | succ e ihe =>
          intro j g0 ge
          have nj := ihe (j + 1) (by omega) (by omega)
          refine EvP.succ ?_
          simp only [standstillref01_Valid.l1]
          refine EvP.ifp (by omega) ?_
          refine EvP.ifp (by omega) ?_
          refine EvP.ifp (by omega) ?_
          refine EvP.ifp (by omega) ?_
          refine EvP.ifp (by omega) ?_
          simp only [wrap_id (x := j + 1) (by omega) (by omega)]
          have bad : ¬ OkRule n s (rd_T57 (rd_L2 R i) j) → EvP (fun _ => some false) ((∀ j', j ≤ j' → j' < s → OkRule n s (rd_T57 (rd_L2 R i) j')) ∧ (∀ i', i + 1 ≤ i' → i' < n → OkRow n s R i')) := fun hb => EvP.false (fun h => hb (h.1 j (by omega) (by omega)))
          have good : OkRule n s (rd_T57 (rd_L2 R i) j) → EvP (fun k => standstillref01_Valid.l1 k i (j + 1) n s R) ((∀ j', j ≤ j' → j' < s → OkRule n s (rd_T57 (rd_L2 R i) j')) ∧ (∀ i', i + 1 ≤ i' → i' < n → OkRow n s R i')) := fun hg => EvP.iff (and_congr_left' (all_step (by omega) hg)) nj
          generalize rd_T57 (rd_L2 R i) j = r at bad good ⊢
          repeat' (first | refine EvP.ite (fun _ => ?_) (fun _ => ?_))
          all_goals first | exact bad (by simp only [OkRule]; omega) | exact good (by simp only [OkRule]; omega)
      exact EvP.iff ⟨fun h i' a b => if e : i' = i then e ▸ ⟨hr, h.1⟩ else h.2 i' (by omega) b, fun h => ⟨(h i (by omega) (by omega)).2, fun i' a b => h i' (by omega) b⟩⟩ (inner s.toNat 0 (by omega) (by omega))
  unfold standstillref01_Valid.f
  repeat' (first | refine EvP.ite (fun _ => ?_) (fun _ => ?_))
  all_goals first | exact no (by simp only [VM]; omega) | skip
  refine EvP.succ ?_
  simp only [standstillref01_Valid.j0, bne_iff_ne, ne_eq]
  refine EvP.ite (fun h => EvP.false (fun v => h v.2.2.2.2.1)) (fun h => ?_)
  exact EvP.iff ⟨fun h' => ⟨by omega, by omega, by omega, by omega, by omega, h'⟩, fun h' => h'.2.2.2.2.2⟩ (rows (by omega) (by omega) (by omega) (by omega) n.toNat 0 (by omega) (by omega))

end Go.Proofs.Ytfjfnpegpcdnaaa.Pure
