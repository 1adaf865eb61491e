/- Which machines and tapes are valid, by the program. -/
import Derived.Test.YtpemcbjdlpajlaaEv
import Derived.Test.YtpemcbjdlpajlaaG1x2
import Derived.Test.YtpemcbjdlpajlaaG1x4
import Derived.Test.YtpemcbjdlpajlaaG1x5
namespace Go.Proofs.Ytpemcbjdlpajlaa.Pure
open Go.RowKit Go.Proofs.YtpemcbjdlpajlaaW.PrintWords Go.Proofs.YtpemcbjdlpajlaaW.PrintLast Go.Proofs.YtpemcbjdlpajlaaW.PrintMore Go.Proofs.Ytpemcbjdlpajlaa.G1
set_option linter.unusedVariables false
set_option linter.unusedSimpArgs false

def OkRule (n s : Int) (r : S37) : Prop := 0 ≤ r.f0 ∧ r.f0 < s ∧ (r.f1 = -1 ∨ r.f1 = 1) ∧ -1 ≤ r.f2 ∧ r.f2 < n
def OkRow (n s : Int) (R : List (List S37)) (i : Int) : Prop := ((rd_L2 R i).length : Int) = s ∧ ∀ j, 0 ≤ j → j < s → OkRule n s (rd_T37 (rd_L2 R i) j)
def VM (n s : Int) (R : List (List S37)) : Prop := 1 ≤ n ∧ n ≤ 6 ∧ 2 ≤ s ∧ s ≤ 4 ∧ (R.length : Int) = n ∧ ∀ i, 0 ≤ i → i < n → OkRow n s R i
theorem ref_valid (n s : Int) (R : List (List S37)) : EvP (fun k => standstillref01_Valid.f k n s R) (VM n s R) := by
  have no : ¬ VM n s R → EvP (fun k => standstillref01_Valid.j0 k true n s R) (VM n s R) := fun h => EvP.succ (by simp only [standstillref01_Valid.j0, ↓reduceIte]; exact EvP.false h)
  have rows : 2 ≤ s → s ≤ 4 → n ≤ 6 → (R.length : Int) = n → ∀ (d : Nat) (i : Int), 0 ≤ i → n - i = d → EvP (fun k => standstillref01_Valid.l0 k i n s R) (∀ i', i ≤ i' → i' < n → OkRow n s R i') := by
    intro s2 s4 n6 hR d
    induction d with
    | zero => intro i h0 hd; refine EvP.succ ?_; simp only [standstillref01_Valid.l0]; refine EvP.ifn (by omega) ?_; exact EvP.true (all_end (by omega))
    | succ d ih =>
      intro i h0 hd
      have nx := ih (i + 1) (by omega) (by omega)
      refine EvP.succ ?_
      simp only [standstillref01_Valid.l0]
      refine EvP.ifp (by omega) ?_
      refine EvP.ifp (by omega) ?_
      refine EvP.ifp (by omega) ?_
      refine EvP.ite (fun hr => ?_) (fun hr => EvP.false (fun h => hr (h i (by omega) (by omega)).1))
      have inner : ∀ (e : Nat) (j : Int), 0 ≤ j → s - j = e → EvP (fun k => standstillref01_Valid.l1 k i j n s R) ((∀ j', j ≤ j' → j' < s → OkRule n s (rd_T37 (rd_L2 R i) j')) ∧ (∀ i', i + 1 ≤ i' → i' < n → OkRow n s R i')) := by
        intro e
        induction e with
        | zero =>
          intro j g0 ge
          refine EvP.succ ?_
          simp only [standstillref01_Valid.l1]
          refine EvP.ifn (by omega) ?_
          simp only [wrap_id (x := i + 1) (by omega) (by omega)]
          exact EvP.iff ⟨fun h => ⟨all_end (by omega), h⟩, fun h => h.2⟩ nx
        | succ e ihe =>
          intro j g0 ge
          have nj := ihe (j + 1) (by omega) (by omega)
          refine EvP.succ ?_
          simp only [standstillref01_Valid.l1]
          refine EvP.ifp (by omega) ?_
          refine EvP.ifp (by omega) ?_
          refine EvP.ifp (by omega) ?_
          refine EvP.ifp (by omega) ?_
          refine EvP.ifp (by omega) ?_
          simp only [wrap_id (x := j + 1) (by omega) (by omega)]
          have bad : ¬ OkRule n s (rd_T37 (rd_L2 R i) j) → EvP (fun _ => some false) ((∀ j', j ≤ j' → j' < s → OkRule n s (rd_T37 (rd_L2 R i) j')) ∧ (∀ i', i + 1 ≤ i' → i' < n → OkRow n s R i')) := fun hb => EvP.false (fun h => hb (h.1 j (by omega) (by omega)))
          have good : OkRule n s (rd_T37 (rd_L2 R i) j) → EvP (fun k => standstillref01_Valid.l1 k i (j + 1) n s R) ((∀ j', j ≤ j' → j' < s → OkRule n s (rd_T37 (rd_L2 R i) j')) ∧ (∀ i', i + 1 ≤ i' → i' < n → OkRow n s R i')) := fun hg => EvP.iff (and_congr_left' (all_step (by omega) hg)) nj
          generalize rd_T37 (rd_L2 R i) j = r at bad good ⊢
          repeat' (first | refine EvP.ite (fun _ => ?_) (fun _ => ?_))
          all_goals first | exact bad (by simp only [OkRule]; omega) | exact good (by simp only [OkRule]; omega)
      exact EvP.iff ⟨fun h i' a b => if e : i' = i then e ▸ ⟨hr, h.1⟩ else h.2 i' (by omega) b, fun h => ⟨(h i (by omega) (by omega)).2, fun i' a b => h i' (by omega) b⟩⟩ (inner s.toNat 0 (by omega) (by omega))
  unfold standstillref01_Valid.f
  repeat' (first | refine EvP.ite (fun _ => ?_) (fun _ => ?_))
  all_goals first | exact no (by simp only [VM]; omega) | skip
  refine EvP.succ ?_
  simp only [standstillref01_Valid.j0, bne_iff_ne, ne_eq]
  refine EvP.ite (fun h => EvP.false (fun v => h v.2.2.2.2.1)) (fun h => ?_)
  exact EvP.iff ⟨fun h' => ⟨by omega, by omega, by omega, by omega, by omega, h'⟩, fun h' => h'.2.2.2.2.2⟩ (rows (by omega) (by omega) (by omega) (by omega) n.toNat 0 (by omega) (by omega))
theorem tape_valid (n s : Int) (R : List (List S37)) : EvP (fun k => tape_Valid.f k n s R) (VM n s R) := by
  have no : ¬ VM n s R → EvP (fun k => tape_Valid.j0 k true n s R) (VM n s R) := fun h => EvP.succ (by simp only [tape_Valid.j0, ↓reduceIte]; exact EvP.false h)
  have rows : 2 ≤ s → s ≤ 4 → n ≤ 6 → (R.length : Int) = n → ∀ (d : Nat) (i : Int), 0 ≤ i → n - i = d → EvP (fun k => tape_Valid.l0 k R (R.length : Int) i n s R) (∀ i', i ≤ i' → i' < n → OkRow n s R i') := by
    intro s2 s4 n6 hR d
    induction d with
    | zero => intro i h0 hd; refine EvP.succ ?_; simp only [tape_Valid.l0]; refine EvP.ifn (by omega) ?_; exact EvP.true (all_end (by omega))
    | succ d ih =>
      intro i h0 hd
      have nx := ih (i + 1) (by omega) (by omega)
      refine EvP.succ ?_
      simp only [tape_Valid.l0]
      refine EvP.ifp (by omega) ?_
      refine EvP.ifp (by omega) ?_
      refine EvP.ifp (by omega) ?_
      refine EvP.ite (fun hr => ?_) (fun hr => EvP.false (fun h => hr (h i (by omega) (by omega)).1))
      have inner : ∀ (e : Nat) (j : Int), 0 ≤ j → s - j = e → EvP (fun k => tape_Valid.l1 k R (R.length : Int) i (rd_L2 R i) ((rd_L2 R i).length : Int) j n s R) ((∀ j', j ≤ j' → j' < s → OkRule n s (rd_T37 (rd_L2 R i) j')) ∧ (∀ i', i + 1 ≤ i' → i' < n → OkRow n s R i')) := by
        intro e
        induction e with
        | zero =>
          intro j g0 ge
          refine EvP.succ ?_
          simp only [tape_Valid.l1]
          refine EvP.ifn (by omega) ?_
          simp only [wrap_id (x := i + 1) (by omega) (by omega)]
          exact EvP.iff ⟨fun h => ⟨all_end (by omega), h⟩, fun h => h.2⟩ nx
        | succ e ihe =>
          intro j g0 ge
          have nj := ihe (j + 1) (by omega) (by omega)
          refine EvP.succ ?_
          simp only [tape_Valid.l1]
          refine EvP.ifp (by omega) ?_
          refine EvP.ifp (by omega) ?_
          refine EvP.ifp (by omega) ?_
          simp only [wrap_id (x := j + 1) (by omega) (by omega)]
          have bad : ¬ OkRule n s (rd_T37 (rd_L2 R i) j) → EvP (fun _ => some false) ((∀ j', j ≤ j' → j' < s → OkRule n s (rd_T37 (rd_L2 R i) j')) ∧ (∀ i', i + 1 ≤ i' → i' < n → OkRow n s R i')) := fun hb => EvP.false (fun h => hb (h.1 j (by omega) (by omega)))
          have good : OkRule n s (rd_T37 (rd_L2 R i) j) → EvP (fun k => tape_Valid.l1 k R (R.length : Int) i (rd_L2 R i) ((rd_L2 R i).length : Int) (j + 1) n s R) ((∀ j', j ≤ j' → j' < s → OkRule n s (rd_T37 (rd_L2 R i) j')) ∧ (∀ i', i + 1 ≤ i' → i' < n → OkRow n s R i')) := fun hg => EvP.iff (and_congr_left' (all_step (by omega) hg)) nj
          generalize rd_T37 (rd_L2 R i) j = r at bad good ⊢
          repeat' (first | refine EvP.ite (fun _ => ?_) (fun _ => ?_))
          all_goals first | exact bad (by simp only [OkRule]; omega) | exact good (by simp only [OkRule]; omega)
      exact EvP.iff ⟨fun h i' a b => if e : i' = i then e ▸ ⟨hr, h.1⟩ else h.2 i' (by omega) b, fun h => ⟨(h i (by omega) (by omega)).2, fun i' a b => h i' (by omega) b⟩⟩ (inner s.toNat 0 (by omega) (by omega))
  unfold tape_Valid.f
  repeat' (first | refine EvP.ite (fun _ => ?_) (fun _ => ?_))
  all_goals first | exact no (by simp only [VM]; omega) | skip
  refine EvP.succ ?_
  simp only [tape_Valid.j0, bne_iff_ne, ne_eq]
  refine EvP.ite (fun h => EvP.false (fun v => h v.2.2.2.2.1)) (fun h => ?_)
  exact EvP.iff ⟨fun h' => ⟨by omega, by omega, by omega, by omega, by omega, h'⟩, fun h' => h'.2.2.2.2.2⟩ (rows (by omega) (by omega) (by omega) (by omega) n.toNat 0 (by omega) (by omega))
def OkRun (s : Int) (l : List S62) (j : Int) : Prop := 0 ≤ (rd_T62 l j).f0 ∧ (rd_T62 l j).f0 < s ∧ 1 ≤ (rd_T62 l j).f1 ∧ (rd_T62 l j).f1 ≤ 1152921504606846976 ∧ (0 < j → (rd_T62 l j).f0 ≠ (rd_T62 l (j - 1)).f0)
def VL (s : Int) (l : List S62) : Prop := (l.length : Int) ≤ 2000 ∧ (∀ j, 0 ≤ j → j < (l.length : Int) → OkRun s l j) ∧ (0 < (l.length : Int) → (rd_T62 l ((l.length : Int) - 1)).f0 ≠ 0)
def VT (n s : Int) (st pos sy : Int) (L R : List S62) : Prop := -1 ≤ st ∧ st < n ∧ 0 ≤ sy ∧ sy < s ∧ -1152921504606846976 ≤ pos ∧ pos ≤ 1152921504606846976 ∧ VL s L ∧ VL s R
theorem leap_list (s : Int) (l : List S62) : EvP (fun k => leap_side.f k s l) (VL s l) := by
  have no : ¬ VL s l → EvP (fun k => leap_side.j0 k s l true) (VL s l) := fun h => EvP.succ (by simp only [leap_side.j0, ↓reduceIte]; exact EvP.false h)
  have key : (l.length : Int) ≤ 2000 → ∀ (d : Nat) (i : Int), 0 ≤ i → (l.length : Int) - i = d → EvP (fun k => leap_side.l0 k s l l (l.length : Int) i) (∀ j, i ≤ j → j < (l.length : Int) → OkRun s l j) := by
    intro hl d
    induction d with
    | zero => intro i h0 hd; refine EvP.succ ?_; simp only [leap_side.l0]; refine EvP.ifn (by omega) ?_; exact EvP.true (all_end (by omega))
    | succ d ih =>
      intro i h0 hd
      have nx := ih (i + 1) (by omega) (by omega)
      refine EvP.succ ?_
      simp only [leap_side.l0]
      refine EvP.ifp (by omega) ?_
      refine EvP.ifp (by omega) ?_
      refine EvP.ifp (by omega) ?_
      simp only [wrap_id (x := i + 1) (by omega) (by omega)]
      simp only [wrap_id (x := i - 1) (by omega) (by omega)]
      have bad : ¬ OkRun s l i → EvP (fun _ => some false) (∀ j, i ≤ j → j < (l.length : Int) → OkRun s l j) := fun hb => EvP.false (fun h => hb (h i (by omega) (by omega)))
      have good : OkRun s l i → EvP (fun k => leap_side.l0 k s l l (l.length : Int) (i + 1)) (∀ j, i ≤ j → j < (l.length : Int) → OkRun s l j) := fun hg => EvP.iff (all_step (by omega) hg) nx
      simp only [OkRun] at bad good
      repeat' (first | refine EvP.ite (fun _ => ?_) (fun _ => ?_))
      all_goals first | exact bad (by omega) | exact good (by omega) | (exfalso; omega)
  unfold leap_side.f
  refine EvP.ite (fun h => no (fun v => by have := v.1; omega)) (fun h => EvP.ite (fun h1 => ?_) (fun h1 => ?_))
  · simp only [wrap_id (x := (l.length : Int) - 1) (by omega) (by omega)]
    refine EvP.ifp (by omega) (EvP.ifp (by omega) ?_)
    refine EvP.succ ?_
    simp only [leap_side.j0, beq_iff_eq]
    refine EvP.ite (fun hz => EvP.false (fun v => v.2.2 (by omega) hz)) (fun hz => ?_)
    exact EvP.iff ⟨fun h' => ⟨by omega, h', fun _ => hz⟩, fun h' => h'.2.1⟩ (key (by omega) l.length 0 (by omega) (by omega))
  · refine EvP.succ ?_
    simp only [leap_side.j0, Bool.false_eq_true, ↓reduceIte]
    exact EvP.iff ⟨fun h' => ⟨by omega, h', fun _ => by omega⟩, fun h' => h'.2.1⟩ (key (by omega) l.length 0 (by omega) (by omega))
theorem leap_within (n s st pos sy : Int) (L R : List S62) : EvP (fun k => leap_fits.f k n s st pos sy L R) (VT n s st pos sy L R) := by
  have no : ¬ VT n s st pos sy L R → EvP (fun k => leap_fits.j0 k s true st pos sy L R) (VT n s st pos sy L R) := fun h => EvP.succ (by simp only [leap_fits.j0, ↓reduceIte]; exact EvP.false h)
  unfold leap_fits.f
  repeat' (first | refine EvP.ite (fun _ => ?_) (fun _ => ?_))
  all_goals first | exact no (fun v => by simp only [VT] at v; omega) | skip
  refine EvP.succ ?_
  simp only [leap_fits.j0, decide_eq_true_eq]
  refine EvP.ite (fun _ => EvP.false (fun v => by simp only [VT] at v; omega)) (fun _ => ?_)
  refine EvP.bind (leap_list s L) (fun h => ?_) (fun h => ?_)
  · simp only [↓reduceIte]
    refine EvP.bind (leap_list s R) (fun h' => EvP.true ⟨by omega, by omega, by omega, by omega, by omega, by omega, h, h'⟩) (fun h' => EvP.false (fun v => h' v.2.2.2.2.2.2.2))
  · simp only [Bool.false_eq_true, ↓reduceIte]
    exact EvP.false (fun v => h v.2.2.2.2.2.2.1)
def Fit (n s : Int) (Q : List (List S37)) (st pos sy : Int) (L R : List S62) : Prop := VM n s Q ∧ VT n s st pos sy L R
theorem leap_Fits_ev (n s : Int) (Q : List (List S37)) (st pos sy : Int) (L R : List S62) : EvP (fun k => leap_Fits.f k n s Q st pos sy L R) (Fit n s Q st pos sy L R) := by
  unfold leap_Fits.f
  refine EvP.bind (tape_valid n s Q) (fun h => ?_) (fun h => ?_)
  · simp only [↓reduceIte]
    exact EvP.bind (leap_within n s st pos sy L R) (fun h' => EvP.true ⟨h, h'⟩) (fun h' => EvP.false (fun v => h' v.2))
  · simp only [Bool.false_eq_true, ↓reduceIte]
    exact EvP.false (fun v => h v.1)
end Go.Proofs.Ytpemcbjdlpajlaa.Pure
