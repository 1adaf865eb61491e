/- Which register machines and states are valid; what running one does. -/
import Derived.Test.YtcdmgeceahmngaaEv
import Derived.Test.YtcdmgeceahmngaaGCx2
import Derived.Test.YtcdmgeceahmngaaGCx3
import Derived.Test.YtcdmgeceahmngaaGCx4
import Derived.Test.YtcdmgeceahmngaaGCx7
namespace Go.Proofs.Ytcdmgeceahmngaa.Pure
open Go.RowKit Go.Proofs.YtcdmgeceahmngaaW.PrintWords Go.Proofs.YtcdmgeceahmngaaW.PrintLast Go.Proofs.YtcdmgeceahmngaaW.PrintMore Go.Proofs.Ytcdmgeceahmngaa.GC
set_option linter.unusedVariables false
set_option linter.unusedSimpArgs false

def OkI (regs len : Int) (x : S35) : Prop :=
  (x.f0 = 0 ∧ 0 ≤ x.f1 ∧ x.f1 < regs ∧ 0 ≤ x.f2 ∧ x.f2 < len ∧ x.f3 = 0) ∨ (x.f0 = 1 ∧ 0 ≤ x.f1 ∧ x.f1 < regs ∧ 0 ≤ x.f2 ∧ x.f2 < len ∧ 0 ≤ x.f3 ∧ x.f3 < len) ∨ (x.f0 = 2 ∧ x.f1 = 0 ∧ x.f2 = 0 ∧ x.f3 = 0)
def VC (regs : Int) (code : List S35) : Prop := 1 ≤ regs ∧ regs ≤ 16 ∧ 1 ≤ (code.length : Int) ∧ (code.length : Int) ≤ 2000 ∧ ∀ j : Int, 0 ≤ j → j < (code.length : Int) → OkI regs code.length (rd_T35 code j)
def Small (rs : List Int) : Prop := ∀ j : Int, 0 ≤ j → j < (rs.length : Int) → 0 ≤ rd rs j ∧ rd rs j ≤ 1152921504606846976
def FC (regs : Int) (code : List S35) (at_ : Int) (rs : List Int) : Prop := VC regs code ∧ 0 ≤ at_ ∧ at_ < (code.length : Int) ∧ (rs.length : Int) = regs ∧ Small rs

/-! ### the reference -/
theorem index_eq (r : Int) (code : List S35) (n : Int) : standstillref06_index.f r code n = some (decide (0 ≤ n ∧ n < (code.length : Int))) := by
  unfold standstillref06_index.f
  split
  · simp_all
  · simp_all
    intros
    omega
theorem ref_valid (regs : Int) (code : List S35) : EvP (fun k => standstillref06_Valid.f k regs code) (VC regs code) := by
  have key : (code.length : Int) ≤ 2000 → ∀ (d : Nat) (i : Int), 0 ≤ i → (code.length : Int) - i = d → EvP (fun k => standstillref06_Valid.l0 k i regs code) (∀ j, i ≤ j → j < (code.length : Int) → OkI regs code.length (rd_T35 code j)) := by
    intro hl d
    induction d with
    | zero =>
      intro i h0 hd
      refine EvP.succ ?_
      simp only [standstillref06_Valid.l0]
      exact EvP.ifn (by omega) (EvP.true (all_end (by omega)))
    | succ d ih =>
      intro i h0 hd
      have nx := ih (i + 1) (by omega) (by omega)
      refine EvP.succ ?_
      simp only [standstillref06_Valid.l0]
      refine EvP.ifp (by omega) (EvP.ifp h0 ?_)
      simp only [wrap_id (x := i + 1) (by omega) (by omega), index_eq, Option.bind_some, decide_eq_true_eq, Bool.or_eq_true, Bool.not_eq_true', beq_eq_false_iff_ne, ne_eq]
      have hx : ∃ x, rd_T35 code i = x := ⟨_, rfl⟩
      obtain ⟨x, hx⟩ := hx
      have bad : ¬ OkI regs code.length x → EvP (fun _ => some false) (∀ j, i ≤ j → j < (code.length : Int) → OkI regs code.length (rd_T35 code j)) := fun hb => EvP.false (fun h => hb (hx ▸ h i (by omega) (by omega)))
      have good : OkI regs code.length x → EvP (fun k => standstillref06_Valid.l0 k (i + 1) regs code) (∀ j, i ≤ j → j < (code.length : Int) → OkI regs code.length (rd_T35 code j)) := fun hg => EvP.iff (all_step (P := fun j => OkI regs code.length (rd_T35 code j)) (by omega) (by show OkI regs code.length (rd_T35 code i); rw [hx]; exact hg)) nx
      rw [hx]
      clear hx nx ih
      simp only [OkI] at bad good
      repeat' (first | refine EvP.ite (fun _ => ?_) (fun _ => ?_))
      all_goals first | exact bad (by omega) | exact good (by omega) | (exfalso; omega)
  unfold standstillref06_Valid.f
  have no : ¬ VC regs code → EvP (fun k => standstillref06_Valid.j0 k true regs code) (VC regs code) := fun h => by
    refine EvP.succ ?_
    simp only [standstillref06_Valid.j0, ↓reduceIte]
    exact EvP.false h
  refine EvP.ite (fun h => no (fun v => ?_)) (fun h1 => EvP.ite (fun h => no (fun v => ?_)) (fun h2 => EvP.ite (fun h => no (fun v => ?_)) (fun h3 => ?_)))
  · obtain ⟨v1, v2, v3, v4, -⟩ := v; omega
  · obtain ⟨v1, v2, v3, v4, -⟩ := v; omega
  · obtain ⟨v1, v2, v3, v4, -⟩ := v; omega
  · by_cases h4 : (code.length : Int) > 2000
    · rw [decide_eq_true h4]
      exact no (fun v => by obtain ⟨v1, v2, v3, v4, -⟩ := v; omega)
    · rw [decide_eq_false h4]
      refine EvP.succ ?_
      simp only [standstillref06_Valid.j0, Bool.false_eq_true, ↓reduceIte]
      exact EvP.iff ⟨fun h => ⟨by omega, by omega, by omega, by omega, h⟩, fun h => h.2.2.2.2⟩ (key (by omega) code.length 0 (by omega) (by omega))
theorem ref_small (at_ : Int) (rs : List Int) (hl : (rs.length : Int) ≤ 100) : ∀ (d : Nat) (i : Int), 0 ≤ i → (rs.length : Int) - i = d → EvP (fun k => standstillref06_Fits.l0 k i at_ rs) (∀ j, i ≤ j → j < (rs.length : Int) → 0 ≤ rd rs j ∧ rd rs j ≤ 1152921504606846976) := by
  intro d
  induction d with
  | zero =>
    intro i h0 hd
    refine EvP.succ ?_
    simp only [standstillref06_Fits.l0]
    exact EvP.ifn (by omega) (EvP.true (all_end (by omega)))
  | succ d ih =>
    intro i h0 hd
    have nx := ih (i + 1) (by omega) (by omega)
    refine EvP.succ ?_
    simp only [standstillref06_Fits.l0]
    refine EvP.ifp (by omega) (EvP.ifp h0 ?_)
    simp only [wrap_id (x := i + 1) (by omega) (by omega)]
    refine EvP.ite (fun h => EvP.false (fun v => by have := (v i (by omega) (by omega)).1; omega)) (fun h1 => EvP.ite (fun h => EvP.false (fun v => by have := (v i (by omega) (by omega)).2; omega)) (fun h2 => ?_))
    exact EvP.iff (all_step (P := fun j => 0 ≤ rd rs j ∧ rd rs j ≤ 1152921504606846976) (by omega) ⟨by omega, by omega⟩) nx
theorem ref_fits (regs : Int) (code : List S35) (at_ : Int) (rs : List Int) : EvP (fun k => standstillref06_Fits.f k regs code at_ rs) (FC regs code at_ rs) := by
  unfold standstillref06_Fits.f
  have no : ¬ FC regs code at_ rs → EvP (fun k => standstillref06_Fits.j0 k true at_ rs) (FC regs code at_ rs) := fun h => by
    refine EvP.succ ?_
    simp only [standstillref06_Fits.j0, ↓reduceIte]
    exact EvP.false h
  refine EvP.bind (ref_valid regs code) (fun hv => ?_) (fun hv => ?_)
  · simp only [↓reduceIte, index_eq, Option.bind_some, decide_eq_true_eq]
    refine EvP.ite (fun h1 => ?_) (fun h1 => no (fun v => h1 ⟨v.2.1, v.2.2.1⟩))
    by_cases h2 : (rs.length : Int) = regs
    · rw [show ((rs.length : Int) != regs) = false by simp [h2]]
      refine EvP.succ ?_
      simp only [standstillref06_Fits.j0, Bool.false_eq_true, ↓reduceIte]
      exact EvP.iff ⟨fun h => ⟨hv, h1.1, h1.2, h2, h⟩, fun h => h.2.2.2.2⟩ (ref_small at_ rs (by have := hv.2.1; omega) rs.length 0 (by omega) (by omega))
    · rw [show ((rs.length : Int) != regs) = true by simp [h2]]
      exact no (fun v => h2 v.2.2.2.1)
  · simp only [Bool.false_eq_true, ↓reduceIte]
    exact no (fun v => hv v.1)

/-! ### the program -/
theorem ev_j2 {a b d e f : Int} {c g : List S35} {t : Bool} {x0 x1 x2 x3 : Int} {Q : Prop} (h : EvP (fun k => counter_Valid.j2 (k + 1) a c d e t f g x0 x1 x2 x3) Q) : EvP (fun k => counter_Valid.j2 k a c d e t f g x0 x1 x2 x3) Q := EvP.succ h
theorem ev_j3 {a b d e f : Int} {c g : List S35} {t : Bool} {x0 x1 x2 x3 : Int} {Q : Prop} (h : EvP (fun k => counter_Valid.j3 (k + 1) a c d e t f g x0 x1 x2 x3) Q) : EvP (fun k => counter_Valid.j3 k a c d e t f g x0 x1 x2 x3) Q := EvP.succ h
theorem prog_valid (regs : Int) (code : List S35) : EvP (fun k => counter_Valid.f k regs code) (VC regs code) := by
  have key : (code.length : Int) ≤ 2000 → ∀ (d : Nat) (i : Int), 0 ≤ i → (code.length : Int) - i = d → EvP (fun k => counter_Valid.l0 k (code.length : Int) code (code.length : Int) i regs code) (∀ j, i ≤ j → j < (code.length : Int) → OkI regs code.length (rd_T35 code j)) := by
    intro hl d
    induction d with
    | zero =>
      intro i h0 hd
      refine EvP.succ ?_
      simp only [counter_Valid.l0]
      exact EvP.ifn (by omega) (EvP.true (all_end (by omega)))
    | succ d ih =>
      intro i h0 hd
      have nx := ih (i + 1) (by omega) (by omega)
      refine EvP.succ ?_
      simp only [counter_Valid.l0]
      refine EvP.ifp (by omega) (EvP.ifp h0 (EvP.ifp (by omega) ?_))
      have hx : ∃ x, rd_T35 code i = x := ⟨_, rfl⟩
      obtain ⟨x, hx⟩ := hx
      have bad : ¬ OkI regs code.length x → EvP (fun _ => some false) (∀ j, i ≤ j → j < (code.length : Int) → OkI regs code.length (rd_T35 code j)) := fun hb => EvP.false (fun h => hb (hx ▸ h i (by omega) (by omega)))
      have good : OkI regs code.length x → EvP (fun k => counter_Valid.l0 k (code.length : Int) code (code.length : Int) (i + 1) regs code) (∀ j, i ≤ j → j < (code.length : Int) → OkI regs code.length (rd_T35 code j)) := fun hg => EvP.iff (all_step (P := fun j => OkI regs code.length (rd_T35 code j)) (by omega) (by show OkI regs code.length (rd_T35 code i); rw [hx]; exact hg)) nx
      rw [hx]
      clear hx nx ih
      simp only [OkI] at bad good
      have hw : wrap64 (i + 1) = i + 1 := wrap_id (by omega) (by omega)
      refine EvP.ite (fun _ => ?_) (fun _ => ?_)
      all_goals (refine ev_j2 (b := 0) ?_; simp only [counter_Valid.j2, hw, Bool.or_eq_true, Bool.not_eq_true', beq_eq_false_iff_ne, ne_eq, Bool.false_eq_true, ↓reduceIte])
      all_goals repeat' (first | refine EvP.ite (fun _ => ?_) (fun _ => ?_))
      all_goals first | exact bad (by omega) | exact good (by omega) | (exfalso; omega) | (refine ev_j3 (b := 0) ?_; simp only [counter_Valid.j3, hw, decide_eq_true_eq, ↓reduceIte])
      all_goals repeat' (first | refine EvP.ite (fun _ => ?_) (fun _ => ?_))
      all_goals first | exact bad (by omega) | exact good (by omega) | (exfalso; omega)
  unfold counter_Valid.f
  have no : ¬ VC regs code → EvP (fun k => counter_Valid.j0 k (code.length : Int) true regs code) (VC regs code) := fun h => by
    refine EvP.succ ?_
    simp only [counter_Valid.j0, ↓reduceIte]
    exact EvP.false h
  refine EvP.ite (fun h => no (fun v => ?_)) (fun h1 => EvP.ite (fun h => no (fun v => ?_)) (fun h2 => EvP.ite (fun h => no (fun v => ?_)) (fun h3 => ?_)))
  · obtain ⟨v1, v2, v3, v4, -⟩ := v; omega
  · obtain ⟨v1, v2, v3, v4, -⟩ := v; omega
  · obtain ⟨v1, v2, v3, v4, -⟩ := v; omega
  · by_cases h4 : (code.length : Int) > 2000
    · rw [decide_eq_true h4]
      exact no (fun v => by obtain ⟨v1, v2, v3, v4, -⟩ := v; omega)
    · rw [decide_eq_false h4]
      refine EvP.succ ?_
      simp only [counter_Valid.j0, Bool.false_eq_true, ↓reduceIte]
      exact EvP.iff ⟨fun h => ⟨by omega, by omega, by omega, by omega, h⟩, fun h => h.2.2.2.2⟩ (key (by omega) code.length 0 (by omega) (by omega))
theorem prog_small (rs : List Int) (hl : (rs.length : Int) ≤ 100) : ∀ (d : Nat) (i : Int), 0 ≤ i → (rs.length : Int) - i = d → EvP (fun k => counter_fits.l0 k rs (rs.length : Int) i) (∀ j, i ≤ j → j < (rs.length : Int) → 0 ≤ rd rs j ∧ rd rs j ≤ 1152921504606846976) := by
  intro d
  induction d with
  | zero =>
    intro i h0 hd
    refine EvP.succ ?_
    simp only [counter_fits.l0]
    exact EvP.ifn (by omega) (EvP.true (all_end (by omega)))
  | succ d ih =>
    intro i h0 hd
    have nx := ih (i + 1) (by omega) (by omega)
    refine EvP.succ ?_
    simp only [counter_fits.l0]
    refine EvP.ifp (by omega) (EvP.ifp h0 (EvP.ifp (by omega) ?_))
    simp only [wrap_id (x := i + 1) (by omega) (by omega)]
    refine EvP.ite (fun h => EvP.false (fun v => by have := (v i (by omega) (by omega)).1; omega)) (fun h1 => EvP.ite (fun h => EvP.false (fun v => by have := (v i (by omega) (by omega)).2; omega)) (fun h2 => ?_))
    exact EvP.iff (all_step (P := fun j => 0 ≤ rd rs j ∧ rd rs j ≤ 1152921504606846976) (by omega) ⟨by omega, by omega⟩) nx
theorem prog_fits (regs : Int) (code : List S35) (at_ : Int) (rs : List Int) : EvP (fun k => counter_Fits.f k regs code at_ rs) (FC regs code at_ rs) := by
  unfold counter_Fits.f
  refine EvP.bind (prog_valid regs code) (fun hv => ?_) (fun hv => ?_)
  · simp only [↓reduceIte]
    refine EvP.bind (R := FC regs code at_ rs) ?_ (fun h => EvP.true h) (fun h => EvP.false h)
    unfold counter_fits.f
    have no : ¬ FC regs code at_ rs → EvP (fun k => counter_fits.j0 k true at_ rs) (FC regs code at_ rs) := fun h => by
      refine EvP.succ ?_
      simp only [counter_fits.j0, ↓reduceIte]
      exact EvP.false h
    refine EvP.ite (fun h => no (fun v => by have := v.2.1; omega)) (fun h1 => EvP.ite (fun h => no (fun v => by have := v.2.2.1; omega)) (fun h2 => ?_))
    by_cases h3 : (rs.length : Int) = regs
    · rw [show ((rs.length : Int) != regs) = false by simp [h3]]
      refine EvP.succ ?_
      simp only [counter_fits.j0, Bool.false_eq_true, ↓reduceIte]
      exact EvP.iff ⟨fun h => ⟨hv, by omega, by omega, h3, h⟩, fun h => h.2.2.2.2⟩ (prog_small rs (by have := hv.2.1; omega) rs.length 0 (by omega) (by omega))
    · rw [show ((rs.length : Int) != regs) = true by simp [h3]]
      exact no (fun v => h3 v.2.2.2.1)
  · simp only [Bool.false_eq_true, ↓reduceIte]
    exact EvP.false (fun v => hv v.1)
end Go.Proofs.Ytcdmgeceahmngaa.Pure
