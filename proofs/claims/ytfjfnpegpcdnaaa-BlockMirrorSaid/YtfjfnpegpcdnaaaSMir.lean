/- The mirrored machine, and its crossings. -/
import Derived.Test.YtfjfnpegpcdnaaaSSem

namespace Go.Proofs.Ytfjfnpegpcdnaaa.Pure
open Go.RowKit Go.Proofs.YtfjfnpegpcdnaaaW.PrintWords Go.Proofs.YtfjfnpegpcdnaaaW.PrintLast Go.Proofs.YtfjfnpegpcdnaaaW.PrintMore Go.Proofs.Ytfjfnpegpcdnaaa.GB
set_option linter.unusedVariables false
set_option linter.unusedSimpArgs false

def mrule (r : S57) : S57 := ⟨r.f0, -r.f1, r.f2⟩
def mrow (l : List S57) : List S57 := l.map mrule
def mrows (R : List (List S57)) : List (List S57) := R.map mrow
theorem mrow_rd (l : List S57) (i : Int) (h0 : 0 ≤ i) (h1 : i < l.length) : rd_T57 (mrow l) i = mrule (rd_T57 l i) := by
  have hi : i.toNat < l.length := by omega
  simp [rd_T57, mrow, List.getD_eq_getElem?_getD, hi]
theorem mrows_rd (R : List (List S57)) (i : Int) (h0 : 0 ≤ i) (h1 : i < R.length) : rd_L2 (mrows R) i = mrow (rd_L2 R i) := by
  have hi : i.toNat < R.length := by omega
  simp [rd_L2, mrows, List.getD_eq_getElem?_getD, hi]
theorem mVM {n s : Int} {R : List (List S57)} (vm : VM n s R) : VM n s (mrows R) := by
  obtain ⟨h0, h1, h2, h3, h4, h5⟩ := vm
  refine ⟨h0, h1, h2, h3, by simp [mrows, h4], fun i a b => ?_⟩
  have ok := h5 i a b
  unfold OkRow
  rw [mrows_rd R i a (by omega)]
  refine ⟨by simp [mrow, ok.1], fun j c d => ?_⟩
  rw [mrow_rd _ j c (by have := ok.1; omega)]
  have := ok.2 j c d
  simp only [OkRule, mrule] at this ⊢
  omega
def mir (W : Int) (c : Mom) : Mom := (c.1, W - 1 - c.2.1, c.2.2.reverse)
theorem rd_rev {l : List Int} {p : Int} (h0 : 0 ≤ p) (h1 : p < l.length) : rd l.reverse ((l.length : Int) - 1 - p) = rd l p := by
  unfold rd
  rw [List.getD_eq_getElem?_getD, List.getD_eq_getElem?_getD, List.getElem?_reverse (by omega)]
  congr 2
  omega
theorem set_rev {l : List Int} {p : Int} (v : Int) (h0 : 0 ≤ p) (h1 : p < l.length) : l.reverse.set ((l.length : Int) - 1 - p).toNat v = (l.set p.toNat v).reverse := by
  apply List.ext_getElem
  · simp
  · intro i a b
    simp only [List.length_set, List.length_reverse] at a b
    rw [List.getElem_set, List.getElem_reverse, List.getElem_reverse, List.getElem_set]
    simp only [List.length_set]
    by_cases e : ((l.length : Int) - 1 - p).toNat = i
    · rw [if_pos e, if_pos (by omega)]
    · rw [if_neg e, if_neg (by omega)]
theorem mir_in {W : Int} {c : Mom} (h : In W c) : In W (mir W c) := ⟨h.1, by have := h.2.2; simp only [mir]; omega, by have := h.2.1; simp only [mir]; omega⟩
theorem mir_step {n s W : Int} {R : List (List S57)} {c : Mom} (vm : VM n s R) (g : Good n s W c) (i : In W c) : step (mrows R) (mir W c) = mir W (step R c) := by
  obtain ⟨o0, o1, o2, o3, p0, p1, p2, p3, p4⟩ := rule_ok vm g i
  have hl := g.2.2.2.2.1
  have e1 : rd c.2.2.reverse (W - 1 - c.2.1) = rd c.2.2 c.2.1 := by rw [← hl]; exact rd_rev i.2.1 (by have := i.2.2; omega)
  have e2 : rule (mrows R) (mir W c) = mrule (rule R c) := by
    simp only [rule, mir]
    rw [e1, mrows_rd R c.1 o1 o0, mrow_rd _ _ o2 o3]
  have e3 : c.2.2.reverse.set (W - 1 - c.2.1).toNat (rule R c).f0 = (c.2.2.set c.2.1.toNat (rule R c).f0).reverse := by rw [← hl]; exact set_rev _ i.2.1 (by have := i.2.2; omega)
  simp only [step, e2]
  simp only [mir, mrule, e3]
  congr 2
  omega
theorem mir_it {n s W : Int} {R : List (List S57)} {c : Mom} (vm : VM n s R) (g : Good n s W c) : ∀ m, (∀ i, i < m → In W (it R c i)) → it (mrows R) (mir W c) m = mir W (it R c m)
  | 0, _ => rfl
  | m + 1, h => by
    simp only [it]
    rw [mir_it vm g m (fun i hi => h i (by omega)), mir_step vm (it_good vm g m (fun i hi => h i (by omega))) (h m (by omega))]
def mres (W : Int) (r : Res) : Res := if r.1 = 3 then r else ((if r.1 = 0 then 1 else if r.1 = 1 then 0 else 2), r.2.1, r.2.2.1, W - 1 - r.2.2.2.1, r.2.2.2.2.reverse)
theorem Sem.mir {n s W : Int} {R : List (List S57)} {c : Mom} {r : Res} (vm : VM n s R) (g : Good n s W c) (h : Sem R W c r) : Sem (mrows R) W (Pure.mir W c) (mres W r) := by
  rcases h with ⟨m, h1, h2, rfl⟩ | ⟨h1, rfl⟩
  · have hm := mir_it vm g m h1
    have gm := it_good vm g m h1
    refine Or.inl ⟨m, fun i hi => ?_, ?_, ?_⟩
    · rw [mir_it vm g i (fun j hj => h1 j (by omega))]
      exact mir_in (h1 i hi)
    · rw [hm]
      intro h
      exact h2 ⟨h.1, by have := h.2.2; simp only [Pure.mir] at this; omega, by have := h.2.1; simp only [Pure.mir] at this; omega⟩
    · rw [hm]
      have hk : kind W (it R c m) ≠ 3 := by unfold kind; split <;> (try split) <;> omega
      simp only [mres, if_neg hk, Pure.mir]
      congr 1
      obtain ⟨g0, g1, g2, g3, g4, g5⟩ := gm
      by_cases e : (it R c m).1 = -1
      · simp [kind, e]
      · have h3 : ¬ (0 ≤ (it R c m).2.1 ∧ (it R c m).2.1 < W) := fun h => h2 ⟨e, h.1, h.2⟩
        by_cases e2 : (it R c m).2.1 < 0
        · have e3 : ¬ W - 1 - (it R c m).2.1 < 0 := by
            intro e3
            omega
          simp [kind, e, e2, e3]
        · have e3 : W - 1 - (it R c m).2.1 < 0 := by omega
          simp [kind, e, e2, e3]
  · refine Or.inr ⟨fun i => ?_, by simp [mres]⟩
    rw [mir_it vm g i (fun j _ => h1 j)]
    exact mir_in (h1 i)
end Go.Proofs.Ytfjfnpegpcdnaaa.Pure
