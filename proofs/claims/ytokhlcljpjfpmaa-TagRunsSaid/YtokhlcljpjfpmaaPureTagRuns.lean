/- The pure statement of TagRuns: what the program and the reference compute of tag systems agrees. No condition. -/
import Derived.Test.YtokhlcljpjfpmaaStmtTagRuns
namespace Go.Proofs.Ytokhlcljpjfpmaa.Pure
open Go.RowKit Go.Proofs.YtokhlcljpjfpmaaW.PrintWords Go.Proofs.YtokhlcljpjfpmaaW.PrintLast Go.Proofs.YtokhlcljpjfpmaaW.PrintMore Go.Proofs.Ytokhlcljpjfpmaa.G
set_option linter.unusedVariables false

theorem wrap_id {x : Int} (h0 : -9223372036854775808 ≤ x) (h1 : x ≤ 9223372036854775807) : wrap64 x = x := by
  unfold wrap64
  omega
theorem rd_drop (l : List Int) (a : Nat) (h : a ≤ l.length) (i : Nat) : rd (l.drop a) i = rd l (a + i : Nat) := by
  have e : ((a : Int) + (i : Int)).toNat = a + i := by omega
  simp [rd, List.getD_eq_getElem?_getD, List.getElem?_drop, e]
theorem Ev.bind' {α β : Type} {g : Nat → Option α} {f : Nat → α → Option β} {a : α} {r : β} (h : Ev g a) (k : Ev (fun n => f n a) r) : Ev (fun n => (g n).bind (f n)) r := Ev.bind h k
theorem Ev.eq {α : Type} {g f : Nat → Option α} {r : α} (k : Ev f r) (h : ∀ k, g k = f k) : Ev g r := Ev.congr h k

/-! ### the letters -/
def lettersB (l : List Int) (n : Int) : Bool := l.all fun x => decide (0 ≤ x) && decide (x < n)
theorem lettersB_iff {l : List Int} {n : Int} : lettersB l n = true ↔ ∀ x ∈ l, 0 ≤ x ∧ x < n := by simp [lettersB]

theorem ref_letters (l : List Int) (n : Int) (hl : l.length ≤ 17592186044416) : Ev (fun k => standstillref07_letters.f k l n) (lettersB l n) := by
  have key : ∀ (d i : Nat), i + d = l.length → Ev (fun k => standstillref07_letters.l0 k l n (i : Int)) (lettersB (l.drop i) n) := by
    intro d
    induction d with
    | zero =>
      intro i hi
      refine Ev.step (f := fun _ => some true) (fun k => ?_) ?_
      · simp only [standstillref07_letters.l0]; rw [if_neg (by omega)]
      · rw [List.drop_of_length_le (by omega)]; exact Ev.now true
    | succ d ih =>
      intro i hi
      have hlt : i < l.length := by omega
      have e : rd l i = l[i] := by simp [rd, List.getD_eq_getElem?_getD, hlt]
      have ed : l.drop i = l[i] :: l.drop (i + 1) := by rw [List.drop_eq_getElem_cons hlt]
      by_cases h1 : l[i] < 0
      · refine Ev.step (f := fun _ => some false) (fun k => ?_) ?_
        · simp only [standstillref07_letters.l0]; rw [if_pos (by omega), if_pos (by omega), e, if_pos h1]
        · rw [ed]; simp only [lettersB, List.all_cons, show decide (0 ≤ l[i]) = false from decide_eq_false (by omega), Bool.false_and]; exact Ev.now false
      · by_cases h2 : l[i] ≥ n
        · refine Ev.step (f := fun _ => some false) (fun k => ?_) ?_
          · simp only [standstillref07_letters.l0]; rw [if_pos (by omega), if_pos (by omega), e, if_neg h1, if_pos h2]
          · rw [ed]; simp only [lettersB, List.all_cons, show decide (l[i] < n) = false from decide_eq_false (by omega), Bool.and_false, Bool.false_and]; exact Ev.now false
        · refine Ev.step (f := fun k => standstillref07_letters.l0 k l n ((i + 1 : Nat) : Int)) (fun k => ?_) ?_
          · simp only [standstillref07_letters.l0]; rw [if_pos (by omega), if_pos (by omega), e, if_neg h1, if_neg h2, wrap_id (by omega) (by omega)]; rfl
          · rw [ed]; simp only [lettersB, List.all_cons, show decide (0 ≤ l[i]) = true from decide_eq_true (by omega), show decide (l[i] < n) = true from decide_eq_true (by omega), Bool.true_and]; exact ih (i + 1) (by omega)
  exact key l.length 0 (by omega)

theorem tag_letters_ev (l : List Int) (n : Int) (hl : l.length ≤ 17592186044416) : Ev (fun k => tag_letters.f k l n) (lettersB l n) := by
  have key : ∀ (d i : Nat), i + d = l.length → Ev (fun k => tag_letters.l0 k n l (l.length : Int) (i : Int)) (lettersB (l.drop i) n) := by
    intro d
    induction d with
    | zero =>
      intro i hi
      refine Ev.step (f := fun _ => some true) (fun k => ?_) ?_
      · simp only [tag_letters.l0]; rw [if_neg (by omega)]
      · rw [List.drop_of_length_le (by omega)]; exact Ev.now true
    | succ d ih =>
      intro i hi
      have hlt : i < l.length := by omega
      have e : rd l i = l[i] := by simp [rd, List.getD_eq_getElem?_getD, hlt]
      have ed : l.drop i = l[i] :: l.drop (i + 1) := by rw [List.drop_eq_getElem_cons hlt]
      by_cases h1 : l[i] < 0
      · refine Ev.step (f := fun _ => some false) (fun k => ?_) ?_
        · simp only [tag_letters.l0]; rw [if_pos (by omega), if_pos (by omega), if_pos (by omega), e, if_pos h1]
        · rw [ed]; simp only [lettersB, List.all_cons, show decide (0 ≤ l[i]) = false from decide_eq_false (by omega), Bool.false_and]; exact Ev.now false
      · by_cases h2 : l[i] ≥ n
        · refine Ev.step (f := fun _ => some false) (fun k => ?_) ?_
          · simp only [tag_letters.l0]; rw [if_pos (by omega), if_pos (by omega), if_pos (by omega), e, if_neg h1, if_pos h2]
          · rw [ed]; simp only [lettersB, List.all_cons, show decide (l[i] < n) = false from decide_eq_false (by omega), Bool.and_false, Bool.false_and]; exact Ev.now false
        · refine Ev.step (f := fun k => tag_letters.l0 k n l (l.length : Int) ((i + 1 : Nat) : Int)) (fun k => ?_) ?_
          · simp only [tag_letters.l0]; rw [if_pos (by omega), if_pos (by omega), if_pos (by omega), e, if_neg h1, if_neg h2, wrap_id (by omega) (by omega)]; rfl
          · rw [ed]; simp only [lettersB, List.all_cons, show decide (0 ≤ l[i]) = true from decide_eq_true (by omega), show decide (l[i] < n) = true from decide_eq_true (by omega), Bool.true_and]; exact ih (i + 1) (by omega)
  exact key l.length 0 (by omega)

/-! ### valid -/
def rulesB (R : List (List Int)) (n : Int) : Bool := R.all fun w => decide (w.length ≤ 200) && lettersB w n
def validB (D : Int) (R : List (List Int)) (S : List Bool) : Bool :=
  decide (1 ≤ D) && decide (D ≤ 4) && decide (1 ≤ R.length) && decide (R.length ≤ 600) && decide (S.length = R.length) && rulesB R (R.length : Int)
def fitsB (D : Int) (R : List (List Int)) (S : List Bool) (q : List Int) : Bool := validB D R S && decide (q.length ≤ 100000) && lettersB q (R.length : Int)

theorem rd_L1_at (R : List (List Int)) (i : Nat) (h : i < R.length) : rd_L1 R (i : Int) = R[i] := by
  simp [rd_L1, List.getD_eq_getElem?_getD, h]

theorem ref_valid (D : Int) (R : List (List Int)) (S : List Bool) (hR : R.length ≤ 17592186044416) (hw : ∀ w ∈ R, w.length ≤ 17592186044416) : Ev (fun k => standstillref07_Valid.f k D R S) (validB D R S) := by
  have key : ∀ (d i : Nat), i + d = R.length → Ev (fun k => standstillref07_Valid.l0 k (R.length : Int) (i : Int) D R S) (rulesB (R.drop i) (R.length : Int)) := by
    intro d
    induction d with
    | zero =>
      intro i hi
      refine Ev.step (f := fun _ => some true) (fun k => ?_) ?_
      · simp only [standstillref07_Valid.l0]; rw [if_neg (by omega)]
      · rw [List.drop_of_length_le (by omega)]; exact Ev.now true
    | succ d ih =>
      intro i hi
      have hlt : i < R.length := by omega
      have ed : R.drop i = R[i] :: R.drop (i + 1) := by rw [List.drop_eq_getElem_cons hlt]
      have e := rd_L1_at R i hlt
      by_cases h1 : R[i].length ≤ 200
      · have hl := ref_letters R[i] (R.length : Int) (hw _ (List.getElem_mem hlt))
        refine Ev.step (f := fun k => (standstillref07_letters.f k R[i] (R.length : Int)).bind fun t => if t = true then standstillref07_Valid.l0 k (R.length : Int) ((i + 1 : Nat) : Int) D R S else some false) (fun k => ?_) ?_
        · simp only [standstillref07_Valid.l0]; rw [if_pos (by omega), if_pos (by omega), if_pos (by omega), e, if_neg (by omega), wrap_id (by omega) (by omega)]; rfl
        · refine Ev.bind' hl ?_
          rw [ed]
          simp only [rulesB, List.all_cons, show decide (R[i].length ≤ 200) = true from decide_eq_true (by omega), Bool.true_and]
          cases lettersB R[i] (R.length : Int) with
          | true => simpa [rulesB] using ih (i + 1) (by omega)
          | false => simpa using Ev.now false
      · refine Ev.step (f := fun _ => some false) (fun k => ?_) ?_
        · simp only [standstillref07_Valid.l0]; rw [if_pos (by omega), if_pos (by omega), if_pos (by omega), e, if_pos (by omega)]
        · rw [ed]; simp only [rulesB, List.all_cons, show decide (R[i].length ≤ 200) = false from decide_eq_false (by omega), Bool.false_and]; exact Ev.now false
  have no : ∀ x, Ev (fun k => standstillref07_Valid.j0 k x true D R S) false := fun x => Ev.step (f := fun _ => some false) (fun k => by simp [standstillref07_Valid.j0]) (Ev.now false)
  unfold validB
  by_cases h1 : D < 1
  · rw [show decide (1 ≤ D) = false from decide_eq_false (by omega)]
    exact Ev.eq (no (R.length : Int)) fun k => by unfold standstillref07_Valid.f; rw [if_pos h1]
  · by_cases h2 : D > 4
    · rw [show decide (D ≤ 4) = false from decide_eq_false (by omega)]
      simp only [Bool.and_false, Bool.false_and]
      exact Ev.eq (no (R.length : Int)) fun k => by unfold standstillref07_Valid.f; rw [if_neg h1, if_pos h2]
    · by_cases h3 : (R.length : Int) < 1
      · rw [show decide (1 ≤ R.length) = false from decide_eq_false (by omega)]
        simp only [Bool.and_false, Bool.false_and]
        exact Ev.eq (no (R.length : Int)) fun k => by unfold standstillref07_Valid.f; rw [if_neg h1, if_neg h2, if_pos h3]
      · by_cases h4 : (R.length : Int) > 600
        · rw [show decide (R.length ≤ 600) = false from decide_eq_false (by omega)]
          simp only [Bool.and_false, Bool.false_and]
          exact Ev.eq (no (R.length : Int)) fun k => by unfold standstillref07_Valid.f; rw [if_neg h1, if_neg h2, if_neg h3, if_pos h4]
        · have e0 : ∀ k, standstillref07_Valid.f k D R S = standstillref07_Valid.j0 k (R.length : Int) ((S.length : Int) != (R.length : Int)) D R S := fun k => by unfold standstillref07_Valid.f; rw [if_neg h1, if_neg h2, if_neg h3, if_neg h4]
          rw [show decide (1 ≤ D) = true from decide_eq_true (by omega), show decide (D ≤ 4) = true from decide_eq_true (by omega), show decide (1 ≤ R.length) = true from decide_eq_true (by omega), show decide (R.length ≤ 600) = true from decide_eq_true (by omega)]
          by_cases h5 : S.length = R.length
          · rw [show decide (S.length = R.length) = true from by simp [h5]]
            simp only [Bool.true_and]
            refine Ev.eq ?_ e0
            refine Ev.step (f := fun k => standstillref07_Valid.l0 k (R.length : Int) ((0 : Nat) : Int) D R S) (fun k => ?_) (key R.length 0 (by omega))
            simp only [standstillref07_Valid.j0, h5, bne_self_eq_false]
            rw [if_neg (by simp)]
            rfl
          · rw [show decide (S.length = R.length) = false from by simp [h5]]
            simp only [Bool.and_false, Bool.false_and]
            refine Ev.eq ?_ e0
            rw [show ((S.length : Int) != (R.length : Int)) = true from by simp; omega]
            exact no _

theorem tag_valid (D : Int) (R : List (List Int)) (S : List Bool) (hR : R.length ≤ 17592186044416) (hw : ∀ w ∈ R, w.length ≤ 17592186044416) : Ev (fun k => tag_Valid.f k D R S) (validB D R S) := by
  have key : ∀ (d i : Nat), i + d = R.length → Ev (fun k => tag_Valid.l0 k (R.length : Int) R (R.length : Int) (i : Int)) (rulesB (R.drop i) (R.length : Int)) := by
    intro d
    induction d with
    | zero =>
      intro i hi
      refine Ev.step (f := fun _ => some true) (fun k => ?_) ?_
      · simp only [tag_Valid.l0]; rw [if_neg (by omega)]
      · rw [List.drop_of_length_le (by omega)]; exact Ev.now true
    | succ d ih =>
      intro i hi
      have hlt : i < R.length := by omega
      have ed : R.drop i = R[i] :: R.drop (i + 1) := by rw [List.drop_eq_getElem_cons hlt]
      have e := rd_L1_at R i hlt
      by_cases h1 : R[i].length ≤ 200
      · have hl := tag_letters_ev R[i] (R.length : Int) (hw _ (List.getElem_mem hlt))
        refine Ev.step (f := fun k => (tag_letters.f k R[i] (R.length : Int)).bind fun t => if t = true then tag_Valid.l0 k (R.length : Int) R (R.length : Int) ((i + 1 : Nat) : Int) else some false) (fun k => ?_) ?_
        · simp only [tag_Valid.l0]; rw [if_pos (by omega), if_pos (by omega), if_pos (by omega), e, if_neg (by omega), wrap_id (by omega) (by omega)]; rfl
        · refine Ev.bind' hl ?_
          rw [ed]
          simp only [rulesB, List.all_cons, show decide (R[i].length ≤ 200) = true from decide_eq_true (by omega), Bool.true_and]
          cases lettersB R[i] (R.length : Int) with
          | true => simpa [rulesB] using ih (i + 1) (by omega)
          | false => simpa using Ev.now false
      · refine Ev.step (f := fun _ => some false) (fun k => ?_) ?_
        · simp only [tag_Valid.l0]; rw [if_pos (by omega), if_pos (by omega), if_pos (by omega), e, if_pos (by omega)]
        · rw [ed]; simp only [rulesB, List.all_cons, show decide (R[i].length ≤ 200) = false from decide_eq_false (by omega), Bool.false_and]; exact Ev.now false
  have no : ∀ x, Ev (fun k => tag_Valid.j0 k x true D R S) false := fun x => Ev.step (f := fun _ => some false) (fun k => by simp [tag_Valid.j0]) (Ev.now false)
  unfold validB
  by_cases h1 : D < 1
  · rw [show decide (1 ≤ D) = false from decide_eq_false (by omega)]
    exact Ev.eq (no (R.length : Int)) fun k => by unfold tag_Valid.f; rw [if_pos h1]
  · by_cases h2 : D > 4
    · rw [show decide (D ≤ 4) = false from decide_eq_false (by omega)]
      simp only [Bool.and_false, Bool.false_and]
      exact Ev.eq (no (R.length : Int)) fun k => by unfold tag_Valid.f; rw [if_neg h1, if_pos h2]
    · by_cases h3 : (R.length : Int) < 1
      · rw [show decide (1 ≤ R.length) = false from decide_eq_false (by omega)]
        simp only [Bool.and_false, Bool.false_and]
        exact Ev.eq (no (R.length : Int)) fun k => by unfold tag_Valid.f; rw [if_neg h1, if_neg h2, if_pos h3]
      · by_cases h4 : (R.length : Int) > 600
        · rw [show decide (R.length ≤ 600) = false from decide_eq_false (by omega)]
          simp only [Bool.and_false, Bool.false_and]
          exact Ev.eq (no (R.length : Int)) fun k => by unfold tag_Valid.f; rw [if_neg h1, if_neg h2, if_neg h3, if_pos h4]
        · have e0 : ∀ k, tag_Valid.f k D R S = tag_Valid.j0 k (R.length : Int) ((S.length : Int) != (R.length : Int)) D R S := fun k => by unfold tag_Valid.f; rw [if_neg h1, if_neg h2, if_neg h3, if_neg h4]
          rw [show decide (1 ≤ D) = true from decide_eq_true (by omega), show decide (D ≤ 4) = true from decide_eq_true (by omega), show decide (1 ≤ R.length) = true from decide_eq_true (by omega), show decide (R.length ≤ 600) = true from decide_eq_true (by omega)]
          by_cases h5 : S.length = R.length
          · rw [show decide (S.length = R.length) = true from by simp [h5]]
            simp only [Bool.true_and]
            refine Ev.eq ?_ e0
            refine Ev.step (f := fun k => tag_Valid.l0 k (R.length : Int) R (R.length : Int) ((0 : Nat) : Int)) (fun k => ?_) (key R.length 0 (by omega))
            simp only [tag_Valid.j0, h5, bne_self_eq_false]
            rw [if_neg (by simp)]
            rfl
          · rw [show decide (S.length = R.length) = false from by simp [h5]]
            simp only [Bool.and_false, Bool.false_and]
            refine Ev.eq ?_ e0
            rw [show ((S.length : Int) != (R.length : Int)) = true from by simp; omega]
            exact no _

theorem ref_fits (D : Int) (R : List (List Int)) (S : List Bool) (q : List Int) (hR : R.length ≤ 17592186044416) (hw : ∀ w ∈ R, w.length ≤ 17592186044416) (hq : q.length ≤ 17592186044416) : Ev (fun k => standstillref07_Fits.f k D R S q) (fitsB D R S q) := by
  unfold standstillref07_Fits.f fitsB
  refine Ev.bind' (ref_valid D R S hR hw) ?_
  cases validB D R S with
  | false => simpa using Ev.now false
  | true =>
    by_cases h : (q.length : Int) ≤ 100000
    · simp only [if_true, if_pos h, show decide (q.length ≤ 100000) = true from decide_eq_true (by omega), Bool.true_and]
      exact Ev.bind' (ref_letters q _ hq) (Ev.now _)
    · simp only [if_true, if_neg h, show decide (q.length ≤ 100000) = false from decide_eq_false (by omega), Bool.true_and, Bool.false_and]
      exact Ev.now false
theorem tag_fits (D : Int) (R : List (List Int)) (S : List Bool) (q : List Int) (hR : R.length ≤ 17592186044416) (hw : ∀ w ∈ R, w.length ≤ 17592186044416) (hq : q.length ≤ 17592186044416) : Ev (fun k => tag_Fits.f k D R S q) (fitsB D R S q) := by
  unfold tag_Fits.f fitsB
  refine Ev.bind' (tag_valid D R S hR hw) ?_
  cases validB D R S with
  | false => simpa using Ev.now false
  | true =>
    by_cases h : (q.length : Int) ≤ 100000
    · simp only [if_true, if_pos h, show decide (q.length ≤ 100000) = true from decide_eq_true (by omega), Bool.true_and]
      exact Ev.bind' (tag_letters_ev q _ hq) (Ev.now _)
    · simp only [if_true, if_neg h, show decide (q.length ≤ 100000) = false from decide_eq_false (by omega), Bool.true_and, Bool.false_and]
      exact Ev.now false

/-! ### the run -/
structure Good (D : Int) (R : List (List Int)) (S : List Bool) : Prop where
  d1 : 1 ≤ D
  d2 : D ≤ 4
  sl : S.length = R.length
  rl : ∀ w ∈ R, w.length ≤ 200
  rx : ∀ w ∈ R, ∀ x ∈ w, 0 ≤ x ∧ x < (R.length : Int)
theorem good_of {D : Int} {R : List (List Int)} {S : List Bool} (h : validB D R S = true) : Good D R S := by
  simp only [validB, Bool.and_eq_true, decide_eq_true_eq, rulesB, List.all_eq_true] at h
  obtain ⟨⟨⟨⟨⟨h1, h2⟩, h3⟩, h4⟩, h5⟩, h6⟩ := h
  exact ⟨h1, h2, h5, fun w hw => (h6 w hw).1, fun w hw => lettersB_iff.1 (h6 w hw).2⟩
theorem fits_parts {D : Int} {R : List (List Int)} {S : List Bool} {q : List Int} (h : fitsB D R S q = true) : Good D R S ∧ q.length ≤ 100000 ∧ ∀ x ∈ q, 0 ≤ x ∧ x < (R.length : Int) := by
  simp only [fitsB, Bool.and_eq_true, decide_eq_true_eq] at h
  exact ⟨good_of h.1.1, h.1.2, lettersB_iff.1 h.2⟩

def stoppedB (D : Int) (S : List Bool) (q : List Int) : Bool := decide ((q.length : Int) < D) || rdOf false S (rd q 0)
def nextQ (D : Int) (R : List (List Int)) (q : List Int) : List Int := (q ++ rd_L1 R (rd q 0)).drop D.toNat

theorem head_in {q : List Int} {n : Int} (hq : ∀ x ∈ q, 0 ≤ x ∧ x < n) (h : 0 < q.length) : 0 ≤ rd q 0 ∧ rd q 0 < n := by
  have e : rd q 0 = q[0] := by simp [rd, List.getD_eq_getElem?_getD, h]
  rw [e]
  exact hq _ (List.getElem_mem h)
theorem rule_in {D : Int} {R : List (List Int)} {S : List Bool} (g : Good D R S) {x : Int} (h0 : 0 ≤ x) (h1 : x < (R.length : Int)) : rd_L1 R x ∈ R := by
  obtain ⟨n, rfl⟩ := Int.eq_ofNat_of_zero_le h0
  rw [rd_L1_at R n (by omega)]
  exact List.getElem_mem _
theorem next_in {D : Int} {R : List (List Int)} {S : List Bool} (g : Good D R S) {q : List Int} (hq : ∀ x ∈ q, 0 ≤ x ∧ x < (R.length : Int)) (h : 0 < q.length) : ∀ x ∈ nextQ D R q, 0 ≤ x ∧ x < (R.length : Int) := by
  intro x hx
  obtain ⟨h0, h1⟩ := head_in hq h
  rcases List.mem_append.1 (List.mem_of_mem_drop hx) with hx | hx
  · exact hq x hx
  · exact g.rx _ (rule_in g h0 h1) x hx

theorem stopped_ev {D : Int} {R : List (List Int)} {S : List Bool} (g : Good D R S) {q : List Int} (hq : ∀ x ∈ q, 0 ≤ x ∧ x < (R.length : Int)) : standstillref07_Stopped.f D R S q = some (stoppedB D S q) := by
  unfold standstillref07_Stopped.f stoppedB
  by_cases h : (q.length : Int) < D
  · rw [if_pos h, decide_eq_true h, Bool.true_or]
  · have hd := g.d1
    have hl : 0 < q.length := by omega
    obtain ⟨h0, h1⟩ := head_in hq hl
    rw [if_neg h, if_pos (by omega), if_pos h0, if_pos (by rw [g.sl]; exact h1), decide_eq_false h, Bool.false_or]
theorem step_ev {D : Int} {R : List (List Int)} {S : List Bool} (g : Good D R S) {q : List Int} (hq : ∀ x ∈ q, 0 ≤ x ∧ x < (R.length : Int)) (hl : q.length ≤ 100000) (hs : ¬ (q.length : Int) < D) :
    standstillref07_Step.f D R S q = if ((nextQ D R q).length : Int) > 100000 then some ([], false) else some (nextQ D R q, true) := by
  have hd := g.d1
  have hl0 : 0 < q.length := by omega
  obtain ⟨h0, h1⟩ := head_in hq hl0
  have h2 := g.rl _ (rule_in g h0 h1)
  unfold standstillref07_Step.f nextQ
  rw [if_pos ⟨hl0, h0, h1, by omega, by omega, by rw [List.length_append]; omega⟩]

/-- One round of the program's loop, over the letters that are left. -/
theorem round {D : Int} {R : List (List Int)} {S : List Bool} (g : Good D R S) {q l : List Int} {at_ : Nat} {i n : Int} (hq : ∀ x ∈ q, 0 ≤ x ∧ x < (R.length : Int)) (hl : q.length ≤ 100000) (e : l.drop at_ = q) (ha : at_ ≤ l.length) (hb : l.length ≤ 1000000000) (hi : i < n) :
    (stoppedB D S q = true → ∀ k, tag_Run.l0 (k + 1) i l at_ D R S n = some (q, i, 0)) ∧
    (stoppedB D S q = false → ((nextQ D R q).length > 100000 → ∀ k, tag_Run.l0 (k + 1) i l at_ D R S n = some ([], 0, 4)) ∧
      ((nextQ D R q).length ≤ 100000 → ∃ (l' : List Int) (a' : Nat), l'.drop a' = nextQ D R q ∧ a' ≤ l'.length ∧ l'.length ≤ l.length + 200 ∧ ∀ k, tag_Run.l0 (k + 1) i l at_ D R S n = tag_Run.l0 k (i + 1) l' a' D R S n)) := by
  have hlen : (l.length : Int) - at_ = q.length := by rw [← e, List.length_drop]; omega
  have hd := g.d1
  have hd2 := g.d2
  by_cases hs : (q.length : Int) < D
  · refine ⟨fun _ k => ?_, fun h => ?_⟩
    · simp only [tag_Run.l0]; rw [if_pos hi, if_pos (by omega), Int.toNat_natCast, e]
    · simp [stoppedB, hs] at h
  · have hl0 : 0 < q.length := by omega
    obtain ⟨h0, h1⟩ := head_in hq hl0
    have er : rd l at_ = rd q 0 := by
      have := rd_drop l at_ ha 0
      rw [e] at this
      simpa using this.symm
    have hw := g.rl _ (rule_in g h0 h1)
    have el : l ++ rd_L1 R (rd q 0) = l.take at_ ++ (q ++ rd_L1 R (rd q 0)) := by rw [← List.append_assoc, ← e, List.take_append_drop]
    have hD : (D.toNat : Int) = D := by omega
    have eN : (l ++ rd_L1 R (rd q 0)).drop (at_ + D).toNat = nextQ D R q := by
      have : ((at_ : Int) + D).toNat = at_ + D.toNat := by omega
      rw [this, el, List.drop_append, List.length_take, Nat.min_eq_left ha, Nat.add_sub_cancel_left, List.drop_of_length_le (by simp; omega)]
      rfl
    have lN : (nextQ D R q).length = q.length + (rd_L1 R (rd q 0)).length - D.toNat := by unfold nextQ; rw [List.length_drop, List.length_append]
    have lA : (l ++ rd_L1 R (rd q 0)).length = l.length + (rd_L1 R (rd q 0)).length := List.length_append
    refine ⟨fun h k => ?_, fun h => ?_⟩
    · have h' : rdOf false S (rd q 0) = true := by simpa [stoppedB, hs] using h
      simp only [tag_Run.l0]
      rw [if_pos hi, if_neg (by omega), er, if_pos ⟨by omega, by omega, h0, by rw [g.sl]; exact h1⟩, if_pos h', Int.toNat_natCast, e]
    · have h' : ¬ rdOf false S (rd q 0) = true := by
        have : rdOf false S (rd q 0) = false := by simpa [stoppedB, hs] using h
        simp [this]
      have c : ∀ k, tag_Run.l0 (k + 1) i l at_ D R S n = (if at_ + D > ((l ++ rd_L1 R (rd q 0)).length : Int) / 2 ∧ at_ + D > 1000 then
            (if ((((l ++ rd_L1 R (rd q 0)).drop (at_ + D).toNat).length : Int) - 0 > 100000) then (some ([], 0, 4)) else tag_Run.l0 k (i + 1) ((l ++ rd_L1 R (rd q 0)).drop (at_ + D).toNat) 0 D R S n)
           else (if ((l ++ rd_L1 R (rd q 0)).length : Int) - (at_ + D) > 100000 then (some ([], 0, 4)) else tag_Run.l0 k (i + 1) (l ++ rd_L1 R (rd q 0)) (at_ + D) D R S n)) := by
        intro k
        simp only [tag_Run.l0]
        rw [if_pos hi, if_neg (by omega), er, if_pos ⟨by omega, by omega, h0, by rw [g.sl]; exact h1⟩, if_neg h', if_pos ⟨h1, by omega, by omega, by omega⟩]
      refine ⟨fun hbig k => ?_, fun hsm => ?_⟩
      · rw [c]
        by_cases hc : (at_ : Int) + D > ((l ++ rd_L1 R (rd q 0)).length : Int) / 2 ∧ (at_ : Int) + D > 1000
        · rw [if_pos hc, eN, if_pos (by omega)]
        · rw [if_neg hc, if_pos (by omega)]
      · by_cases hc : (at_ : Int) + D > ((l ++ rd_L1 R (rd q 0)).length : Int) / 2 ∧ (at_ : Int) + D > 1000
        · refine ⟨nextQ D R q, 0, rfl, Nat.zero_le _, by omega, fun k => ?_⟩
          rw [c, if_pos hc, eN, if_neg (by omega)]
          rfl
        · refine ⟨l ++ rd_L1 R (rd q 0), at_ + D.toNat, ?_, by omega, by omega, fun k => ?_⟩
          · rw [← eN]
            congr 1
            omega
          · rw [c, if_neg hc, if_neg (by omega), show ((at_ + D.toNat : Nat) : Int) = at_ + D from by omega]

/-- The program's run and the reference's, side by side. -/
theorem runs {D : Int} {R : List (List Int)} {S : List Bool} (g : Good D R S) (n : Int) (hn : n ≤ 1000000) (d : Nat) : ∀ (i : Int) (q l : List Int) (at_ : Nat), 0 ≤ i → n - i ≤ d → (∀ x ∈ q, 0 ≤ x ∧ x < (R.length : Int)) → q.length ≤ 100000 → l.drop at_ = q → at_ ≤ l.length → l.length + 200 * d ≤ 900000000 → (i ≤ n ∨ 0 ≤ n) →
    ∃ (r : List Int) (c : Int) (ok : Bool), Ev (fun k => tag_Run.l0 k i l at_ D R S n) (r, c, if ok = true then 0 else 4) ∧ Ev (fun k => standstillref07_Run.l0 k q n i D R S) (r, c, ok) ∧ (ok = false → r = [] ∧ c = 0) ∧ (∀ x ∈ r, 0 ≤ x ∧ x < (R.length : Int)) ∧ r.length ≤ 100000 := by
  induction d with
  | zero =>
    intro i q l at_ h0 hd hq hl e ha hb _
    refine ⟨q, n, true, Ev.step (f := fun _ => some (q, n, 0)) (fun k => ?_) (Ev.now _), Ev.step (f := fun _ => some (q, n, true)) (fun k => ?_) (Ev.now _), fun h => by simp at h, hq, hl⟩
    · simp only [tag_Run.l0]; rw [if_neg (by omega), Int.toNat_natCast, e]
    · simp only [standstillref07_Run.l0]; rw [if_neg (by omega)]
  | succ d ih =>
    intro i q l at_ h0 hd hq hl e ha hb _
    by_cases hi : i < n
    · obtain ⟨r1, r2⟩ := round g (n := n) hq hl e ha (by omega) hi
      have hst := stopped_ev g hq
      cases hsb : stoppedB D S q with
      | true =>
        refine ⟨q, i, true, Ev.step (f := fun _ => some (q, i, 0)) (fun k => r1 hsb k) (Ev.now _), Ev.step (f := fun _ => some (q, i, true)) (fun k => ?_) (Ev.now _), fun h => by simp at h, hq, hl⟩
        simp only [standstillref07_Run.l0]
        rw [if_pos hi, hst, hsb]
        rfl
      | false =>
        obtain ⟨r3, r4⟩ := r2 hsb
        have hs : ¬ (q.length : Int) < D := by
          intro hs
          simp [stoppedB, hs] at hsb
        have hstep := step_ev g hq hl hs
        by_cases hbig : (nextQ D R q).length > 100000
        · refine ⟨[], 0, false, Ev.step (f := fun _ => some ([], 0, 4)) (fun k => r3 hbig k) (Ev.now _), Ev.step (f := fun _ => some ([], 0, false)) (fun k => ?_) (Ev.now _), fun _ => ⟨rfl, rfl⟩, (fun x hx => by cases hx), by simp⟩
          simp only [standstillref07_Run.l0]
          rw [if_pos hi, hst, hsb, hstep, if_pos (by omega)]
          rfl
        · obtain ⟨l', a', e', ha', hb', hk⟩ := r4 (by omega)
          have hd1 := g.d1
          obtain ⟨r, c, ok, E1, E2, hno, hin, hrl⟩ := ih (i + 1) (nextQ D R q) l' a' (by omega) (by omega) (next_in g hq (by omega)) (by omega) e' ha' (by omega) (by omega)
          refine ⟨r, c, ok, Ev.step hk E1, Ev.step (fun k => ?_) E2, hno, hin, hrl⟩
          simp only [standstillref07_Run.l0]
          rw [if_pos hi, hst, hsb, hstep, if_neg (by omega)]
          simp only [Option.bind_some]
          rw [if_neg (by simp), if_pos trivial, wrap_id (by omega) (by omega)]
    · refine ⟨q, n, true, Ev.step (f := fun _ => some (q, n, 0)) (fun k => ?_) (Ev.now _), Ev.step (f := fun _ => some (q, n, true)) (fun k => ?_) (Ev.now _), fun h => by simp at h, hq, hl⟩
      · simp only [tag_Run.l0]; rw [if_neg (by omega), Int.toNat_natCast, e]
      · simp only [standstillref07_Run.l0]; rw [if_neg (by omega)]

/-! ### what the law asks besides -/
theorem same_refl (a : List Int) (ha : a.length ≤ 17592186044416) : Ev (fun k => standstillref07_Same.f k a a) true := by
  have key : ∀ (d i : Nat), i + d = a.length → Ev (fun k => standstillref07_Same.l0 k a a (i : Int)) true := by
    intro d
    induction d with
    | zero =>
      intro i hi
      exact Ev.step (f := fun _ => some true) (fun k => by simp only [standstillref07_Same.l0]; rw [if_neg (by omega)]) (Ev.now true)
    | succ d ih =>
      intro i hi
      refine Ev.step (f := fun k => standstillref07_Same.l0 k a a ((i + 1 : Nat) : Int)) (fun k => ?_) (ih (i + 1) (by omega))
      simp only [standstillref07_Same.l0]
      rw [if_pos (by omega), if_pos (by omega), if_pos (by omega), if_pos trivial, wrap_id (by omega) (by omega)]
      rfl
  refine Ev.eq (key a.length 0 (by omega)) fun k => ?_
  unfold standstillref07_Same.f
  rw [if_pos rfl]
  rfl
theorem wide_ev (D : Int) (R : List (List Int)) (S : List Bool) (q : List Int) : ∃ b, Ev (fun k => standstilllaw07_wide.f k D R S q) b := by
  have key : ∀ (d i : Nat) (x : Int), i + d = 701 → ∃ b, Ev (fun k => standstilllaw07_wide.l0 k x (i : Int) D R S) b := by
    intro d
    induction d with
    | zero =>
      intro i x hi
      by_cases h1 : (i : Int) < (R.length : Int)
      · by_cases h2 : x > 20000
        · exact ⟨_, Ev.step (f := fun _ => some true) (fun k => by simp only [standstilllaw07_wide.l0]; rw [if_pos h1, if_neg (by omega), if_pos h2]) (Ev.now _)⟩
        · exact ⟨_, Ev.step (f := fun _ => some (decide ((R.length : Int) > 700))) (fun k => by simp only [standstilllaw07_wide.l0]; rw [if_pos h1, if_neg (by omega), if_neg h2]) (Ev.now _)⟩
      · by_cases h2 : x > 20000
        · exact ⟨_, Ev.step (f := fun _ => some true) (fun k => by simp only [standstilllaw07_wide.l0]; rw [if_neg h1, if_pos h2]) (Ev.now _)⟩
        · exact ⟨_, Ev.step (f := fun _ => some (decide ((R.length : Int) > 700))) (fun k => by simp only [standstilllaw07_wide.l0]; rw [if_neg h1, if_neg h2]) (Ev.now _)⟩
    | succ d ih =>
      intro i x hi
      by_cases h1 : (i : Int) < (R.length : Int)
      · obtain ⟨b, hb⟩ := ih (i + 1) (wrap64 (x + ((rd_L1 R (i : Int)).length : Int))) (by omega)
        refine ⟨b, Ev.step (f := fun k => standstilllaw07_wide.l0 k (wrap64 (x + ((rd_L1 R (i : Int)).length : Int))) ((i + 1 : Nat) : Int) D R S) (fun k => ?_) hb⟩
        simp only [standstilllaw07_wide.l0]
        rw [if_pos h1, if_pos (by omega), if_pos (by omega), wrap_id (x := (i : Int) + 1) (by omega) (by omega)]
        rfl
      · by_cases h2 : x > 20000
        · exact ⟨_, Ev.step (f := fun _ => some true) (fun k => by simp only [standstilllaw07_wide.l0]; rw [if_neg h1, if_pos h2]) (Ev.now _)⟩
        · exact ⟨_, Ev.step (f := fun _ => some (decide ((R.length : Int) > 700))) (fun k => by simp only [standstilllaw07_wide.l0]; rw [if_neg h1, if_neg h2]) (Ev.now _)⟩
  obtain ⟨b, hb⟩ := key 701 0 (wrap64 ((q.length : Int) + (S.length : Int))) (by omega)
  exact ⟨b, hb⟩
theorem awake_ev : Ev standstilllaw07_awake.f true := Ev.of (fun k => standstilllaw07_awake.mono k) (k := 40) (by decide +kernel)

/-- Step is Run of one step. -/
theorem tag_step_ev {D : Int} {R : List (List Int)} {S : List Bool} {q : List Int} (hf : fitsB D R S q = true) (hfe : Ev (fun k => tag_Fits.f k D R S q) true) :
    Ev (fun k => tag_Step.f k D R S q) (if stoppedB D S q = true then ([], 5) else if (nextQ D R q).length > 100000 then ([], 4) else (nextQ D R q, 0)) := by
  obtain ⟨g, hl, hq⟩ := fits_parts hf
  obtain ⟨r1, r2⟩ := round g (n := 1) (i := 0) (l := q) (at_ := 0) hq hl rfl (Nat.zero_le _) (by omega) (by omega)
  have run : ∀ r, Ev (fun k => tag_Run.l0 k 0 q 0 D R S 1) r → Ev (fun k => tag_Run.f k D R S q 1) r := by
    intro r h
    unfold tag_Run.f
    refine Ev.bind' hfe ?_
    simp only [↓reduceIte, if_neg (show ¬ (1 : Int) < 0 from by omega), if_neg (show ¬ (1 : Int) > 1000000 from by omega), if_pos (show q.length < 17592186044416 from by omega)]
    exact h
  unfold tag_Step.f
  cases hsb : stoppedB D S q with
  | true => exact Ev.bind' (run _ (Ev.step (f := fun _ => some (q, 0, 0)) (fun k => r1 hsb k) (Ev.now _))) (by simpa using Ev.now _)
  | false =>
    obtain ⟨r3, r4⟩ := r2 hsb
    by_cases hbig : (nextQ D R q).length > 100000
    · refine Ev.bind' (run _ (Ev.step (f := fun _ => some ([], 0, 4)) (fun k => r3 hbig k) (Ev.now _))) ?_
      simpa [hbig] using Ev.now _
    · obtain ⟨l', a', e', ha', hb', hk⟩ := r4 (by omega)
      refine Ev.bind' (run _ (Ev.step hk (Ev.step (f := fun _ => some (nextQ D R q, 1, 0)) (fun k => ?_) (Ev.now _)))) ?_
      · simp only [tag_Run.l0]
        rw [if_neg (by omega), Int.toNat_natCast, e']
      · simpa [hbig] using Ev.now _

theorem TagRuns : TagRunsStmt := by
  intro D R S q n _ hR _ hq _
  have hreach : reachBytes = 140737488351232 := rfl
  have hRl : R.length ≤ 17592186044416 := by have := hR.1; omega
  have hw : ∀ w ∈ R, w.length ≤ 17592186044416 := fun w h => by have := (hR.2 w h).1; omega
  have hql : q.length < 17592186044416 := by have := hq.1; omega
  have E1 := tag_valid D R S hRl hw
  have E2 := ref_valid D R S hRl hw
  have E3 := tag_fits D R S q hRl hw (by omega)
  have E4 := ref_fits D R S q hRl hw (by omega)
  obtain ⟨wb, Ew⟩ := wide_ev D R S q
  -- j1: behind the comparison of Valid and Fits
  have J3t : fitsB D R S q = true → (n < 0 ∨ n > 1000000) → Ev (fun k => standstilllaw07_TagRuns.j3 k q n [] 0 2 true D R S) true := by
    intro _ _
    refine Ev.step (f := fun k => (standstilllaw07_awake.f k).bind fun t => some t) (fun k => by simp [standstilllaw07_TagRuns.j3]) ?_
    exact Ev.bind' awake_ev (Ev.now _)
  have J2 : fitsB D R S q = true → ∃ b c e, Ev (fun k => tag_Run.f k D R S q n) (b, c, e) ∧ Ev (fun k => standstilllaw07_TagRuns.j2 k q n b c e D R S) true := by
    intro hf
    obtain ⟨g, hl, hqi⟩ := fits_parts hf
    by_cases h1 : n < 0
    · refine ⟨[], 0, 2, ?_, ?_⟩
      · unfold tag_Run.f
        refine Ev.bind' E3 ?_
        simp only [hf, ↓reduceIte, if_pos h1]
        exact Ev.now _
      · exact Ev.step (fun k => by simp only [standstilllaw07_TagRuns.j2]; rw [if_pos h1]) (J3t hf (Or.inl h1))
    · by_cases h2 : n > 1000000
      · refine ⟨[], 0, 2, ?_, ?_⟩
        · unfold tag_Run.f
          refine Ev.bind' E3 ?_
          simp only [hf, ↓reduceIte, if_neg h1, if_pos h2]
          exact Ev.now _
        · exact Ev.step (fun k => by simp only [standstilllaw07_TagRuns.j2]; rw [if_neg h1, decide_eq_true h2]) (J3t hf (Or.inr h2))
      · obtain ⟨r, c, ok, R1, R2, hno, hin, hrl0⟩ := runs g n (by omega) n.toNat 0 q q 0 (by omega) (by omega) hqi hl rfl (Nat.zero_le _) (by omega) (by omega)
        refine ⟨r, c, if ok = true then 0 else 4, ?_, ?_⟩
        · unfold tag_Run.f
          refine Ev.bind' E3 ?_
          simp only [hf, ↓reduceIte, if_neg h1, if_neg h2, if_pos hql]
          exact R1
        · refine Ev.step (fun k => by simp only [standstilllaw07_TagRuns.j2]; rw [if_neg h1, decide_eq_false h2]) ?_
          refine Ev.step (f := fun k => (standstillref07_Run.f k D R S q n).bind fun bt => ((standstilllaw07_size.f bt.2.2).bind fun t => (if (if ok = true then (0 : Int) else 4) = t then (if c = bt.2.1 then ((standstillref07_Same.f k r bt.1).bind fun t => (if t = true then ((standstilllaw07_awake.f k).bind fun t => (some t)) else (some false))) else (some false)) else (some false)))) (fun k => by simp only [standstilllaw07_TagRuns.j3]; rw [if_neg (by simp)]) ?_
          have R3 : Ev (fun k => standstillref07_Run.f k D R S q n) (r, c, ok) := by
            unfold standstillref07_Run.f
            simp only [Option.bind_some, List.length_nil, List.nil_append]
            simp only [Nat.zero_add, if_pos hql]
            exact R2
          refine Ev.bind' R3 ?_
          have hs : standstilllaw07_size.f ok = some (if ok = true then 0 else 4) := by cases ok <;> rfl
          simp only [hs, Option.bind_some, if_true]
          have hrl : r.length ≤ 17592186044416 := by omega
          exact Ev.bind' (same_refl r hrl) (Ev.bind' awake_ev (Ev.now _))
  have J1 : Ev (fun k => standstilllaw07_TagRuns.j1 k q n false D R S) true := by
    refine Ev.step (fun k => by simp only [standstilllaw07_TagRuns.j1]; rw [if_neg (by simp)]) ?_
    cases hf : fitsB D R S q with
    | false =>
      rw [hf] at E3 E4
      have T1 : ∀ m, Ev (fun k => tag_Run.f k D R S q m) ([], 0, 1) := fun m => by
        unfold tag_Run.f
        exact Ev.bind' E3 (by simpa using Ev.now _)
      have T2 : Ev (fun k => tag_Step.f k D R S q) ([], 1) := by
        unfold tag_Step.f
        exact Ev.bind' (T1 1) (by simpa using Ev.now _)
      refine Ev.bind' T2 (Ev.bind' (T1 n) (Ev.bind' E4 ?_))
      have hz : wrap64 (wrap64 (((([] : List Int).length : Nat) : Int) + ((([] : List Int).length : Nat) : Int)) + 0) = 0 := by decide +kernel
      simp only [↓reduceIte, Bool.false_eq_true, hz]
      exact Ev.bind' awake_ev (Ev.now _)
    | true =>
      obtain ⟨g, hl, hqi⟩ := fits_parts hf
      obtain ⟨b, c, e, T1, T2⟩ := J2 hf
      rw [hf] at E3 E4
      refine Ev.bind' (tag_step_ev hf E3) (Ev.bind' T1 (Ev.bind' E4 ?_))
      simp only [↓reduceIte, stopped_ev g hqi, Option.bind_some]
      cases hsb : stoppedB D S q with
      | true =>
        simpa using T2
      | false =>
        have hs : ¬ (q.length : Int) < D := by
          intro hs
          simp [stoppedB, hs] at hsb
        have hlN : (nextQ D R q).length ≤ 17592186044416 := by
          have hd := g.d1
          obtain ⟨h0, h1⟩ := head_in hqi (by omega)
          have := g.rl _ (rule_in g h0 h1)
          unfold nextQ
          rw [List.length_drop, List.length_append]
          omega
        rw [step_ev g hqi hl hs]
        by_cases hbig : (nextQ D R q).length > 100000
        · simp only [hbig, if_true, if_pos (show ((nextQ D R q).length : Int) > 100000 from by omega), Option.bind_some, standstilllaw07_size.f]
          simp only [Bool.false_eq_true, if_false, if_true, Option.bind_some]
          exact Ev.bind' (same_refl [] (by simp)) T2
        · simp only [hbig, if_false, if_neg (show ¬ ((nextQ D R q).length : Int) > 100000 from by omega), Option.bind_some, standstilllaw07_size.f]
          simp only [Bool.false_eq_true, if_false, if_true, Option.bind_some]
          exact Ev.bind' (same_refl _ hlN) T2
  have J0f : Ev (fun k => standstilllaw07_TagRuns.j0 k q n false D R S) true := by
    refine Ev.step (fun k => by simp only [standstilllaw07_TagRuns.j0]; rw [if_neg (by simp)]) ?_
    refine Ev.bind' E1 (Ev.bind' E2 ?_)
    simp only [bne_self_eq_false, Bool.false_eq_true, ↓reduceIte]
    refine Ev.bind' E3 (Ev.bind' E4 ?_)
    simpa using J1
  have J0t : Ev (fun k => standstilllaw07_TagRuns.j0 k q n true D R S) true :=
    Ev.step (f := fun k => (standstilllaw07_awake.f k).bind fun t => some t) (fun k => by simp [standstilllaw07_TagRuns.j0]) (Ev.bind' awake_ev (Ev.now _))
  have J0 : ∀ b, Ev (fun k => standstilllaw07_TagRuns.j0 k q n b D R S) true := fun b => by cases b; exact J0f; exact J0t
  have T : Ev (fun k => standstilllaw07_TagRuns.f k D R S q n) true := by
    unfold standstilllaw07_TagRuns.f
    refine Ev.bind' Ew ?_
    by_cases h1 : wb = true
    · simpa [h1] using J0 true
    · by_cases h2 : n > 300
      · simpa [h1, h2] using J0 _
      · simpa [h1, h2] using J0 _
  exact T.rounds
end Go.Proofs.Ytokhlcljpjfpmaa.Pure
