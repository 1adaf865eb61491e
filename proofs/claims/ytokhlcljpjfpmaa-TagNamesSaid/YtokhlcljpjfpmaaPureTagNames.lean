/- The pure statement of TagNames: with other names of letters, one to one, the runs are the renamed ones. No condition. -/
import Derived.Test.YtokhlcljpjfpmaaStmtTagNames
namespace Go.Proofs.Ytokhlcljpjfpmaa.Pure
open Go.RowKit Go.Proofs.YtokhlcljpjfpmaaW.PrintWords Go.Proofs.YtokhlcljpjfpmaaW.PrintLast Go.Proofs.YtokhlcljpjfpmaaW.PrintMore Go.Proofs.Ytokhlcljpjfpmaa.GN
set_option linter.unusedVariables false

theorem wrap_id {x : Int} (h0 : -9223372036854775808 ≤ x) (h1 : x ≤ 9223372036854775807) : wrap64 x = x := by
  unfold wrap64
  omega
theorem rd_drop (l : List Int) (a : Nat) (h : a ≤ l.length) (i : Nat) : rd (l.drop a) i = rd l (a + i : Nat) := by
  have e : ((a : Int) + (i : Int)).toNat = a + i := by omega
  simp [rd, List.getD_eq_getElem?_getD, List.getElem?_drop, e]
theorem Ev.bind' {α β : Type} {g : Nat → Option α} {f : Nat → α → Option β} {a : α} {r : β} (h : Ev g a) (k : Ev (fun n => f n a) r) : Ev (fun n => (g n).bind (f n)) r := Ev.bind h k
theorem Ev.eq {α : Type} {g f : Nat → Option α} {r : α} (k : Ev f r) (h : ∀ k, g k = f k) : Ev g r := Ev.congr h k

/-! ### the letters -/
def lettersB (l : List Int) (n : Int) : Bool := l.all fun x => decide (0 ≤ x) && decide (x < n)
theorem lettersB_iff {l : List Int} {n : Int} : lettersB l n = true ↔ ∀ x ∈ l, 0 ≤ x ∧ x < n := by simp [lettersB]

theorem ref_letters (l : List Int) (n : Int) (hl : l.length ≤ 17592186044416) : Ev (fun k => standstillref07_letters.f k l n) (lettersB l n) := by
  have key : ∀ (d i : Nat), i + d = l.length → Ev (fun k => standstillref07_letters.l0 k l n (i : Int)) (lettersB (l.drop i) n) := by
    intro d
    induction d with
    | zero =>
      intro i hi
      refine Ev.step (f := fun _ => some true) (fun k => ?_) ?_
      · simp only [standstillref07_letters.l0]; rw [if_neg (by omega)]
      · rw [List.drop_of_length_le (by omega)]; exact Ev.now true
    | succ d ih =>
      intro i hi
      have hlt : i < l.length := by omega
      have e : rd l i = l[i] := by simp [rd, List.getD_eq_getElem?_getD, hlt]
      have ed : l.drop i = l[i] :: l.drop (i + 1) := by rw [List.drop_eq_getElem_cons hlt]
      by_cases h1 : l[i] < 0
      · refine Ev.step (f := fun _ => some false) (fun k => ?_) ?_
        · simp only [standstillref07_letters.l0]; rw [if_pos (by omega), if_pos (by omega), e, if_pos h1]
        · rw [ed]; simp only [lettersB, List.all_cons, show decide (0 ≤ l[i]) = false from decide_eq_false (by omega), Bool.false_and]; exact Ev.now false
      · by_cases h2 : l[i] ≥ n
        · refine Ev.step (f := fun _ => some false) (fun k => ?_) ?_
          · simp only [standstillref07_letters.l0]; rw [if_pos (by omega), if_pos (by omega), e, if_neg h1, if_pos h2]
          · rw [ed]; simp only [lettersB, List.all_cons, show decide (l[i] < n) = false from decide_eq_false (by omega), Bool.and_false, Bool.false_and]; exact Ev.now false
        · refine Ev.step (f := fun k => standstillref07_letters.l0 k l n ((i + 1 : Nat) : Int)) (fun k => ?_) ?_
          · simp only [standstillref07_letters.l0]; rw [if_pos (by omega), if_pos (by omega), e, if_neg h1, if_neg h2, wrap_id (by omega) (by omega)]; rfl
          · rw [ed]; simp only [lettersB, List.all_cons, show decide (0 ≤ l[i]) = true from decide_eq_true (by omega), show decide (l[i] < n) = true from decide_eq_true (by omega), Bool.true_and]; exact ih (i + 1) (by omega)
  exact key l.length 0 (by omega)

theorem tag_letters_ev (l : List Int) (n : Int) (hl : l.length ≤ 17592186044416) : Ev (fun k => tag_letters.f k l n) (lettersB l n) := by
  have key : ∀ (d i : Nat), i + d = l.length → Ev (fun k => tag_letters.l0 k n l (l.length : Int) (i : Int)) (lettersB (l.drop i) n) := by
    intro d
    induction d with
    | zero =>
      intro i hi
      refine Ev.step (f := fun _ => some true) (fun k => ?_) ?_
      · simp only [tag_letters.l0]; rw [if_neg (by omega)]
      · rw [List.drop_of_length_le (by omega)]; exact Ev.now true
    | succ d ih =>
      intro i hi
      have hlt : i < l.length := by omega
      have e : rd l i = l[i] := by simp [rd, List.getD_eq_getElem?_getD, hlt]
      have ed : l.drop i = l[i] :: l.drop (i + 1) := by rw [List.drop_eq_getElem_cons hlt]
      by_cases h1 : l[i] < 0
      · refine Ev.step (f := fun _ => some false) (fun k => ?_) ?_
        · simp only [tag_letters.l0]; rw [if_pos (by omega), if_pos (by omega), if_pos (by omega), e, if_pos h1]
        · rw [ed]; simp only [lettersB, List.all_cons, show decide (0 ≤ l[i]) = false from decide_eq_false (by omega), Bool.false_and]; exact Ev.now false
      · by_cases h2 : l[i] ≥ n
        · refine Ev.step (f := fun _ => some false) (fun k => ?_) ?_
          · simp only [tag_letters.l0]; rw [if_pos (by omega), if_pos (by omega), if_pos (by omega), e, if_neg h1, if_pos h2]
          · rw [ed]; simp only [lettersB, List.all_cons, show decide (l[i] < n) = false from decide_eq_false (by omega), Bool.and_false, Bool.false_and]; exact Ev.now false
        · refine Ev.step (f := fun k => tag_letters.l0 k n l (l.length : Int) ((i + 1 : Nat) : Int)) (fun k => ?_) ?_
          · simp only [tag_letters.l0]; rw [if_pos (by omega), if_pos (by omega), if_pos (by omega), e, if_neg h1, if_neg h2, wrap_id (by omega) (by omega)]; rfl
          · rw [ed]; simp only [lettersB, List.all_cons, show decide (0 ≤ l[i]) = true from decide_eq_true (by omega), show decide (l[i] < n) = true from decide_eq_true (by omega), Bool.true_and]; exact ih (i + 1) (by omega)
  exact key l.length 0 (by omega)

/-! ### valid -/
def rulesB (R : List (List Int)) (n : Int) : Bool := R.all fun w => decide (w.length ≤ 200) && lettersB w n
def validB (D : Int) (R : List (List Int)) (S : List Bool) : Bool :=
  decide (1 ≤ D) && decide (D ≤ 4) && decide (1 ≤ R.length) && decide (R.length ≤ 600) && decide (S.length = R.length) && rulesB R (R.length : Int)
def fitsB (D : Int) (R : List (List Int)) (S : List Bool) (q : List Int) : Bool := validB D R S && decide (q.length ≤ 100000) && lettersB q (R.length : Int)

theorem rd_L1_at (R : List (List Int)) (i : Nat) (h : i < R.length) : rd_L1 R (i : Int) = R[i] := by
  simp [rd_L1, List.getD_eq_getElem?_getD, h]

theorem ref_valid (D : Int) (R : List (List Int)) (S : List Bool) (hR : R.length ≤ 17592186044416) (hw : ∀ w ∈ R, w.length ≤ 17592186044416) : Ev (fun k => standstillref07_Valid.f k D R S) (validB D R S) := by
  have key : ∀ (d i : Nat), i + d = R.length → Ev (fun k => standstillref07_Valid.l0 k (R.length : Int) (i : Int) D R S) (rulesB (R.drop i) (R.length : Int)) := by
    intro d
    induction d with
    | zero =>
      intro i hi
      refine Ev.step (f := fun _ => some true) (fun k => ?_) ?_
      · simp only [standstillref07_Valid.l0]; rw [if_neg (by omega)]
      · rw [List.drop_of_length_le (by omega)]; exact Ev.now true
    | succ d ih =>
      intro i hi
      have hlt : i < R.length := by omega
      have ed : R.drop i = R[i] :: R.drop (i + 1) := by rw [List.drop_eq_getElem_cons hlt]
      have e := rd_L1_at R i hlt
      by_cases h1 : R[i].length ≤ 200
      · have hl := ref_letters R[i] (R.length : Int) (hw _ (List.getElem_mem hlt))
        refine Ev.step (f := fun k => (standstillref07_letters.f k R[i] (R.length : Int)).bind fun t => if t = true then standstillref07_Valid.l0 k (R.length : Int) ((i + 1 : Nat) : Int) D R S else some false) (fun k => ?_) ?_
        · simp only [standstillref07_Valid.l0]; rw [if_pos (by omega), if_pos (by omega), if_pos (by omega), e, if_neg (by omega), wrap_id (by omega) (by omega)]; rfl
        · refine Ev.bind' hl ?_
          rw [ed]
          simp only [rulesB, List.all_cons, show decide (R[i].length ≤ 200) = true from decide_eq_true (by omega), Bool.true_and]
          cases lettersB R[i] (R.length : Int) with
          | true => simpa [rulesB] using ih (i + 1) (by omega)
          | false => simpa using Ev.now false
      · refine Ev.step (f := fun _ => some false) (fun k => ?_) ?_
        · simp only [standstillref07_Valid.l0]; rw [if_pos (by omega), if_pos (by omega), if_pos (by omega), e, if_pos (by omega)]
        · rw [ed]; simp only [rulesB, List.all_cons, show decide (R[i].length ≤ 200) = false from decide_eq_false (by omega), Bool.false_and]; exact Ev.now false
  have no : ∀ x, Ev (fun k => standstillref07_Valid.j0 k x true D R S) false := fun x => Ev.step (f := fun _ => some false) (fun k => by simp [standstillref07_Valid.j0]) (Ev.now false)
  unfold validB
  by_cases h1 : D < 1
  · rw [show decide (1 ≤ D) = false from decide_eq_false (by omega)]
    exact Ev.eq (no (R.length : Int)) fun k => by unfold standstillref07_Valid.f; rw [if_pos h1]
  · by_cases h2 : D > 4
    · rw [show decide (D ≤ 4) = false from decide_eq_false (by omega)]
      simp only [Bool.and_false, Bool.false_and]
      exact Ev.eq (no (R.length : Int)) fun k => by unfold standstillref07_Valid.f; rw [if_neg h1, if_pos h2]
    · by_cases h3 : (R.length : Int) < 1
      · rw [show decide (1 ≤ R.length) = false from decide_eq_false (by omega)]
        simp only [Bool.and_false, Bool.false_and]
        exact Ev.eq (no (R.length : Int)) fun k => by unfold standstillref07_Valid.f; rw [if_neg h1, if_neg h2, if_pos h3]
      · by_cases h4 : (R.length : Int) > 600
        · rw [show decide (R.length ≤ 600) = false from decide_eq_false (by omega)]
          simp only [Bool.and_false, Bool.false_and]
          exact Ev.eq (no (R.length : Int)) fun k => by unfold standstillref07_Valid.f; rw [if_neg h1, if_neg h2, if_neg h3, if_pos h4]
        · have e0 : ∀ k, standstillref07_Valid.f k D R S = standstillref07_Valid.j0 k (R.length : Int) ((S.length : Int) != (R.length : Int)) D R S := fun k => by unfold standstillref07_Valid.f; rw [if_neg h1, if_neg h2, if_neg h3, if_neg h4]
          rw [show decide (1 ≤ D) = true from decide_eq_true (by omega), show decide (D ≤ 4) = true from decide_eq_true (by omega), show decide (1 ≤ R.length) = true from decide_eq_true (by omega), show decide (R.length ≤ 600) = true from decide_eq_true (by omega)]
          by_cases h5 : S.length = R.length
          · rw [show decide (S.length = R.length) = true from by simp [h5]]
            simp only [Bool.true_and]
            refine Ev.eq ?_ e0
            refine Ev.step (f := fun k => standstillref07_Valid.l0 k (R.length : Int) ((0 : Nat) : Int) D R S) (fun k => ?_) (key R.length 0 (by omega))
            simp only [standstillref07_Valid.j0, h5, bne_self_eq_false]
            rw [if_neg (by simp)]
            rfl
          · rw [show decide (S.length = R.length) = false from by simp [h5]]
            simp only [Bool.and_false, Bool.false_and]
            refine Ev.eq ?_ e0
            rw [show ((S.length : Int) != (R.length : Int)) = true from by simp; omega]
            exact no _

theorem tag_valid (D : Int) (R : List (List Int)) (S : List Bool) (hR : R.length ≤ 17592186044416) (hw : ∀ w ∈ R, w.length ≤ 17592186044416) : Ev (fun k => tag_Valid.f k D R S) (validB D R S) := by
  have key : ∀ (d i : Nat), i + d = R.length → Ev (fun k => tag_Valid.l0 k (R.length : Int) R (R.length : Int) (i : Int)) (rulesB (R.drop i) (R.length : Int)) := by
    intro d
    induction d with
    | zero =>
      intro i hi
      refine Ev.step (f := fun _ => some true) (fun k => ?_) ?_
      · simp only [tag_Valid.l0]; rw [if_neg (by omega)]
      · rw [List.drop_of_length_le (by omega)]; exact Ev.now true
    | succ d ih =>
      intro i hi
      have hlt : i < R.length := by omega
      have ed : R.drop i = R[i] :: R.drop (i + 1) := by rw [List.drop_eq_getElem_cons hlt]
      have e := rd_L1_at R i hlt
      by_cases h1 : R[i].length ≤ 200
      · have hl := tag_letters_ev R[i] (R.length : Int) (hw _ (List.getElem_mem hlt))
        refine Ev.step (f := fun k => (tag_letters.f k R[i] (R.length : Int)).bind fun t => if t = true then tag_Valid.l0 k (R.length : Int) R (R.length : Int) ((i + 1 : Nat) : Int) else some false) (fun k => ?_) ?_
        · simp only [tag_Valid.l0]; rw [if_pos (by omega), if_pos (by omega), if_pos (by omega), e, if_neg (by omega), wrap_id (by omega) (by omega)]; rfl
        · refine Ev.bind' hl ?_
          rw [ed]
          simp only [rulesB, List.all_cons, show decide (R[i].length ≤ 200) = true from decide_eq_true (by omega), Bool.true_and]
          cases lettersB R[i] (R.length : Int) with
          | true => simpa [rulesB] using ih (i + 1) (by omega)
          | false => simpa using Ev.now false
      · refine Ev.step (f := fun _ => some false) (fun k => ?_) ?_
        · simp only [tag_Valid.l0]; rw [if_pos (by omega), if_pos (by omega), if_pos (by omega), e, if_pos (by omega)]
        · rw [ed]; simp only [rulesB, List.all_cons, show decide (R[i].length ≤ 200) = false from decide_eq_false (by omega), Bool.false_and]; exact Ev.now false
  have no : ∀ x, Ev (fun k => tag_Valid.j0 k x true D R S) false := fun x => Ev.step (f := fun _ => some false) (fun k => by simp [tag_Valid.j0]) (Ev.now false)
  unfold validB
  by_cases h1 : D < 1
  · rw [show decide (1 ≤ D) = false from decide_eq_false (by omega)]
    exact Ev.eq (no (R.length : Int)) fun k => by unfold tag_Valid.f; rw [if_pos h1]
  · by_cases h2 : D > 4
    · rw [show decide (D ≤ 4) = false from decide_eq_false (by omega)]
      simp only [Bool.and_false, Bool.false_and]
      exact Ev.eq (no (R.length : Int)) fun k => by unfold tag_Valid.f; rw [if_neg h1, if_pos h2]
    · by_cases h3 : (R.length : Int) < 1
      · rw [show decide (1 ≤ R.length) = false from decide_eq_false (by omega)]
        simp only [Bool.and_false, Bool.false_and]
        exact Ev.eq (no (R.length : Int)) fun k => by unfold tag_Valid.f; rw [if_neg h1, if_neg h2, if_pos h3]
      · by_cases h4 : (R.length : Int) > 600
        · rw [show decide (R.length ≤ 600) = false from decide_eq_false (by omega)]
          simp only [Bool.and_false, Bool.false_and]
          exact Ev.eq (no (R.length : Int)) fun k => by unfold tag_Valid.f; rw [if_neg h1, if_neg h2, if_neg h3, if_pos h4]
        · have e0 : ∀ k, tag_Valid.f k D R S = tag_Valid.j0 k (R.length : Int) ((S.length : Int) != (R.length : Int)) D R S := fun k => by unfold tag_Valid.f; rw [if_neg h1, if_neg h2, if_neg h3, if_neg h4]
          rw [show decide (1 ≤ D) = true from decide_eq_true (by omega), show decide (D ≤ 4) = true from decide_eq_true (by omega), show decide (1 ≤ R.length) = true from decide_eq_true (by omega), show decide (R.length ≤ 600) = true from decide_eq_true (by omega)]
          by_cases h5 : S.length = R.length
          · rw [show decide (S.length = R.length) = true from by simp [h5]]
            simp only [Bool.true_and]
            refine Ev.eq ?_ e0
            refine Ev.step (f := fun k => tag_Valid.l0 k (R.length : Int) R (R.length : Int) ((0 : Nat) : Int)) (fun k => ?_) (key R.length 0 (by omega))
            simp only [tag_Valid.j0, h5, bne_self_eq_false]
            rw [if_neg (by simp)]
            rfl
          · rw [show decide (S.length = R.length) = false from by simp [h5]]
            simp only [Bool.and_false, Bool.false_and]
            refine Ev.eq ?_ e0
            rw [show ((S.length : Int) != (R.length : Int)) = true from by simp; omega]
            exact no _

theorem ref_fits (D : Int) (R : List (List Int)) (S : List Bool) (q : List Int) (hR : R.length ≤ 17592186044416) (hw : ∀ w ∈ R, w.length ≤ 17592186044416) (hq : q.length ≤ 17592186044416) : Ev (fun k => standstillref07_Fits.f k D R S q) (fitsB D R S q) := by
  unfold standstillref07_Fits.f fitsB
  refine Ev.bind' (ref_valid D R S hR hw) ?_
  cases validB D R S with
  | false => simpa using Ev.now false
  | true =>
    by_cases h : (q.length : Int) ≤ 100000
    · simp only [if_true, if_pos h, show decide (q.length ≤ 100000) = true from decide_eq_true (by omega), Bool.true_and]
      exact Ev.bind' (ref_letters q _ hq) (Ev.now _)
    · simp only [if_true, if_neg h, show decide (q.length ≤ 100000) = false from decide_eq_false (by omega), Bool.true_and, Bool.false_and]
      exact Ev.now false
theorem tag_fits (D : Int) (R : List (List Int)) (S : List Bool) (q : List Int) (hR : R.length ≤ 17592186044416) (hw : ∀ w ∈ R, w.length ≤ 17592186044416) (hq : q.length ≤ 17592186044416) : Ev (fun k => tag_Fits.f k D R S q) (fitsB D R S q) := by
  unfold tag_Fits.f fitsB
  refine Ev.bind' (tag_valid D R S hR hw) ?_
  cases validB D R S with
  | false => simpa using Ev.now false
  | true =>
    by_cases h : (q.length : Int) ≤ 100000
    · simp only [if_true, if_pos h, show decide (q.length ≤ 100000) = true from decide_eq_true (by omega), Bool.true_and]
      exact Ev.bind' (tag_letters_ev q _ hq) (Ev.now _)
    · simp only [if_true, if_neg h, show decide (q.length ≤ 100000) = false from decide_eq_false (by omega), Bool.true_and, Bool.false_and]
      exact Ev.now false

/-! ### the run -/
structure Good (D : Int) (R : List (List Int)) (S : List Bool) : Prop where
  d1 : 1 ≤ D
  d2 : D ≤ 4
  sl : S.length = R.length
  rl : ∀ w ∈ R, w.length ≤ 200
  rx : ∀ w ∈ R, ∀ x ∈ w, 0 ≤ x ∧ x < (R.length : Int)
theorem good_of {D : Int} {R : List (List Int)} {S : List Bool} (h : validB D R S = true) : Good D R S := by
  simp only [validB, Bool.and_eq_true, decide_eq_true_eq, rulesB, List.all_eq_true] at h
  obtain ⟨⟨⟨⟨⟨h1, h2⟩, h3⟩, h4⟩, h5⟩, h6⟩ := h
  exact ⟨h1, h2, h5, fun w hw => (h6 w hw).1, fun w hw => lettersB_iff.1 (h6 w hw).2⟩
theorem fits_parts {D : Int} {R : List (List Int)} {S : List Bool} {q : List Int} (h : fitsB D R S q = true) : Good D R S ∧ q.length ≤ 100000 ∧ ∀ x ∈ q, 0 ≤ x ∧ x < (R.length : Int) := by
  simp only [fitsB, Bool.and_eq_true, decide_eq_true_eq] at h
  exact ⟨good_of h.1.1, h.1.2, lettersB_iff.1 h.2⟩

def stoppedB (D : Int) (S : List Bool) (q : List Int) : Bool := decide ((q.length : Int) < D) || rdOf false S (rd q 0)
def nextQ (D : Int) (R : List (List Int)) (q : List Int) : List Int := (q ++ rd_L1 R (rd q 0)).drop D.toNat

theorem head_in {q : List Int} {n : Int} (hq : ∀ x ∈ q, 0 ≤ x ∧ x < n) (h : 0 < q.length) : 0 ≤ rd q 0 ∧ rd q 0 < n := by
  have e : rd q 0 = q[0] := by simp [rd, List.getD_eq_getElem?_getD, h]
  rw [e]
  exact hq _ (List.getElem_mem h)
theorem rule_in {D : Int} {R : List (List Int)} {S : List Bool} (g : Good D R S) {x : Int} (h0 : 0 ≤ x) (h1 : x < (R.length : Int)) : rd_L1 R x ∈ R := by
  obtain ⟨n, rfl⟩ := Int.eq_ofNat_of_zero_le h0
  rw [rd_L1_at R n (by omega)]
  exact List.getElem_mem _
theorem next_in {D : Int} {R : List (List Int)} {S : List Bool} (g : Good D R S) {q : List Int} (hq : ∀ x ∈ q, 0 ≤ x ∧ x < (R.length : Int)) (h : 0 < q.length) : ∀ x ∈ nextQ D R q, 0 ≤ x ∧ x < (R.length : Int) := by
  intro x hx
  obtain ⟨h0, h1⟩ := head_in hq h
  rcases List.mem_append.1 (List.mem_of_mem_drop hx) with hx | hx
  · exact hq x hx
  · exact g.rx _ (rule_in g h0 h1) x hx

/-- One round of the program's loop, over the letters that are left. -/
theorem round {D : Int} {R : List (List Int)} {S : List Bool} (g : Good D R S) {q l : List Int} {at_ : Nat} {i n : Int} (hq : ∀ x ∈ q, 0 ≤ x ∧ x < (R.length : Int)) (hl : q.length ≤ 100000) (e : l.drop at_ = q) (ha : at_ ≤ l.length) (hb : l.length ≤ 1000000000) (hi : i < n) :
    (stoppedB D S q = true → ∀ k, tag_Run.l0 (k + 1) i l at_ D R S n = some (q, i, 0)) ∧
    (stoppedB D S q = false → ((nextQ D R q).length > 100000 → ∀ k, tag_Run.l0 (k + 1) i l at_ D R S n = some ([], 0, 4)) ∧
      ((nextQ D R q).length ≤ 100000 → ∃ (l' : List Int) (a' : Nat), l'.drop a' = nextQ D R q ∧ a' ≤ l'.length ∧ l'.length ≤ l.length + 200 ∧ ∀ k, tag_Run.l0 (k + 1) i l at_ D R S n = tag_Run.l0 k (i + 1) l' a' D R S n)) := by
  have hlen : (l.length : Int) - at_ = q.length := by rw [← e, List.length_drop]; omega
  have hd := g.d1
  have hd2 := g.d2
  by_cases hs : (q.length : Int) < D
  · refine ⟨fun _ k => ?_, fun h => ?_⟩
    · simp only [tag_Run.l0]; rw [if_pos hi, if_pos (by omega), Int.toNat_natCast, e]
    · simp [stoppedB, hs] at h
  · have hl0 : 0 < q.length := by omega
    obtain ⟨h0, h1⟩ := head_in hq hl0
    have er : rd l at_ = rd q 0 := by
      have := rd_drop l at_ ha 0
      rw [e] at this
      simpa using this.symm
    have hw := g.rl _ (rule_in g h0 h1)
    have el : l ++ rd_L1 R (rd q 0) = l.take at_ ++ (q ++ rd_L1 R (rd q 0)) := by rw [← List.append_assoc, ← e, List.take_append_drop]
    have hD : (D.toNat : Int) = D := by omega
    have eN : (l ++ rd_L1 R (rd q 0)).drop (at_ + D).toNat = nextQ D R q := by
      have : ((at_ : Int) + D).toNat = at_ + D.toNat := by omega
      rw [this, el, List.drop_append, List.length_take, Nat.min_eq_left ha, Nat.add_sub_cancel_left, List.drop_of_length_le (by simp; omega)]
      rfl
    have lN : (nextQ D R q).length = q.length + (rd_L1 R (rd q 0)).length - D.toNat := by unfold nextQ; rw [List.length_drop, List.length_append]
    have lA : (l ++ rd_L1 R (rd q 0)).length = l.length + (rd_L1 R (rd q 0)).length := List.length_append
    refine ⟨fun h k => ?_, fun h => ?_⟩
    · have h' : rdOf false S (rd q 0) = true := by simpa [stoppedB, hs] using h
      simp only [tag_Run.l0]
      rw [if_pos hi, if_neg (by omega), er, if_pos ⟨by omega, by omega, h0, by rw [g.sl]; exact h1⟩, if_pos h', Int.toNat_natCast, e]
    · have h' : ¬ rdOf false S (rd q 0) = true := by
        have : rdOf false S (rd q 0) = false := by simpa [stoppedB, hs] using h
        simp [this]
      have c : ∀ k, tag_Run.l0 (k + 1) i l at_ D R S n = (if at_ + D > ((l ++ rd_L1 R (rd q 0)).length : Int) / 2 ∧ at_ + D > 1000 then
            (if ((((l ++ rd_L1 R (rd q 0)).drop (at_ + D).toNat).length : Int) - 0 > 100000) then (some ([], 0, 4)) else tag_Run.l0 k (i + 1) ((l ++ rd_L1 R (rd q 0)).drop (at_ + D).toNat) 0 D R S n)
           else (if ((l ++ rd_L1 R (rd q 0)).length : Int) - (at_ + D) > 100000 then (some ([], 0, 4)) else tag_Run.l0 k (i + 1) (l ++ rd_L1 R (rd q 0)) (at_ + D) D R S n)) := by
        intro k
        simp only [tag_Run.l0]
        rw [if_pos hi, if_neg (by omega), er, if_pos ⟨by omega, by omega, h0, by rw [g.sl]; exact h1⟩, if_neg h', if_pos ⟨h1, by omega, by omega, by omega⟩]
      refine ⟨fun hbig k => ?_, fun hsm => ?_⟩
      · rw [c]
        by_cases hc : (at_ : Int) + D > ((l ++ rd_L1 R (rd q 0)).length : Int) / 2 ∧ (at_ : Int) + D > 1000
        · rw [if_pos hc, eN, if_pos (by omega)]
        · rw [if_neg hc, if_pos (by omega)]
      · by_cases hc : (at_ : Int) + D > ((l ++ rd_L1 R (rd q 0)).length : Int) / 2 ∧ (at_ : Int) + D > 1000
        · refine ⟨nextQ D R q, 0, rfl, Nat.zero_le _, by omega, fun k => ?_⟩
          rw [c, if_pos hc, eN, if_neg (by omega)]
          rfl
        · refine ⟨l ++ rd_L1 R (rd q 0), at_ + D.toNat, ?_, by omega, by omega, fun k => ?_⟩
          · rw [← eN]
            congr 1
            omega
          · rw [c, if_neg hc, if_neg (by omega), show ((at_ + D.toNat : Nat) : Int) = at_ + D from by omega]


/-! ### what the law asks besides -/
theorem same_refl (a : List Int) (ha : a.length ≤ 17592186044416) : Ev (fun k => standstillref07_Same.f k a a) true := by
  have key : ∀ (d i : Nat), i + d = a.length → Ev (fun k => standstillref07_Same.l0 k a a (i : Int)) true := by
    intro d
    induction d with
    | zero =>
      intro i hi
      exact Ev.step (f := fun _ => some true) (fun k => by simp only [standstillref07_Same.l0]; rw [if_neg (by omega)]) (Ev.now true)
    | succ d ih =>
      intro i hi
      refine Ev.step (f := fun k => standstillref07_Same.l0 k a a ((i + 1 : Nat) : Int)) (fun k => ?_) (ih (i + 1) (by omega))
      simp only [standstillref07_Same.l0]
      rw [if_pos (by omega), if_pos (by omega), if_pos (by omega), if_pos trivial, wrap_id (by omega) (by omega)]
      rfl
  refine Ev.eq (key a.length 0 (by omega)) fun k => ?_
  unfold standstillref07_Same.f
  rw [if_pos rfl]
  rfl
theorem wide_ev (D : Int) (R : List (List Int)) (S : List Bool) (q : List Int) : ∃ b, Ev (fun k => standstilllaw07_wide.f k D R S q) b := by
  have key : ∀ (d i : Nat) (x : Int), i + d = 701 → ∃ b, Ev (fun k => standstilllaw07_wide.l0 k x (i : Int) D R S) b := by
    intro d
    induction d with
    | zero =>
      intro i x hi
      by_cases h1 : (i : Int) < (R.length : Int)
      · by_cases h2 : x > 20000
        · exact ⟨_, Ev.step (f := fun _ => some true) (fun k => by simp only [standstilllaw07_wide.l0]; rw [if_pos h1, if_neg (by omega), if_pos h2]) (Ev.now _)⟩
        · exact ⟨_, Ev.step (f := fun _ => some (decide ((R.length : Int) > 700))) (fun k => by simp only [standstilllaw07_wide.l0]; rw [if_pos h1, if_neg (by omega), if_neg h2]) (Ev.now _)⟩
      · by_cases h2 : x > 20000
        · exact ⟨_, Ev.step (f := fun _ => some true) (fun k => by simp only [standstilllaw07_wide.l0]; rw [if_neg h1, if_pos h2]) (Ev.now _)⟩
        · exact ⟨_, Ev.step (f := fun _ => some (decide ((R.length : Int) > 700))) (fun k => by simp only [standstilllaw07_wide.l0]; rw [if_neg h1, if_neg h2]) (Ev.now _)⟩
    | succ d ih =>
      intro i x hi
      by_cases h1 : (i : Int) < (R.length : Int)
      · obtain ⟨b, hb⟩ := ih (i + 1) (wrap64 (x + ((rd_L1 R (i : Int)).length : Int))) (by omega)
        refine ⟨b, Ev.step (f := fun k => standstilllaw07_wide.l0 k (wrap64 (x + ((rd_L1 R (i : Int)).length : Int))) ((i + 1 : Nat) : Int) D R S) (fun k => ?_) hb⟩
        simp only [standstilllaw07_wide.l0]
        rw [if_pos h1, if_pos (by omega), if_pos (by omega), wrap_id (x := (i : Int) + 1) (by omega) (by omega)]
        rfl
      · by_cases h2 : x > 20000
        · exact ⟨_, Ev.step (f := fun _ => some true) (fun k => by simp only [standstilllaw07_wide.l0]; rw [if_neg h1, if_pos h2]) (Ev.now _)⟩
        · exact ⟨_, Ev.step (f := fun _ => some (decide ((R.length : Int) > 700))) (fun k => by simp only [standstilllaw07_wide.l0]; rw [if_neg h1, if_neg h2]) (Ev.now _)⟩
  obtain ⟨b, hb⟩ := key 701 0 (wrap64 ((q.length : Int) + (S.length : Int))) (by omega)
  exact ⟨b, hb⟩
theorem awake_ev : Ev standstilllaw07_awake.f true := Ev.of (fun k => standstilllaw07_awake.mono k) (k := 40) (by decide +kernel)


/-! ### names -/
def nm (tn : List Int) (l : List Int) : List Int := l.map fun x => rd tn x
theorem rd_cons_at (l : List Int) (i : Nat) (h : i < l.length) : rd l (i : Int) = l[i] := by simp [rd, List.getD_eq_getElem?_getD, h]
theorem named_ev (l tn : List Int) (hl : l.length < 17592186044416) (h : ∀ x ∈ l, 0 ≤ x ∧ x < (tn.length : Int)) : Ev (fun k => standstilllaw07_named.f k l tn) (nm tn l) := by
  have key : ∀ (d i : Nat), i + d = l.length → Ev (fun k => standstilllaw07_named.l0 k l tn (nm tn (l.take i)) (i : Int)) (nm tn l) := by
    intro d
    induction d with
    | zero =>
      intro i hi
      refine Ev.step (f := fun _ => some (nm tn l)) (fun k => ?_) (Ev.now _)
      simp only [standstilllaw07_named.l0]
      rw [if_neg (by omega), List.take_of_length_le (by omega)]
    | succ d ih =>
      intro i hi
      have hlt : i < l.length := by omega
      have e := rd_cons_at l i hlt
      obtain ⟨h0, h1⟩ := h _ (List.getElem_mem hlt)
      refine Ev.step (f := fun k => standstilllaw07_named.l0 k l tn (nm tn (l.take (i + 1))) ((i + 1 : Nat) : Int)) (fun k => ?_) (ih (i + 1) (by omega))
      simp only [standstilllaw07_named.l0]
      have hn : (nm tn (l.take i)).length < 17592186044416 := by simp [nm]; omega
      rw [if_pos (by omega), if_pos (by omega), e, if_pos h0, if_pos h1, if_pos hn, wrap_id (by omega) (by omega)]
      have : nm tn (l.take (i + 1)) = nm tn (l.take i) ++ [rd tn l[i]] := by
        simp only [nm]
        rw [List.take_succ_eq_append_getElem hlt, List.map_append]
        rfl
      rw [this]
      rfl
  exact key l.length 0 (by omega)

theorem nm_append (tn a b : List Int) : nm tn (a ++ b) = nm tn a ++ nm tn b := List.map_append
theorem nm_drop (tn a : List Int) (n : Nat) : nm tn (a.drop n) = (nm tn a).drop n := List.map_drop
theorem nm_len (tn a : List Int) : (nm tn a).length = a.length := List.length_map ..
theorem nm_rd0 (tn a : List Int) (h : 0 < a.length) : rd (nm tn a) 0 = rd tn (rd a 0) := by
  cases a with
  | nil => simp at h
  | cons x t => simp [nm, rd]

/-- The renamed tag system. -/
structure Named (D : Int) (R : List (List Int)) (S : List Bool) (U : List (List Int)) (V : List Bool) (tn : List Int) : Prop where
  g : Good D R S
  tl : tn.length = R.length
  ti : ∀ x, 0 ≤ x → x < (R.length : Int) → 0 ≤ rd tn x ∧ rd tn x < (R.length : Int)
  ul : U.length = R.length
  vl : V.length = R.length
  ru : ∀ x, 0 ≤ x → x < (R.length : Int) → rd_L1 U (rd tn x) = nm tn (rd_L1 R x)
  sv : ∀ x, 0 ≤ x → x < (R.length : Int) → rdOf false V (rd tn x) = rdOf false S x
  ub : ∀ w ∈ U, w = [] ∨ ∃ w0 ∈ R, w = nm tn w0

theorem Named.in_ {D : Int} {R U : List (List Int)} {S V : List Bool} {tn : List Int} (h : Named D R S U V tn) {q : List Int} (hq : ∀ x ∈ q, 0 ≤ x ∧ x < (R.length : Int)) : ∀ x ∈ nm tn q, 0 ≤ x ∧ x < (U.length : Int) := by
  intro x hx
  obtain ⟨y, hy, rfl⟩ := List.mem_map.1 hx
  rw [h.ul]
  exact h.ti y (hq y hy).1 (hq y hy).2
theorem Named.good {D : Int} {R U : List (List Int)} {S V : List Bool} {tn : List Int} (h : Named D R S U V tn) : Good D U V := by
  refine ⟨h.g.d1, h.g.d2, by rw [h.vl, h.ul], fun w hw => ?_, fun w hw => ?_⟩
  · rcases h.ub w hw with rfl | ⟨w0, h0, rfl⟩
    · simp
    · rw [nm_len]
      exact h.g.rl w0 h0
  · rcases h.ub w hw with rfl | ⟨w0, h0, rfl⟩
    · intro x hx; cases hx
    · exact h.in_ (h.g.rx w0 h0)
theorem Named.stop {D : Int} {R U : List (List Int)} {S V : List Bool} {tn : List Int} (h : Named D R S U V tn) {q : List Int} (hq : ∀ x ∈ q, 0 ≤ x ∧ x < (R.length : Int)) : stoppedB D V (nm tn q) = stoppedB D S q := by
  unfold stoppedB
  rw [nm_len]
  by_cases hs : (q.length : Int) < D
  · simp [hs]
  · have hd := h.g.d1
    have hl : 0 < q.length := by omega
    obtain ⟨h0, h1⟩ := head_in hq hl
    rw [nm_rd0 tn q hl, h.sv _ h0 h1]
theorem Named.next {D : Int} {R U : List (List Int)} {S V : List Bool} {tn : List Int} (h : Named D R S U V tn) {q : List Int} (hq : ∀ x ∈ q, 0 ≤ x ∧ x < (R.length : Int)) (hl : 0 < q.length) : nextQ D U (nm tn q) = nm tn (nextQ D R q) := by
  obtain ⟨h0, h1⟩ := head_in hq hl
  unfold nextQ
  rw [nm_drop, nm_append, nm_rd0 tn q hl, h.ru _ h0 h1]

/-- Both runs, side by side. -/
theorem runs2 {D : Int} {R U : List (List Int)} {S V : List Bool} {tn : List Int} (h : Named D R S U V tn) (n : Int) (hn : n ≤ 1000000) (d : Nat) : ∀ (i : Int) (q l l2 : List Int) (at_ at2 : Nat), 0 ≤ i → n - i ≤ d → (∀ x ∈ q, 0 ≤ x ∧ x < (R.length : Int)) → q.length ≤ 100000 → l.drop at_ = q → at_ ≤ l.length → l2.drop at2 = nm tn q → at2 ≤ l2.length → l.length + 200 * d ≤ 900000000 → l2.length + 200 * d ≤ 900000000 →
    ∃ (r : List Int) (c e : Int), Ev (fun k => tag_Run.l0 k i l at_ D R S n) (r, c, e) ∧ Ev (fun k => tag_Run.l0 k i l2 at2 D U V n) (nm tn r, c, e) ∧ (∀ x ∈ r, 0 ≤ x ∧ x < (R.length : Int)) ∧ r.length ≤ 100000 := by
  have g := h.g
  induction d with
  | zero =>
    intro i q l l2 at_ at2 h0 hd hq hl e ha e2 ha2 hb hb2
    refine ⟨q, n, 0, Ev.step (f := fun _ => some (q, n, 0)) (fun k => ?_) (Ev.now _), Ev.step (f := fun _ => some (nm tn q, n, 0)) (fun k => ?_) (Ev.now _), hq, hl⟩
    · simp only [tag_Run.l0]; rw [if_neg (by omega), Int.toNat_natCast, e]
    · simp only [tag_Run.l0]; rw [if_neg (by omega), Int.toNat_natCast, e2]
  | succ d ih =>
    intro i q l l2 at_ at2 h0 hd hq hl e ha e2 ha2 hb hb2
    by_cases hi : i < n
    · obtain ⟨r1, r2⟩ := round g (n := n) hq hl e ha (by omega) hi
      obtain ⟨u1, u2⟩ := round h.good (n := n) (h.in_ hq) (by rw [nm_len]; exact hl) e2 ha2 (by omega) hi
      rw [h.stop hq] at u1 u2
      cases hsb : stoppedB D S q with
      | true => exact ⟨q, i, 0, Ev.step (f := fun _ => some (q, i, 0)) (fun k => r1 hsb k) (Ev.now _), Ev.step (f := fun _ => some (nm tn q, i, 0)) (fun k => u1 hsb k) (Ev.now _), hq, hl⟩
      | false =>
        obtain ⟨r3, r4⟩ := r2 hsb
        obtain ⟨u3, u4⟩ := u2 hsb
        have hs : ¬ (q.length : Int) < D := by
          intro hs
          simp [stoppedB, hs] at hsb
        have hd1 := g.d1
        rw [h.next hq (by omega), nm_len] at u3 u4
        by_cases hbig : (nextQ D R q).length > 100000
        · exact ⟨[], 0, 4, Ev.step (f := fun _ => some ([], 0, 4)) (fun k => r3 hbig k) (Ev.now _), Ev.step (f := fun _ => some ([], 0, 4)) (fun k => u3 hbig k) (Ev.now _), (fun x hx => by cases hx), by simp⟩
        · obtain ⟨l', a', e', ha', hb', hk⟩ := r4 (by omega)
          obtain ⟨l2', a2', e2', ha2', hb2', hk2⟩ := u4 (by omega)
          obtain ⟨r, c, er, E1, E2, hin, hrl⟩ := ih (i + 1) (nextQ D R q) l' l2' a' a2' (by omega) (by omega) (next_in g hq (by omega)) (by omega) e' ha' e2' ha2' (by omega) (by omega)
          exact ⟨r, c, er, Ev.step hk E1, Ev.step hk2 E2, hin, hrl⟩
    · refine ⟨q, n, 0, Ev.step (f := fun _ => some (q, n, 0)) (fun k => ?_) (Ev.now _), Ev.step (f := fun _ => some (nm tn q, n, 0)) (fun k => ?_) (Ev.now _), hq, hl⟩
      · simp only [tag_Run.l0]; rw [if_neg (by omega), Int.toNat_natCast, e]
      · simp only [tag_Run.l0]; rw [if_neg (by omega), Int.toNat_natCast, e2]

theorem rd_L1_set (U : List (List Int)) (m x : Int) (v : List Int) (h0 : 0 ≤ m) (h1 : m < (U.length : Int)) (hx : 0 ≤ x) : rd_L1 (U.set m.toNat v) x = if x = m then v else rd_L1 U x := by
  unfold rd_L1
  rw [List.getD_eq_getElem?_getD, List.getD_eq_getElem?_getD, List.getElem?_set]
  by_cases h : x = m
  · subst h
    rw [if_pos rfl, if_pos rfl, if_pos (by omega)]
    rfl
  · rw [if_neg (by omega), if_neg h]
theorem rdOf_set (V : List Bool) (m x : Int) (v : Bool) (h0 : 0 ≤ m) (h1 : m < (V.length : Int)) (hx : 0 ≤ x) : rdOf false (V.set m.toNat v) x = if x = m then v else rdOf false V x := by
  unfold rdOf
  rw [List.getD_eq_getElem?_getD, List.getD_eq_getElem?_getD, List.getElem?_set]
  by_cases h : x = m
  · subst h
    rw [if_pos rfl, if_pos rfl, if_pos (by omega)]
    rfl
  · rw [if_neg (by omega), if_neg h]
theorem rdOf_replicate (n : Nat) (x : Int) : rdOf false (List.replicate n false) x = false := by
  unfold rdOf
  rw [List.getD_eq_getElem?_getD, List.getElem?_replicate]
  split <;> rfl

/-- The names are one to one. -/
structure Perm (tn : List Int) : Prop where
  inn : ∀ j : Nat, j < tn.length → 0 ≤ rd tn j ∧ rd tn j < (tn.length : Int)
  inj : ∀ j k : Nat, j < tn.length → k < tn.length → rd tn j = rd tn k → j = k

theorem awk {α : Type} : Ev (fun k => (standstilllaw07_awake.f k).bind fun t => some t) true := Ev.bind' awake_ev (Ev.now _)

theorem met_ev (q tn : List Int) (n D : Int) (R : List (List Int)) (S : List Bool) (hl : tn.length ≤ 600)
    (cont : Perm tn → Ev (fun k => standstilllaw07_TagNames.l1 k q tn n 0 D R S D (List.replicate tn.length []) (List.replicate tn.length false)) true) :
    ∀ (d i : Nat) (met : List Bool), i + d = tn.length → met.length = tn.length → (∀ j : Nat, j < i → 0 ≤ rd tn j ∧ rd tn j < (tn.length : Int) ∧ rdOf false met (rd tn j) = true) → (∀ j k : Nat, j < i → k < i → rd tn j = rd tn k → j = k) →
      Ev (fun k => standstilllaw07_TagNames.l0 k q tn n met (i : Int) D R S) true := by
  intro d
  induction d with
  | zero =>
    intro i met hi hm h1 h2
    obtain rfl : i = tn.length := by omega
    refine Ev.step (fun k => ?_) (cont ⟨fun j hj => ⟨(h1 j hj).1, (h1 j hj).2.1⟩, h2⟩)
    simp only [standstilllaw07_TagNames.l0]
    rw [if_neg (by omega), if_pos (by omega), Int.toNat_natCast, if_pos (by omega), if_pos (by omega)]
  | succ d ih =>
    intro i met hi hm h1 h2
    have stop : ∀ {g : Nat → Option Bool}, (∀ k, g (k + 1) = (standstilllaw07_awake.f k).bind fun t => some t) → Ev g true := fun h => Ev.step h (Ev.bind' awake_ev (Ev.now _))
    by_cases c1 : rd tn i < 0
    · exact stop fun k => by simp only [standstilllaw07_TagNames.l0]; rw [if_pos (by omega), if_pos (by omega), if_pos c1]
    · by_cases c2 : rd tn i ≥ (tn.length : Int)
      · exact stop fun k => by simp only [standstilllaw07_TagNames.l0]; rw [if_pos (by omega), if_pos (by omega), if_neg c1, if_pos c2]
      · cases c3 : rdOf false met (rd tn i) with
        | true => exact stop fun k => by simp only [standstilllaw07_TagNames.l0]; rw [if_pos (by omega), if_pos (by omega), if_neg c1, if_neg c2, if_pos (by omega), if_pos (by omega), if_pos c3]
        | false =>
          refine Ev.step (f := fun k => standstilllaw07_TagNames.l0 k q tn n (met.set (rd tn i).toNat true) ((i + 1 : Nat) : Int) D R S) (fun k => ?_) (ih (i + 1) _ (by omega) (by simp [hm]) ?_ ?_)
          · simp only [standstilllaw07_TagNames.l0]
            rw [if_pos (by omega), if_pos (by omega), if_neg c1, if_neg c2, if_pos (by omega), if_pos (by omega), if_neg (by simp [c3]), wrap_id (by omega) (by omega)]
            rfl
          · intro j hj
            by_cases e : j = i
            · subst e
              refine ⟨by omega, by omega, ?_⟩
              rw [rdOf_set _ _ _ _ (by omega) (by omega) (by omega), if_pos rfl]
            · obtain ⟨a, b, c⟩ := h1 j (by omega)
              refine ⟨a, b, ?_⟩
              rw [rdOf_set _ _ _ _ (by omega) (by omega) a]
              split
              · rfl
              · exact c
          · intro j k hj hk e
            by_cases ej : j = i
            · subst ej
              by_cases ek : k = j
              · exact ek.symm
              · obtain ⟨_, _, c⟩ := h1 k (by omega)
                rw [← e, c3] at c
                cases c
            · by_cases ek : k = i
              · subst ek
                obtain ⟨_, _, c⟩ := h1 j (by omega)
                rw [e, c3] at c
                cases c
              · exact h2 j k (by omega) (by omega) e

theorem build_ev (q tn : List Int) (n D : Int) (R : List (List Int)) (S : List Bool) (hp : Perm tn) (htl : tn.length = R.length) (g : Good D R S) (hl : R.length ≤ 600)
    (cont : ∀ U V, Named D R S U V tn → Ev (fun k => standstilllaw07_TagNames.l1 k q tn n (tn.length : Int) D R S D U V) true) :
    ∀ (d i : Nat) (U : List (List Int)) (V : List Bool), i + d = tn.length → U.length = R.length → V.length = R.length →
      (∀ j : Nat, j < i → rd_L1 U (rd tn j) = nm tn (rd_L1 R j) ∧ rdOf false V (rd tn j) = rdOf false S j) → (∀ w ∈ U, w = [] ∨ ∃ w0 ∈ R, w = nm tn w0) →
      Ev (fun k => standstilllaw07_TagNames.l1 k q tn n (i : Int) D R S D U V) true := by
  intro d
  induction d with
  | zero =>
    intro i U V hi hU hV h1 h2
    obtain rfl : i = tn.length := by omega
    refine cont U V ⟨g, htl, fun x x0 x1 => ?_, hU, hV, fun x x0 x1 => ?_, fun x x0 x1 => ?_, h2⟩
    · obtain ⟨j, rfl⟩ := Int.eq_ofNat_of_zero_le x0
      have := hp.inn j (by omega)
      rw [htl] at this
      exact this
    · obtain ⟨j, rfl⟩ := Int.eq_ofNat_of_zero_le x0
      exact (h1 j (by omega)).1
    · obtain ⟨j, rfl⟩ := Int.eq_ofNat_of_zero_le x0
      exact (h1 j (by omega)).2
  | succ d ih =>
    intro i U V hi hU hV h1 h2
    have hin := hp.inn i (by omega)
    have hR : rd_L1 R i ∈ R := rule_in g (by omega) (by omega)
    have hnm := named_ev (rd_L1 R i) tn (by have := g.rl _ hR; omega) (fun x hx => by rw [htl]; exact g.rx _ hR x hx)
    refine Ev.step (f := fun k => (standstilllaw07_named.f k (rd_L1 R i) tn).bind fun t => standstilllaw07_TagNames.l1 k q tn n ((i + 1 : Nat) : Int) D R S D (U.set (rd tn i).toNat t) (V.set (rd tn i).toNat (rdOf false S i))) (fun k => ?_) ?_
    · have hS := g.sl
      simp only [standstilllaw07_TagNames.l1]
      rw [if_pos (by omega), if_pos (by omega), if_pos (by omega)]
      congr 1
      funext t
      rw [if_pos (by omega), if_pos (by omega), if_pos (by omega), if_pos (by omega), wrap_id (by omega) (by omega)]
      rfl
    · refine Ev.bind' hnm (ih (i + 1) _ _ (by omega) (by simp [hU]) (by simp [hV]) ?_ ?_)
      · intro j hj
        have hjn := hp.inn j (by omega)
        rw [rd_L1_set _ _ _ _ (by omega) (by omega) (by omega), rdOf_set _ _ _ _ (by omega) (by omega) (by omega)]
        by_cases e : rd tn j = rd tn i
        · have := hp.inj j i (by omega) (by omega) e
          subst this
          rw [if_pos rfl, if_pos rfl]
          exact ⟨rfl, rfl⟩
        · rw [if_neg e, if_neg e]
          refine h1 j ?_
          rcases Nat.lt_or_ge j i with h | h
          · exact h
          · obtain rfl : j = i := by omega
            exact absurd rfl e
      · intro w hw
        rcases List.mem_or_eq_of_mem_set hw with hw | rfl
        · exact h2 w hw
        · exact Or.inr ⟨_, hR, rfl⟩

theorem fits_named {D : Int} {R U : List (List Int)} {S V : List Bool} {tn q : List Int} (h : Named D R S U V tn) (hf : fitsB D R S q = true) : fitsB D U V (nm tn q) = true := by
  obtain ⟨g, hl, hq⟩ := fits_parts hf
  have hv : validB D R S = true := by
    simp only [fitsB, Bool.and_eq_true] at hf
    exact hf.1.1
  simp only [validB, Bool.and_eq_true, decide_eq_true_eq] at hv
  obtain ⟨⟨⟨⟨⟨v1, v2⟩, v3⟩, v4⟩, v5⟩, v6⟩ := hv
  have gu := h.good
  have hrules : rulesB U (U.length : Int) = true := by
    simp only [rulesB, List.all_eq_true, Bool.and_eq_true, decide_eq_true_eq]
    exact fun w hw => ⟨gu.rl w hw, lettersB_iff.2 (gu.rx w hw)⟩
  simp only [fitsB, validB, Bool.and_eq_true, decide_eq_true_eq, nm_len]
  exact ⟨⟨⟨⟨⟨⟨⟨v1, v2⟩, by rw [h.ul]; exact v3⟩, by rw [h.ul]; exact v4⟩, gu.sl⟩, hrules⟩, hl⟩, lettersB_iff.2 (h.in_ hq)⟩

theorem run_ev {D : Int} {R : List (List Int)} {S : List Bool} {q : List Int} {n : Int} {r : List Int × Int × Int} (hf : Ev (fun k => tag_Fits.f k D R S q) true) (h0 : 0 ≤ n) (h1 : n ≤ 1000000) (hq : q.length < 17592186044416)
    (h : Ev (fun k => tag_Run.l0 k 0 q 0 D R S n) r) : Ev (fun k => tag_Run.f k D R S q n) r := by
  unfold tag_Run.f
  refine Ev.bind' hf ?_
  simp only [↓reduceIte, if_neg (show ¬ n < 0 from by omega), if_neg (show ¬ n > 1000000 from by omega), if_pos hq]
  exact h

theorem TagNames : TagNamesStmt := by
  intro D R S q tn n _ hR _ hq _ hn
  have hreach : reachBytes = 140737488351232 := rfl
  have hRl : R.length ≤ 17592186044416 := by have := hR.1; omega
  have hw : ∀ w ∈ R, w.length ≤ 17592186044416 := fun w h => by have := (hR.2 w h).1; omega
  have hql : q.length < 17592186044416 := by have := hq.1; omega
  have hn0 : 0 ≤ n ∧ n ≤ 255 := by
    simp [Lit.wf, IntKind.min, IntKind.max, IntKind.signed, IntKind.bits] at hn
    omega
  obtain ⟨wb, Ew⟩ := wide_ev D R S q
  have E4 := ref_fits D R S q hRl hw (by omega)
  have E3 := tag_fits D R S q hRl hw (by omega)
  have stop : Ev (fun k => standstilllaw07_TagNames.j0 k q tn n true D R S) true := Ev.step (f := fun k => (standstilllaw07_awake.f k).bind fun t => some t) (fun k => by simp [standstilllaw07_TagNames.j0]) (Ev.bind' awake_ev (Ev.now _))
  have T : Ev (fun k => standstilllaw07_TagNames.f k D R S q tn n) true := by
    unfold standstilllaw07_TagNames.f
    refine Ev.bind' Ew ?_
    cases wb with
    | true => simpa using stop
    | false =>
      simp only [Bool.false_eq_true, ↓reduceIte]
      refine Ev.bind' E4 ?_
      cases hf : fitsB D R S q with
      | false => simpa using stop
      | true =>
        simp only [↓reduceIte]
        rw [hf] at E3
        obtain ⟨g, hl, hqi⟩ := fits_parts hf
        have h600 : R.length ≤ 600 := by
          simp only [fitsB, validB, Bool.and_eq_true, decide_eq_true_eq] at hf
          exact hf.1.1.1.1.2
        by_cases htl : tn.length = R.length
        · rw [show ((tn.length : Int) != (R.length : Int)) = false from by simp [htl]]
          refine Ev.step (f := fun k => standstilllaw07_TagNames.l0 k q tn n (List.replicate tn.length false) ((0 : Nat) : Int) D R S) (fun k => ?_) ?_
          · simp only [standstilllaw07_TagNames.j0, Bool.false_eq_true, ↓reduceIte]
            rw [if_pos (by omega), Int.toNat_natCast, if_pos (by omega)]
            rfl
          · refine met_ev q tn n D R S (by omega) (fun hp => ?_) tn.length 0 _ (by omega) (by simp) (fun j hj => by omega) (fun j k hj => by omega)
            refine build_ev q tn n D R S hp htl g h600 (fun U V h => ?_) tn.length 0 _ _ (by omega) (by simp [htl]) (by simp [htl]) (fun j hj => by omega) (fun w hw => Or.inl (List.eq_of_mem_replicate hw))
            obtain ⟨r, c, e, E1, E2, hin, hrl⟩ := runs2 h n (by omega) n.toNat 0 q q (nm tn q) 0 0 (by omega) (by omega) hqi hl rfl (Nat.zero_le _) rfl (Nat.zero_le _) (by omega) (by rw [nm_len]; omega)
            have hfu := fits_named h hf
            have E5 := tag_fits D U V (nm tn q) (by rw [h.ul]; omega) (fun w hw => by have := h.good.rl w hw; omega) (by rw [nm_len]; omega)
            rw [hfu] at E5
            have R1 := run_ev E3 hn0.1 (by omega) hql E1
            have R2 := run_ev E5 hn0.1 (by omega) (by rw [nm_len]; exact hql) E2
            have hfr : fitsB D R S r = true := by
              simp only [fitsB, Bool.and_eq_true, decide_eq_true_eq] at hf ⊢
              exact ⟨⟨hf.1.1, hrl⟩, lettersB_iff.2 hin⟩
            have E6 := ref_fits D R S r hRl hw (by omega)
            rw [hfr] at E6
            refine Ev.step (f := fun k => (tag_Run.f k D R S q n).bind fun bt243 => ((standstilllaw07_named.f k q tn).bind fun t248 => ((tag_Run.f k D U V t248 n).bind fun bt251 => (if bt243.2.2 = bt251.2.2 then (if bt243.2.1 = bt251.2.1 then ((standstillref07_Fits.f k D R S bt243.1).bind fun t256 => (if t256 = true then ((standstilllaw07_named.f k bt243.1 tn).bind fun t257 => ((standstillref07_Same.f k t257 bt251.1).bind fun t260 => (if t260 = true then ((standstilllaw07_awake.f k).bind fun t261 => (some t261)) else (some false)))) else (some false))) else (some false)) else (some false))))) (fun k => ?_) ?_
            · simp only [standstilllaw07_TagNames.l1]
              rw [if_neg (by omega), wrap_id (by omega) (by omega)]
            · refine Ev.bind' R1 (Ev.bind' (named_ev q tn hql (by rw [htl]; exact hqi)) (Ev.bind' R2 ?_))
              simp only [↓reduceIte]
              refine Ev.bind' E6 ?_
              simp only [↓reduceIte]
              refine Ev.bind' (named_ev r tn (by omega) (by rw [htl]; exact hin)) (Ev.bind' (same_refl _ (by rw [nm_len]; omega)) ?_)
              simp only [↓reduceIte]
              exact Ev.bind' awake_ev (Ev.now _)
        · rw [show ((tn.length : Int) != (R.length : Int)) = true from by simp; omega]
          exact stop
  exact T.rounds
end Go.Proofs.Ytokhlcljpjfpmaa.Pure
