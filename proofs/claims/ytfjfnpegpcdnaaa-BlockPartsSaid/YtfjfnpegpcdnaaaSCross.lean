/- Crossings by the program: block.cross, block.Cross. -/
import Derived.Test.YtfjfnpegpcdnaaaSSem
import Derived.Test.YtfjfnpegpcdnaaaGBx1
import Derived.Test.YtfjfnpegpcdnaaaGBx2
import Derived.Test.YtfjfnpegpcdnaaaGBx3
namespace Go.Proofs.Ytfjfnpegpcdnaaa.Pure
open Go.RowKit Go.Proofs.YtfjfnpegpcdnaaaW.PrintWords Go.Proofs.YtfjfnpegpcdnaaaW.PrintLast Go.Proofs.YtfjfnpegpcdnaaaW.PrintMore Go.Proofs.Ytfjfnpegpcdnaaa.GB
set_option linter.unusedVariables false
set_option linter.unusedSimpArgs false

theorem tape_valid (n s : Int) (R : List (List S57)) : EvP (fun k => tape_Valid.f k n s R) (VM n s R) := by
  have no : ¬ VM n s R → EvP (fun k => tape_Valid.j0 k true n s R) (VM n s R) := fun h => EvP.succ (by simp only [tape_Valid.j0, ↓reduceIte]; exact EvP.false h)
  have rows : 2 ≤ s → s ≤ 4 → n ≤ 6 → (R.length : Int) = n → ∀ (d : Nat) (i : Int), 0 ≤ i → n - i = d → EvP (fun k => tape_Valid.l0 k R (R.length : Int) i n s R) (∀ i', i ≤ i' → i' < n → OkRow n s R i') := by
    intro s2 s4 n6 hR d
    induction d with
    | zero => intro i h0 hd; refine EvP.succ ?_; simp only [tape_Valid.l0]; refine EvP.ifn (by omega) ?_; exact EvP.true (all_end (by omega))
    | succ d ih =>
      intro i h0 hd
      have nx := ih (i + 1) (by omega) (by omega)
      refine EvP.succ ?_
      simp only [tape_Valid.l0]
      refine EvP.ifp (by omega) ?_
      refine EvP.ifp (by omega) ?_
      refine EvP.ifp (by omega) ?_
      refine EvP.ite (fun hr => ?_) (fun hr => EvP.false (fun h => hr (h i (by omega) (by omega)).1))
      have inner : ∀ (e : Nat) (j : Int), 0 ≤ j → s - j = e → EvP (fun k => tape_Valid.l1 k R (R.length : Int) i (rd_L2 R i) ((rd_L2 R i).length : Int) j n s R) ((∀ j', j ≤ j' → j' < s → OkRule n s (rd_T57 (rd_L2 R i) j')) ∧ (∀ i', i + 1 ≤ i' → i' < n → OkRow n s R i')) := by
        intro e
        induction e with
        | zero =>
          intro j g0 ge
          refine EvP.succ ?_
          simp only [tape_Valid.l1]
          refine EvP.ifn (by omega) ?_
          simp only [wrap_id (x := i + 1) (by omega) (by omega)]
          exact EvP.iff ⟨fun h => ⟨all_end (by omega), h⟩, fun h => h.2⟩ nx
        | succ e ihe =>
          intro j g0 ge
          have nj := ihe (j + 1) (by omega) (by omega)
          refine EvP.succ ?_
          simp only [tape_Valid.l1]
          refine EvP.ifp (by omega) ?_
          refine EvP.ifp (by omega) ?_
          refine EvP.ifp (by omega) ?_
          simp only [wrap_id (x := j + 1) (by omega) (by omega)]
          have bad : ¬ OkRule n s (rd_T57 (rd_L2 R i) j) → EvP (fun _ => some false) ((∀ j', j ≤ j' → j' < s → OkRule n s (rd_T57 (rd_L2 R i) j')) ∧ (∀ i', i + 1 ≤ i' → i' < n → OkRow n s R i')) := fun hb => EvP.false (fun h => hb (h.1 j (by omega) (by omega)))
          have good : OkRule n s (rd_T57 (rd_L2 R i) j) → EvP (fun k => tape_Valid.l1 k R (R.length : Int) i (rd_L2 R i) ((rd_L2 R i).length : Int) (j + 1) n s R) ((∀ j', j ≤ j' → j' < s → OkRule n s (rd_T57 (rd_L2 R i) j')) ∧ (∀ i', i + 1 ≤ i' → i' < n → OkRow n s R i')) := fun hg => EvP.iff (and_congr_left' (all_step (by omega) hg)) nj
          generalize rd_T57 (rd_L2 R i) j = r at bad good ⊢
          repeat' (first | refine EvP.ite (fun _ => ?_) (fun _ => ?_))
          all_goals first | exact bad (by simp only [OkRule]; omega) | exact good (by simp only [OkRule]; omega)
      exact EvP.iff ⟨fun h i' a b => if e : i' = i then e ▸ ⟨hr, h.1⟩ else h.2 i' (by omega) b, fun h => ⟨(h i (by omega) (by omega)).2, fun i' a b => h i' (by omega) b⟩⟩ (inner s.toNat 0 (by omega) (by omega))
  unfold tape_Valid.f
  repeat' (first | refine EvP.ite (fun _ => ?_) (fun _ => ?_))
  all_goals first | exact no (by simp only [VM]; omega) | skip
  refine EvP.succ ?_
  simp only [tape_Valid.j0, bne_iff_ne, ne_eq]
  refine EvP.ite (fun h => EvP.false (fun v => h v.2.2.2.2.1)) (fun h => ?_)
  exact EvP.iff ⟨fun h' => ⟨by omega, by omega, by omega, by omega, by omega, h'⟩, fun h' => h'.2.2.2.2.2⟩ (rows (by omega) (by omega) (by omega) (by omega) n.toNat 0 (by omega) (by omega))


/-! ### block.cross -/
def padW (l : List Int) : List Int := l ++ List.replicate (6 - l.length) 0
def key (c : Mom) : List Int := c.1 :: c.2.1 :: padW c.2.2
def seenL (R : List (List S57)) (c : Mom) : Nat → List (List Int)
  | 0 => []
  | m + 1 => key (it R c m) :: seenL R c m
theorem seen_len (R : List (List S57)) (c : Mom) : ∀ m, (seenL R c m).length = m
  | 0 => rfl
  | m + 1 => by simp [seenL, seen_len R c m]
theorem seen_mem (R : List (List S57)) (c : Mom) (x : List Int) : ∀ m, x ∈ seenL R c m ↔ ∃ i, i < m ∧ x = key (it R c i)
  | 0 => by simp [seenL]
  | m + 1 => by
    simp only [seenL, List.mem_cons, seen_mem R c x m]
    constructor
    · rintro (h | ⟨i, hi, h⟩)
      · exact ⟨m, by omega, h⟩
      · exact ⟨i, by omega, h⟩
    · rintro ⟨i, hi, h⟩
      by_cases e : i = m
      · subst e; exact Or.inl h
      · exact Or.inr ⟨i, by omega, h⟩
theorem key_inj {W : Nat} {c d : Mom} (hc : c.2.2.length = W) (hd : d.2.2.length = W) (h : key c = key d) : c = d := by
  obtain ⟨a, b, l⟩ := c
  obtain ⟨a', b', l'⟩ := d
  simp only [key, padW, List.cons.injEq] at h
  obtain ⟨rfl, rfl, h⟩ := h
  simp only at hc hd
  have := List.append_inj h (by omega)
  rw [this.1]
theorem pad_take (l : List Int) : (padW l).take l.length = l := by simp [padW]
theorem pad_rd {l : List Int} {p : Int} (h0 : 0 ≤ p) (h1 : p < l.length) : rd (padW l) p = rd l p := by
  unfold rd padW
  rw [List.getD_eq_getElem?_getD, List.getD_eq_getElem?_getD, List.getElem?_append_left (by omega)]
theorem pad_set {l : List Int} {p : Int} (v : Int) (h0 : 0 ≤ p) (h1 : p < l.length) : (padW l).set p.toNat v = padW (l.set p.toNat v) := by
  unfold padW
  rw [List.set_append_left _ _ (by omega), List.length_set]
theorem small_of {l : List Int} (h : ∀ x ∈ l, -1000 ≤ x ∧ x ≤ 1000) : small l = true := by
  simp only [small, List.all_eq_true, Bool.and_eq_true, decide_eq_true_eq]
  exact h
theorem key_small {n s W : Int} {c : Mom} (hn : n ≤ 6) (hs : s ≤ 4) (hW : W ≤ 6) (g : Good n s W c) : small (key c) = true := by
  obtain ⟨g0, g1, g2, g3, g4, g5⟩ := g
  refine small_of (fun x hx => ?_)
  simp only [key, padW, List.mem_cons, List.mem_append, List.mem_replicate] at hx
  rcases hx with rfl | rfl | hx | ⟨_, rfl⟩
  · omega
  · omega
  · have := g5 x hx; omega
  · omega
theorem cross_loop {n s : Int} {W : Nat} {R : List (List S57)} {c0 : Mom} (vm : VM n s R) (hW : W ≤ 6) (g : Good n s W c0) : ∀ (d m : Nat), m + d = 147457 → (∀ i, i < m → In W (it R c0 i)) → (∀ i j, i < j → j < m → it R c0 i ≠ it R c0 j) →
    ∃ r, Ev (fun k => block_cross.l0 k (it R c0 m).1 (it R c0 m).2.1 (padW (it R c0 m).2.2) (m : Int) (seenL R c0 m) (W : Int) R) r ∧ Sem R W c0 r := by
  intro d
  induction d with
  | zero =>
    intro m hd hin hne
    have := fresh_le vm hW g hin hne
    omega
  | succ d ih =>
    intro m hd hin hne
    have gm := it_good vm g m hin
    have hm := fresh_le vm hW g hin hne
    have hl : (it R c0 m).2.2.length = W := by have := gm.2.2.2.2.1; omega
    have out : ¬ In W (it R c0 m) → Sem R W c0 (kind W (it R c0 m), (it R c0 m).1, (m : Int), (it R c0 m).2.1, (it R c0 m).2.2) := fun h => Or.inl ⟨m, hin, h, rfl⟩
    have tk : (padW (it R c0 m).2.2).take (W : Int).toNat = (it R c0 m).2.2 := by rw [Int.toNat_natCast, ← hl]; exact pad_take _
    by_cases c1 : (it R c0 m).1 = -1
    · refine ⟨_, Ev.succ ?_, out (fun h => h.1 c1)⟩
      simp only [block_cross.l0, tk, kind]
      rw [if_pos c1]
      exact Ev.ifp c1 (Ev.now _)
    by_cases c2 : (it R c0 m).2.1 < 0
    · refine ⟨_, Ev.succ ?_, out (fun h => by have := h.2.1; omega)⟩
      simp only [block_cross.l0, tk, kind]
      rw [if_neg c1, if_pos c2]
      exact Ev.ifn c1 (Ev.ifp c2 (Ev.now _))
    by_cases c3 : (it R c0 m).2.1 = (W : Int)
    · refine ⟨_, Ev.succ ?_, out (fun h => by have := h.2.2; omega)⟩
      simp only [block_cross.l0, tk, kind]
      rw [if_neg c1, if_neg c2]
      exact Ev.ifn c1 (Ev.ifn c2 (Ev.ifp c3 (Ev.now _)))
    have iw : In W (it R c0 m) := ⟨c1, by omega, by have := gm.2.2.2.1; omega⟩
    have hs := key_small vm.2.1 vm.2.2.2.1 (by omega) gm
    have hk : key (it R c0 m) = (it R c0 m).1 :: (it R c0 m).2.1 :: padW (it R c0 m).2.2 := rfl
    by_cases c4 : ∃ i, i < m ∧ it R c0 i = it R c0 m
    · obtain ⟨i, hi, e⟩ := c4
      refine ⟨(3, 0, 0, 0, []), Ev.succ ?_, Or.inr ⟨never hi hin e, rfl⟩⟩
      simp only [block_cross.l0]
      refine Ev.ifn c1 (Ev.ifn c2 (Ev.ifn c3 (Ev.ifp ⟨hs, by rw [seen_len]; omega⟩ (Ev.ifp ?_ (Ev.now _)))))
      rw [← hk, seen_mem]
      exact ⟨i, hi, by rw [e]⟩
    · have hin' : ∀ i, i < m + 1 → In W (it R c0 i) := fun i hi => by
        by_cases e : i = m
        · subst e; exact iw
        · exact hin i (by omega)
      have hne' : ∀ i j, i < j → j < m + 1 → it R c0 i ≠ it R c0 j := fun i j hij hj => by
        by_cases e : j = m
        · subst e; exact fun e => c4 ⟨i, hij, e⟩
        · exact hne i j hij (by omega)
      obtain ⟨r, hr, hsem⟩ := ih (m + 1) (by omega) hin' hne'
      refine ⟨r, Ev.succ ?_, hsem⟩
      simp only [block_cross.l0]
      obtain ⟨o0, o1, o2, o3, p0, p1, p2, p3, p4⟩ := rule_ok vm gm iw
      have hp := iw.2.1
      have hp' : (it R c0 m).2.1 < ((it R c0 m).2.2.length : Int) := by rw [hl]; exact iw.2.2
      refine Ev.ifn c1 (Ev.ifn c2 (Ev.ifn c3 (Ev.ifp ⟨hs, by rw [seen_len]; omega⟩ (Ev.ifn ?_ (Ev.ifp ?_ ?_)))))
      · rw [← hk, seen_mem]
        rintro ⟨i, hi, e⟩
        have gi := it_good vm g i (fun j hj => hin j (by omega))
        exact c4 ⟨i, hi, (key_inj (W := W) hl (by have := gi.2.2.2.2.1; omega) e).symm⟩
      · rw [pad_rd hp hp']
        exact ⟨o1, o0, by have := iw.2.2; omega, o2, o3⟩
      · rw [pad_rd hp hp', pad_set _ hp hp', wrap_id (x := (m : Int) + 1) (by omega) (by omega)]
        have hw : wrap64 ((it R c0 m).2.1 + (rd_T57 (rd_L2 R (it R c0 m).1) (rd (it R c0 m).2.2 (it R c0 m).2.1)).f1) = (it R c0 m).2.1 + (rule R (it R c0 m)).f1 := wrap_id (by have := iw.2.2; simp only [rule] at p2; omega) (by have := iw.2.2; simp only [rule] at p2; omega)
        rw [hw]
        exact hr
theorem cross_ev {n s : Int} {R : List (List S57)} {st p : Int} {l : List Int} (vm : VM n s R) (hW : l.length ≤ 6) (g : Good n s l.length (st, p, l)) : ∃ r, Ev (fun k => block_cross.f k n s R st p l) r ∧ Sem R l.length (st, p, l) r := by
  obtain ⟨r, hr, hs⟩ := cross_loop vm hW g 147457 0 (by omega) (by omega) (by omega)
  refine ⟨r, ?_, hs⟩
  unfold block_cross.f
  exact Ev.ifp hW hr

/-! ### block.Cross -/
def Args (n s st p : Int) (l : List Int) : Prop := 0 ≤ st ∧ st < n ∧ 1 ≤ l.length ∧ l.length ≤ 6 ∧ 0 ≤ p ∧ p < l.length ∧ Digits s l
theorem Args.good {n s st p : Int} {l : List Int} (h : Args n s st p l) : Good n s l.length (st, p, l) := ⟨by have := h.1; simp only; omega, h.2.1, by have := h.2.2.2.2.1; simp only; omega, by have := h.2.2.2.2.2.1; simp only; omega, rfl, h.2.2.2.2.2.2⟩
theorem Args.in_ {n s st p : Int} {l : List Int} (h : Args n s st p l) : In l.length (st, p, l) := ⟨by have := h.1; simp only; omega, h.2.2.2.2.1, h.2.2.2.2.2.1⟩
theorem Cross_form {n s : Int} {R : List (List S57)} (st p : Int) (l : List Int) (h : ¬ VM n s R) : Ev (fun k => block_Cross.f k n s R st p l) (0, 0, 0, 0, [], 1) := by
  unfold block_Cross.f
  refine Ev.bind' ((tape_valid n s R).neg h) ?_
  simp only [Bool.false_eq_true, ↓reduceIte]
  exact Ev.now _
theorem digits_get {s : Int} {l : List Int} : Digits s l ↔ ∀ i : Int, 0 ≤ i → i < l.length → 0 ≤ rd l i ∧ rd l i < s := by
  constructor
  · intro h i h0 h1
    exact rd_digit h h0 h1
  · intro h x hx
    obtain ⟨i, hi, rfl⟩ := List.getElem_of_mem hx
    have := h i (by omega) (by omega)
    simpa [rd, List.getD_eq_getElem?_getD, hi] using this
theorem Cross_loop {n s : Int} {R : List (List S57)} (st p : Int) (l : List Int) (r : Res) (hl : l.length ≤ 6) (hr : Digits s l → Ev (fun k => block_cross.f k n s R st p l) r) : ∀ (d : Nat) (i : Int), 0 ≤ i → (l.length : Int) - i = d → (∀ j : Int, 0 ≤ j → j < i → 0 ≤ rd l j ∧ rd l j < s) →
    (Digits s l → Ev (fun k => block_Cross.l0 k st p l l (l.length : Int) i n s R) (r.1, r.2.1, r.2.2.1, r.2.2.2.1, r.2.2.2.2, 0)) ∧ (¬ Digits s l → Ev (fun k => block_Cross.l0 k st p l l (l.length : Int) i n s R) (0, 0, 0, 0, [], 2)) := by
  intro d
  induction d with
  | zero =>
    intro i h0 hd hj
    have hg : Digits s l := digits_get.2 (fun j a b => hj j a (by omega))
    refine ⟨fun _ => Ev.succ ?_, fun h => absurd hg h⟩
    simp only [block_Cross.l0]
    exact Ev.ifn (by omega) (Ev.bind' (hr hg) (Ev.now _))
  | succ d ih =>
    intro i h0 hd hj
    by_cases hx : 0 ≤ rd l i ∧ rd l i < s
    · have nx := ih (i + 1) (by omega) (by omega) (fun j a b => by
        by_cases e : j = i
        · subst e; exact hx
        · exact hj j a (by omega))
      constructor
      · intro hg
        refine Ev.succ ?_
        simp only [block_Cross.l0, wrap_id (x := i + 1) (by omega) (by omega)]
        exact Ev.ifp (by omega) (Ev.ifp h0 (Ev.ifp (by omega) (Ev.ifn (by omega) (Ev.ifn (by omega) (nx.1 hg)))))
      · intro hg
        refine Ev.succ ?_
        simp only [block_Cross.l0, wrap_id (x := i + 1) (by omega) (by omega)]
        exact Ev.ifp (by omega) (Ev.ifp h0 (Ev.ifp (by omega) (Ev.ifn (by omega) (Ev.ifn (by omega) (nx.2 hg)))))
    · refine ⟨fun hg => absurd (rd_digit hg h0 (by omega)) hx, fun _ => Ev.succ ?_⟩
      simp only [block_Cross.l0]
      refine Ev.ifp (by omega) (Ev.ifp h0 (Ev.ifp (by omega) (Ev.ite (fun _ => Ev.now _) (fun _ => Ev.ifp (by omega) (Ev.now _)))))
theorem Cross_ok {n s : Int} {R : List (List S57)} {st p : Int} {l : List Int} (vm : VM n s R) (h : Args n s st p l) : ∃ r, Ev (fun k => block_Cross.f k n s R st p l) (r.1, r.2.1, r.2.2.1, r.2.2.2.1, r.2.2.2.2, 0) ∧ Sem R l.length (st, p, l) r := by
  obtain ⟨r, hr, hs⟩ := cross_ev vm h.2.2.2.1 h.good
  obtain ⟨a0, a1, a2, a3, a4, a5, a6⟩ := h
  refine ⟨r, ?_, hs⟩
  have hk := (Cross_loop (n := n) (R := R) st p l r a3 (fun _ => hr) l.length 0 (by omega) (by omega) (fun j a b => by omega)).1 a6
  unfold block_Cross.f
  refine Ev.bind' ((tape_valid n s R).pos vm) ?_
  simp only [↓reduceIte]
  refine Ev.ifn (by omega) (Ev.ifn (by omega) (Ev.ifn (by omega) (Ev.ifn (by omega) (Ev.ifn (by omega) (Ev.succ ?_)))))
  simp only [block_Cross.j0, decide_eq_true_eq]
  exact Ev.ifn (by omega) hk
theorem Cross_arg {n s : Int} {R : List (List S57)} {st p : Int} {l : List Int} (vm : VM n s R) (h : ¬ Args n s st p l) (hl : l.length ≤ 17592186044416) : Ev (fun k => block_Cross.f k n s R st p l) (0, 0, 0, 0, [], 2) := by
  have yes : Ev (fun k => block_Cross.j0 k st p l true n s R) (0, 0, 0, 0, [], 2) := by
    refine Ev.succ ?_
    simp only [block_Cross.j0, ↓reduceIte]
    exact Ev.now _
  unfold block_Cross.f
  refine Ev.bind' ((tape_valid n s R).pos vm) ?_
  simp only [↓reduceIte]
  refine Ev.ite (fun _ => yes) (fun _ => Ev.ite (fun _ => yes) (fun _ => Ev.ite (fun _ => yes) (fun _ => Ev.ite (fun _ => yes) (fun _ => Ev.ite (fun _ => yes) (fun _ => ?_)))))
  by_cases hp : p < (l.length : Int)
  · have hg : ¬ Digits s l := fun hg => h ⟨by omega, by omega, by omega, by omega, by omega, hp, hg⟩
    have hk := (Cross_loop (n := n) (R := R) st p l (0, 0, 0, 0, []) (by omega) (fun hd => absurd hd hg) l.length 0 (by omega) (by omega) (fun j a b => by omega)).2 hg
    refine Ev.succ ?_
    simp only [block_Cross.j0, decide_eq_true_eq]
    exact Ev.ifn (by omega) hk
  · rw [decide_eq_true (by omega)]
    exact yes
end Go.Proofs.Ytfjfnpegpcdnaaa.Pure
