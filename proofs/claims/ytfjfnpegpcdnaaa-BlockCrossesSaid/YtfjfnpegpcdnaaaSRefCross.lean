/- Crossings by the specification. -/
import Derived.Test.YtfjfnpegpcdnaaaSSem
import Derived.Test.YtfjfnpegpcdnaaaGBx10
import Derived.Test.YtfjfnpegpcdnaaaGBx9
namespace Go.Proofs.Ytfjfnpegpcdnaaa.Pure
open Go.RowKit Go.Proofs.YtfjfnpegpcdnaaaW.PrintWords Go.Proofs.YtfjfnpegpcdnaaaW.PrintLast Go.Proofs.YtfjfnpegpcdnaaaW.PrintMore Go.Proofs.Ytfjfnpegpcdnaaa.GB
set_option linter.unusedVariables false
set_option linter.unusedSimpArgs false

theorem pw_le {s : Int} (hs : s ≤ 4) (hs2 : 2 ≤ s) {k : Nat} (hk : k ≤ 6) : pw s k ≤ 4096 := by
  have := all_le (n := 1) (W := k) (by omega) hs hs2 (by omega) hk
  have h4 : ∀ k, pw s k ≤ pw 4 k := by
    intro k
    induction k with
    | zero => simp [pw]
    | succ k ih =>
      simp only [pw]
      have h1 := Int.mul_le_mul_of_nonneg_right hs (show 0 ≤ pw s k by have := pw_pos hs2 k; omega)
      omega
  have h6 : pw 4 k ≤ 4096 := by
    match k, hk with
    | 0, _ => decide
    | 1, _ => decide
    | 2, _ => decide
    | 3, _ => decide
    | 4, _ => decide
    | 5, _ => decide
    | 6, _ => decide
    | n + 7, h => omega
  have := h4 k
  omega
theorem number_loop {s : Int} {cs : List Int} (hs : s ≤ 4) (hs2 : 2 ≤ s) (hl : cs.length ≤ 6) (hd : Digits s cs) : ∀ (d i : Nat) (acc : Int), i + d = cs.length → 0 ≤ acc → acc < pw s i → Ev (fun k => standstillref05_Number.l0 k cs s acc (i : Int)) (num s acc (cs.drop i)) := by
  intro d
  induction d with
  | zero =>
    intro i acc hi h0 h1
    refine Ev.succ ?_
    simp only [standstillref05_Number.l0]
    refine Ev.ifn (by omega) ?_
    rw [List.drop_of_length_le (by omega)]
    exact Ev.now _
  | succ d ih =>
    intro i acc hi h0 h1
    have hx := rd_digit hd (i := (i : Int)) (by omega) (by omega)
    have hp := pw_le hs hs2 (k := i) (by omega)
    have hb : 0 ≤ acc * s := Int.mul_nonneg h0 (by omega)
    have hm := Int.mul_le_mul_of_nonneg_right (show acc + 1 ≤ pw s i by omega) (show 0 ≤ s by omega)
    rw [Int.add_mul, Int.one_mul, Int.mul_comm (pw s i)] at hm
    have hp2 := pw_le hs hs2 (k := i + 1) (by omega)
    have e : pw s (i + 1) = s * pw s i := rfl
    have nx := ih (i + 1) (acc * s + rd cs (i : Int)) (by omega) (by omega) (by omega)
    refine Ev.succ ?_
    simp only [standstillref05_Number.l0]
    refine Ev.ifp (by omega) (Ev.ifp (by omega) ?_)
    rw [wrap_id (x := acc * s) (by omega) (by omega), wrap_id (x := acc * s + rd cs (i : Int)) (by omega) (by omega), wrap_id (x := (i : Int) + 1) (by omega) (by omega)]
    have e2 : num s acc (cs.drop i) = num s (acc * s + rd cs (i : Int)) (cs.drop (i + 1)) := by
      rw [List.drop_eq_getElem_cons (by omega : i < cs.length)]
      simp only [num]
      congr 2
      simp [rd, List.getD_eq_getElem?_getD, show i < cs.length by omega]
    rw [e2]
    exact nx
theorem number_ev {s : Int} {cs : List Int} (hs : s ≤ 4) (hs2 : 2 ≤ s) (hl : cs.length ≤ 6) (hd : Digits s cs) : Ev (fun k => standstillref05_Number.f k cs s) (num s 0 cs) := by
  have := number_loop hs hs2 hl hd cs.length 0 0 (by omega) (by omega) (by simp [pw])
  simpa [standstillref05_Number.f] using this

def Met (n s : Int) (W : Nat) (R : List (List S57)) (c0 : Mom) (met : List Bool) (m : Nat) : Prop :=
  (met.length : Int) = n * ((W : Int) * pw s W) ∧ ∀ q, Good n s W q → In W q → (rdOf false met (code n s W q) = true ↔ ∃ i, i < m ∧ it R c0 i = q)
theorem Met.code_lt {n s : Int} {W : Nat} {R : List (List S57)} {c0 : Mom} {met : List Bool} {m : Nat} (h : Met n s W R c0 met m) (hs : 2 ≤ s) (hn : 1 ≤ n) {q : Mom} (g : Good n s W q) (i : In W q) : 0 ≤ code n s W q ∧ code n s W q < met.length := by
  have := Pure.code_lt hs hn g i
  rw [h.1]
  rwa [show q.2.2.length = W by have := g.2.2.2.2.1; omega] at this
theorem Met.next {n s : Int} {W : Nat} {R : List (List S57)} {c0 : Mom} {met : List Bool} {m : Nat} (h : Met n s W R c0 met m) (hs : 2 ≤ s) (hn : 1 ≤ n) (g : Good n s W (it R c0 m)) (i : In W (it R c0 m)) : Met n s W R c0 (met.set (code n s W (it R c0 m)).toNat true) (m + 1) := by
  refine ⟨by rw [List.length_set]; exact h.1, fun q gq iq => ?_⟩
  have l0 := h.code_lt hs hn g i
  have l1 := h.code_lt hs hn gq iq
  by_cases e : it R c0 m = q
  · subst e
    have : rdOf false (met.set (code n s W (it R c0 m)).toNat true) (code n s W (it R c0 m)) = true := by
      simp [rdOf, List.getD_eq_getElem?_getD, List.getElem?_set, show (code n s W (it R c0 m)).toNat < met.length by omega]
    exact ⟨fun _ => ⟨m, by omega, rfl⟩, fun _ => this⟩
  · have hc : (code n s W (it R c0 m)).toNat ≠ (code n s W q).toNat := fun e' => e (code_inj g i gq iq (by omega))
    have : rdOf false (met.set (code n s W (it R c0 m)).toNat true) (code n s W q) = rdOf false met (code n s W q) := by
      simp [rdOf, List.getD_eq_getElem?_getD, List.getElem?_set, hc]
    rw [this, h.2 q gq iq]
    constructor
    · rintro ⟨j, hj, e⟩
      exact ⟨j, by omega, e⟩
    · rintro ⟨j, hj, e'⟩
      by_cases ej : j = m
      · subst ej; exact absurd e' e
      · exact ⟨j, by omega, e'⟩
theorem refcross_loop {n s : Int} {W : Nat} {R : List (List S57)} {c0 : Mom} (l : List Int) (hl : l.length = W) (vm : VM n s R) (hW : W ≤ 6) (g : Good n s W c0) : ∀ (d m : Nat) (met : List Bool), m + d = 147457 → (∀ i, i < m → In W (it R c0 i)) → (∀ i j, i < j → j < m → it R c0 i ≠ it R c0 j) → Met n s W R c0 met m →
    ∃ r, Ev (fun k => standstillref05_Cross.l1 k (it R c0 m).1 (it R c0 m).2.1 l (it R c0 m).2.2 met (m : Int) n s R) r ∧ Sem R W c0 r := by
  intro d
  induction d with
  | zero =>
    intro m met hd hin hne hmet
    have := fresh_le vm hW g hin hne
    omega
  | succ d ih =>
    intro m met hd hin hne hmet
    have gm := it_good vm g m hin
    have hm := fresh_le vm hW g hin hne
    have hlm : (it R c0 m).2.2.length = W := by have := gm.2.2.2.2.1; omega
    have out : ¬ In W (it R c0 m) → Sem R W c0 (kind W (it R c0 m), (it R c0 m).1, (m : Int), (it R c0 m).2.1, (it R c0 m).2.2) := fun h => Or.inl ⟨m, hin, h, rfl⟩
    by_cases c1 : (it R c0 m).1 = -1
    · refine ⟨_, Ev.succ ?_, out (fun h => h.1 c1)⟩
      simp only [standstillref05_Cross.l1, kind]
      rw [if_pos c1]
      exact Ev.ifp c1 (Ev.now _)
    by_cases c2 : (it R c0 m).2.1 < 0
    · refine ⟨_, Ev.succ ?_, out (fun h => by have := h.2.1; omega)⟩
      simp only [standstillref05_Cross.l1, kind]
      rw [if_neg c1, if_pos c2]
      exact Ev.ifn c1 (Ev.ifp c2 (Ev.now _))
    by_cases c3 : (it R c0 m).2.1 ≥ ((it R c0 m).2.2.length : Int)
    · refine ⟨_, Ev.succ ?_, out (fun h => by have := h.2.2; omega)⟩
      simp only [standstillref05_Cross.l1, kind]
      rw [if_neg c1, if_neg c2]
      exact Ev.ifn c1 (Ev.ifn c2 (Ev.ifp c3 (Ev.now _)))
    have iw : In W (it R c0 m) := ⟨c1, by omega, by omega⟩
    have hc := hmet.code_lt vm.2.2.1 vm.1 gm iw
    have hnum := number_ev vm.2.2.2.1 vm.2.2.1 (by omega) gm.2.2.2.2.2
    -- the number of the moment
    have hn1 := num_lt vm.2.2.1 (it R c0 m).2.2 0 (by omega) gm.2.2.2.2.2
    have hp6 := pw_le vm.2.2.2.1 vm.2.2.1 (k := (it R c0 m).2.2.length) (by omega)
    have hb1 : 0 ≤ num s 0 (it R c0 m).2.2 * (l.length : Int) := Int.mul_nonneg hn1.1 (by omega)
    have hb2 : num s 0 (it R c0 m).2.2 * (l.length : Int) ≤ 4096 * 6 := by
      have h1 := Int.mul_le_mul_of_nonneg_right (show num s 0 (it R c0 m).2.2 ≤ 4096 by omega) (show 0 ≤ (l.length : Int) by omega)
      omega
    have hp1 := iw.2.1
    have hp2 : (it R c0 m).2.1 < 6 := by have := iw.2.2; omega
    have hb3 : 0 ≤ (num s 0 (it R c0 m).2.2 * (l.length : Int) + (it R c0 m).2.1) * n := Int.mul_nonneg (by omega) (by have := vm.1; omega)
    have hb4 : (num s 0 (it R c0 m).2.2 * (l.length : Int) + (it R c0 m).2.1) * n ≤ 24582 * 6 := by
      have h1 := Int.mul_le_mul_of_nonneg_right (show num s 0 (it R c0 m).2.2 * (l.length : Int) + (it R c0 m).2.1 ≤ 24582 by omega) (show 0 ≤ n by have := vm.1; omega)
      have := vm.2.1
      omega
    have hs1 := gm.1
    have hs2 := gm.2.1
    have hn6 := vm.2.1
    have hcode : wrap64 (wrap64 (wrap64 (wrap64 (num s 0 (it R c0 m).2.2 * (l.length : Int)) + (it R c0 m).2.1) * n) + (it R c0 m).1) = code n s W (it R c0 m) := by
      rw [wrap_id (x := num s 0 (it R c0 m).2.2 * (l.length : Int)) (by omega) (by omega), wrap_id (x := num s 0 (it R c0 m).2.2 * (l.length : Int) + (it R c0 m).2.1) (by omega) (by omega), wrap_id (x := (num s 0 (it R c0 m).2.2 * (l.length : Int) + (it R c0 m).2.1) * n) (by omega) (by omega), wrap_id (by omega) (by omega), hl]
      rfl
    by_cases c4 : ∃ i, i < m ∧ it R c0 i = it R c0 m
    · obtain ⟨i, hi, e⟩ := c4
      refine ⟨(3, 0, 0, 0, []), Ev.succ ?_, Or.inr ⟨never hi hin e, rfl⟩⟩
      simp only [standstillref05_Cross.l1]
      refine Ev.ifn c1 (Ev.ifn c2 (Ev.ifn c3 (Ev.bind' hnum ?_)))
      simp only [hcode]
      exact Ev.ifp hc.1 (Ev.ifp hc.2 (Ev.ifp ((hmet.2 _ gm iw).2 ⟨i, hi, e⟩) (Ev.now _)))
    · have hin' : ∀ i, i < m + 1 → In W (it R c0 i) := fun i hi => by
        by_cases e : i = m
        · subst e; exact iw
        · exact hin i (by omega)
      have hne' : ∀ i j, i < j → j < m + 1 → it R c0 i ≠ it R c0 j := fun i j hij hj => by
        by_cases e : j = m
        · subst e; exact fun e => c4 ⟨i, hij, e⟩
        · exact hne i j hij (by omega)
      obtain ⟨r, hr, hsem⟩ := ih (m + 1) _ (by omega) hin' hne' (hmet.next vm.2.2.1 vm.1 gm iw)
      refine ⟨r, Ev.succ ?_, hsem⟩
      obtain ⟨o0, o1, o2, o3, p0, p1, p2, p3, p4⟩ := rule_ok vm gm iw
      simp only [standstillref05_Cross.l1]
      refine Ev.ifn c1 (Ev.ifn c2 (Ev.ifn c3 (Ev.bind' hnum ?_)))
      simp only [hcode]
      refine Ev.ifp hc.1 (Ev.ifp hc.2 (Ev.ifn (fun h => c4 ((hmet.2 _ gm iw).1 h)) ?_))
      refine Ev.ifp o1 (Ev.ifp o0 (Ev.ifp hp1 (Ev.ifp (by omega) (Ev.ifp o2 (Ev.ifp o3 ?_)))))
      rw [wrap_id (x := (m : Int) + 1) (by omega) (by omega)]
      have hw : wrap64 ((it R c0 m).2.1 + (rd_T57 (rd_L2 R (it R c0 m).1) (rd (it R c0 m).2.2 (it R c0 m).2.1)).f1) = (it R c0 m).2.1 + (rule R (it R c0 m)).f1 := wrap_id (by simp only [rule] at p2; omega) (by simp only [rule] at p2; omega)
      rw [hw]
      exact hr
theorem refall_loop {n s : Int} {R : List (List S57)} {st p : Int} {l l' : List Int} (vm : VM n s R) (hl : l.length ≤ 6) (r : Res) (hr : Ev (fun k => standstillref05_Cross.l1 k st p l l' (List.replicate (n * ((l.length : Int) * pw s l.length)).toNat false) 0 n s R) r) : ∀ (d i : Nat), i + d = l.length → Ev (fun k => standstillref05_Cross.l0 k st p l l' (n * ((l.length : Int) * pw s i)) (i : Int) n s R) r := by
  intro d
  have nn : ∀ i, i ≤ l.length → 0 ≤ n * ((l.length : Int) * pw s i) ∧ n * ((l.length : Int) * pw s i) ≤ 6 * (6 * 4096) := fun i hi => by
    have h1 := pw_pos vm.2.2.1 i
    have h2 := pw_le vm.2.2.2.1 vm.2.2.1 (k := i) (by omega)
    have h3 : 0 ≤ (l.length : Int) * pw s i := Int.mul_nonneg (by omega) (by omega)
    have h4 : (l.length : Int) * pw s i ≤ 6 * pw s i := Int.mul_le_mul_of_nonneg_right (by omega) (by omega)
    refine ⟨Int.mul_nonneg (by have := vm.1; omega) h3, ?_⟩
    have h5 := Int.mul_le_mul_of_nonneg_right vm.2.1 h3
    omega
  induction d with
  | zero =>
    intro i hi
    have := nn i (by omega)
    obtain rfl : i = l.length := by omega
    refine Ev.succ ?_
    simp only [standstillref05_Cross.l0]
    exact Ev.ifn (by omega) (Ev.ifp (by omega) (Ev.ifp (by omega) hr))
  | succ d ih =>
    intro i hi
    have nx := ih (i + 1) (by omega)
    have b := nn (i + 1) (by omega)
    have e : n * ((l.length : Int) * pw s i) * s = n * ((l.length : Int) * pw s (i + 1)) := by
      simp only [pw]
      rw [Int.mul_assoc, Int.mul_assoc, Int.mul_comm (pw s i) s]
    refine Ev.succ ?_
    simp only [standstillref05_Cross.l0]
    refine Ev.ifp (by omega) ?_
    rw [e, wrap_id (x := n * ((l.length : Int) * pw s (i + 1))) (by omega) (by omega), wrap_id (x := (i : Int) + 1) (by omega) (by omega)]
    exact nx
theorem refcross_ev {n s : Int} {R : List (List S57)} {st p : Int} {l : List Int} (vm : VM n s R) (hW : l.length ≤ 6) (g : Good n s l.length (st, p, l)) : ∃ r, Ev (fun k => standstillref05_Cross.f k n s R st p l) r ∧ Sem R l.length (st, p, l) r := by
  have nn : 0 ≤ n * ((l.length : Int) * pw s l.length) := Int.mul_nonneg (by have := vm.1; omega) (Int.mul_nonneg (by omega) (by have := pw_pos vm.2.2.1 l.length; omega))
  have hmet : Met n s l.length R (st, p, l) (List.replicate (n * ((l.length : Int) * pw s l.length)).toNat false) 0 := by
    refine ⟨by rw [List.length_replicate]; omega, fun q gq iq => ?_⟩
    constructor
    · intro h
      exfalso
      unfold rdOf at h
      rw [List.getD_eq_getElem?_getD, List.getElem?_replicate] at h
      split at h <;> simp at h
    · rintro ⟨i, hi, _⟩
      omega
  obtain ⟨r, hr, hs⟩ := refcross_loop l rfl vm hW g 147457 0 _ (by omega) (by omega) (by omega) hmet
  refine ⟨r, ?_, hs⟩
  have h0 := refall_loop vm hW r hr l.length 0 (by omega)
  unfold standstillref05_Cross.f
  simp only [Option.bind_some, List.nil_append]
  refine Ev.ifp (by simp only [List.length_nil]; omega) ?_
  have e : wrap64 (n * (l.length : Int)) = n * ((l.length : Int) * pw s 0) := by
    have h1 : 0 ≤ n * (l.length : Int) := Int.mul_nonneg (by have := vm.1; omega) (by omega)
    have h2 := Int.mul_le_mul_of_nonneg_right vm.2.1 (show 0 ≤ (l.length : Int) by omega)
    rw [wrap_id (by omega) (by omega)]
    simp [pw]
  rw [e]
  exact h0
end Go.Proofs.Ytfjfnpegpcdnaaa.Pure
