/- The pure statement of CounterJoined: Join does what a does, and then what b does. No condition. -/
import Derived.Test.YtcdmgeceahmngaaCSem
import Derived.Test.YtcdmgeceahmngaaGCx6
import Derived.Test.YtcdmgeceahmngaaGCx8
import Derived.Test.YtcdmgeceahmngaaGCx9
import Derived.Test.YtcdmgeceahmngaaStmtCounterJoined
namespace Go.Proofs.Ytcdmgeceahmngaa.Pure
open Go.RowKit Go.Proofs.YtcdmgeceahmngaaW.PrintWords Go.Proofs.YtcdmgeceahmngaaW.PrintLast Go.Proofs.YtcdmgeceahmngaaW.PrintMore Go.Proofs.Ytcdmgeceahmngaa.GC
set_option linter.unusedVariables false
set_option linter.unusedSimpArgs false

/-! ### the joined code -/
def jA (n : Int) (x : S35) : S35 := if x.f0 = 2 then ⟨0, 0, n, 0⟩ else x
def jB (n : Int) (x : S35) : S35 := if x.f0 = 2 then x else ⟨x.f0, x.f1, x.f2 + n, if x.f0 = 1 then x.f3 + n else x.f3⟩
def glue (n : Int) : S35 := ⟨1, 0, n + 1, n + 1⟩
def joined (a b : List S35) : List S35 := a.map (jA a.length) ++ [glue a.length] ++ b.map (jB ((a.length : Int) + 1))
theorem rdT_get (l : List S35) (i : Nat) (h : i < l.length) : rd_T35 l (i : Int) = l[i] := by
  simp [rd_T35, List.getD_eq_getElem?_getD, h]
theorem rdT_left (l m : List S35) (i : Int) (h0 : 0 ≤ i) (h : i < (l.length : Int)) : rd_T35 (l ++ m) i = rd_T35 l i := by
  unfold rd_T35
  rw [List.getD_eq_getElem?_getD, List.getD_eq_getElem?_getD, List.getElem?_append_left (by omega)]
theorem rdT_right (l m : List S35) (i : Int) (h0 : 0 ≤ i) : rd_T35 (l ++ m) ((l.length : Int) + i) = rd_T35 m i := by
  unfold rd_T35
  rw [List.getD_eq_getElem?_getD, List.getD_eq_getElem?_getD, List.getElem?_append_right (by omega)]
  congr 2
  omega
theorem rdT_map (f : S35 → S35) (l : List S35) (i : Int) (h0 : 0 ≤ i) (h : i < (l.length : Int)) : rd_T35 (l.map f) i = f (rd_T35 l i) := by
  have : i.toNat < l.length := by omega
  simp [rd_T35, List.getD_eq_getElem?_getD, this]
theorem joined_len (a b : List S35) : ((joined a b).length : Int) = (a.length : Int) + 1 + (b.length : Int) := by
  simp [joined]; omega
theorem joined_a (a b : List S35) (i : Int) (h0 : 0 ≤ i) (h : i < (a.length : Int)) : rd_T35 (joined a b) i = jA a.length (rd_T35 a i) := by
  unfold joined
  rw [List.append_assoc, rdT_left _ _ i h0 (by simpa using h), rdT_map _ _ _ h0 h]
theorem joined_g (a b : List S35) : rd_T35 (joined a b) a.length = glue a.length := by
  have := rdT_right (a.map (jA a.length)) ([glue a.length] ++ b.map (jB ((a.length : Int) + 1))) 0 (by omega)
  simp only [List.length_map, Int.add_zero] at this
  unfold joined
  rw [List.append_assoc, this]
  rfl
theorem joined_b (a b : List S35) (i : Int) (h0 : 0 ≤ i) (h : i < (b.length : Int)) : rd_T35 (joined a b) ((a.length : Int) + 1 + i) = jB ((a.length : Int) + 1) (rd_T35 b i) := by
  have := rdT_right (a.map (jA a.length) ++ [glue a.length]) (b.map (jB ((a.length : Int) + 1))) i h0
  simp only [List.length_append, List.length_map, List.length_cons, List.length_nil] at this
  unfold joined
  rw [← rdT_map (jB ((a.length : Int) + 1)) b i h0 h, ← this]
  congr 1
theorem mx_eq (x y : Int) : mx x y = if x ≤ y then y else x := by
  unfold mx
  (repeat' split) <;> omega
theorem joined_valid {ra rb : Int} {a b : List S35} (va : VC ra a) (vb : VC rb b) (la : (a.length : Int) ≤ 900) (lb : (b.length : Int) ≤ 900) : VC (mx ra rb) (joined a b) := by
  obtain ⟨a1, a2, a3, a4, a5⟩ := va
  obtain ⟨b1, b2, b3, b4, b5⟩ := vb
  have hl := joined_len a b
  have hm : ra ≤ mx ra rb ∧ rb ≤ mx ra rb ∧ mx ra rb ≤ 16 := by rw [mx_eq]; split <;> omega
  refine ⟨by omega, by omega, by omega, by omega, fun j h0 h1 => ?_⟩
  by_cases hj : j < (a.length : Int)
  · rw [joined_a a b j h0 hj]
    have ok := a5 j h0 hj
    generalize rd_T35 a j = x at ok
    unfold jA
    by_cases h2 : x.f0 = 2
    · rw [if_pos h2]
      exact Or.inl ⟨rfl, Int.le_refl 0, by show (0 : Int) < mx ra rb; omega, by show 0 ≤ (a.length : Int); omega, by show (a.length : Int) < _; omega, rfl⟩
    · rw [if_neg h2]
      simp only [OkI] at ok ⊢
      omega
  · by_cases hj2 : j = (a.length : Int)
    · subst hj2
      rw [joined_g]
      exact Or.inr (Or.inl ⟨rfl, Int.le_refl 0, by show (0 : Int) < mx ra rb; omega, by show 0 ≤ (a.length : Int) + 1; omega, by show (a.length : Int) + 1 < _; omega, by show 0 ≤ (a.length : Int) + 1; omega, by show (a.length : Int) + 1 < _; omega⟩)
    · obtain ⟨i, rfl⟩ : ∃ i, j = (a.length : Int) + 1 + i := ⟨j - (a.length : Int) - 1, by omega⟩
      rw [joined_b a b i (by omega) (by omega)]
      have ok := b5 i (by omega) (by omega)
      generalize rd_T35 b i = x at ok
      unfold jB
      simp only [OkI] at ok
      by_cases h2 : x.f0 = 2
      · rw [if_pos h2]
        simp only [OkI]
        omega
      · rw [if_neg h2]
        by_cases h1 : x.f0 = 1
        · rw [if_pos h1]
          exact Or.inr (Or.inl ⟨h1, by show 0 ≤ x.f1; omega, by show x.f1 < _; omega, by show 0 ≤ x.f2 + _; omega, by show x.f2 + _ < _; omega, by show 0 ≤ x.f3 + _; omega, by show x.f3 + _ < _; omega⟩)
        · rw [if_neg h1]
          exact Or.inl ⟨by show x.f0 = 0; omega, by show 0 ≤ x.f1; omega, by show x.f1 < _; omega, by show 0 ≤ x.f2 + _; omega, by show x.f2 + _ < _; omega, by show x.f3 = 0; omega⟩
/-! ### counter.Join -/
theorem join_b {rb : Int} {b : List S35} (vb : VC rb b) (n regs : Int) (pre : List S35) (h0 : 0 ≤ n) (hn : n ≤ 2000) (hp : pre.length + b.length ≤ 2000) : ∀ (d i : Nat), i + d = b.length → Ev (fun k => counter_Join.l1 k n b (b.length : Int) (i : Int) regs (pre ++ (b.take i).map (jB n))) (regs, pre ++ b.map (jB n), 0) := by
  intro d
  induction d with
  | zero =>
    intro i hi
    refine Ev.succ ?_
    simp only [counter_Join.l1]
    refine Ev.ifn (by omega) ?_
    rw [List.take_of_length_le (by omega)]
    refine Ev.ifn (by simp; omega) (Ev.now _)
  | succ d ih =>
    intro i hi
    have nx := ih (i + 1) (by omega)
    refine Ev.succ ?_
    simp only [counter_Join.l1]
    refine Ev.ifp (by omega) (Ev.ifp (by omega) (Ev.ifp (by omega) ?_))
    have ok := vb.2.2.2.2 (i : Int) (by omega) (by omega)
    have hib : i < b.length := by omega
    rw [List.take_succ_eq_append_getElem hib, List.map_append, ← rdT_get b i hib, ← List.append_assoc, List.map_cons, List.map_nil] at nx
    have e : ((i + 1 : Nat) : Int) = (i : Int) + 1 := by omega
    rw [e] at nx
    have hlen : (pre ++ (b.take i).map (jB n)).length < 4398046511104 := by simp; omega
    have hbl := vb.2.2.2.1
    generalize rd_T35 b (i : Int) = x at ok nx ⊢
    simp only [OkI] at ok
    simp only [wrap_id (x := (i : Int) + 1) (by omega) (by omega), wrap_id (x := x.f2 + n) (by omega) (by omega), wrap_id (x := x.f3 + n) (by omega) (by omega)]
    unfold jB at nx
    refine Ev.ite (fun h2 => ?_) (fun h2 => ?_)
    · simp only [if_pos h2] at nx
      exact Ev.ifn (by omega) (Ev.ifp hlen nx)
    · simp only [if_neg h2] at nx
      refine Ev.ite (fun h1 => Ev.ifp hlen ?_) (fun h1 => Ev.ifp hlen ?_)
      · simp only [if_pos h1] at nx
        exact nx
      · simp only [if_neg h1] at nx
        exact nx
theorem join_a (a b : List S35) (rb regs : Int) (R : Int × List S35 × Int) (hl : a.length ≤ 2000) (h : Ev (fun k => counter_Join.j2 k ((a.length : Int) + 1) rb b regs (a.map (jA a.length) ++ [glue a.length])) R) : ∀ (d i : Nat) (s : Bool), i + d = a.length → (s = true ∨ ∃ j : Int, (i : Int) ≤ j ∧ j < (a.length : Int) ∧ (rd_T35 a j).f0 = 2) → Ev (fun k => counter_Join.l0 k (a.length : Int) s a (a.length : Int) (i : Int) rb b regs ((a.take i).map (jA a.length))) R := by
  intro d
  induction d with
  | zero =>
    intro i s hi hs
    have hs' : s = true := hs.resolve_right (fun ⟨j, h1, h2, _⟩ => by omega)
    subst hs'
    refine Ev.succ ?_
    simp only [counter_Join.l0, ↓reduceIte]
    refine Ev.ifn (by omega) ?_
    rw [List.take_of_length_le (by omega), wrap_id (by omega) (by omega)]
    exact Ev.ifp (by simp; omega) h
  | succ d ih =>
    intro i s hi hs
    have hib : i < a.length := by omega
    refine Ev.succ ?_
    simp only [counter_Join.l0]
    refine Ev.ifp (by omega) (Ev.ifp (by omega) (Ev.ifp (by omega) ?_))
    have nx := fun s' => ih (i + 1) s' (by omega)
    rw [List.take_succ_eq_append_getElem hib, List.map_append, ← rdT_get a i hib, List.map_cons, List.map_nil] at nx
    have e : ((i + 1 : Nat) : Int) = (i : Int) + 1 := by omega
    rw [e] at nx
    have hlen : ((a.take i).map (jA a.length)).length < 4398046511104 := by simp; omega
    simp only [wrap_id (x := (i : Int) + 1) (by omega) (by omega)]
    refine Ev.ite (fun h2 => Ev.ifp hlen ?_) (fun h2 => Ev.ifp hlen ?_)
    · have := nx true (Or.inl rfl)
      simp only [jA, if_pos h2] at this ⊢
      exact this
    · have := nx s (hs.imp id (fun ⟨j, h3, h4, h5⟩ => ⟨j, by (have : j ≠ (i : Int) := fun e => h2 (e ▸ h5)); omega, h4, h5⟩))
      rw [show jA a.length (rd_T35 a (i : Int)) = rd_T35 a (i : Int) by unfold jA; rw [if_neg h2]] at this
      exact this
theorem Join_ok {ra rb : Int} {a b : List S35} (va : VC ra a) (vb : VC rb b) (la : (a.length : Int) ≤ 900) (lb : (b.length : Int) ≤ 900) (j : Int) (j0 : 0 ≤ j) (j1 : j < (a.length : Int)) (j2 : (rd_T35 a j).f0 = 2) : Ev (fun k => counter_Join.f k ra a rb b) (mx ra rb, joined a b, 0) := by
  unfold counter_Join.f
  refine Ev.bind' ((prog_valid ra a).pos va) ?_
  simp only [↓reduceIte]
  refine Ev.bind' ((prog_valid rb b).pos vb) ?_
  simp only [Bool.not_true]
  refine Ev.succ ?_
  simp only [counter_Join.j0, Bool.false_eq_true, ↓reduceIte]
  have hB := join_b vb ((a.length : Int) + 1) (mx ra rb) (a.map (jA a.length) ++ [glue a.length]) (by omega) (by omega) (by simp; omega) b.length 0 (by omega)
  simp only [List.take_zero, List.map_nil, List.append_nil, Int.ofNat_zero] at hB
  have hA := join_a a b rb (mx ra rb) (mx ra rb, joined a b, 0) (by omega) (by
    refine Ev.succ ?_
    simp only [counter_Join.j2]
    exact hB) a.length 0 false (by omega) (Or.inr ⟨j, by omega, j1, j2⟩)
  simpa using hA

/-! ### what the joined machine does -/
def shI (n : Int) (x : S35) : S35 := ⟨x.f0, x.f1, x.f2 + n, if x.f0 = 1 then x.f3 + n else x.f3⟩
theorem rd_left (l t : List Int) (i : Int) (h0 : 0 ≤ i) (h : i < (l.length : Int)) : rd (l ++ t) i = rd l i := by
  unfold rd
  rw [List.getD_eq_getElem?_getD, List.getD_eq_getElem?_getD, List.getElem?_append_left (by omega)]
theorem set_left (l t : List Int) (i v : Int) (h0 : 0 ≤ i) (h : i < (l.length : Int)) : (l ++ t).set i.toNat v = l.set i.toNat v ++ t := List.set_append_left _ _ (by omega)
theorem stp_mk {code : List S35} {p : Int} {rs : List Int} {a b c d : Int} (h : rd_T35 code p = ⟨a, b, c, d⟩) : stp code (p, rs) = if a = 0 then (if rd rs b = 1152921504606846976 then none else some (c, rs.set b.toNat (rd rs b + 1))) else if rd rs b = 0 then some (d, rs) else some (c, rs.set b.toNat (rd rs b - 1)) := by
  unfold stp
  simp only [h]
theorem sim_step {regs : Int} {code P : List S35} (v : VC regs code) (n : Int) (hP : ∀ i, 0 ≤ i → i < (code.length : Int) → (rd_T35 code i).f0 ≠ 2 → rd_T35 P (n + i) = shI n (rd_T35 code i)) {c c' : St} (t : List Int) (g : Good regs code.length c) (hh : ¬ hal code c) (h : stp code c = some c') :
    ¬ hal P (n + c.1, c.2 ++ t) ∧ stp P (n + c.1, c.2 ++ t) = some (n + c'.1, c'.2 ++ t) := by
  have hx := hP c.1 g.a0 g.a1 hh
  have ok := v.2.2.2.2 c.1 g.a0 g.a1
  have hl := g.l
  have hm := stp_mk (rs := c.2 ++ t) (show rd_T35 P (n + c.1) = ⟨_, _, _, _⟩ from hx)
  unfold hal at hh ⊢
  refine ⟨by simp only; rw [hx]; exact hh, ?_⟩
  rw [hm]
  clear hm hx
  unfold stp at h
  generalize rd_T35 code c.1 = x at ok hh h ⊢
  simp only [OkI] at ok
  rw [rd_left c.2 t x.f1 (by omega) (by omega)]
  by_cases h0 : x.f0 = 0
  · rw [if_pos h0] at h ⊢
    split at h
    · cases h
    · rename_i h1
      cases h
      rw [if_neg h1, set_left _ _ _ _ (by omega) (by omega), Int.add_comm x.f2 n]
  · have h1 : x.f0 = 1 := by omega
    rw [if_neg h0] at h ⊢
    rw [if_pos h1]
    split at h
    · rename_i h2
      cases h
      rw [if_pos h2, Int.add_comm x.f3 n]
    · rename_i h2
      cases h
      rw [if_neg h2, set_left _ _ _ _ (by omega) (by omega), Int.add_comm x.f2 n]
theorem sim_steps {regs : Int} {code P : List S35} (v : VC regs code) (n : Int) (hP : ∀ i, 0 ≤ i → i < (code.length : Int) → (rd_T35 code i).f0 ≠ 2 → rd_T35 P (n + i) = shI n (rd_T35 code i)) (t : List Int) : ∀ (m : Nat) {c c' : St}, Good regs code.length c → steps code m c = some c' → steps P m (n + c.1, c.2 ++ t) = some (n + c'.1, c'.2 ++ t)
  | 0, c, c', g, h => by simp only [steps, Option.some.injEq] at h; subst h; rfl
  | m + 1, c, c', g, h => by
    simp only [steps] at h ⊢
    split at h
    · cases h
    · rename_i hh
      cases e : stp code c with
      | none => rw [e] at h; cases h
      | some c1 =>
        rw [e] at h
        obtain ⟨q1, q2⟩ := sim_step v n hP t g hh e
        rw [if_neg q1, q2]
        exact sim_steps v n hP t m (stp_good v g hh e) h
theorem set_back (y : List Int) (i : Nat) (u : Int) (h : i < y.length) : (y.set i u).set i (rd y (i : Int)) = y := by
  rw [List.set_set]
  refine List.ext_getElem (by simp) (fun j h1 h2 => ?_)
  rw [List.getElem_set]
  split
  · rename_i e
    subst e
    simp [rd, List.getD_eq_getElem?_getD, h]
  · rfl
theorem glue_steps {a b : List S35} {c : St} (c0 : 0 ≤ c.1) (c1 : c.1 < (a.length : Int)) (hh : (rd_T35 a c.1).f0 = 2) (hy : 0 < c.2.length) (h0 : 0 ≤ rd c.2 0) (h1 : rd c.2 0 < 1152921504606846976) :
    steps (joined a b) 2 c = some ((a.length : Int) + 1, c.2) := by
  have e1 := joined_a a b c.1 c0 c1
  have e2 := joined_g a b
  have n1 : ¬ hal (joined a b) c := by unfold hal; rw [e1]; unfold jA; rw [if_pos hh]; exact (by decide : ¬ (0 : Int) = 2)
  have s1 : stp (joined a b) c = some ((a.length : Int), c.2.set 0 (rd c.2 0 + 1)) := by
    unfold stp
    rw [e1]
    unfold jA
    rw [if_pos hh]
    simp only [if_true]
    rw [if_neg (by omega)]
    rfl
  have r1 : rd (c.2.set 0 (rd c.2 0 + 1)) 0 = rd c.2 0 + 1 := by
    have := rd_set c.2 0 0 (rd c.2 0 + 1) (by omega) (by omega) (by omega)
    simpa using this
  have n2 : ¬ hal (joined a b) ((a.length : Int), c.2.set 0 (rd c.2 0 + 1)) := by unfold hal; simp only; rw [e2]; simp [glue]
  have s2 : stp (joined a b) ((a.length : Int), c.2.set 0 (rd c.2 0 + 1)) = some ((a.length : Int) + 1, c.2) := by
    rw [stp_mk (show rd_T35 (joined a b) a.length = ⟨_, _, _, _⟩ from e2)]
    rw [if_neg (by decide), r1, if_neg (by omega)]
    have := set_back c.2 0 (rd c.2 0 + 1) hy
    simp only [Int.ofNat_zero] at this
    rw [show rd c.2 0 + 1 - 1 = rd c.2 0 by omega]
    simpa using this
  simp only [steps, if_neg n1, s1, Option.bind_some, if_neg n2, s2]
theorem small_left {l t : List Int} (h : Small (l ++ t)) : Small l := fun j j0 j1 => by
  have := h j j0 (by simp; omega)
  rwa [rd_left l t j j0 j1] at this
theorem rd_right (l t : List Int) (i : Int) (h0 : 0 ≤ i) : rd (l ++ t) ((l.length : Int) + i) = rd t i := by
  unfold rd
  rw [List.getD_eq_getElem?_getD, List.getD_eq_getElem?_getD, List.getElem?_append_right (by omega)]
  congr 2
  omega
theorem small_right {l t : List Int} (h : Small (l ++ t)) : Small t := fun j j0 j1 => by
  have := h ((l.length : Int) + j) (by omega) (by simp; omega)
  rwa [rd_right l t j j0] at this
theorem small_app {l t : List Int} (h : Small l) (k : Small t) : Small (l ++ t) := fun j j0 j1 => by
  by_cases hj : j < (l.length : Int)
  · rw [rd_left l t j j0 hj]; exact h j j0 hj
  · obtain ⟨i, rfl⟩ : ∃ i, j = (l.length : Int) + i := ⟨j - l.length, by omega⟩
    rw [rd_right l t i (by omega)]
    exact k i (by omega) (by simp at j1; omega)

/-- What the law asks, where both stop. -/
theorem joins {ra rb : Int} {a b : List S35} (va : VC ra a) (vb : VC rb b) (la : (a.length : Int) ≤ 900) (lb : (b.length : Int) ≤ 900) (all : List Int) (hall : (all.length : Int) = mx ra rb)
    (fa : FC ra a 0 (all.take ra.toNat)) (x : St) (s1 : Nat) (h1 : run a 3000 (0, all.take ra.toNat) = some (x, s1)) (hx : (rd_T35 a x.1).f0 = 2) (hr : rd x.2 0 < 1152921504606846976)
    (fb : FC rb b 0 ((x.2 ++ all.drop ra.toNat).take rb.toNat)) (y : St) (s2 : Nat) (h2 : run b 3000 (0, (x.2 ++ all.drop ra.toNat).take rb.toNat) = some (y, s2)) (hy : (rd_T35 b y.1).f0 = 2) :
    run (joined a b) 10000 (0, all) = some (((a.length : Int) + 1 + y.1, y.2 ++ (x.2 ++ all.drop ra.toNat).drop rb.toNat), s1 + s2 + 2) ∧ FC (mx ra rb) (joined a b) 0 all ∧ Good ra a.length x ∧ Good rb b.length y ∧ s1 ≤ 3000 ∧ s2 ≤ 3000 ∧ hal (joined a b) ((a.length : Int) + 1 + y.1, y.2 ++ (x.2 ++ all.drop ra.toNat).drop rb.toNat) := by
  have hm : ra ≤ mx ra rb ∧ rb ≤ mx ra rb ∧ (mx ra rb = ra ∨ mx ra rb = rb) := by rw [mx_eq]; split <;> omega
  have va1 := va.1
  have vb1 := vb.1
  obtain ⟨t1, l1, -⟩ := run_steps 3000 h1
  obtain ⟨t2, l2, -⟩ := run_steps 3000 h2
  have g0 : Good ra a.length (0, all.take ra.toNat) := ⟨fa.2.1, fa.2.2.1, fa.2.2.2.1, fa.2.2.2.2⟩
  have gx := steps_good va s1 g0 t1
  have k0 : Good rb b.length (0, (x.2 ++ all.drop ra.toNat).take rb.toNat) := ⟨fb.2.1, fb.2.2.1, fb.2.2.2.1, fb.2.2.2.2⟩
  have gy := steps_good vb s2 k0 t2
  have hxl := gx.l
  -- a
  have p1 := sim_steps (P := joined a b) va 0 (fun i i0 i1 i2 => by
    rw [Int.zero_add, joined_a a b i i0 i1]
    simp only [jA, if_neg i2, shI, Int.add_zero]
    split <;> rfl) (all.drop ra.toNat) s1 g0 t1
  simp only [Int.zero_add, List.take_append_drop] at p1
  -- the glue
  have h0 := gx.s 0 (by omega) (by omega)
  have e0 : rd (x.2 ++ all.drop ra.toNat) 0 = rd x.2 0 := rd_left _ _ 0 (by omega) (by omega)
  have p2 := glue_steps (a := a) (b := b) (c := (x.1, x.2 ++ all.drop ra.toNat)) gx.a0 gx.a1 hx (by simp; omega) (by simp only [e0]; omega) (by simp only [e0]; omega)
  simp only at p2
  -- b
  have p3 := sim_steps (P := joined a b) vb ((a.length : Int) + 1) (fun i i0 i1 i2 => by
    rw [joined_b a b i i0 i1]
    simp only [jB, if_neg i2, shI]) ((x.2 ++ all.drop ra.toNat).drop rb.toNat) s2 k0 t2
  simp only [Int.add_zero, List.take_append_drop] at p3
  have p := steps_add _ _ (steps_add _ _ p1 p2) p3
  have hh : hal (joined a b) ((a.length : Int) + 1 + y.1, y.2 ++ (x.2 ++ all.drop ra.toNat).drop rb.toNat) := by
    unfold hal
    simp only
    rw [joined_b a b y.1 gy.a0 gy.a1]
    simp only [jB, if_pos hy]
    exact hy
  refine ⟨?_, ⟨joined_valid va vb la lb, by omega, by rw [joined_len]; omega, hall, ?_⟩, gx, gy, l1, l2, hh⟩
  · rw [show s1 + s2 + 2 = s1 + 2 + s2 by omega]
    exact steps_run _ _ p (by omega) (Or.inl hh)
  · -- the contents
    have sa := fa.2.2.2.2
    rw [← List.take_append_drop ra.toNat all]
    refine small_app sa ?_
    rcases hm.2.2 with h | h
    · rw [List.drop_of_length_le (by omega)]
      exact fun j j0 j1 => by simp at j1; omega
    · have sb := fb.2.2.2.2
      rw [List.take_of_length_le (by simp; omega)] at sb
      exact small_right sb

theorem fill_all (k0 : Nat) (l2 : List Int) (m : Int) (ra rb : Int) (a b : List S35) (hm : m ≤ 16) (R : Bool) (h : ∀ all : List Int, (all.length : Int) = m → Ev (fun k => standstilllaw06_CounterJoined.j2 k all ra a rb b) R) : ∀ (d : Nat) (i : Int) (all : List Int), 0 ≤ i → m - i = d → (all.length : Int) = m → Ev (fun k => standstilllaw06_CounterJoined.l0 k l2 m all i ra a rb b) R := by
  intro d
  induction d with
  | zero =>
    intro i all h0 hd hl
    refine Ev.succ ?_
    simp only [standstilllaw06_CounterJoined.l0]
    exact Ev.ifn (by omega) (h all hl)
  | succ d ih =>
    intro i all h0 hd hl
    refine Ev.succ ?_
    simp only [standstilllaw06_CounterJoined.l0]
    refine Ev.ifp (by omega) (Ev.ite (fun h2 => Ev.ifp h0 (Ev.ifp (by omega) ?_)) (fun h2 => h all hl))
    rw [wrap_id (x := i + 1) (by omega) (by omega)]
    exact ih (i + 1) _ (by omega) (by omega) (by simpa using hl)

theorem CounterJoined : CounterJoinedStmt := by
  intro ra a rb b l2 hra ha hrb hb hl2
  refine Ev.rounds (g := fun k => standstilllaw06_CounterJoined.f k ra a rb b l2) ?_
  have yes : Ev (fun k => (standstilllaw06_awake.f k).bind fun t => some t) true := Ev.bind' awake_ev (Ev.now _)
  have skip : Ev (fun k => standstilllaw06_CounterJoined.j0 k l2 true ra a rb b) true := by
    refine Ev.succ ?_
    simp only [standstilllaw06_CounterJoined.j0, ↓reduceIte]
    exact yes
  unfold standstilllaw06_CounterJoined.f
  refine Ev.ite (fun _ => skip) (fun la => Ev.ite (fun _ => skip) (fun lb => Ev.ite (fun _ => skip) (fun ll => ?_)))
  by_cases va : VC ra a
  · refine Ev.bind' ((ref_valid ra a).pos va) ?_
    simp only [↓reduceIte]
    by_cases vb : VC rb b
    · refine Ev.bind' ((ref_valid rb b).pos vb) ?_
      simp only [Bool.not_true]
      have hm : ra ≤ mx ra rb ∧ rb ≤ mx ra rb ∧ mx ra rb ≤ 16 ∧ 1 ≤ mx ra rb := by have := va.2.1; have := vb.2.1; have := va.1; rw [mx_eq]; split <;> omega
      have va1 := va.1
      have vb1 := vb.1
      refine Ev.succ ?_
      simp only [standstilllaw06_CounterJoined.j0, Bool.false_eq_true, ↓reduceIte]
      refine Ev.ifp (by omega) (Ev.ifp (by omega) ?_)
      refine fill_all 0 l2 (mx ra rb) ra rb a b hm.2.2.1 true (fun all hall => ?_) (mx ra rb).toNat 0 _ (by omega) (by omega) (by simp; omega)
      refine Ev.succ ?_
      simp only [standstilllaw06_CounterJoined.j2]
      refine Ev.ifp (by omega) (Ev.ifp (by omega) ?_)
      have s4 : ∀ (x8 : List Int) (x11 : Int) (c : St), Ev (fun k => standstilllaw06_CounterJoined.j4 k x8 x11 true ra a rb b c.1 c.2) true := fun x8 x11 c => by
        refine Ev.succ ?_
        simp only [standstilllaw06_CounterJoined.j4, ↓reduceIte]
        exact yes
      have s3 : ∀ (x8 : List Int) (x11 e : Int) (c : St), e ≠ 0 → Ev (fun k => standstilllaw06_CounterJoined.j3 k x8 x11 e false ra a rb b c.1 c.2) true := fun x8 x11 e c he => by
        refine Ev.succ ?_
        simp only [standstilllaw06_CounterJoined.j3, Bool.false_eq_true, ↓reduceIte]
        exact Ev.ifn he (s4 _ _ c)
      by_cases fa : FC ra a 0 (all.take ra.toNat)
      · have hrun := Run_ok fa 3000 (by omega) (by omega)
        refine Ev.bind' hrun ?_
        rw [show (3000 : Int).toNat = 3000 from rfl]
        cases h1 : run a 3000 (0, all.take ra.toNat) with
        | none =>
          simp only [Res]
          exact Ev.ifn (by decide) (s3 _ _ _ (0, []) (by decide))
        | some r =>
          obtain ⟨x, s1⟩ := r
          simp only [Res, ↓reduceIte]
          obtain ⟨t1, l1, -⟩ := run_steps 3000 h1
          have gx := steps_good va s1 (c := (0, all.take ra.toNat)) ⟨fa.2.1, fa.2.2.1, fa.2.2.2.1, fa.2.2.2.2⟩ t1
          have fx : FC ra a x.1 x.2 := ⟨va, gx.a0, gx.a1, gx.l, gx.s⟩
          refine Ev.bind' ((ref_fits ra a x.1 x.2).pos fx) ?_
          simp only [Bool.not_true]
          refine Ev.succ ?_
          simp only [standstilllaw06_CounterJoined.j3, Bool.false_eq_true, ↓reduceIte]
          have hxl := gx.l
          refine Ev.ifp gx.a0 (Ev.ifp gx.a1 (Ev.ite (fun hx => Ev.ifp (by omega) ?_) (fun _ => s4 _ _ x)))
          by_cases hr : rd x.2 0 ≥ 1152921504606846976
          · rw [decide_eq_true hr]
            exact s4 _ _ x
          · rw [decide_eq_false hr]
            refine Ev.succ ?_
            simp only [standstilllaw06_CounterJoined.j4, Bool.false_eq_true, ↓reduceIte, Option.bind_some, List.nil_append, List.length_nil]
            refine Ev.ifp (by omega) (Ev.ifp (by omega) (Ev.ifp (by omega) ?_))
            have hal' : ((x.2 ++ all.drop ra.toNat).length : Int) = mx ra rb := by simp; omega
            refine Ev.ifp (by simp; omega) (Ev.ifp (by omega) (Ev.ifp (by omega) ?_))
            have s6 : ∀ (x15 : Int) (c : St), Ev (fun k => standstilllaw06_CounterJoined.j6 k all (s1 : Int) (x.2 ++ all.drop ra.toNat) x15 true ra a rb b c.1 c.2) true := fun x15 c => by
              refine Ev.succ ?_
              simp only [standstilllaw06_CounterJoined.j6, ↓reduceIte]
              exact yes
            have s5 : ∀ (x15 e : Int) (c : St), e ≠ 0 → Ev (fun k => standstilllaw06_CounterJoined.j5 k all (s1 : Int) (x.2 ++ all.drop ra.toNat) x15 e false ra a rb b c.1 c.2) true := fun x15 e c he => by
              refine Ev.succ ?_
              simp only [standstilllaw06_CounterJoined.j5, Bool.false_eq_true, ↓reduceIte]
              exact Ev.ifn he (s6 _ c)
            by_cases fb : FC rb b 0 ((x.2 ++ all.drop ra.toNat).take rb.toNat)
            · have hrun2 := Run_ok fb 3000 (by omega) (by omega)
              refine Ev.bind' hrun2 ?_
              rw [show (3000 : Int).toNat = 3000 from rfl]
              cases h2 : run b 3000 (0, (x.2 ++ all.drop ra.toNat).take rb.toNat) with
              | none =>
                simp only [Res]
                exact Ev.ifn (by decide) (s5 _ _ (0, []) (by decide))
              | some r =>
                obtain ⟨y, s2⟩ := r
                simp only [Res, ↓reduceIte]
                obtain ⟨t2, l2', -⟩ := run_steps 3000 h2
                have gy := steps_good vb s2 (c := (0, (x.2 ++ all.drop ra.toNat).take rb.toNat)) ⟨fb.2.1, fb.2.2.1, fb.2.2.2.1, fb.2.2.2.2⟩ t2
                have fy : FC rb b y.1 y.2 := ⟨vb, gy.a0, gy.a1, gy.l, gy.s⟩
                refine Ev.bind' ((ref_fits rb b y.1 y.2).pos fy) ?_
                simp only [Bool.not_true]
                refine Ev.succ ?_
                simp only [standstilllaw06_CounterJoined.j5, Bool.false_eq_true, ↓reduceIte]
                refine Ev.ifp gy.a0 (Ev.ifp gy.a1 ?_)
                by_cases hy : (rd_T35 b y.1).f0 = 2
                · rw [show ((rd_T35 b y.1).f0 != 2) = false by simp [hy]]
                  obtain ⟨j1, j2, -, -, -, -, j7⟩ := joins va vb (by omega) (by omega) all hall fa x s1 h1 hx (by omega) fb y s2 h2 hy
                  have hyl := gy.l
                  refine Ev.succ ?_
                  simp only [standstilllaw06_CounterJoined.j6, Bool.false_eq_true, ↓reduceIte]
                  refine Ev.bind' (Join_ok va vb (by omega) (by omega) x.1 gx.a0 gx.a1 hx) ?_
                  simp only
                  have hrun3 := Run_ok j2 10000 (by omega) (by omega)
                  rw [show (10000 : Int).toNat = 10000 from rfl, j1] at hrun3
                  refine Ev.bind' hrun3 ?_
                  simp only [Res, Option.bind_some, List.nil_append, List.length_nil, ↓reduceIte]
                  refine Ev.ifp (by omega) (Ev.ifp (by omega) (Ev.ifp (by omega) ?_))
                  refine Ev.ifp (by simp; omega) ?_
                  have ew : (((s1 + s2 + 2 : Nat)) : Int) = wrap64 (wrap64 ((s1 : Int) + (s2 : Int)) + 2) := by
                    rw [wrap_id (x := (s1 : Int) + (s2 : Int)) (by omega) (by omega), wrap_id (by omega) (by omega)]
                    omega
                  have jl := joined_len a b
                  have y0 := gy.a0
                  have y1 := gy.a1
                  refine Ev.ifp ew (Ev.ifp (by omega) (Ev.ifp (by omega) (Ev.ifp (by omega) (Ev.ifp j7 ?_))))
                  refine Ev.bind' ((same_count 0 0 _ _ (by simp; omega)).pos ⟨rfl, rfl⟩) ?_
                  simp only [↓reduceIte]
                  exact yes
                · rw [show ((rd_T35 b y.1).f0 != 2) = true by simp [hy]]
                  exact s6 _ y
            · refine Ev.bind' (Run_form fb 3000) ?_
              simp only
              exact Ev.ifn (by decide) (s5 _ _ (0, []) (by decide))
      · refine Ev.bind' (Run_form fa 3000) ?_
        simp only
        exact Ev.ifn (by decide) (s3 _ _ _ (0, []) (by decide))
    · refine Ev.bind' ((ref_valid rb b).neg vb) ?_
      simp only [Bool.not_false]
      exact skip
  · refine Ev.bind' ((ref_valid ra a).neg va) ?_
    simp only [Bool.false_eq_true, ↓reduceIte]
    exact skip
end Go.Proofs.Ytcdmgeceahmngaa.Pure
