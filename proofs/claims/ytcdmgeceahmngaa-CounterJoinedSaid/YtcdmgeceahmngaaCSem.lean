/- What running a register machine does. -/
import Derived.Test.YtcdmgeceahmngaaCBase
import Derived.Test.YtcdmgeceahmngaaGCx5
import Derived.Test.YtcdmgeceahmngaaGCx6
namespace Go.Proofs.Ytcdmgeceahmngaa.Pure
open Go.RowKit Go.Proofs.YtcdmgeceahmngaaW.PrintWords Go.Proofs.YtcdmgeceahmngaaW.PrintLast Go.Proofs.YtcdmgeceahmngaaW.PrintMore Go.Proofs.Ytcdmgeceahmngaa.GC
set_option linter.unusedVariables false
set_option linter.unusedSimpArgs false

abbrev St := Int × List Int
def big : Int := 1152921504606846976
/-- One step, where the machine has not stopped; none: a register would be too great. -/
def stp (code : List S35) (c : St) : Option St :=
  if (rd_T35 code c.1).f0 = 0 then
    (if rd c.2 (rd_T35 code c.1).f1 = 1152921504606846976 then none else some ((rd_T35 code c.1).f2, c.2.set (rd_T35 code c.1).f1.toNat (rd c.2 (rd_T35 code c.1).f1 + 1)))
  else if rd c.2 (rd_T35 code c.1).f1 = 0 then some ((rd_T35 code c.1).f3, c.2)
  else some ((rd_T35 code c.1).f2, c.2.set (rd_T35 code c.1).f1.toNat (rd c.2 (rd_T35 code c.1).f1 - 1))
def hal (code : List S35) (c : St) : Prop := (rd_T35 code c.1).f0 = 2
instance (code : List S35) (c : St) : Decidable (hal code c) := by unfold hal; exact inferInstance
/-- n steps, or fewer: the state and the steps. -/
def run (code : List S35) : Nat → St → Option (St × Nat)
  | 0, c => some (c, 0)
  | n + 1, c => if hal code c then some (c, 0) else (stp code c).bind fun c' => (run code n c').map fun r => (r.1, r.2 + 1)
/-- n steps, none of them of a machine that has stopped. -/
def steps (code : List S35) : Nat → St → Option St
  | 0, c => some c
  | n + 1, c => if hal code c then none else (stp code c).bind fun c' => steps code n c'
structure Good (regs len : Int) (c : St) : Prop where
  a0 : 0 ≤ c.1
  a1 : c.1 < len
  l : (c.2.length : Int) = regs
  s : Small c.2

theorem rd_set (rs : List Int) (i j v : Int) (hi : 0 ≤ i) (hj : 0 ≤ j) (hl : i < (rs.length : Int)) : rd (rs.set i.toNat v) j = if j = i then v else rd rs j := by
  unfold rd
  rw [List.getD_eq_getElem?_getD, List.getD_eq_getElem?_getD, List.getElem?_set]
  by_cases h : j = i
  · subst h
    have : j.toNat < rs.length := by omega
    simp [this]
  · have : ¬ i.toNat = j.toNat := by omega
    simp [this, h]
theorem Small.set {rs : List Int} (h : Small rs) {i v : Int} (hi : 0 ≤ i) (hl : i < (rs.length : Int)) (h0 : 0 ≤ v) (h1 : v ≤ 1152921504606846976) : Small (rs.set i.toNat v) := by
  intro j j0 j1
  rw [rd_set rs i j v hi j0 hl]
  rw [List.length_set] at j1
  split
  · exact ⟨h0, h1⟩
  · exact h j j0 j1
theorem stp_good {regs : Int} {code : List S35} {c c' : St} (v : VC regs code) (g : Good regs code.length c) (hh : ¬ hal code c) (h : stp code c = some c') : Good regs code.length c' := by
  obtain ⟨a0, a1, l, s⟩ := g
  have ok := v.2.2.2.2 c.1 a0 a1
  unfold hal at hh
  unfold stp at h
  generalize rd_T35 code c.1 = x at ok hh h
  simp only [OkI] at ok
  have hs := s x.f1 (by omega) (by omega)
  by_cases h0 : x.f0 = 0
  · rw [if_pos h0] at h
    split at h
    · cases h
    · cases h
      exact ⟨by simp only; omega, by simp only; omega, by simpa using l, s.set (by omega) (by omega) (by omega) (by omega)⟩
  · rw [if_neg h0] at h
    split at h
    · cases h
      exact ⟨by simp only; omega, by simp only; omega, l, s⟩
    · cases h
      exact ⟨by simp only; omega, by simp only; omega, by simpa using l, s.set (by omega) (by omega) (by omega) (by omega)⟩
theorem steps_good {regs : Int} {code : List S35} (v : VC regs code) : ∀ (n : Nat) {c c' : St}, Good regs code.length c → steps code n c = some c' → Good regs code.length c'
  | 0, c, c', g, h => by simp only [steps, Option.some.injEq] at h; exact h ▸ g
  | n + 1, c, c', g, h => by
    simp only [steps] at h
    split at h
    · cases h
    · rename_i hh
      cases e : stp code c with
      | none => rw [e] at h; cases h
      | some c1 =>
        rw [e] at h
        exact steps_good v n (stp_good v g hh e) h
theorem steps_add {code : List S35} : ∀ (n m : Nat) {c c1 c2 : St}, steps code n c = some c1 → steps code m c1 = some c2 → steps code (n + m) c = some c2
  | 0, m, c, c1, c2, h, k => by simp only [steps, Option.some.injEq] at h; subst h; rw [Nat.zero_add]; exact k
  | n + 1, m, c, c1, c2, h, k => by
    rw [show n + 1 + m = (n + m) + 1 by omega]
    simp only [steps] at h ⊢
    split at h
    · cases h
    · rename_i hh
      rw [if_neg hh]
      cases e : stp code c with
      | none => rw [e] at h; cases h
      | some c0 =>
        rw [e] at h
        exact steps_add n m h k
theorem run_steps {code : List S35} : ∀ (N : Nat) {c c' : St} {n : Nat}, run code N c = some (c', n) → steps code n c = some c' ∧ n ≤ N ∧ (hal code c' ∨ n = N)
  | 0, c, c', n, h => by simp only [run, Option.some.injEq, Prod.mk.injEq] at h; obtain ⟨rfl, rfl⟩ := h; exact ⟨rfl, Nat.le_refl _, Or.inr rfl⟩
  | N + 1, c, c', n, h => by
    simp only [run] at h
    split at h
    · rename_i hh
      simp only [Option.some.injEq, Prod.mk.injEq] at h
      obtain ⟨rfl, rfl⟩ := h
      exact ⟨rfl, by omega, Or.inl hh⟩
    · rename_i hh
      cases e : stp code c with
      | none => rw [e] at h; cases h
      | some c1 =>
        rw [e] at h
        simp only [Option.bind_some] at h
        cases e1 : run code N c1 with
        | none => rw [e1] at h; cases h
        | some r =>
          rw [e1] at h
          simp only [Option.map_some, Option.some.injEq, Prod.mk.injEq] at h
          obtain ⟨h1, h2⟩ := h
          obtain ⟨q1, q2, q3⟩ := run_steps N (c := c1) (c' := r.1) (n := r.2) (by rw [e1])
          subst h1 h2
          refine ⟨?_, by omega, q3.imp id (by omega)⟩
          simp only [steps, if_neg hh, e, Option.bind_some]
          exact q1
theorem steps_run {code : List S35} : ∀ (n N : Nat) {c c' : St}, steps code n c = some c' → n ≤ N → (hal code c' ∨ n = N) → run code N c = some (c', n)
  | 0, N, c, c', h, hn, hh => by
    simp only [steps, Option.some.injEq] at h
    subst h
    cases N with
    | zero => rfl
    | succ N =>
      have : hal code c := hh.resolve_right (by omega)
      simp only [run, if_pos this]
  | n + 1, N, c, c', h, hn, hh => by
    cases N with
    | zero => omega
    | succ N =>
      simp only [steps] at h
      split at h
      · cases h
      · rename_i h1
        cases e : stp code c with
        | none => rw [e] at h; cases h
        | some c1 =>
          rw [e] at h
          have := steps_run n N (c := c1) (c' := c') h (by omega) (hh.imp id (by omega))
          simp only [run, if_neg h1, e, Option.bind_some, this, Option.map_some]

/-! ### counter.run -/
def res (i : Int) : Option (St × Nat) → Int × List Int × Int × Bool
  | none => (0, [], 0, false)
  | some (c, s) => (c.1, c.2, i + s, true)
theorem run_ev {regs : Int} {code : List S35} (v : VC regs code) (n : Int) (hn : n ≤ 1000000) : ∀ (d : Nat) (i : Int) (c : St), 0 ≤ i → n - i = d → Good regs code.length c → Ev (fun k => counter_run.l0 k i c.1 c.2 n code) (res i (run code d c)) := by
  intro d
  induction d with
  | zero =>
    intro i c h0 hd g
    refine Ev.succ ?_
    simp only [counter_run.l0]
    refine Ev.ifn (by omega) ?_
    have : i = n := by omega
    subst this
    refine Ev.is (Ev.now _) ?_
    simp [run, res]
  | succ d ih =>
    intro i c h0 hd g
    refine Ev.succ ?_
    simp only [counter_run.l0]
    refine Ev.ifp (by omega) (Ev.ifp ⟨g.a0, g.a1⟩ ?_)
    have ok := v.2.2.2.2 c.1 g.a0 g.a1
    have nx := fun c' (hh : ¬ hal code c) (h : stp code c = some c') => ih (i + 1) c' (by omega) (by omega) (stp_good v g hh h)
    have hw : wrap64 (i + 1) = i + 1 := wrap_id (by omega) (by omega)
    simp only [run, hw]
    have hl := g.l
    have hs := g.s
    by_cases hh : hal code c
    · rw [if_pos hh]
      refine Ev.ifp hh ?_
      refine Ev.is (Ev.now _) ?_
      simp [res]
    · rw [if_neg hh]
      refine Ev.ifn hh ?_
      have step : ∀ c', stp code c = some c' → Ev (fun k => counter_run.l0 k (i + 1) c'.1 c'.2 n code) (res i ((stp code c).bind fun c' => (run code d c').map fun r => (r.1, r.2 + 1))) := fun c' e => by
        refine Ev.is (nx c' hh e) ?_
        rw [e, Option.bind_some]
        cases run code d c' with
        | none => rfl
        | some r => simp only [Option.map_some, res]; congr 3; omega
      clear nx ih
      unfold hal at hh
      simp only [stp] at step ⊢
      generalize rd_T35 code c.1 = x at ok hh step ⊢
      simp only [OkI] at ok
      have hb := hs x.f1 (by omega) (by omega)
      refine Ev.ifp (by omega) ?_
      refine Ev.ite (fun h1 => ?_) (fun h1 => Ev.ifp (by omega) ?_)
      · simp only [if_pos h1] at step ⊢
        refine Ev.ite (fun h2 => ?_) (fun h2 => ?_)
        · rw [if_pos h2]
          exact Ev.now _
        · simp only [if_neg h2] at step ⊢
          rw [wrap_id (x := rd c.2 x.f1 + 1) (by omega) (by omega)]
          exact step _ rfl
      · simp only [if_neg h1] at step ⊢
        refine Ev.ite (fun h2 => ?_) (fun h2 => ?_)
        · simp only [if_pos h2] at step ⊢
          exact step _ rfl
        · simp only [if_neg h2] at step ⊢
          rw [wrap_id (x := rd c.2 x.f1 - 1) (by omega) (by omega)]
          exact step _ rfl
/-- What counter.Run answers. -/
def Res (o : Option (St × Nat)) : Int × List Int × Int × Int :=
  match o with
  | none => (0, [], 0, 4)
  | some (c, s) => (c.1, c.2, (s : Int), 0)
theorem Run_ok {regs : Int} {code : List S35} {at_ : Int} {rs : List Int} (f : FC regs code at_ rs) (n : Int) (h0 : 0 ≤ n) (h1 : n ≤ 1000000) : Ev (fun k => counter_Run.f k regs code at_ rs n) (Res (run code n.toNat (at_, rs))) := by
  unfold counter_Run.f
  refine Ev.bind' ((prog_fits regs code at_ rs).pos f) ?_
  simp only [↓reduceIte]
  refine Ev.ifn (by omega) ?_
  rw [decide_eq_false (by omega)]
  refine Ev.succ ?_
  simp only [counter_Run.j0, Bool.false_eq_true, ↓reduceIte]
  obtain ⟨v, a0, a1, l, s⟩ := f
  have hr := run_ev v n h1 n.toNat 0 (at_, rs) (by omega) (by omega) ⟨a0, a1, l, s⟩
  have hrun : Ev (fun k => counter_run.f k regs code at_ rs n) (res 0 (run code n.toNat (at_, rs))) := by
    refine Ev.eq hr (fun k => ?_)
    have := v.2.1
    simp only [counter_run.f]
    rw [if_pos (by omega)]
  refine Ev.bind' hrun ?_
  cases run code n.toNat (at_, rs) with
  | none => exact Ev.now _
  | some r => simp only [res, ↓reduceIte, Int.zero_add]; exact Ev.now _
theorem Run_form {regs : Int} {code : List S35} {at_ : Int} {rs : List Int} (f : ¬ FC regs code at_ rs) (n : Int) : Ev (fun k => counter_Run.f k regs code at_ rs n) (0, [], 0, 1) := by
  unfold counter_Run.f
  refine Ev.bind' ((prog_fits regs code at_ rs).neg f) ?_
  simp only [Bool.false_eq_true, ↓reduceIte]
  exact Ev.now _
theorem Run_arg {regs : Int} {code : List S35} {at_ : Int} {rs : List Int} (f : FC regs code at_ rs) (n : Int) (h : ¬ (0 ≤ n ∧ n ≤ 1000000)) : Ev (fun k => counter_Run.f k regs code at_ rs n) (0, [], 0, 2) := by
  unfold counter_Run.f
  refine Ev.bind' ((prog_fits regs code at_ rs).pos f) ?_
  simp only [↓reduceIte]
  have no : Ev (fun k => counter_Run.j0 k n true regs code at_ rs) (0, [], 0, 2) := by
    refine Ev.succ ?_
    simp only [counter_Run.j0, ↓reduceIte]
    exact Ev.now _
  refine Ev.ite (fun _ => no) (fun h2 => ?_)
  rw [decide_eq_true (by omega)]
  exact no

/-! ### two states that are equal -/
theorem same_list (a b : Int) (l m : List Int) (hl : l.length = m.length) (hb : l.length < 1000000000000) : ∀ (d : Nat) (i : Int), 0 ≤ i → (l.length : Int) - i = d → EvP (fun k => standstillref06_SameCount.l0 k i a l b m) (∀ j, i ≤ j → j < (l.length : Int) → rd l j = rd m j) := by
  intro d
  induction d with
  | zero =>
    intro i h0 hd
    refine EvP.succ ?_
    simp only [standstillref06_SameCount.l0]
    exact EvP.ifn (by omega) (EvP.true (all_end (by omega)))
  | succ d ih =>
    intro i h0 hd
    have nx := ih (i + 1) (by omega) (by omega)
    refine EvP.succ ?_
    simp only [standstillref06_SameCount.l0]
    refine EvP.ifp (by omega) (EvP.ifp h0 (EvP.ifp (by omega) ?_))
    simp only [wrap_id (x := i + 1) (by omega) (by omega)]
    exact EvP.ite (fun h => EvP.iff (all_step (P := fun j => rd l j = rd m j) (by omega) h) nx) (fun h => EvP.false (fun v => h (v i (by omega) (by omega))))
theorem same_count (a b : Int) (l m : List Int) (hb : l.length < 1000000000000) : EvP (fun k => standstillref06_SameCount.f k a l b m) (a = b ∧ l = m) := by
  unfold standstillref06_SameCount.f
  have no : ¬ (a = b ∧ l = m) → EvP (fun k => standstillref06_SameCount.j0 k true a l b m) (a = b ∧ l = m) := fun h => by
    refine EvP.succ ?_
    simp only [standstillref06_SameCount.j0, ↓reduceIte]
    exact EvP.false h
  refine EvP.ite (fun h => ?_) (fun h => no (fun v => h v.1))
  by_cases hl : l.length = m.length
  · rw [show ((l.length : Int) != (m.length : Int)) = false by simp [hl]]
    refine EvP.succ ?_
    simp only [standstillref06_SameCount.j0, Bool.false_eq_true, ↓reduceIte]
    refine EvP.iff ⟨fun k => ⟨h, ?_⟩, fun k j _ _ => by rw [k.2]⟩ (same_list a b l m hl hb l.length 0 (by omega) (by omega))
    refine List.ext_getElem hl (fun j h1 h2 => ?_)
    have := k (j : Int) (by omega) (by omega)
    simpa [rd, List.getD_eq_getElem?_getD, h1, h2] using this
  · rw [show ((l.length : Int) != (m.length : Int)) = true by simp; omega]
    exact no (fun v => hl (by rw [v.2]))

/-! ### the example -/
theorem awake_ev : Ev standstilllaw06_awake.f true := Ev.of (fun k => standstilllaw06_awake.mono k) (k := 60) (by decide +kernel)
end Go.Proofs.Ytcdmgeceahmngaa.Pure
