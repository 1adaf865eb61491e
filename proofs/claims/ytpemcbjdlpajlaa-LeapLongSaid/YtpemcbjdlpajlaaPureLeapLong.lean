/- The pure statement of LeapLong: a longer run ahead, a longer leap. No condition. -/
import Derived.Test.YtpemcbjdlpajlaaLLeapP
import Derived.Test.YtpemcbjdlpajlaaLPush
import Derived.Test.YtpemcbjdlpajlaaLBaseR
import Derived.Test.YtpemcbjdlpajlaaLCommon
import Derived.Test.YtpemcbjdlpajlaaG1x11
import Derived.Test.YtpemcbjdlpajlaaG1x12
import Derived.Test.YtpemcbjdlpajlaaG1x4
import Derived.Test.YtpemcbjdlpajlaaStmtLeapLong
namespace Go.Proofs.Ytpemcbjdlpajlaa.Pure
open Go.RowKit Go.Proofs.YtpemcbjdlpajlaaW.PrintWords Go.Proofs.YtpemcbjdlpajlaaW.PrintLast Go.Proofs.YtpemcbjdlpajlaaW.PrintMore Go.Proofs.Ytpemcbjdlpajlaa.G1
set_option linter.unusedVariables false
set_option linter.unusedSimpArgs false

theorem awake_ev : Ev standstilllaw04_awake.f true := Ev.of (fun k => standstilllaw04_awake.mono k) (k := 60) (by decide +kernel)

def grow (by_ : Int) : List S62 → List S62
  | [] => []
  | h :: t => ⟨h.f0, wrap64 (h.f1 + by_)⟩ :: t
theorem grow_len (b : Int) (l : List S62) : (grow b l).length = l.length := by cases l <;> simp [grow]
theorem longer_ev (l : List S62) (b : Int) (hl : l.length < 8796093022208) : standstilllaw04_longer.f l b = some (grow b l) := by
  unfold standstilllaw04_longer.f
  cases l with
  | nil => simp [grow]
  | cons h t =>
    simp only [List.length_cons] at hl
    simp only [Option.bind_some, List.nil_append]
    rw [if_pos (by simp only [List.length_cons, List.length_nil]; omega), if_pos (by simp only [List.length_cons]; omega), if_pos (by simp only [List.length_cons]; omega)]
    simp only [rd0, show Int.toNat 0 = 0 from rfl, List.set_cons_zero, grow]
theorem modest_ev (st pos sy : Int) (L R : List S62) (hL : L.length < 4398046511104) (hR : R.length < 4398046511104) : EvP (fun k => standstilllaw04_modest.f k st pos sy L R) ((∀ j, 0 ≤ j → j < ((L ++ R).length : Int) → (rd_T62 (L ++ R) j).f1 ≤ 36028797018963968) ∧ -36028797018963968 ≤ pos ∧ pos ≤ 36028797018963968) := by
  unfold standstilllaw04_modest.f
  simp only [Option.bind_some, List.nil_append]
  refine EvP.ifp (by simp only [List.length_nil]; omega) (EvP.ifp (by omega) ?_)
  have hlen : (L ++ R).length = L.length + R.length := by simp
  have key : ∀ (d : Nat) (i : Int), 0 ≤ i → ((L ++ R).length : Int) - i = d → EvP (fun k => standstilllaw04_modest.l0 k (L ++ R) i st pos sy L R) ((∀ j, i ≤ j → j < ((L ++ R).length : Int) → (rd_T62 (L ++ R) j).f1 ≤ 36028797018963968) ∧ -36028797018963968 ≤ pos ∧ pos ≤ 36028797018963968) := by
    intro d
    induction d with
    | zero =>
      intro i h0 hd
      refine EvP.succ ?_
      simp only [standstilllaw04_modest.l0]
      refine EvP.ifn (by omega) (EvP.ite (fun h => EvP.now ?_) (fun h => EvP.false (fun v => by omega)))
      simp only [decide_eq_true_eq]
      exact ⟨fun h' => ⟨all_end (by omega), by omega, h'⟩, fun h' => h'.2.2⟩
    | succ d ih =>
      intro i h0 hd
      have nx := ih (i + 1) (by omega) (by omega)
      refine EvP.succ ?_
      simp only [standstilllaw04_modest.l0, wrap_id (x := i + 1) (by omega) (by omega)]
      refine EvP.ifp (by omega) (EvP.ifp h0 (EvP.ite (fun h => EvP.false (fun v => by have := v.1 i (by omega) (by omega); omega)) (fun h => ?_)))
      exact EvP.iff (and_congr_left' (all_step (by omega) (by omega))) nx
  exact key (L ++ R).length 0 (by omega) (by omega)
theorem rd_grow (b : Int) (l : List S62) (j : Int) : (rd_T62 (grow b l) j).f0 = (rd_T62 l j).f0 ∧ (0 < j → rd_T62 (grow b l) j = rd_T62 l j) := by
  cases l with
  | nil => exact ⟨rfl, fun _ => rfl⟩
  | cons h t =>
    simp only [grow, rd_T62]
    cases hj : j.toNat with
    | zero => exact ⟨rfl, fun h => by omega⟩
    | succ i => exact ⟨rfl, fun _ => rfl⟩
theorem grow_VL {b s : Int} {l : List S62} (h : VL s l) (hm : ∀ x ∈ l, x.f1 ≤ 36028797018963968) (b0 : 0 ≤ b) (b1 : b < 1125899906842624) : VL s (grow b l) := by
  refine ⟨by rw [grow_len]; exact h.1, fun j h0 h1 => ?_, fun h0 => ?_⟩
  · rw [grow_len] at h1
    have v := h.2.1 j h0 h1
    simp only [OkRun] at v ⊢
    rw [(rd_grow b l j).1, (rd_grow b l (j - 1)).1]
    by_cases hj : 0 < j
    · rw [(rd_grow b l j).2 hj]; exact v
    · obtain rfl : j = 0 := by omega
      cases l with
      | nil => simp at h1
      | cons x t =>
        have := hm x (by simp)
        simp only [rd0, grow] at v ⊢
        rw [wrap_id (by omega) (by omega)]
        omega
  · rw [grow_len] at h0 ⊢
    rw [(rd_grow b l _).1]
    exact h.2.2 h0
theorem push_push {B : List S62} {w k b : Int} (hm : ∀ x ∈ B, 1 ≤ x.f1 ∧ x.f1 ≤ 36028797018963968) (k1 : 1 ≤ k) (k2 : k ≤ 36028797018963969) (b0 : 0 ≤ b) (b1 : b < 1125899906842624) : push (push B w k) w b = push B w (k + b) := by
  have hk : ¬ k = 0 := by omega
  have hkb : ¬ k + b = 0 := by omega
  simp only [push, if_neg hk, if_neg hkb]
  cases B with
  | nil =>
    by_cases hw : w = 0
    · simp [hw]
    · by_cases hb : b = 0
      · simp [hb]
      · simp only [hw, false_and, if_false, hb, putIn, ↓reduceIte]
        rw [wrap_id (by omega) (by omega)]
  | cons x t =>
    have := hm x (by simp)
    have e : ¬ (w = 0 ∧ (x :: t).length = 0) := by simp
    simp only [if_neg e]
    by_cases hx : x.f0 = w
    · simp only [putIn, hx, ↓reduceIte]
      by_cases hb : b = 0
      · simp [hb]
      · simp only [hb, ↓reduceIte, List.length_cons, Nat.add_one_ne_zero, and_false, putIn]
        rw [wrap_id (x := x.f1 + k) (by omega) (by omega), Int.add_assoc]
    · simp only [putIn, hx, ↓reduceIte]
      by_cases hb : b = 0
      · simp [hb]
      · simp only [hb, ↓reduceIte, List.length_cons, Nat.add_one_ne_zero, and_false, putIn]
        rw [wrap_id (by omega) (by omega)]

theorem LeapLong : LeapLongStmt := by
  intro n s Q st pos sy L R x hn hs hQ hst hpos hsy hL hR hx
  have hQl : Q.length ≤ 17592186044416 := by have h := hQ.1; simp only [reachBytes] at h; omega
  have hxx : 0 ≤ x ∧ x ≤ 18446744073709551615 := by
    simp [Lit.wf, IntKind.min, IntKind.max, IntKind.signed, IntKind.bits] at hx
    omega
  obtain ⟨b, hb⟩ : ∃ b, b = wrap64 (Int.tmod x 1125899906842624) := ⟨_, rfl⟩
  have hbb : 0 ≤ b ∧ b < 1125899906842624 := by
    rw [Int.tmod_eq_emod_of_nonneg hxx.1] at hb
    rw [hb, wrap_id (by omega) (by omega)]
    omega
  refine Ev.rounds (g := fun k => standstilllaw04_LeapLong.f k n s Q st pos sy L R x) ?_
  have yes : Ev (fun k => (standstilllaw04_awake.f k).bind fun t => some t) true := Ev.bind' awake_ev (Ev.now _)
  have skip : Ev (fun k => standstilllaw04_LeapLong.j0 k x true n s Q st pos sy L R) true := by
    refine Ev.succ ?_
    simp only [standstilllaw04_LeapLong.j0, ↓reduceIte]
    exact yes
  have quiet : ∀ (a1 : Int) (a2 : Bool) (a3 c1 c3 : Int) (r1 r2 r3 : Int) (o1 o2 o3 : Int) (o4 o5 : List S62) (u1 u2 u3 : Int) (u4 u5 : List S62), (a3 = c3 ∨ a3 = 4 ∨ c3 = 4) → Ev (fun k => standstilllaw04_LeapLong.j2 k b a1 a2 a3 c1 a2 c3 true r1 r2 r3 o1 o2 o3 o4 o5 u1 u2 u3 u4 u5) true := by
    intro a1 a2 a3 c1 c3 r1 r2 r3 o1 o2 o3 o4 o5 u1 u2 u3 u4 u5 h
    refine Ev.succ ?_
    simp only [standstilllaw04_LeapLong.j2, ↓reduceIte, beq_self_eq_true]
    exact Ev.ite (fun _ => yes) (fun _ => Ev.ite (fun _ => yes) (fun _ => Ev.ite (fun _ => yes) (fun _ => by omega)))
  have main : Fit n s Q st pos sy L R → st ≠ -1 → (∀ j, 0 ≤ j → j < ((L ++ R).length : Int) → (rd_T62 (L ++ R) j).f1 ≤ 36028797018963968) → -36028797018963968 ≤ pos → pos ≤ 36028797018963968 → Ev (fun k => standstilllaw04_LeapLong.j0 k x false n s Q st pos sy L R) true := by
    intro ft hz hm p0 p1
    obtain ⟨vm, vt⟩ := ft
    have h0 : 0 ≤ st := by have := vt.1; omega
    obtain ⟨b1, b2, ok⟩ := vm.at h0 vt.2.1 vt.2.2.1 vt.2.2.2.1
    have vL := vt.2.2.2.2.2.2.1
    have vR := vt.2.2.2.2.2.2.2
    have hmem : ∀ y ∈ L ++ R, y.f1 ≤ 36028797018963968 := by
      intro y hy
      obtain ⟨i, hi, rfl⟩ := List.getElem_of_mem hy
      have := hm i (by omega) (by omega)
      simpa only [rd_T62, Int.toNat_natCast, List.getD_eq_getElem?_getD, List.getElem?_eq_getElem hi, Option.getD_some] using this
    have mL : ∀ y ∈ L, y.f1 ≤ 36028797018963968 := fun y hy => hmem y (by simp [hy])
    have mR : ∀ y ∈ R, y.f1 ≤ 36028797018963968 := fun y hy => hmem y (by simp [hy])
    have rr : rd_T37 (rd_L2 Q st) sy = rule Q st sy := rfl
    -- the other tape
    obtain ⟨L', R', vL', vR', hA, hB, split⟩ : ∃ L' R', VL s L' ∧ VL s R' ∧ ahead (rule Q st sy) L' R' = grow b (ahead (rule Q st sy) L R) ∧ ahead (rule Q st sy) R' L' = ahead (rule Q st sy) R L ∧ (Ev (fun k => standstilllaw04_LeapLong.j1 k b n s Q st pos sy L R (rule Q st sy).f0 (rule Q st sy).f1 (rule Q st sy).f2 st pos sy L' R') true → Ev (fun k => standstilllaw04_LeapLong.j0 k x false n s Q st pos sy L R) true) := by
      by_cases hd : (rule Q st sy).f1 < 0
      · refine ⟨grow b L, R, grow_VL vL mL hbb.1 hbb.2, vR, by simp [ahead, hd], by simp [ahead, hd], fun h => Ev.succ ?_⟩
        simp only [standstilllaw04_LeapLong.j0, Bool.false_eq_true, ↓reduceIte, rr, ← hb]
        refine Ev.ifp h0 (Ev.ifp b1 (Ev.ifp vt.2.2.1 (Ev.ifp b2 (Ev.ifp hd ?_))))
        rw [longer_ev L b (by have := vL.len; omega)]
        exact h
      · refine ⟨L, grow b R, vL, grow_VL vR mR hbb.1 hbb.2, by simp [ahead, hd], by simp [ahead, hd], fun h => Ev.succ ?_⟩
        simp only [standstilllaw04_LeapLong.j0, Bool.false_eq_true, ↓reduceIte, rr, ← hb]
        refine Ev.ifp h0 (Ev.ifp b1 (Ev.ifp vt.2.2.1 (Ev.ifp b2 (Ev.ifn hd ?_))))
        rw [longer_ev R b (by have := vR.len; omega)]
        exact h
    apply split
    have vt' : VT n s st pos sy L' R' := ⟨vt.1, vt.2.1, vt.2.2.1, vt.2.2.2.1, vt.2.2.2.2.1, vt.2.2.2.2.2.1, vL', vR'⟩
    have ea := leap_Leap_ev n s Q st pos sy L R vm vt h0
    have eb := leap_Leap_ev n s Q st pos sy L' R' vm vt' h0
    rw [hA, hB] at eb
    have vA := ahead_VL (r := rule Q st sy) vL vR
    have vB := ahead_VL (r := rule Q st sy) vR vL
    have mA : ∀ y ∈ ahead (rule Q st sy) L R, y.f1 ≤ 36028797018963968 := by unfold ahead; split <;> assumption
    have mB : ∀ y ∈ ahead (rule Q st sy) R L, y.f1 ≤ 36028797018963968 := by unfold ahead; split <;> assumption
    -- what both answer, by the leap's kind
    have flat : ∀ (k : Int) (A A' : List S62), k < 2 → mv (rule Q st sy) st sy (ahead (rule Q st sy) L R) = some (k, A) → mv (rule Q st sy) st sy (grow b (ahead (rule Q st sy) L R)) = some (k, A') → Ev (fun k => standstilllaw04_LeapLong.j1 k b n s Q st pos sy L R (rule Q st sy).f0 (rule Q st sy).f1 (rule Q st sy).f2 st pos sy L' R') true := by
      intro k A A' hk e1 e2
      refine Ev.succ ?_
      simp only [standstilllaw04_LeapLong.j1]
      rw [e1] at ea
      rw [e2] at eb
      simp only at ea eb
      generalize out (rule Q st sy) pos k A (ahead (rule Q st sy) R L) = o at ea
      generalize out (rule Q st sy) pos k A' (ahead (rule Q st sy) R L) = o' at eb
      by_cases v : VT n s o.1 o.2.1 o.2.2.1 o.2.2.2.1 o.2.2.2.2 <;> by_cases v' : VT n s o'.1 o'.2.1 o'.2.2.1 o'.2.2.2.1 o'.2.2.2.2
      · refine Ev.bind' (ea.1 v) (Ev.bind' (eb.1 v') ?_)
        simp only [↓reduceIte, Bool.false_eq_true, decide_eq_true hk]
        exact quiet _ _ _ _ _ _ _ _ _ _ _ _ _ _ _ _ _ _ (Or.inl rfl)
      · refine Ev.bind' (ea.1 v) (Ev.bind' (eb.2 v') ?_)
        simp only [↓reduceIte, Bool.false_eq_true]
        exact Ev.ifn (by decide) (quiet _ _ _ _ _ _ _ _ _ _ _ _ _ _ _ _ _ _ (Or.inr (Or.inr rfl)))
      · refine Ev.bind' (ea.2 v) (Ev.bind' (eb.1 v') ?_)
        exact Ev.ifn (by decide) (quiet _ _ _ _ _ _ _ _ _ _ _ _ _ _ _ _ _ _ (Or.inr (Or.inl rfl)))
      · refine Ev.bind' (ea.2 v) (Ev.bind' (eb.2 v') ?_)
        exact Ev.ifn (by decide) (quiet _ _ _ _ _ _ _ _ _ _ _ _ _ _ _ _ _ _ (Or.inl rfl))
    by_cases hn2 : (rule Q st sy).f2 = st
    · cases hAe : ahead (rule Q st sy) L R with
      | nil =>
        by_cases hsy0 : sy = 0
        · have m1 : mv (rule Q st sy) st sy (ahead (rule Q st sy) L R) = none := by rw [hAe]; simp only [mv, if_pos hn2, if_pos hsy0]
          have m2 : mv (rule Q st sy) st sy (grow b (ahead (rule Q st sy) L R)) = none := by rw [hAe]; simp only [mv, grow, if_pos hn2, if_pos hsy0]
          rw [m1] at ea
          rw [m2] at eb
          simp only at ea eb
          refine Ev.succ ?_
          simp only [standstilllaw04_LeapLong.j1]
          refine Ev.bind' ea (Ev.bind' eb ?_)
          simp only [↓reduceIte]
          exact quiet _ _ _ _ _ _ _ _ _ _ _ _ _ _ _ _ _ _ (Or.inl rfl)
        · exact flat 1 [] [] (by omega) (by rw [hAe]; simp [mv, hn2, hsy0]) (by rw [hAe]; simp [mv, grow, hn2, hsy0])
      | cons h t =>
        by_cases hh : h.f0 = sy
        · have hh1 := vA.mem h (by rw [hAe]; simp)
          have hh2 := mA h (by rw [hAe]; simp)
          have m1 : mv (rule Q st sy) st sy (ahead (rule Q st sy) L R) = some (1 + h.f1, t) := by rw [hAe]; simp only [mv, hn2, hh, ↓reduceIte]; rw [wrap_id (by omega) (by omega)]
          have m2 : mv (rule Q st sy) st sy (grow b (ahead (rule Q st sy) L R)) = some (1 + h.f1 + b, t) := by
            rw [hAe]; simp only [mv, grow, hn2, hh, ↓reduceIte]; rw [wrap_id (x := h.f1 + b) (by omega) (by omega), wrap_id (by omega) (by omega)]; congr 2; omega
          rw [m1] at ea
          rw [m2] at eb
          simp only at ea eb
          refine Ev.succ ?_
          simp only [standstilllaw04_LeapLong.j1]
          have pp : push (push (ahead (rule Q st sy) R L) (rule Q st sy).f0 (1 + h.f1)) (rule Q st sy).f0 b = push (ahead (rule Q st sy) R L) (rule Q st sy).f0 (1 + h.f1 + b) := push_push (fun y hy => ⟨(vB.mem y hy).1, mB y hy⟩) (by omega) (by omega) hbb.1 hbb.2
          have pl := push_len (ahead (rule Q st sy) R L) (rule Q st sy).f0 (1 + h.f1)
          have pl2 := push_len (ahead (rule Q st sy) R L) (rule Q st sy).f0 (1 + h.f1 + b)
          have ql := pop_len t
          have tl : t.length ≤ 2000 := by have := vA.len; rw [hAe] at this; simp only [List.length_cons] at this; omega
          have bl := vB.len
          by_cases v : VT n s (out (rule Q st sy) pos (1 + h.f1) t (ahead (rule Q st sy) R L)).1 (out (rule Q st sy) pos (1 + h.f1) t (ahead (rule Q st sy) R L)).2.1 (out (rule Q st sy) pos (1 + h.f1) t (ahead (rule Q st sy) R L)).2.2.1 (out (rule Q st sy) pos (1 + h.f1) t (ahead (rule Q st sy) R L)).2.2.2.1 (out (rule Q st sy) pos (1 + h.f1) t (ahead (rule Q st sy) R L)).2.2.2.2
          · by_cases v' : VT n s (out (rule Q st sy) pos (1 + h.f1 + b) t (ahead (rule Q st sy) R L)).1 (out (rule Q st sy) pos (1 + h.f1 + b) t (ahead (rule Q st sy) R L)).2.1 (out (rule Q st sy) pos (1 + h.f1 + b) t (ahead (rule Q st sy) R L)).2.2.1 (out (rule Q st sy) pos (1 + h.f1 + b) t (ahead (rule Q st sy) R L)).2.2.2.1 (out (rule Q st sy) pos (1 + h.f1 + b) t (ahead (rule Q st sy) R L)).2.2.2.2
            · refine Ev.bind' (ea.1 v) (Ev.bind' (eb.1 v') ?_)
              simp only [↓reduceIte, Bool.false_eq_true, decide_eq_false (show ¬ (1 + h.f1 < 2) by omega)]
              have wp : wrap64 (wrap64 (pos + wrap64 ((rule Q st sy).f1 * (1 + h.f1))) + wrap64 ((rule Q st sy).f1 * b)) = wrap64 (pos + wrap64 ((rule Q st sy).f1 * (1 + h.f1 + b))) := by
                rcases ok.2.2.1 with e | e <;> rw [e]
                · rw [wrap_id (x := -1 * b) (by omega) (by omega), wrap_id (x := -1 * (1 + h.f1)) (by omega) (by omega), wrap_id (x := -1 * (1 + h.f1 + b)) (by omega) (by omega), wrap_id (x := pos + -1 * (1 + h.f1)) (by omega) (by omega)]
                  congr 1; omega
                · rw [wrap_id (x := 1 * b) (by omega) (by omega), wrap_id (x := 1 * (1 + h.f1)) (by omega) (by omega), wrap_id (x := 1 * (1 + h.f1 + b)) (by omega) (by omega), wrap_id (x := pos + 1 * (1 + h.f1)) (by omega) (by omega)]
                  congr 1; omega
              refine Ev.succ ?_
              simp only [standstilllaw04_LeapLong.j2, Bool.false_eq_true, ↓reduceIte, out, wp, wrap_id (x := 1 + h.f1 + b) (by omega) (by omega)]
              by_cases hd : (rule Q st sy).f1 < 0
              · refine Ev.ifp hd ?_
                simp only [hd, ↓reduceIte]
                refine Ev.bind' (rpush_ev _ _ _ (by omega)) ?_
                rw [pp]
                refine Ev.bind' (same_self _ _ _ _ _ (by omega) (by omega)) ?_
                simp only [↓reduceIte]
                exact yes
              · refine Ev.ifn hd ?_
                simp only [hd, ↓reduceIte]
                refine Ev.bind' (rpush_ev _ _ _ (by omega)) ?_
                rw [pp]
                refine Ev.bind' (same_self _ _ _ _ _ (by omega) (by omega)) ?_
                simp only [↓reduceIte]
                exact yes
            · refine Ev.bind' (ea.1 v) (Ev.bind' (eb.2 v') ?_)
              simp only [↓reduceIte, Bool.false_eq_true]
              exact Ev.ifn (by decide) (quiet _ _ _ _ _ _ _ _ _ _ _ _ _ _ _ _ _ _ (Or.inr (Or.inr rfl)))
          · by_cases v' : VT n s (out (rule Q st sy) pos (1 + h.f1 + b) t (ahead (rule Q st sy) R L)).1 (out (rule Q st sy) pos (1 + h.f1 + b) t (ahead (rule Q st sy) R L)).2.1 (out (rule Q st sy) pos (1 + h.f1 + b) t (ahead (rule Q st sy) R L)).2.2.1 (out (rule Q st sy) pos (1 + h.f1 + b) t (ahead (rule Q st sy) R L)).2.2.2.1 (out (rule Q st sy) pos (1 + h.f1 + b) t (ahead (rule Q st sy) R L)).2.2.2.2
            · refine Ev.bind' (ea.2 v) (Ev.bind' (eb.1 v') ?_)
              exact Ev.ifn (by decide) (quiet _ _ _ _ _ _ _ _ _ _ _ _ _ _ _ _ _ _ (Or.inr (Or.inl rfl)))
            · refine Ev.bind' (ea.2 v) (Ev.bind' (eb.2 v') ?_)
              exact Ev.ifn (by decide) (quiet _ _ _ _ _ _ _ _ _ _ _ _ _ _ _ _ _ _ (Or.inl rfl))
        · exact flat 1 (h :: t) (grow b (h :: t)) (by omega) (by rw [hAe]; simp [mv, hn2, hh]) (by rw [hAe]; simp [mv, grow, hn2, hh])
    · exact flat 1 (ahead (rule Q st sy) L R) (grow b (ahead (rule Q st sy) L R)) (by omega) (by simp only [mv, if_neg hn2]) (by simp only [mv, if_neg hn2])
  obtain ⟨w, hw⟩ := wide_ev n s Q 0 0 0 [] st pos sy L R hQl
  unfold standstilllaw04_LeapLong.f
  refine Ev.bind' hw ?_
  refine Ev.ite (fun _ => skip) (fun _ => ?_)
  by_cases ft : Fit n s Q st pos sy L R
  · refine Ev.bind' ((ref_fits n s Q st pos sy L R).pos ft) ?_
    simp only [↓reduceIte]
    refine Ev.ite (fun _ => skip) (fun hz => ?_)
    have hLl := ft.2.2.2.2.2.2.2.1.len
    have hRl := ft.2.2.2.2.2.2.2.2.len
    by_cases hm : (∀ j, 0 ≤ j → j < ((L ++ R).length : Int) → (rd_T62 (L ++ R) j).f1 ≤ 36028797018963968) ∧ -36028797018963968 ≤ pos ∧ pos ≤ 36028797018963968
    · refine Ev.bind' ((modest_ev st pos sy L R (by omega) (by omega)).pos hm) ?_
      exact main ft hz hm.1 hm.2.1 hm.2.2
    · refine Ev.bind' ((modest_ev st pos sy L R (by omega) (by omega)).neg hm) ?_
      exact skip
  · refine Ev.bind' ((ref_fits n s Q st pos sy L R).neg ft) ?_
    simp only [Bool.false_eq_true, ↓reduceIte]
    exact skip
end Go.Proofs.Ytpemcbjdlpajlaa.Pure
