/- The pure statement of LeapMirror: leaps of the mirrored machine on the mirrored tape are mirrored. No condition. -/
import Derived.Test.YtpemcbjdlpajlaaLLeapsP
import Derived.Test.YtpemcbjdlpajlaaLCommon
import Derived.Test.YtpemcbjdlpajlaaG1x11
import Derived.Test.YtpemcbjdlpajlaaG1x13
import Derived.Test.YtpemcbjdlpajlaaG1x17
import Derived.Test.YtpemcbjdlpajlaaG1x18
import Derived.Test.YtpemcbjdlpajlaaG1x5
import Derived.Test.YtpemcbjdlpajlaaStmtLeapMirror
namespace Go.Proofs.Ytpemcbjdlpajlaa.Pure
open Go.RowKit Go.Proofs.YtpemcbjdlpajlaaW.PrintWords Go.Proofs.YtpemcbjdlpajlaaW.PrintLast Go.Proofs.YtpemcbjdlpajlaaW.PrintMore Go.Proofs.Ytpemcbjdlpajlaa.G1
set_option linter.unusedVariables false
set_option linter.unusedSimpArgs false

def mrule (r : S37) : S37 := ⟨r.f0, -r.f1, r.f2⟩
def mrow (l : List S37) : List S37 := l.map mrule
def mrows (R : List (List S37)) : List (List S37) := R.map mrow
theorem mrow_rd (l : List S37) (i : Int) (h0 : 0 ≤ i) (h1 : i < l.length) : rd_T37 (mrow l) i = mrule (rd_T37 l i) := by
  have hi : i.toNat < l.length := by omega
  simp [rd_T37, mrow, List.getD_eq_getElem?_getD, hi]
theorem mrows_rd (R : List (List S37)) (i : Int) (h0 : 0 ≤ i) (h1 : i < R.length) : rd_L2 (mrows R) i = mrow (rd_L2 R i) := by
  have hi : i.toNat < R.length := by omega
  simp [rd_L2, mrows, List.getD_eq_getElem?_getD, hi]
theorem mVM {n s : Int} {R : List (List S37)} (vm : VM n s R) : VM n s (mrows R) := by
  obtain ⟨h0, h1, h2, h3, h4, h5⟩ := vm
  refine ⟨h0, h1, h2, h3, by simp [mrows, h4], fun i a b => ?_⟩
  have ok := h5 i a b
  unfold OkRow
  rw [mrows_rd R i a (by omega)]
  refine ⟨by simp [mrow, ok.1], fun j c d => ?_⟩
  rw [mrow_rd _ j c (by have := ok.1; omega)]
  have := ok.2 j c d
  simp only [OkRule, mrule] at this ⊢
  omega
theorem mclone (l : List S37) (h : l.length < 5864062014805) : api_Rule.f l = some l := by
  unfold api_Rule.f
  simp [h]
theorem mirror_row {n s : Int} (R : List (List S37)) (row : List S37) (hrow : row.length ≤ 10) (hok : ∀ j (h : j < row.length), row[j].f1 = -1 ∨ row[j].f1 = 1) (RR : List (List S37)) (hRR : RR.length ≤ 6) (hR : R.length ≤ 6) (i : Int) (hi0 : 0 ≤ i) (hi : i < R.length) (r : Int × Int × List (List S37) × Int) (hr : Ev (fun k => tape_Mirror.l0 k R (R.length : Int) (i + 1) n s (RR ++ [mrow row])) r) :
    ∀ (d : Nat) (j : Nat), j + d = row.length → Ev (fun k => tape_Mirror.l1 k ((mrow row).take j ++ row.drop j) R (R.length : Int) i (row.length : Int) (j : Int) n s RR) r := by
  intro d
  induction d with
  | zero =>
    intro j hj
    obtain rfl : j = row.length := by omega
    have e : (mrow row).take row.length ++ row.drop row.length = mrow row := by rw [List.take_of_length_le (by simp [mrow])]; simp
    rw [e]
    refine Ev.succ ?_
    simp only [tape_Mirror.l1]
    refine Ev.ifn (by omega) (Ev.ifp (by omega) ?_)
    rw [wrap_id (x := i + 1) (by omega) (by omega)]
    exact hr
  | succ d ih =>
    intro j hj
    have nx := ih (j + 1) (by omega)
    have hlen : ((mrow row).take j ++ row.drop j).length = row.length := by simp [mrow]; omega
    have hrd : rd_T37 ((mrow row).take j ++ row.drop j) (j : Int) = row[j] := by
      simp only [rd_T37, Int.toNat_natCast, List.getD_eq_getElem?_getD]
      rw [List.getElem?_append_right (by simp [mrow]; omega)]
      simp [mrow, show j ≤ row.length by omega, Nat.min_eq_left, show j < row.length by omega]
    have hset : ((mrow row).take j ++ row.drop j).set j (mrule row[j]) = (mrow row).take (j + 1) ++ row.drop (j + 1) := by
      rw [List.set_append_right _ _ (by simp [mrow]; omega)]
      have e1 : j - ((mrow row).take j).length = 0 := by simp [mrow]; omega
      rw [e1, List.drop_eq_getElem_cons (by omega : j < row.length), List.set_cons_zero, List.take_succ_eq_append_getElem (by simp [mrow]; omega), List.append_assoc]
      simp [mrow]
    refine Ev.succ ?_
    simp only [tape_Mirror.l1]
    refine Ev.ifp (by omega) (Ev.ifp (by omega) (Ev.ifp (by omega) ?_))
    have hf := hok j (by omega)
    rw [wrap_id (x := (j : Int) + 1) (by omega) (by omega), hrd, Int.toNat_natCast, wrap_id (x := -row[j].f1) (by omega) (by omega)]
    have e : (⟨row[j].f0, -row[j].f1, row[j].f2⟩ : S37) = mrule row[j] := rfl
    rw [e, hset]
    exact nx
theorem mirror_ev {n s : Int} {R : List (List S37)} (vm : VM n s R) : Ev (fun k => tape_Mirror.f k n s R) (n, s, mrows R, 0) := by
  have hR : R.length ≤ 6 := by have h1 := vm.2.1; have h2 := vm.2.2.2.2.1; omega
  have rows : ∀ (d i : Nat), i + d = R.length → Ev (fun k => tape_Mirror.l0 k R (R.length : Int) (i : Int) n s ((mrows R).take i)) (n, s, mrows R, 0) := by
    intro d
    induction d with
    | zero =>
      intro i hi
      obtain rfl : i = R.length := by omega
      have e : (mrows R).take R.length = mrows R := List.take_of_length_le (by simp [mrows])
      rw [e]
      refine Ev.succ ?_
      simp only [tape_Mirror.l0]
      exact Ev.ifn (by omega) (Ev.now _)
    | succ d ih =>
      intro i hi
      have nx := ih (i + 1) (by omega)
      have hir : i < R.length := by omega
      have ok := vm.2.2.2.2.2 (i : Int) (by omega) (by have := vm.2.2.2.2.1; omega)
      have hrd : rd_L2 R (i : Int) = R[i] := by simp [rd_L2, List.getD_eq_getElem?_getD, hir]
      unfold OkRow at ok
      rw [hrd] at ok
      have hs4 := vm.2.2.2.1
      have hlen : R[i].length ≤ 10 := by have := ok.1; omega
      have hok : ∀ j (h : j < R[i].length), R[i][j].f1 = -1 ∨ R[i][j].f1 = 1 := by
        intro j h
        have := (ok.2 (j : Int) (by omega) (by have := ok.1; omega)).2.2.1
        simpa [rd_T37, List.getD_eq_getElem?_getD, h] using this
      have e : (mrows R).take i ++ [mrow R[i]] = (mrows R).take (i + 1) := by
        rw [List.take_succ_eq_append_getElem (by simp [mrows]; omega)]
        simp [mrows]
      have hr := mirror_row R R[i] hlen hok ((mrows R).take i) (by simp [mrows]; omega) hR (i : Int) (by omega) (by omega) (n, s, mrows R, 0) (by rw [e]; exact nx) R[i].length 0 (by omega)
      refine Ev.succ ?_
      simp only [tape_Mirror.l0]
      refine Ev.ifp (by omega) (Ev.ifp (by omega) (Ev.ifp (by omega) ?_))
      rw [hrd, mclone R[i] (by omega)]
      simp only [Option.bind_some]
      simpa using hr
  have h := rows R.length 0 (by omega)
  unfold tape_Mirror.f
  have key : ∀ b, Ev (fun k => tape_Valid.f k n s R) b → b = true → Ev (fun k => (tape_Valid.f k n s R).bind fun t => (if t = true then (tape_Mirror.l0 k R (R.length : Int) 0 n s ([] : List (List S37))) else (some (0, 0, ([] : List (List S37)), 1)))) (n, s, mrows R, 0) := by
    intro b hb e
    subst e
    refine Ev.bind' hb ?_
    simp only [↓reduceIte]
    simpa using h
  exact key true ((tape_valid n s R).pos vm) rfl


theorem VT.mir {n s st pos sy : Int} {L R : List S62} (h : VT n s st pos sy L R) : VT n s st (-pos) sy R L := by
  obtain ⟨a, b, c, d, e, f, g, h⟩ := h
  exact ⟨a, b, c, d, by omega, by omega, h, g⟩
theorem VT.mir' {n s st pos sy : Int} {L R : List S62} (h : VT n s st (-pos) sy R L) : VT n s st pos sy L R := by have := h.mir; rwa [Int.neg_neg] at this
theorem mrule_at {n s : Int} {Q : List (List S37)} {st sy : Int} (vm : VM n s Q) (h0 : 0 ≤ st) (h1 : st < n) (h2 : 0 ≤ sy) (h3 : sy < s) : rule (mrows Q) st sy = mrule (rule Q st sy) := by
  obtain ⟨b1, b2, ok⟩ := vm.at h0 h1 h2 h3
  unfold rule
  rw [mrows_rd Q st h0 b1, mrow_rd _ sy h2 b2]
theorem ahead_mir {r : S37} (h : r.f1 = -1 ∨ r.f1 = 1) (L R : List S62) : ahead (mrule r) R L = ahead r L R := by
  rcases h with h | h <;> simp [ahead, mrule, h]
theorem mv_mir (r : S37) (st sy : Int) (A : List S62) : mv (mrule r) st sy A = mv r st sy A := rfl
theorem out_mir {r : S37} (h : r.f1 = -1 ∨ r.f1 = 1) {pos k : Int} (p0 : -1152921504606846976 ≤ pos) (p1 : pos ≤ 1152921504606846976) (k0 : 1 ≤ k) (k1 : k ≤ 1152921504606846977) (A B : List S62) :
    out (mrule r) (-pos) k A B = ((out r pos k A B).1, -(out r pos k A B).2.1, (out r pos k A B).2.2.1, (out r pos k A B).2.2.2.2, (out r pos k A B).2.2.2.1) := by
  rcases h with h | h
  · simp only [out, mrule, h]
    rw [wrap_id (x := -1 * k) (by omega) (by omega), wrap_id (x := pos + -1 * k) (by omega) (by omega), wrap_id (x := - -1 * k) (by omega) (by omega), wrap_id (x := -pos + - -1 * k) (by omega) (by omega)]
    have e : -pos + - -1 * k = -(pos + -1 * k) := by omega
    rw [e]
    simp
  · simp only [out, mrule, h]
    rw [wrap_id (x := 1 * k) (by omega) (by omega), wrap_id (x := pos + 1 * k) (by omega) (by omega), wrap_id (x := -1 * k) (by omega) (by omega), wrap_id (x := -pos + -1 * k) (by omega) (by omega)]
    have e : -pos + -1 * k = -(pos + 1 * k) := by omega
    rw [e]
    simp
abbrev LR := Int × Int × Int × List S62 × List S62 × Int × Int × Bool × Int
def Pair (f g : Nat → Option LR) : Prop := ∃ st pos sy L R x y z e, Ev f (st, pos, sy, L, R, x, y, z, e) ∧ Ev g (st, -pos, sy, R, L, x, y, z, e) ∧ L.length ≤ 2000 ∧ R.length ≤ 2000 ∧ -1152921504606846976 ≤ pos ∧ pos ≤ 1152921504606846976
theorem mloops (n s : Int) (Q : List (List S37)) (N : Int) (hN : N ≤ 1000000) (vm : VM n s Q) : ∀ (d : Nat) (i tot st pos sy : Int) (L R : List S62), 0 ≤ i → N - i = d → 0 ≤ tot → tot ≤ 1152921504606846976 → VT n s st pos sy L R →
    Pair (fun k => leap_Leaps.l0 k N tot N i n s Q st pos sy L R) (fun k => leap_Leaps.l0 k N tot N i n s (mrows Q) st (-pos) sy R L) := by
  intro d
  have vm' := mVM vm
  induction d with
  | zero =>
    intro i tot st pos sy L R h0 hd t0 t1 vt
    have vL := vt.2.2.2.2.2.2.1.len
    have vR := vt.2.2.2.2.2.2.2.len
    refine ⟨st, pos, sy, L, R, N, tot, false, 0, Ev.succ ?_, Ev.succ ?_, vL, vR, vt.2.2.2.2.1, vt.2.2.2.2.2.1⟩
    · simp only [leap_Leaps.l0]
      exact Ev.ifn (by omega) (Ev.now _)
    · simp only [leap_Leaps.l0]
      exact Ev.ifn (by omega) (Ev.now _)
  | succ d ih =>
    intro i tot st pos sy L R h0 hd t0 t1 vt
    have vL := vt.2.2.2.2.2.2.1
    have vR := vt.2.2.2.2.2.2.2
    have p0 := vt.2.2.2.2.1
    have p1 := vt.2.2.2.2.2.1
    by_cases hz : st = -1
    · refine ⟨st, pos, sy, L, R, i, tot, false, 0, Ev.succ ?_, Ev.succ ?_, vL.len, vR.len, p0, p1⟩
      · simp only [leap_Leaps.l0]
        exact Ev.ifp (by omega) (Ev.ifp hz (Ev.now _))
      · simp only [leap_Leaps.l0]
        exact Ev.ifp (by omega) (Ev.ifp hz (Ev.now _))
    · have hst : 0 ≤ st := by have := vt.1; omega
      obtain ⟨b1, b2, ok⟩ := vm.at hst vt.2.1 vt.2.2.1 vt.2.2.2.1
      obtain ⟨b1', b2', ok'⟩ := vm'.at hst vt.2.1 vt.2.2.1 vt.2.2.2.1
      have e := leap_ev n s Q st pos sy L R hst b1 vt.2.2.1 b2 vL.len vR.len
      have e' := leap_ev n s (mrows Q) st (-pos) sy R L hst b1' vt.2.2.1 b2' vR.len vL.len
      rw [mrule_at vm hst vt.2.1 vt.2.2.1 vt.2.2.2.1, ahead_mir ok.2.2.1, mv_mir] at e'
      rw [ahead_mir ok.2.2.1] at e'
      cases hm : mv (rule Q st sy) st sy (ahead (rule Q st sy) L R) with
      | none =>
        rw [hm] at e e'
        simp only at e e'
        refine ⟨st, pos, sy, L, R, i, tot, true, 0, Ev.succ ?_, Ev.succ ?_, vL.len, vR.len, p0, p1⟩
        · simp only [leap_Leaps.l0]
          refine Ev.ifp (by omega) (Ev.ifn hz (Ev.bind' e ?_))
          simp only [↓reduceIte]
          exact Ev.now _
        · simp only [leap_Leaps.l0]
          refine Ev.ifp (by omega) (Ev.ifn hz (Ev.bind' e' ?_))
          simp only [↓reduceIte]
          exact Ev.now _
      | some p =>
        obtain ⟨q, A⟩ := p
        rw [hm] at e e'
        simp only at e e'
        obtain ⟨q1, q2, q3, q4⟩ := mv_some (ahead_VL vL vR) hm
        rw [out_mir ok.2.2.1 p0 p1 q1 q2] at e'
        have f := leap_within n s (out (rule Q st sy) pos q A (ahead (rule Q st sy) R L)).1 (out (rule Q st sy) pos q A (ahead (rule Q st sy) R L)).2.1 (out (rule Q st sy) pos q A (ahead (rule Q st sy) R L)).2.2.1 (out (rule Q st sy) pos q A (ahead (rule Q st sy) R L)).2.2.2.1 (out (rule Q st sy) pos q A (ahead (rule Q st sy) R L)).2.2.2.2
        have f' := leap_within n s (out (rule Q st sy) pos q A (ahead (rule Q st sy) R L)).1 (-(out (rule Q st sy) pos q A (ahead (rule Q st sy) R L)).2.1) (out (rule Q st sy) pos q A (ahead (rule Q st sy) R L)).2.2.1 (out (rule Q st sy) pos q A (ahead (rule Q st sy) R L)).2.2.2.2 (out (rule Q st sy) pos q A (ahead (rule Q st sy) R L)).2.2.2.1
        generalize out (rule Q st sy) pos q A (ahead (rule Q st sy) R L) = o at e e' f f'
        by_cases v : VT n s o.1 o.2.1 o.2.2.1 o.2.2.2.1 o.2.2.2.2
        · by_cases big : tot + q > 1152921504606846976
          · refine ⟨0, 0, 0, [], [], 0, 0, false, 4, Ev.succ ?_, Ev.succ ?_, by simp, by simp, by omega, by omega⟩
            · simp only [leap_Leaps.l0]
              refine Ev.ifp (by omega) (Ev.ifn hz (Ev.bind' e ?_))
              simp only [Bool.false_eq_true, ↓reduceIte]
              refine Ev.bind' (f.pos v) ?_
              simp only [↓reduceIte]
              rw [wrap_id (by omega) (by omega)]
              exact Ev.ifp (by omega) (Ev.now _)
            · simp only [leap_Leaps.l0]
              refine Ev.ifp (by omega) (Ev.ifn hz (Ev.bind' e' ?_))
              simp only [Bool.false_eq_true, ↓reduceIte]
              refine Ev.bind' (f'.pos v.mir) ?_
              simp only [↓reduceIte]
              rw [wrap_id (by omega) (by omega)]
              exact Ev.ifp (by omega) (Ev.now _)
          · obtain ⟨st', pos', sy', L', R', x, y, z, e9, E1, E2, E3⟩ := ih (i + 1) (tot + q) o.1 o.2.1 o.2.2.1 o.2.2.2.1 o.2.2.2.2 (by omega) (by omega) (by omega) (by omega) v
            refine ⟨st', pos', sy', L', R', x, y, z, e9, Ev.succ ?_, Ev.succ ?_, E3⟩
            · simp only [leap_Leaps.l0]
              refine Ev.ifp (by omega) (Ev.ifn hz (Ev.bind' e ?_))
              simp only [Bool.false_eq_true, ↓reduceIte]
              refine Ev.bind' (f.pos v) ?_
              simp only [↓reduceIte]
              rw [wrap_id (x := tot + q) (by omega) (by omega), wrap_id (x := i + 1) (by omega) (by omega)]
              exact Ev.ifn (by omega) E1
            · simp only [leap_Leaps.l0]
              refine Ev.ifp (by omega) (Ev.ifn hz (Ev.bind' e' ?_))
              simp only [Bool.false_eq_true, ↓reduceIte]
              refine Ev.bind' (f'.pos v.mir) ?_
              simp only [↓reduceIte]
              rw [wrap_id (x := tot + q) (by omega) (by omega), wrap_id (x := i + 1) (by omega) (by omega)]
              exact Ev.ifn (by omega) E2
        · refine ⟨0, 0, 0, [], [], 0, 0, false, 4, Ev.succ ?_, Ev.succ ?_, by simp, by simp, by omega, by omega⟩
          · simp only [leap_Leaps.l0]
            refine Ev.ifp (by omega) (Ev.ifn hz (Ev.bind' e ?_))
            simp only [Bool.false_eq_true, ↓reduceIte]
            refine Ev.bind' (f.neg v) ?_
            simp only [Bool.false_eq_true, ↓reduceIte]
            exact Ev.now _
          · simp only [leap_Leaps.l0]
            refine Ev.ifp (by omega) (Ev.ifn hz (Ev.bind' e' ?_))
            simp only [Bool.false_eq_true, ↓reduceIte]
            refine Ev.bind' (f'.neg (fun h => v h.mir')) ?_
            simp only [Bool.false_eq_true, ↓reduceIte]
            exact Ev.now _
theorem leaps_in {n s : Int} {Q : List (List S37)} {st pos sy : Int} {L R : List S62} {N : Int} {r : LR} (h0 : 0 ≤ N) (h1 : N ≤ 1000000) (vm : VM n s Q) (vt : VT n s st pos sy L R) (h : Ev (fun k => leap_Leaps.l0 k N 0 N 0 n s Q st pos sy L R) r) : Ev (fun k => leap_Leaps.f k n s Q st pos sy L R N) r := by
  unfold leap_Leaps.f
  refine Ev.bind' ((leap_Fits_ev n s Q st pos sy L R).pos ⟨vm, vt⟩) ?_
  simp only [↓reduceIte]
  refine Ev.ifn (by omega) (Ev.succ ?_)
  simp only [leap_Leaps.j0, decide_eq_true_eq]
  refine Ev.ifn (by omega) ?_
  rw [copied_ev st pos sy L R vt.2.2.2.2.2.2.1.len vt.2.2.2.2.2.2.2.len]
  exact h
theorem awake_ev : Ev standstilllaw04_awake.f true := Ev.of (fun k => standstilllaw04_awake.mono k) (k := 60) (by decide +kernel)
theorem LeapMirror : LeapMirrorStmt := by
  intro n s Q st pos sy L R x hn hs hQ hst hpos hsy hL hR hx
  have hQl : Q.length ≤ 17592186044416 := by have h := hQ.1; simp only [reachBytes] at h; omega
  have hLl : L.length ≤ 17592186044416 := by have h := hL.1; simp only [reachBytes] at h; omega
  have hRl : R.length ≤ 17592186044416 := by have h := hR.1; simp only [reachBytes] at h; omega
  have hpb : -9223372036854775808 ≤ pos ∧ pos ≤ 9223372036854775807 := by
    simp [Lit.wf, IntKind.min, IntKind.max, IntKind.signed, IntKind.bits] at hpos
    omega
  have hxx : 0 ≤ x ∧ x ≤ 65535 := by
    simp [Lit.wf, IntKind.min, IntKind.max, IntKind.signed, IntKind.bits] at hx
    omega
  obtain ⟨N, hN⟩ : ∃ N, N = Int.tmod (wrap64 x) 301 := ⟨_, rfl⟩
  have hNN : 0 ≤ N ∧ N ≤ 300 := by
    rw [wrap_id (by omega) (by omega), Int.tmod_eq_emod_of_nonneg hxx.1] at hN
    omega
  refine Ev.rounds (g := fun k => standstilllaw04_LeapMirror.f k n s Q st pos sy L R x) ?_
  have yes : Ev (fun k => (standstilllaw04_awake.f k).bind fun t => some t) true := Ev.bind' awake_ev (Ev.now _)
  have skip : Ev (fun k => standstilllaw04_LeapMirror.j0 k x true n s Q st pos sy L R) true := by
    refine Ev.succ ?_
    simp only [standstilllaw04_LeapMirror.j0, ↓reduceIte]
    exact yes
  have main : VM n s Q → Ev (fun k => standstilllaw04_LeapMirror.j0 k x false n s Q st pos sy L R) true := by
    intro vm
    have vm' := mVM vm
    refine Ev.succ ?_
    simp only [standstilllaw04_LeapMirror.j0, Bool.false_eq_true, ↓reduceIte, ← hN, standstilllaw04_mirrored.f]
    refine Ev.bind' (mirror_ev vm) ?_
    by_cases vt : VT n s st pos sy L R
    · have p0 := vt.2.2.2.2.1
      have p1 := vt.2.2.2.2.2.1
      obtain ⟨st', pos', sy', L', R', y, z, b, e, E1, E2, E3, E4, E5, E6⟩ := mloops n s Q N (by omega) vm N.toNat 0 0 st pos sy L R (by omega) (by omega) (by omega) (by omega) vt
      have F1 := leaps_in hNN.1 (by omega) vm vt E1
      have F2 := leaps_in hNN.1 (by omega) vm' vt.mir E2
      refine Ev.bind' F1 ?_
      simp only [Option.bind_some]
      rw [wrap_id (x := -pos) (by omega) (by omega)]
      refine Ev.bind' F2 ?_
      simp only [↓reduceIte, beq_self_eq_true]
      refine Ev.ite (fun _ => ?_) (fun _ => yes)
      rw [wrap_id (x := -pos') (by omega) (by omega)]
      refine Ev.bind' (same_self st' (-pos') sy' R' L' (by omega) (by omega)) ?_
      simp only [↓reduceIte]
      exact yes
    · have vt' : ¬ VT n s st (wrap64 (-pos)) sy R L := by
        intro h
        have h5 := h.2.2.2.2.1
        have h6 := h.2.2.2.2.2.1
        have e : wrap64 (-pos) = -pos := by
          unfold wrap64 at h5 h6 ⊢
          omega
        rw [e] at h
        exact vt h.mir'
      refine Ev.bind' (leaps_no n s Q st pos sy L R N (fun h => vt h.2)) ?_
      simp only [Option.bind_some]
      refine Ev.bind' (leaps_no n s (mrows Q) st (wrap64 (-pos)) sy R L N (fun h => vt' h.2)) ?_
      simp only [↓reduceIte, beq_self_eq_true]
      exact Ev.ifn (by decide) yes
  obtain ⟨w, hw⟩ := wide_ev n s Q 0 0 0 [] st pos sy L R hQl
  unfold standstilllaw04_LeapMirror.f
  refine Ev.bind' hw (Ev.ite (fun _ => skip) (fun _ => ?_))
  by_cases vm : VM n s Q
  · exact Ev.bind' ((ref_valid n s Q).pos vm) (main vm)
  · exact Ev.bind' ((ref_valid n s Q).neg vm) skip
end Go.Proofs.Ytpemcbjdlpajlaa.Pure
