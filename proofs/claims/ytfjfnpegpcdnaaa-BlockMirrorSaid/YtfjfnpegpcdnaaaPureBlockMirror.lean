/- The pure statement of BlockMirror: crossings of the mirrored machine in the mirrored block are mirrored. No condition. -/
import Derived.Test.YtfjfnpegpcdnaaaSLaw
import Derived.Test.YtfjfnpegpcdnaaaSMir
import Derived.Test.YtfjfnpegpcdnaaaGBx13
import Derived.Test.YtfjfnpegpcdnaaaGBx14
import Derived.Test.YtfjfnpegpcdnaaaGBx2
import Derived.Test.YtfjfnpegpcdnaaaGBx9
import Derived.Test.YtfjfnpegpcdnaaaStmtBlockMirror
namespace Go.Proofs.Ytfjfnpegpcdnaaa.Pure
open Go.RowKit Go.Proofs.YtfjfnpegpcdnaaaW.PrintWords Go.Proofs.YtfjfnpegpcdnaaaW.PrintLast Go.Proofs.YtfjfnpegpcdnaaaW.PrintMore Go.Proofs.Ytfjfnpegpcdnaaa.GB
set_option linter.unusedVariables false
set_option linter.unusedSimpArgs false

theorem turned_loop (l : List Int) (hl : l.length < 17592186044416) : ∀ (i : Nat) (acc : List Int), i ≤ l.length → acc.length + i = l.length → Ev (fun k => standstillref01_Turned.l0 k l acc ((i : Int) - 1)) (acc ++ (l.take i).reverse) := by
  intro i
  induction i with
  | zero =>
    intro acc _ _
    refine Ev.succ ?_
    simp only [standstillref01_Turned.l0]
    refine Ev.ifn (by omega) ?_
    simpa using Ev.now _
  | succ i ih =>
    intro acc hi hacc
    have nx := ih (acc ++ [rd l (i : Int)]) (by omega) (by simp; omega)
    refine Ev.succ ?_
    simp only [standstillref01_Turned.l0]
    have e : ((i + 1 : Nat) : Int) - 1 = (i : Int) := by omega
    rw [e]
    refine Ev.ifp (by omega) (Ev.ifp (by omega) (Ev.ifp (by omega) (Ev.ifp (by omega) ?_)))
    rw [wrap_id (x := (i : Int) - 1) (by omega) (by omega)]
    have e2 : acc ++ (l.take (i + 1)).reverse = acc ++ [rd l (i : Int)] ++ (l.take i).reverse := by
      rw [List.take_succ_eq_append_getElem (by omega), List.reverse_append]
      simp [rd, List.getD_eq_getElem?_getD, show i < l.length by omega]
    rw [e2]
    exact nx
theorem turned_ev (l : List Int) (hl : l.length < 17592186044416) : Ev (fun k => standstillref01_Turned.f k l) l.reverse := by
  have h := turned_loop l hl l.length [] (by omega) (by simp)
  unfold standstillref01_Turned.f
  rw [wrap_id (by omega) (by omega)]
  simpa using h
theorem mclone (l : List S57) (h : l.length < 5864062014805) : api_Rule.f l = some l := by
  unfold api_Rule.f
  simp [h]
theorem mirror_row {n s : Int} (R : List (List S57)) (row : List S57) (hrow : row.length ≤ 10) (hok : ∀ j (h : j < row.length), row[j].f1 = -1 ∨ row[j].f1 = 1) (RR : List (List S57)) (hRR : RR.length ≤ 6) (hR : R.length ≤ 6) (i : Int) (hi0 : 0 ≤ i) (hi : i < R.length) (r : Int × Int × List (List S57) × Int) (hr : Ev (fun k => tape_Mirror.l0 k R (R.length : Int) (i + 1) n s (RR ++ [mrow row])) r) :
    ∀ (d : Nat) (j : Nat), j + d = row.length → Ev (fun k => tape_Mirror.l1 k ((mrow row).take j ++ row.drop j) R (R.length : Int) i (row.length : Int) (j : Int) n s RR) r := by
  intro d
  induction d with
  | zero =>
    intro j hj
    obtain rfl : j = row.length := by omega
    have e : (mrow row).take row.length ++ row.drop row.length = mrow row := by rw [List.take_of_length_le (by simp [mrow])]; simp
    rw [e]
    refine Ev.succ ?_
    simp only [tape_Mirror.l1]
    refine Ev.ifn (by omega) (Ev.ifp (by omega) ?_)
    rw [wrap_id (x := i + 1) (by omega) (by omega)]
    exact hr
  | succ d ih =>
    intro j hj
    have nx := ih (j + 1) (by omega)
    have hlen : ((mrow row).take j ++ row.drop j).length = row.length := by simp [mrow]; omega
    have hrd : rd_T57 ((mrow row).take j ++ row.drop j) (j : Int) = row[j] := by
      simp only [rd_T57, Int.toNat_natCast, List.getD_eq_getElem?_getD]
      rw [List.getElem?_append_right (by simp [mrow]; omega)]
      simp [mrow, show j ≤ row.length by omega, Nat.min_eq_left, show j < row.length by omega]
    have hset : ((mrow row).take j ++ row.drop j).set j (mrule row[j]) = (mrow row).take (j + 1) ++ row.drop (j + 1) := by
      rw [List.set_append_right _ _ (by simp [mrow]; omega)]
      have e1 : j - ((mrow row).take j).length = 0 := by simp [mrow]; omega
      rw [e1, List.drop_eq_getElem_cons (by omega : j < row.length), List.set_cons_zero, List.take_succ_eq_append_getElem (by simp [mrow]; omega), List.append_assoc]
      simp [mrow]
    refine Ev.succ ?_
    simp only [tape_Mirror.l1]
    refine Ev.ifp (by omega) (Ev.ifp (by omega) (Ev.ifp (by omega) ?_))
    have hf := hok j (by omega)
    rw [wrap_id (x := (j : Int) + 1) (by omega) (by omega), hrd, Int.toNat_natCast, wrap_id (x := -row[j].f1) (by omega) (by omega)]
    have e : (⟨row[j].f0, -row[j].f1, row[j].f2⟩ : S57) = mrule row[j] := rfl
    rw [e, hset]
    exact nx
theorem mirror_ev {n s : Int} {R : List (List S57)} (vm : VM n s R) : Ev (fun k => tape_Mirror.f k n s R) (n, s, mrows R, 0) := by
  have hR : R.length ≤ 6 := by have h1 := vm.2.1; have h2 := vm.2.2.2.2.1; omega
  have rows : ∀ (d i : Nat), i + d = R.length → Ev (fun k => tape_Mirror.l0 k R (R.length : Int) (i : Int) n s ((mrows R).take i)) (n, s, mrows R, 0) := by
    intro d
    induction d with
    | zero =>
      intro i hi
      obtain rfl : i = R.length := by omega
      have e : (mrows R).take R.length = mrows R := List.take_of_length_le (by simp [mrows])
      rw [e]
      refine Ev.succ ?_
      simp only [tape_Mirror.l0]
      exact Ev.ifn (by omega) (Ev.now _)
    | succ d ih =>
      intro i hi
      have nx := ih (i + 1) (by omega)
      have hir : i < R.length := by omega
      have ok := vm.2.2.2.2.2 (i : Int) (by omega) (by have := vm.2.2.2.2.1; omega)
      have hrd : rd_L2 R (i : Int) = R[i] := by simp [rd_L2, List.getD_eq_getElem?_getD, hir]
      unfold OkRow at ok
      rw [hrd] at ok
      have hs4 := vm.2.2.2.1
      have hlen : R[i].length ≤ 10 := by have := ok.1; omega
      have hok : ∀ j (h : j < R[i].length), R[i][j].f1 = -1 ∨ R[i][j].f1 = 1 := by
        intro j h
        have := (ok.2 (j : Int) (by omega) (by have := ok.1; omega)).2.2.1
        simpa [rd_T57, List.getD_eq_getElem?_getD, h] using this
      have e : (mrows R).take i ++ [mrow R[i]] = (mrows R).take (i + 1) := by
        rw [List.take_succ_eq_append_getElem (by simp [mrows]; omega)]
        simp [mrows]
      have hr := mirror_row R R[i] hlen hok ((mrows R).take i) (by simp [mrows]; omega) hR (i : Int) (by omega) (by omega) (n, s, mrows R, 0) (by rw [e]; exact nx) R[i].length 0 (by omega)
      refine Ev.succ ?_
      simp only [tape_Mirror.l0]
      refine Ev.ifp (by omega) (Ev.ifp (by omega) (Ev.ifp (by omega) ?_))
      rw [hrd, mclone R[i] (by omega)]
      simp only [Option.bind_some]
      simpa using hr
  have h := rows R.length 0 (by omega)
  unfold tape_Mirror.f
  have key : ∀ b, Ev (fun k => tape_Valid.f k n s R) b → b = true → Ev (fun k => (tape_Valid.f k n s R).bind fun t => (if t = true then (tape_Mirror.l0 k R (R.length : Int) 0 n s ([] : List (List S57))) else (some (0, 0, ([] : List (List S57)), 1)))) (n, s, mrows R, 0) := by
    intro b hb e
    subst e
    refine Ev.bind' hb ?_
    simp only [↓reduceIte]
    simpa using h
  exact key true ((tape_valid n s R).pos vm) rfl

theorem BlockMirror : BlockMirrorStmt := by
  intro n s R st p l hn hs hR hst hp hl
  have hRl : R.length ≤ 17592186044416 := by have h := hR.1; simp only [reachBytes] at h; omega
  have hll : l.length < 17592186044416 := by have h := hl.1; simp only [reachBytes] at h; omega
  have hpb : -9223372036854775808 ≤ p ∧ p ≤ 9223372036854775807 := by
    simp [Lit.wf, IntKind.min, IntKind.max, IntKind.signed, IntKind.bits] at hp
    omega
  refine Ev.rounds (g := fun k => standstilllaw05_BlockMirror.f k n s R st p l) ?_
  have yes : Ev (fun k => (standstilllaw05_awake.f k).bind fun t => some t) true := Ev.bind' awake_ev (Ev.now _)
  have skip : Ev (fun k => standstilllaw05_BlockMirror.j0 k st p l true n s R) true := by
    refine Ev.succ ?_
    simp only [standstilllaw05_BlockMirror.j0, ↓reduceIte]
    exact yes
  have main : l.length ≤ 1000 → VM n s R → Ev (fun k => standstilllaw05_BlockMirror.j0 k st p l false n s R) true := by
    intro hl1 vm
    have vm' := mVM vm
    refine Ev.succ ?_
    simp only [standstilllaw05_BlockMirror.j0, Bool.false_eq_true, ↓reduceIte]
    refine Ev.bind' (mirror_ev vm) ?_
    have e1 : wrap64 ((l.length : Int) - 1) = (l.length : Int) - 1 := wrap_id (by omega) (by omega)
    simp only [e1]
    by_cases ha : Args n s st p l
    · obtain ⟨r, hr, hsem⟩ := Cross_ok vm ha
      have hp1 := ha.2.2.2.2.1
      have hp2 := ha.2.2.2.2.2.1
      have e2 : wrap64 ((l.length : Int) - 1 - p) = (l.length : Int) - 1 - p := wrap_id (by omega) (by omega)
      have ha' : Args n s st ((l.length : Int) - 1 - p) l.reverse := ⟨ha.1, ha.2.1, by simpa using ha.2.2.1, by simpa using ha.2.2.2.1, by omega, by simp; omega, fun x hx => ha.2.2.2.2.2.2 x (by simpa using hx)⟩
      obtain ⟨r', hr', hsem'⟩ := Cross_ok vm' ha'
      have hm := hsem.mir vm ha.good
      have er : r' = mres l.length r := by
        have h2 : Sem (mrows R) l.length (mir l.length (st, p, l)) r' := by simpa [mir] using hsem'
        exact h2.one hm
      refine Ev.bind' hr (Ev.bind' (turned_ev l hll) ?_)
      rw [e2]
      refine Ev.bind' hr' ?_
      simp only [↓reduceIte, bne_self_eq_false]
      refine Ev.succ ?_
      simp only [standstilllaw05_BlockMirror.j1, Bool.false_eq_true, ↓reduceIte]
      refine Ev.succ ?_
      simp only [standstilllaw05_BlockMirror.j2, beq_iff_eq]
      subst er
      rcases hsem with ⟨m, h1, h2, e⟩ | ⟨h1, e⟩
      · have gm := it_good vm ha.good m h1
        obtain ⟨g0, g1, g2, g3, g4, g5⟩ := gm
        generalize it R (st, p, l) m = c at e h2 g0 g1 g2 g3 g4 g5
        subst e
        have hk : kind (l.length : Int) c = 0 ∨ kind (l.length : Int) c = 1 ∨ kind (l.length : Int) c = 2 := by unfold kind; split <;> (try split) <;> omega
        simp only
        generalize kind (l.length : Int) c = q at hk ⊢
        refine Ev.ifn (by omega) ?_
        refine Ev.ifn (by omega) (Ev.succ ?_)
        simp only [standstilllaw05_BlockMirror.j3, decide_eq_true_eq]
        refine Ev.ifn (by omega) (Ev.ifp (by omega) (Ev.ifp (by simp only [List.length_cons, List.length_nil]; omega) ?_))
        have e3 : wrap64 ((l.length : Int) - 1 - c.2.1) = (l.length : Int) - 1 - c.2.1 := wrap_id (by omega) (by omega)
        have hq3 : ¬ q = 3 := by omega
        simp only [mres, if_neg hq3, e1, e3]
        refine Ev.ifp ?_ (Ev.ifp (by trivial) (Ev.ifp (by trivial) (Ev.ifp (by trivial) (Ev.bind' (turned_ev c.2.2 (by omega)) (Ev.bind' (same_ints c.2.2.reverse (by simp; omega)) ?_)))))
        · rcases hk with rfl | rfl | rfl <;> rfl
        · simp only [↓reduceIte]
          exact yes
      · subst e
        simp only [↓reduceIte, mres]
        exact Ev.ifn (by decide) yes
    · have ha' : ¬ Args n s st (wrap64 ((l.length : Int) - 1 - p)) l.reverse := by
        intro h
        obtain ⟨a0, a1, a2, a3, a4, a5, a6⟩ := h
        simp only [List.length_reverse] at a2 a3 a5
        have e : 0 ≤ p ∧ p < l.length := by
          unfold wrap64 at a4 a5
          omega
        exact ha ⟨a0, a1, a2, a3, e.1, e.2, fun x hx => a6 x (by simpa using hx)⟩
      refine Ev.bind' (Cross_arg vm ha (by omega)) (Ev.bind' (turned_ev l hll) (Ev.bind' (Cross_arg vm' ha' (by simp; omega)) ?_))
      simp only [↓reduceIte, bne_self_eq_false]
      refine Ev.succ ?_
      simp only [standstilllaw05_BlockMirror.j1, Bool.false_eq_true, ↓reduceIte]
      refine Ev.ifn (by decide) (Ev.succ ?_)
      simp only [standstilllaw05_BlockMirror.j2, ↓reduceIte]
      exact yes
  obtain ⟨b, hb⟩ := wide_ev n s R hRl
  unfold standstilllaw05_BlockMirror.f
  refine Ev.bind' hb (Ev.ite (fun _ => skip) (fun _ => Ev.ite (fun _ => skip) (fun h => ?_)))
  by_cases vm : VM n s R
  · exact Ev.bind' ((ref_valid n s R).pos vm) (main (by omega) vm)
  · exact Ev.bind' ((ref_valid n s R).neg vm) skip
end Go.Proofs.Ytfjfnpegpcdnaaa.Pure
