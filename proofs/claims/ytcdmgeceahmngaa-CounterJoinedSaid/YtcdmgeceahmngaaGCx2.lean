/- The functions of one seat as Lean functions, each with its contract: the call of the Go function returns what the Lean function answers. Written by a program of this session out of the translation; contracts made by hand are laid between. -/
import Derived.Test.YtcdmgeceahmngaaGCx0
import Derived.Test.YtcdmgeceahmngaaGCx1
namespace Go.Proofs.Ytcdmgeceahmngaa.GC
open Go.RowKit Go.Proofs.YtcdmgeceahmngaaW.PrintWords Go.Proofs.YtcdmgeceahmngaaW.PrintLast Go.Proofs.YtcdmgeceahmngaaW.PrintMore
attribute [local go_sem] max2_int min2_int max_two min_two max_three min_three max_four min_four   -- for this text's walks alone
set_option linter.unusedVariables false
set_option linter.unusedSimpArgs false

attribute [local go_sem high] eqA35
/-! ### standstillref06_index: function 21 -/
def standstillref06_index.f (a0_0 : Int) (l0_1 : List (S35)) (a1 : Int) : Option (Bool) := if a1 ≥ 0 then (some (decide (a1 < (l0_1.length : Int)))) else (some false)
set_option maxHeartbeats 8000000 in
set_option maxRecDepth 100000 in
theorem standstillref06_index.calls (a0_0 : Int) (A0_1 : Option Addr) (c0_1 : Nat) (l0_1 : List (S35)) (a1 : Int) (r : Bool) (w : World) (hr0_1 : Kd.C k35 w A0_1 l0_1.length l0_1) (hc0_1 : l0_1.length ≤ c0_1) (h : standstillref06_index.f a0_0 l0_1 a1 = some r) :
  Calls Try.prog 21 #[.agg #[.int .i64 a0_0, .slice A0_1 l0_1.length c0_1], .int .i64 a1] w fun e w' => e = .returned (.bool r) ∧ Below w.heap.size w w' := by
 have hu24 := Try.underlying24
 have HR0_1 := Aside0.mk hr0_1
 have HC0_1 := Aside0.mk hc0_1
 clear hr0_1 hc0_1
 have HB := Aside0.mk (Below.refl w.heap.size w)
 have H : (if a1 ≥ 0 then (some (decide (a1 < (l0_1.length : Int)))) else (some false)) = some r := h
 clear h
 by_cases c3 : a1 ≥ 0
 ·
  rw [if_pos c3] at H
  have c3b0 : decide (0 ≤ a1) = true := decide_eq_true c3
  clear c3
  obtain rfl := Option.some.inj H
  go_enter Try.func21, Try.ntmps21
  go_wp2_with (first | ((with_reducible refine gate_dst (N := 2) rfl ?_); (try (refine gate_guard (by rfl) ?_; dsimp only)); refine box_event ?hg (N := 2) ?hd (cs := #[.int .i64 a0_0, .slice A0_1 l0_1.length c0_1]) (t := 24) ?hr ?_; (case hd => rfl); (case hg => rfl); (case hr => first | (go_simp; done) | (go_simp; rfl)); intro gb101 hg w4 hbox hb; have BK101 := Aside0.mk (hbox); have GW101 := Aside0.mk ((by rw [hg]; exact (below_size (zB HB)) : w.heap.size ≤ gb101)); have GE101 := Aside0.mk ((by rw [hg]; exact (below_size (zB HB)) : w.heap.size ≤ gb101)); replace HB := Aside0.mk (below_step (zB HB) hb); clear hb hbox hg; have hz5 := zc2 BK101))
  go_ret
  exact ⟨by first | rfl | (simp [errW_none, errW_some] <;> rfl) | (simp [*, errW_none, errW_some] <;> rfl), zB HB⟩
 ·
  rw [if_neg c3] at H
  have c3b0 : decide (0 ≤ a1) = false := decide_eq_false c3
  clear c3
  obtain rfl := Option.some.inj H
  go_enter Try.func21, Try.ntmps21
  go_wp2_with (first | ((with_reducible refine gate_dst (N := 2) rfl ?_); (try (refine gate_guard (by rfl) ?_; dsimp only)); refine box_event ?hg (N := 2) ?hd (cs := #[.int .i64 a0_0, .slice A0_1 l0_1.length c0_1]) (t := 24) ?hr ?_; (case hd => rfl); (case hg => rfl); (case hr => first | (go_simp; done) | (go_simp; rfl)); intro gb101 hg w6 hbox hb; have BK101 := Aside0.mk (hbox); have GW101 := Aside0.mk ((by rw [hg]; exact (below_size (zB HB)) : w.heap.size ≤ gb101)); have GE101 := Aside0.mk ((by rw [hg]; exact (below_size (zB HB)) : w.heap.size ≤ gb101)); replace HB := Aside0.mk (below_step (zB HB) hb); clear hb hbox hg))
  go_ret
  exact ⟨by first | rfl | (simp [errW_none, errW_some] <;> rfl) | (simp [*, errW_none, errW_some] <;> rfl), zB HB⟩

/-! ### standstillref06_Valid: function 6 -/
mutual
def standstillref06_Valid.j0 : Nat → Bool → Int → List (S35) → Option (Bool)
 | 0, _, _, _ => none
 | k + 1, x24, x103000, x103001 => if x24 = true then (some false) else (standstillref06_Valid.l0 k 0 x103000 x103001)
def standstillref06_Valid.l0 : Nat → Int → Int → List (S35) → Option (Bool)
 | 0, _, _, _ => none
 | k + 1, x3, x103000, x103001 => if x3 < (x103001.length : Int) then (if 0 ≤ x3 then (if ((rd_T35 x103001 x3).f0) = 0 then (if ((rd_T35 x103001 x3).f1) < 0 then (some false) else (if ((rd_T35 x103001 x3).f1) ≥ x103000 then (some false) else ((standstillref06_index.f x103000 x103001 ((rd_T35 x103001 x3).f2)).bind fun t105 => (if t105 = true then (if ((rd_T35 x103001 x3).f3) = 0 then (standstillref06_Valid.l0 k (wrap64 (x3 + 1)) x103000 x103001) else (some false)) else (some false))))) else (if ((rd_T35 x103001 x3).f0) = 1 then (if ((rd_T35 x103001 x3).f1) < 0 then (some false) else (if ((rd_T35 x103001 x3).f1) ≥ x103000 then (some false) else ((standstillref06_index.f x103000 x103001 ((rd_T35 x103001 x3).f2)).bind fun t106 => (if t106 = true then ((standstillref06_index.f x103000 x103001 ((rd_T35 x103001 x3).f3)).bind fun t107 => (if t107 = true then (standstillref06_Valid.l0 k (wrap64 (x3 + 1)) x103000 x103001) else (some false))) else (some false))))) else (if ((rd_T35 x103001 x3).f0) = 2 then (if (!(((rd_T35 x103001 x3).f0) == 2) || (!(((rd_T35 x103001 x3).f1) == 0) || (!(((rd_T35 x103001 x3).f2) == 0) || (!(((rd_T35 x103001 x3).f3) == 0))))) = true then (some false) else (standstillref06_Valid.l0 k (wrap64 (x3 + 1)) x103000 x103001)) else (some false)))) else (none)) else (some true)
end
def standstillref06_Valid.f (k : Nat) (a0_0 : Int) (l0_1 : List (S35)) : Option (Bool) := if a0_0 < 1 then (standstillref06_Valid.j0 k true a0_0 l0_1) else (if a0_0 > 16 then (standstillref06_Valid.j0 k true a0_0 l0_1) else (if (l0_1.length : Int) < 1 then (standstillref06_Valid.j0 k true a0_0 l0_1) else (standstillref06_Valid.j0 k (decide ((l0_1.length : Int) > 2000)) a0_0 l0_1)))
theorem standstillref06_Valid.mono_l : ∀ k, (∀ y0 y1 y2, LeO (standstillref06_Valid.j0 k y0 y1 y2) (standstillref06_Valid.j0 (k + 1) y0 y1 y2)) ∧ (∀ y0 y1 y2, LeO (standstillref06_Valid.l0 k y0 y1 y2) (standstillref06_Valid.l0 (k + 1) y0 y1 y2))
 | 0 => ⟨fun _ _ _ r h => by simp [standstillref06_Valid.j0] at h, fun _ _ _ r h => by simp [standstillref06_Valid.l0] at h⟩
 | k + 1 => by
  obtain ⟨ih0, ih1⟩ := standstillref06_Valid.mono_l k
  refine ⟨?_, ?_⟩
  ·
   intro y0 y1 y2
   unfold standstillref06_Valid.j0
   repeat' first
   | (with_reducible exact ih0 _ _ _)
   | (with_reducible exact ih1 _ _ _)
   | (with_reducible exact LeO.refl _)
   | (with_reducible exact LeO.none _)
   | (with_reducible refine LeO.ite ?_ ?_)
   | (with_reducible refine LeO.bind ?_ (fun _ => ?_))
   | exact ih0 _ _ _
   | exact ih1 _ _ _
   | exact LeO.none _
   | refine LeO.ite ?_ ?_
   | refine LeO.bind ?_ (fun _ => ?_)
  ·
   intro y0 y1 y2
   unfold standstillref06_Valid.l0
   repeat' first
   | (with_reducible exact ih0 _ _ _)
   | (with_reducible exact ih1 _ _ _)
   | (with_reducible exact LeO.refl _)
   | (with_reducible exact LeO.none _)
   | (with_reducible refine LeO.ite ?_ ?_)
   | (with_reducible refine LeO.bind ?_ (fun _ => ?_))
   | exact ih0 _ _ _
   | exact ih1 _ _ _
   | exact LeO.none _
   | refine LeO.ite ?_ ?_
   | refine LeO.bind ?_ (fun _ => ?_)
theorem standstillref06_Valid.mono : ∀ a0 a1 k, LeO (standstillref06_Valid.f k a0 a1) (standstillref06_Valid.f (k + 1) a0 a1) := by
 intro a0 a1 k
 obtain ⟨ih0, ih1⟩ := standstillref06_Valid.mono_l k
 unfold standstillref06_Valid.f
 repeat' first
   | (with_reducible exact ih0 _ _ _)
   | (with_reducible exact ih1 _ _ _)
   | (with_reducible exact LeO.refl _)
   | (with_reducible exact LeO.none _)
   | (with_reducible refine LeO.ite ?_ ?_)
   | (with_reducible refine LeO.bind ?_ (fun _ => ?_))
   | exact ih0 _ _ _
   | exact ih1 _ _ _
   | exact LeO.none _
   | refine LeO.ite ?_ ?_
   | refine LeO.bind ?_ (fun _ => ?_)
set_option maxHeartbeats 8000000 in
set_option maxRecDepth 100000 in
theorem standstillref06_Valid.calls (k : Nat) (a0_0 : Int) (A0_1 : Option Addr) (c0_1 : Nat) (l0_1 : List (S35)) (r : Bool) (w : World) (hr0_1 : Kd.C k35 w A0_1 l0_1.length l0_1) (hc0_1 : l0_1.length ≤ c0_1) (h : standstillref06_Valid.f k a0_0 l0_1 = some r) :
  Calls Try.prog 6 #[.agg #[.int .i64 a0_0, .slice A0_1 l0_1.length c0_1]] w fun e w' => e = .returned (.bool r) ∧ Below w.heap.size w w' := by
 have hu24 := Try.underlying24
 have hu35 := Try.underlying35
 have HR0_1 := Aside0.mk hr0_1
 have HC0_1 := Aside0.mk hc0_1
 clear hr0_1 hc0_1
 have HB := Aside0.mk (Below.refl w.heap.size w)
 have H : (if a0_0 < 1 then (standstillref06_Valid.j0 k true a0_0 l0_1) else (if a0_0 > 16 then (standstillref06_Valid.j0 k true a0_0 l0_1) else (if (l0_1.length : Int) < 1 then (standstillref06_Valid.j0 k true a0_0 l0_1) else (standstillref06_Valid.j0 k (decide ((l0_1.length : Int) > 2000)) a0_0 l0_1)))) = some r := h
 clear h
 have HC2 := Aside0.mk H
 clear H
 go_enter Try.func6, Try.ntmps6
 go_upto_region 1 with (first | ((with_reducible refine gate_dst (N := 1) rfl ?_); (try (refine gate_guard (by rfl) ?_; dsimp only)); refine box_event ?hg (N := 1) ?hd (cs := #[.int .i64 a0_0, .slice A0_1 l0_1.length c0_1]) (t := 24) ?hr ?_; (case hd => rfl); (case hg => rfl); (case hr => first | (go_simp; done) | (go_simp; rfl)); intro gb102 hg w3 hbox hb; have BK102 := Aside0.mk (hbox); have GW102 := Aside0.mk ((by rw [hg]; exact (below_size (zB HB)) : w.heap.size ≤ gb102)); have GE102 := Aside0.mk ((by rw [hg]; exact (below_size (zB HB)) : w.heap.size ≤ gb102)); replace HB := Aside0.mk (below_step (zB HB) hb); clear hb hbox hg))
 (try simp only [Act.put, zs, zs0, zs1])
 go_cut [24] (fun v24 wc => ∃ (kq : Nat) (x24_1 : Bool), v24 = .bool x24_1 ∧ Aside0 (standstillref06_Valid.j0 kq x24_1 a0_0 l0_1 = some r) ∧ Aside0 (kq ≤ k) ∧ Aside0 (wc.heap[gb102]? = some (.cells #[.int .i64 a0_0, (.slice A0_1 l0_1.length c0_1)] 24 (0, 0))) ∧ Aside0 (Below w.heap.size w wc))
 case first =>
  have H := HC2.out
  clear HC2
  by_cases c4 : a0_0 < 1
  ·
   rw [if_pos c4] at H
   have c4b0 : decide (a0_0 < 1) = true := decide_eq_true c4
   clear c4
   (first | rw [c4b0] | (simp only [i64_w, i32_w]; rw [c4b0]) | skip)
   (try rw [c4b1])
   have H' := Aside0.mk H
   clear H
   have hz5 := zc2 BK102
   go_wp2
   go_meet
   case rel => exact ⟨_, (true), (by first | rfl | (simp; done) | (simp [*]; done)), H', ⟨by first | omega | exact Nat.le_refl _⟩, ⟨zk BK102⟩, ⟨zB HB⟩⟩
  ·
   rw [if_neg c4] at H
   have c4b0 : decide (a0_0 < 1) = false := decide_eq_false c4
   clear c4
   (first | rw [c4b0] | (simp only [i64_w, i32_w]; rw [c4b0]) | skip)
   (try rw [c4b1])
   by_cases c6 : a0_0 > 16
   ·
    rw [if_pos c6] at H
    have c6b0 : decide (16 < a0_0) = true := decide_eq_true c6
    clear c6
    have H' := Aside0.mk H
    clear H
    have hz7 := zc2 BK102
    go_wp2
    go_meet
    case rel => exact ⟨_, (true), (by first | rfl | (simp; done) | (simp [*]; done)), H', ⟨by first | omega | exact Nat.le_refl _⟩, ⟨zk BK102⟩, ⟨zB HB⟩⟩
   ·
    rw [if_neg c6] at H
    have c6b0 : decide (16 < a0_0) = false := decide_eq_false c6
    clear c6
    by_cases c8 : (l0_1.length : Int) < 1
    ·
     rw [if_pos c8] at H
     have c8b0 : decide ((l0_1.length : Int) < 1) = true := decide_eq_true c8
     have c8b1 : decide (l0_1.length < 1) = true := decide_eq_true (by omega)
     clear c8
     have H' := Aside0.mk H
     clear H
     have hz9 := zc2 BK102
     go_wp2
     go_meet
     case rel => exact ⟨_, (true), (by first | rfl | (simp; done) | (simp [*]; done)), H', ⟨by first | omega | exact Nat.le_refl _⟩, ⟨zk BK102⟩, ⟨zB HB⟩⟩
    ·
     rw [if_neg c8] at H
     have c8b0 : decide ((l0_1.length : Int) < 1) = false := decide_eq_false c8
     have c8b1 : decide (l0_1.length < 1) = false := decide_eq_false (by omega)
     clear c8
     have H' := Aside0.mk H
     clear H
     have hz10 := zc2 BK102
     go_wp2
     go_meet
     case rel => exact ⟨_, (decide ((l0_1.length : Int) > 2000)), (by first | rfl | (simp; done) | (simp [*]; done)), H', ⟨by first | omega | exact Nat.le_refl _⟩, ⟨zk BK102⟩, ⟨zB HB⟩⟩
 case rest =>
  clear HC2
  try clear p2
  try clear c4
  try clear c4b0
  try clear c4b1
  try clear c6
  try clear c6b0
  try clear c8
  try clear c8b0
  try clear c8b1
  try clear hz10
  try clear hz5
  try clear hz7
  try clear hz9
  obtain ⟨kq, x24_1, rfl, HA, HJ1, BK102, HB⟩ := hcut
  cases kq with
  | zero => exact absurd HA.out (by simp [standstillref06_Valid.j0])
  | succ kj1 =>
   have H := HA.out
   clear HA
   simp only [standstillref06_Valid.j0] at H
   by_cases c11 : x24_1 = true
   ·
    subst c11
    have H1 : (some false) = some r := by rw [if_pos rfl] at H; exact H
    clear H
    have H := H1
    clear H1
    obtain rfl := Option.some.inj H
    go_wp2
    go_ret
    exact ⟨by first | rfl | (simp [errW_none, errW_some] <;> rfl) | (simp [*, errW_none, errW_some] <;> rfl), zB HB⟩
   ·
    replace c11 := Bool.eq_false_iff.mpr c11
    subst c11
    have H1 : (standstillref06_Valid.l0 kj1 0 a0_0 l0_1) = some r := by rw [if_neg (show ¬ (false = true) by decide)] at H; exact H
    clear H
    have H := H1
    clear H1
    have H' := Aside0.mk H
    clear H
    go_wp2
    go_loopg [3] kj1 (fun kq v3 w' => ∃ (x3_2 : Int), v3 = .int .i64 x3_2 ∧ Aside0 (standstillref06_Valid.l0 kq x3_2 a0_0 l0_1 = some r) ∧ Aside0 (kq ≤ kj1) ∧ Aside0 (w'.heap[gb102]? = some (.cells #[.int .i64 a0_0, (.slice A0_1 l0_1.length c0_1)] 24 (0, 0))) ∧ Aside0 (Below w.heap.size w w'))
    case atStart => exact ⟨(0), (by first | rfl | (simp; done) | (simp [*]; done)), H', ⟨Nat.le_refl _⟩, ⟨zk BK102⟩, ⟨zB HB⟩⟩
    case round =>
     clear H'
     try clear c1
     try clear p2
     try clear c4
     try clear c4b0
     try clear c4b1
     try clear c6
     try clear c6b0
     try clear c8
     try clear c8b0
     try clear c8b1
     try clear c11
     try clear hz10
     try clear hz5
     try clear hz7
     try clear hz9
     try clear p2
     obtain ⟨x3_2, rfl, HA, HK2, BK102, HB⟩ := hrel
     cases gk with
     | zero => exact absurd HA.out (by simp [standstillref06_Valid.l0])
     | succ k2 =>
      have H := HA.out
      clear HA
      simp only [standstillref06_Valid.l0] at H
      by_cases c12 : x3_2 < (l0_1.length : Int)
      ·
       rw [if_pos c12] at H
       have c12b0 : decide (x3_2 < (l0_1.length : Int)) = true := decide_eq_true c12
       clear c12
       by_cases c13 : 0 ≤ x3_2
       ·
        rw [if_pos c13] at H
        have c13b0 : decide (0 ≤ x3_2) = true := decide_eq_true c13
        clear c13
        by_cases c14 : ((rd_T35 l0_1 x3_2).f0) = 0
        ·
         rw [if_pos c14] at H
         have c14b0 : (((rd_T35 l0_1 x3_2).f0) == 0) = true := beq_iff_eq.mpr c14
         have c14b1 : (((rd_T35 l0_1 x3_2).f0) != 0) = false := bne_eq_false_iff_eq.mpr c14
         clear c14
         by_cases c15 : ((rd_T35 l0_1 x3_2).f1) < 0
         ·
          rw [if_pos c15] at H
          have c15b0 : decide (((rd_T35 l0_1 x3_2).f1) < 0) = true := decide_eq_true c15
          clear c15
          obtain rfl := Option.some.inj H
          have hz16 := zc2 BK102
          have p103 : 0 ≤ (x3_2 : Int) := of_decide_eq_true (by first | (with_reducible assumption) | assumption)
          have q103 : x3_2 < (l0_1.length : Int) := of_decide_eq_true (by first | (with_reducible assumption) | assumption)
          obtain ⟨ad103, e103, hx103_0, hx103_1, hx103_2, hx103_3⟩ := at_T35 HR0_1.out x3_2 p103 q103
          cases e103
          replace hx103_0 := (HB.out.cell (World.block_lt_of_cell? w _ hx103_0)).trans hx103_0
          replace hx103_1 := (HB.out.cell (World.block_lt_of_cell? w _ hx103_1)).trans hx103_1
          replace hx103_2 := (HB.out.cell (World.block_lt_of_cell? w _ hx103_2)).trans hx103_2
          replace hx103_3 := (HB.out.cell (World.block_lt_of_cell? w _ hx103_3)).trans hx103_3
          replace p103 := eq_true p103
          replace q103 := eq_true q103
          go_wp2_with (first | ((with_reducible refine gate_dst (N := 4) rfl ?_); (try (refine gate_guard (by rfl) ?_; dsimp only)); refine box_event ?hg (N := 4) ?hd (cs := #[.int .i64 0, .int .i64 0, .int .i64 0, .int .i64 0]) (t := 35) ?hr ?_; (case hd => rfl); (case hg => rfl); (case hr => first | (go_simp; done) | (go_simp; rfl)); intro gb104 hg w17 hbox hb; have BK104 := Aside0.mk (hbox); have GW104 := Aside0.mk ((by rw [hg]; exact (below_size (zB HB)) : w.heap.size ≤ gb104)); have GE104 := Aside0.mk ((by rw [hg]; exact (below_size (zB HB)) : w.heap.size ≤ gb104)); have NB102_104 := Aside0.mk ((by rw [hg]; exact Nat.ne_of_lt (zL BK102) : gb102 ≠ gb104)); have NB104_102 := Aside0.mk ((by rw [hg]; exact Nat.ne_of_gt (zL BK102) : gb104 ≠ gb102)); replace BK102 := Aside0.mk (zb BK102 hb); replace HB := Aside0.mk (below_step (zB HB) hb); clear hb hbox hg; have hnb18 := NB104_102.out; have hnc18 := NB102_104.out; have hz19 := zc4 BK104))
          go_ret
          exact ⟨by first | rfl | (simp [errW_none, errW_some] <;> rfl) | (simp [*, errW_none, errW_some] <;> rfl), zB HB⟩
         ·
          rw [if_neg c15] at H
          have c15b0 : decide (((rd_T35 l0_1 x3_2).f1) < 0) = false := decide_eq_false c15
          clear c15
          by_cases c20 : ((rd_T35 l0_1 x3_2).f1) ≥ a0_0
          ·
           rw [if_pos c20] at H
           have c20b0 : decide (a0_0 ≤ ((rd_T35 l0_1 x3_2).f1)) = true := decide_eq_true c20
           clear c20
           obtain rfl := Option.some.inj H
           have hz21 := zc2 BK102
           have p103 : 0 ≤ (x3_2 : Int) := of_decide_eq_true (by first | (with_reducible assumption) | assumption)
           have q103 : x3_2 < (l0_1.length : Int) := of_decide_eq_true (by first | (with_reducible assumption) | assumption)
           obtain ⟨ad103, e103, hx103_0, hx103_1, hx103_2, hx103_3⟩ := at_T35 HR0_1.out x3_2 p103 q103
           cases e103
           replace hx103_0 := (HB.out.cell (World.block_lt_of_cell? w _ hx103_0)).trans hx103_0
           replace hx103_1 := (HB.out.cell (World.block_lt_of_cell? w _ hx103_1)).trans hx103_1
           replace hx103_2 := (HB.out.cell (World.block_lt_of_cell? w _ hx103_2)).trans hx103_2
           replace hx103_3 := (HB.out.cell (World.block_lt_of_cell? w _ hx103_3)).trans hx103_3
           replace p103 := eq_true p103
           replace q103 := eq_true q103
           go_wp2_with (first | ((with_reducible refine gate_dst (N := 4) rfl ?_); (try (refine gate_guard (by rfl) ?_; dsimp only)); refine box_event ?hg (N := 4) ?hd (cs := #[.int .i64 0, .int .i64 0, .int .i64 0, .int .i64 0]) (t := 35) ?hr ?_; (case hd => rfl); (case hg => rfl); (case hr => first | (go_simp; done) | (go_simp; rfl)); intro gb104 hg w22 hbox hb; have BK104 := Aside0.mk (hbox); have GW104 := Aside0.mk ((by rw [hg]; exact (below_size (zB HB)) : w.heap.size ≤ gb104)); have GE104 := Aside0.mk ((by rw [hg]; exact (below_size (zB HB)) : w.heap.size ≤ gb104)); have NB102_104 := Aside0.mk ((by rw [hg]; exact Nat.ne_of_lt (zL BK102) : gb102 ≠ gb104)); have NB104_102 := Aside0.mk ((by rw [hg]; exact Nat.ne_of_gt (zL BK102) : gb104 ≠ gb102)); replace BK102 := Aside0.mk (zb BK102 hb); replace HB := Aside0.mk (below_step (zB HB) hb); clear hb hbox hg; have hnb23 := NB104_102.out; have hnc23 := NB102_104.out; have hz24 := zc4 BK104; have hz25 := zc2 BK102))
           go_ret
           exact ⟨by first | rfl | (simp [errW_none, errW_some] <;> rfl) | (simp [*, errW_none, errW_some] <;> rfl), zB HB⟩
          ·
           rw [if_neg c20] at H
           have c20b0 : decide (a0_0 ≤ ((rd_T35 l0_1 x3_2).f1)) = false := decide_eq_false c20
           clear c20
           replace H := Option.bind_eq_some_iff.mp H
           obtain ⟨t105, A260, H⟩ := H
           replace H : (if t105 = true then (if ((rd_T35 l0_1 x3_2).f3) = 0 then (standstillref06_Valid.l0 k2 (wrap64 (x3_2 + 1)) a0_0 l0_1) else (some false)) else (some false)) = some r := H
           have A26 := Aside0.mk A260
           clear A260
           by_cases c27 : t105 = true
           ·
            subst c27
            have H1 : (if ((rd_T35 l0_1 x3_2).f3) = 0 then (standstillref06_Valid.l0 k2 (wrap64 (x3_2 + 1)) a0_0 l0_1) else (some false)) = some r := by rw [if_pos rfl] at H; exact H
            clear H
            have H := H1
            clear H1
            by_cases c28 : ((rd_T35 l0_1 x3_2).f3) = 0
            ·
             rw [if_pos c28] at H
             have c28b0 : (((rd_T35 l0_1 x3_2).f3) == 0) = true := beq_iff_eq.mpr c28
             have c28b1 : (((rd_T35 l0_1 x3_2).f3) != 0) = false := bne_eq_false_iff_eq.mpr c28
             clear c28
             have H' := Aside0.mk H
             clear H
             have hz29 := zc2 BK102
             have p103 : 0 ≤ (x3_2 : Int) := of_decide_eq_true (by first | (with_reducible assumption) | assumption)
             have q103 : x3_2 < (l0_1.length : Int) := of_decide_eq_true (by first | (with_reducible assumption) | assumption)
             obtain ⟨ad103, e103, hx103_0, hx103_1, hx103_2, hx103_3⟩ := at_T35 HR0_1.out x3_2 p103 q103
             cases e103
             replace hx103_0 := (HB.out.cell (World.block_lt_of_cell? w _ hx103_0)).trans hx103_0
             replace hx103_1 := (HB.out.cell (World.block_lt_of_cell? w _ hx103_1)).trans hx103_1
             replace hx103_2 := (HB.out.cell (World.block_lt_of_cell? w _ hx103_2)).trans hx103_2
             replace hx103_3 := (HB.out.cell (World.block_lt_of_cell? w _ hx103_3)).trans hx103_3
             replace p103 := eq_true p103
             replace q103 := eq_true q103
             go_wp2_with (first | ((with_reducible refine gate_dst (N := 4) rfl ?_); (try (refine gate_guard (by rfl) ?_; dsimp only)); refine box_event ?hg (N := 4) ?hd (cs := #[.int .i64 0, .int .i64 0, .int .i64 0, .int .i64 0]) (t := 35) ?hr ?_; (case hd => rfl); (case hg => rfl); (case hr => first | (go_simp; done) | (go_simp; rfl)); intro gb104 hg w30 hbox hb; have BK104 := Aside0.mk (hbox); have GW104 := Aside0.mk ((by rw [hg]; exact (below_size (zB HB)) : w.heap.size ≤ gb104)); have GE104 := Aside0.mk ((by rw [hg]; exact (below_size (zB HB)) : w.heap.size ≤ gb104)); have NB102_104 := Aside0.mk ((by rw [hg]; exact Nat.ne_of_lt (zL BK102) : gb102 ≠ gb104)); have NB104_102 := Aside0.mk ((by rw [hg]; exact Nat.ne_of_gt (zL BK102) : gb104 ≠ gb102)); replace BK102 := Aside0.mk (zb BK102 hb); replace HB := Aside0.mk (below_step (zB HB) hb); clear hb hbox hg; have hnb31 := NB104_102.out; have hnc31 := NB102_104.out; have hz32 := zc4 BK104; have hz33 := zc2 BK102) | (go_at_call 21; (with_reducible refine (standstillref06_index.calls a0_0 _ _ l0_1 ((rd_T35 l0_1 x3_2).f2) true _ ?side1 ?side2 A26.out).mono ?_); (case side1 => exact Kd.C_below HR0_1.out (zB HB)); (case side2 => exact HC0_1.out); rintro e w34 ⟨rfl, hb⟩; replace BK102 := Aside0.mk (blk_below (g := gb102) (o := .cells #[.int .i64 a0_0, .slice (some ad103) l0_1.length c0_1] 24 (0, 0)) (zK BK102) hb); replace BK104 := Aside0.mk (blk_below (g := gb104) (o := .cells #[.int .i64 ((rd_T35 l0_1 x3_2).f0), .int .i64 ((rd_T35 l0_1 x3_2).f1), .int .i64 ((rd_T35 l0_1 x3_2).f2), .int .i64 ((rd_T35 l0_1 x3_2).f3)] 35 (0, 0)) (by (with_reducible repeat (first | refine blk_drewN ?_ _ | refine blk_drew ?_ | refine blk_alloc ?_ _)); refine blk_put (cs := #[.int .i64 ((rd_T35 l0_1 x3_2).f0), .int .i64 ((rd_T35 l0_1 x3_2).f1), .int .i64 ((rd_T35 l0_1 x3_2).f2), .int .i64 0]) ?_ 3 _ rfl; (with_reducible repeat (first | refine blk_drewN ?_ _ | refine blk_drew ?_ | refine blk_alloc ?_ _)); refine blk_put (cs := #[.int .i64 ((rd_T35 l0_1 x3_2).f0), .int .i64 ((rd_T35 l0_1 x3_2).f1), .int .i64 0, .int .i64 0]) ?_ 2 _ rfl; (with_reducible repeat (first | refine blk_drewN ?_ _ | refine blk_drew ?_ | refine blk_alloc ?_ _)); refine blk_put (cs := #[.int .i64 ((rd_T35 l0_1 x3_2).f0), .int .i64 0, .int .i64 0, .int .i64 0]) ?_ 1 _ rfl; (with_reducible repeat (first | refine blk_drewN ?_ _ | refine blk_drew ?_ | refine blk_alloc ?_ _)); refine blk_put (cs := #[.int .i64 0, .int .i64 0, .int .i64 0, .int .i64 0]) ?_ 0 _ rfl; (with_reducible repeat (first | refine blk_drewN ?_ _ | refine blk_drew ?_ | refine blk_alloc ?_ _)); exact BK104.out) hb); replace HB := Aside0.mk (below_step (zB HB) hb); (try clear hb); (try clear hb2); (try clear hk); (try clear hi); have hz35 := zc4 BK104))
             go_roundg k2
             case measure => have := HJ1.out; have := HK2.out; omega
             case rel => exact ⟨(wrap64 (x3_2 + 1)), (by first | rfl | (simp; done) | (simp [*]; done)), H', ⟨by have := HJ1.out; have := HK2.out; omega⟩, ⟨zk BK102⟩, ⟨zB HB⟩⟩
            ·
             rw [if_neg c28] at H
             have c28b0 : (((rd_T35 l0_1 x3_2).f3) == 0) = false := beq_eq_false_iff_ne.mpr c28
             have c28b1 : (((rd_T35 l0_1 x3_2).f3) != 0) = true := bne_iff_ne.mpr c28
             obtain rfl := Option.some.inj H
             have hz36 := zc2 BK102
             have p103 : 0 ≤ (x3_2 : Int) := of_decide_eq_true (by first | (with_reducible assumption) | assumption)
             have q103 : x3_2 < (l0_1.length : Int) := of_decide_eq_true (by first | (with_reducible assumption) | assumption)
             obtain ⟨ad103, e103, hx103_0, hx103_1, hx103_2, hx103_3⟩ := at_T35 HR0_1.out x3_2 p103 q103
             cases e103
             replace hx103_0 := (HB.out.cell (World.block_lt_of_cell? w _ hx103_0)).trans hx103_0
             replace hx103_1 := (HB.out.cell (World.block_lt_of_cell? w _ hx103_1)).trans hx103_1
             replace hx103_2 := (HB.out.cell (World.block_lt_of_cell? w _ hx103_2)).trans hx103_2
             replace hx103_3 := (HB.out.cell (World.block_lt_of_cell? w _ hx103_3)).trans hx103_3
             replace p103 := eq_true p103
             replace q103 := eq_true q103
             go_wp2_with (first | ((with_reducible refine gate_dst (N := 4) rfl ?_); (try (refine gate_guard (by rfl) ?_; dsimp only)); refine box_event ?hg (N := 4) ?hd (cs := #[.int .i64 0, .int .i64 0, .int .i64 0, .int .i64 0]) (t := 35) ?hr ?_; (case hd => rfl); (case hg => rfl); (case hr => first | (go_simp; done) | (go_simp; rfl)); intro gb104 hg w37 hbox hb; have BK104 := Aside0.mk (hbox); have GW104 := Aside0.mk ((by rw [hg]; exact (below_size (zB HB)) : w.heap.size ≤ gb104)); have GE104 := Aside0.mk ((by rw [hg]; exact (below_size (zB HB)) : w.heap.size ≤ gb104)); have NB102_104 := Aside0.mk ((by rw [hg]; exact Nat.ne_of_lt (zL BK102) : gb102 ≠ gb104)); have NB104_102 := Aside0.mk ((by rw [hg]; exact Nat.ne_of_gt (zL BK102) : gb104 ≠ gb102)); replace BK102 := Aside0.mk (zb BK102 hb); replace HB := Aside0.mk (below_step (zB HB) hb); clear hb hbox hg; have hnb38 := NB104_102.out; have hnc38 := NB102_104.out; have hz39 := zc4 BK104; have hz40 := zc2 BK102) | (go_at_call 21; (with_reducible refine (standstillref06_index.calls a0_0 _ _ l0_1 ((rd_T35 l0_1 x3_2).f2) true _ ?side1 ?side2 A26.out).mono ?_); (case side1 => exact Kd.C_below HR0_1.out (zB HB)); (case side2 => exact HC0_1.out); rintro e w41 ⟨rfl, hb⟩; replace BK102 := Aside0.mk (blk_below (g := gb102) (o := .cells #[.int .i64 a0_0, .slice (some ad103) l0_1.length c0_1] 24 (0, 0)) (zK BK102) hb); replace BK104 := Aside0.mk (blk_below (g := gb104) (o := .cells #[.int .i64 ((rd_T35 l0_1 x3_2).f0), .int .i64 ((rd_T35 l0_1 x3_2).f1), .int .i64 ((rd_T35 l0_1 x3_2).f2), .int .i64 ((rd_T35 l0_1 x3_2).f3)] 35 (0, 0)) (by (with_reducible repeat (first | refine blk_drewN ?_ _ | refine blk_drew ?_ | refine blk_alloc ?_ _)); refine blk_put (cs := #[.int .i64 ((rd_T35 l0_1 x3_2).f0), .int .i64 ((rd_T35 l0_1 x3_2).f1), .int .i64 ((rd_T35 l0_1 x3_2).f2), .int .i64 0]) ?_ 3 _ rfl; (with_reducible repeat (first | refine blk_drewN ?_ _ | refine blk_drew ?_ | refine blk_alloc ?_ _)); refine blk_put (cs := #[.int .i64 ((rd_T35 l0_1 x3_2).f0), .int .i64 ((rd_T35 l0_1 x3_2).f1), .int .i64 0, .int .i64 0]) ?_ 2 _ rfl; (with_reducible repeat (first | refine blk_drewN ?_ _ | refine blk_drew ?_ | refine blk_alloc ?_ _)); refine blk_put (cs := #[.int .i64 ((rd_T35 l0_1 x3_2).f0), .int .i64 0, .int .i64 0, .int .i64 0]) ?_ 1 _ rfl; (with_reducible repeat (first | refine blk_drewN ?_ _ | refine blk_drew ?_ | refine blk_alloc ?_ _)); refine blk_put (cs := #[.int .i64 0, .int .i64 0, .int .i64 0, .int .i64 0]) ?_ 0 _ rfl; (with_reducible repeat (first | refine blk_drewN ?_ _ | refine blk_drew ?_ | refine blk_alloc ?_ _)); exact BK104.out) hb); replace HB := Aside0.mk (below_step (zB HB) hb); (try clear hb); (try clear hb2); (try clear hk); (try clear hi); have hz42 := zc4 BK104))
             go_ret
             exact ⟨by first | rfl | (simp [errW_none, errW_some] <;> rfl) | (simp [*, errW_none, errW_some] <;> rfl), zB HB⟩
           ·
            replace c27 := Bool.eq_false_iff.mpr c27
            subst c27
            have H1 : (some false) = some r := by rw [if_neg (show ¬ (false = true) by decide)] at H; exact H
            clear H
            have H := H1
            clear H1
            obtain rfl := Option.some.inj H
            have hz43 := zc2 BK102
            have p103 : 0 ≤ (x3_2 : Int) := of_decide_eq_true (by first | (with_reducible assumption) | assumption)
            have q103 : x3_2 < (l0_1.length : Int) := of_decide_eq_true (by first | (with_reducible assumption) | assumption)
            obtain ⟨ad103, e103, hx103_0, hx103_1, hx103_2, hx103_3⟩ := at_T35 HR0_1.out x3_2 p103 q103
            cases e103
            replace hx103_0 := (HB.out.cell (World.block_lt_of_cell? w _ hx103_0)).trans hx103_0
            replace hx103_1 := (HB.out.cell (World.block_lt_of_cell? w _ hx103_1)).trans hx103_1
            replace hx103_2 := (HB.out.cell (World.block_lt_of_cell? w _ hx103_2)).trans hx103_2
            replace hx103_3 := (HB.out.cell (World.block_lt_of_cell? w _ hx103_3)).trans hx103_3
            replace p103 := eq_true p103
            replace q103 := eq_true q103
            go_wp2_with (first | ((with_reducible refine gate_dst (N := 4) rfl ?_); (try (refine gate_guard (by rfl) ?_; dsimp only)); refine box_event ?hg (N := 4) ?hd (cs := #[.int .i64 0, .int .i64 0, .int .i64 0, .int .i64 0]) (t := 35) ?hr ?_; (case hd => rfl); (case hg => rfl); (case hr => first | (go_simp; done) | (go_simp; rfl)); intro gb104 hg w44 hbox hb; have BK104 := Aside0.mk (hbox); have GW104 := Aside0.mk ((by rw [hg]; exact (below_size (zB HB)) : w.heap.size ≤ gb104)); have GE104 := Aside0.mk ((by rw [hg]; exact (below_size (zB HB)) : w.heap.size ≤ gb104)); have NB102_104 := Aside0.mk ((by rw [hg]; exact Nat.ne_of_lt (zL BK102) : gb102 ≠ gb104)); have NB104_102 := Aside0.mk ((by rw [hg]; exact Nat.ne_of_gt (zL BK102) : gb104 ≠ gb102)); replace BK102 := Aside0.mk (zb BK102 hb); replace HB := Aside0.mk (below_step (zB HB) hb); clear hb hbox hg; have hnb45 := NB104_102.out; have hnc45 := NB102_104.out; have hz46 := zc4 BK104; have hz47 := zc2 BK102) | (go_at_call 21; (with_reducible refine (standstillref06_index.calls a0_0 _ _ l0_1 ((rd_T35 l0_1 x3_2).f2) false _ ?side1 ?side2 A26.out).mono ?_); (case side1 => exact Kd.C_below HR0_1.out (zB HB)); (case side2 => exact HC0_1.out); rintro e w48 ⟨rfl, hb⟩; replace BK102 := Aside0.mk (blk_below (g := gb102) (o := .cells #[.int .i64 a0_0, .slice (some ad103) l0_1.length c0_1] 24 (0, 0)) (zK BK102) hb); replace BK104 := Aside0.mk (blk_below (g := gb104) (o := .cells #[.int .i64 ((rd_T35 l0_1 x3_2).f0), .int .i64 ((rd_T35 l0_1 x3_2).f1), .int .i64 ((rd_T35 l0_1 x3_2).f2), .int .i64 ((rd_T35 l0_1 x3_2).f3)] 35 (0, 0)) (by (with_reducible repeat (first | refine blk_drewN ?_ _ | refine blk_drew ?_ | refine blk_alloc ?_ _)); refine blk_put (cs := #[.int .i64 ((rd_T35 l0_1 x3_2).f0), .int .i64 ((rd_T35 l0_1 x3_2).f1), .int .i64 ((rd_T35 l0_1 x3_2).f2), .int .i64 0]) ?_ 3 _ rfl; (with_reducible repeat (first | refine blk_drewN ?_ _ | refine blk_drew ?_ | refine blk_alloc ?_ _)); refine blk_put (cs := #[.int .i64 ((rd_T35 l0_1 x3_2).f0), .int .i64 ((rd_T35 l0_1 x3_2).f1), .int .i64 0, .int .i64 0]) ?_ 2 _ rfl; (with_reducible repeat (first | refine blk_drewN ?_ _ | refine blk_drew ?_ | refine blk_alloc ?_ _)); refine blk_put (cs := #[.int .i64 ((rd_T35 l0_1 x3_2).f0), .int .i64 0, .int .i64 0, .int .i64 0]) ?_ 1 _ rfl; (with_reducible repeat (first | refine blk_drewN ?_ _ | refine blk_drew ?_ | refine blk_alloc ?_ _)); refine blk_put (cs := #[.int .i64 0, .int .i64 0, .int .i64 0, .int .i64 0]) ?_ 0 _ rfl; (with_reducible repeat (first | refine blk_drewN ?_ _ | refine blk_drew ?_ | refine blk_alloc ?_ _)); exact BK104.out) hb); replace HB := Aside0.mk (below_step (zB HB) hb); (try clear hb); (try clear hb2); (try clear hk); (try clear hi)))
            go_ret
            exact ⟨by first | rfl | (simp [errW_none, errW_some] <;> rfl) | (simp [*, errW_none, errW_some] <;> rfl), zB HB⟩
        ·
         rw [if_neg c14] at H
         have c14b0 : (((rd_T35 l0_1 x3_2).f0) == 0) = false := beq_eq_false_iff_ne.mpr c14
         have c14b1 : (((rd_T35 l0_1 x3_2).f0) != 0) = true := bne_iff_ne.mpr c14
         by_cases c49 : ((rd_T35 l0_1 x3_2).f0) = 1
         ·
          rw [if_pos c49] at H
          have c49b0 : (((rd_T35 l0_1 x3_2).f0) == 1) = true := beq_iff_eq.mpr c49
          have c49b1 : (((rd_T35 l0_1 x3_2).f0) != 1) = false := bne_eq_false_iff_eq.mpr c49
          clear c49
          by_cases c50 : ((rd_T35 l0_1 x3_2).f1) < 0
          ·
           rw [if_pos c50] at H
           have c50b0 : decide (((rd_T35 l0_1 x3_2).f1) < 0) = true := decide_eq_true c50
           clear c50
           obtain rfl := Option.some.inj H
           have hz51 := zc2 BK102
           have p103 : 0 ≤ (x3_2 : Int) := of_decide_eq_true (by first | (with_reducible assumption) | assumption)
           have q103 : x3_2 < (l0_1.length : Int) := of_decide_eq_true (by first | (with_reducible assumption) | assumption)
           obtain ⟨ad103, e103, hx103_0, hx103_1, hx103_2, hx103_3⟩ := at_T35 HR0_1.out x3_2 p103 q103
           cases e103
           replace hx103_0 := (HB.out.cell (World.block_lt_of_cell? w _ hx103_0)).trans hx103_0
           replace hx103_1 := (HB.out.cell (World.block_lt_of_cell? w _ hx103_1)).trans hx103_1
           replace hx103_2 := (HB.out.cell (World.block_lt_of_cell? w _ hx103_2)).trans hx103_2
           replace hx103_3 := (HB.out.cell (World.block_lt_of_cell? w _ hx103_3)).trans hx103_3
           replace p103 := eq_true p103
           replace q103 := eq_true q103
           go_wp2_with (first | ((with_reducible refine gate_dst (N := 4) rfl ?_); (try (refine gate_guard (by rfl) ?_; dsimp only)); refine box_event ?hg (N := 4) ?hd (cs := #[.int .i64 0, .int .i64 0, .int .i64 0, .int .i64 0]) (t := 35) ?hr ?_; (case hd => rfl); (case hg => rfl); (case hr => first | (go_simp; done) | (go_simp; rfl)); intro gb104 hg w52 hbox hb; have BK104 := Aside0.mk (hbox); have GW104 := Aside0.mk ((by rw [hg]; exact (below_size (zB HB)) : w.heap.size ≤ gb104)); have GE104 := Aside0.mk ((by rw [hg]; exact (below_size (zB HB)) : w.heap.size ≤ gb104)); have NB102_104 := Aside0.mk ((by rw [hg]; exact Nat.ne_of_lt (zL BK102) : gb102 ≠ gb104)); have NB104_102 := Aside0.mk ((by rw [hg]; exact Nat.ne_of_gt (zL BK102) : gb104 ≠ gb102)); replace BK102 := Aside0.mk (zb BK102 hb); replace HB := Aside0.mk (below_step (zB HB) hb); clear hb hbox hg; have hnb53 := NB104_102.out; have hnc53 := NB102_104.out; have hz54 := zc4 BK104))
           go_ret
           exact ⟨by first | rfl | (simp [errW_none, errW_some] <;> rfl) | (simp [*, errW_none, errW_some] <;> rfl), zB HB⟩
          ·
           rw [if_neg c50] at H
           have c50b0 : decide (((rd_T35 l0_1 x3_2).f1) < 0) = false := decide_eq_false c50
           clear c50
           by_cases c55 : ((rd_T35 l0_1 x3_2).f1) ≥ a0_0
           ·
            rw [if_pos c55] at H
            have c55b0 : decide (a0_0 ≤ ((rd_T35 l0_1 x3_2).f1)) = true := decide_eq_true c55
            clear c55
            obtain rfl := Option.some.inj H
            have hz56 := zc2 BK102
            have p103 : 0 ≤ (x3_2 : Int) := of_decide_eq_true (by first | (with_reducible assumption) | assumption)
            have q103 : x3_2 < (l0_1.length : Int) := of_decide_eq_true (by first | (with_reducible assumption) | assumption)
            obtain ⟨ad103, e103, hx103_0, hx103_1, hx103_2, hx103_3⟩ := at_T35 HR0_1.out x3_2 p103 q103
            cases e103
            replace hx103_0 := (HB.out.cell (World.block_lt_of_cell? w _ hx103_0)).trans hx103_0
            replace hx103_1 := (HB.out.cell (World.block_lt_of_cell? w _ hx103_1)).trans hx103_1
            replace hx103_2 := (HB.out.cell (World.block_lt_of_cell? w _ hx103_2)).trans hx103_2
            replace hx103_3 := (HB.out.cell (World.block_lt_of_cell? w _ hx103_3)).trans hx103_3
            replace p103 := eq_true p103
            replace q103 := eq_true q103
            go_wp2_with (first | ((with_reducible refine gate_dst (N := 4) rfl ?_); (try (refine gate_guard (by rfl) ?_; dsimp only)); refine box_event ?hg (N := 4) ?hd (cs := #[.int .i64 0, .int .i64 0, .int .i64 0, .int .i64 0]) (t := 35) ?hr ?_; (case hd => rfl); (case hg => rfl); (case hr => first | (go_simp; done) | (go_simp; rfl)); intro gb104 hg w57 hbox hb; have BK104 := Aside0.mk (hbox); have GW104 := Aside0.mk ((by rw [hg]; exact (below_size (zB HB)) : w.heap.size ≤ gb104)); have GE104 := Aside0.mk ((by rw [hg]; exact (below_size (zB HB)) : w.heap.size ≤ gb104)); have NB102_104 := Aside0.mk ((by rw [hg]; exact Nat.ne_of_lt (zL BK102) : gb102 ≠ gb104)); have NB104_102 := Aside0.mk ((by rw [hg]; exact Nat.ne_of_gt (zL BK102) : gb104 ≠ gb102)); replace BK102 := Aside0.mk (zb BK102 hb); replace HB := Aside0.mk (below_step (zB HB) hb); clear hb hbox hg; have hnb58 := NB104_102.out; have hnc58 := NB102_104.out; have hz59 := zc4 BK104; have hz60 := zc2 BK102))
            go_ret
            exact ⟨by first | rfl | (simp [errW_none, errW_some] <;> rfl) | (simp [*, errW_none, errW_some] <;> rfl), zB HB⟩
           ·
            rw [if_neg c55] at H
            have c55b0 : decide (a0_0 ≤ ((rd_T35 l0_1 x3_2).f1)) = false := decide_eq_false c55
            clear c55
            replace H := Option.bind_eq_some_iff.mp H
            obtain ⟨t106, A610, H⟩ := H
            replace H : (if t106 = true then ((standstillref06_index.f a0_0 l0_1 ((rd_T35 l0_1 x3_2).f3)).bind fun t107 => (if t107 = true then (standstillref06_Valid.l0 k2 (wrap64 (x3_2 + 1)) a0_0 l0_1) else (some false))) else (some false)) = some r := H
            have A61 := Aside0.mk A610
            clear A610
            by_cases c62 : t106 = true
            ·
             subst c62
             have H1 : ((standstillref06_index.f a0_0 l0_1 ((rd_T35 l0_1 x3_2).f3)).bind fun t107 => (if t107 = true then (standstillref06_Valid.l0 k2 (wrap64 (x3_2 + 1)) a0_0 l0_1) else (some false))) = some r := by rw [if_pos rfl] at H; exact H
             clear H
             have H := H1
             clear H1
             replace H := Option.bind_eq_some_iff.mp H
             obtain ⟨t107, A630, H⟩ := H
             replace H : (if t107 = true then (standstillref06_Valid.l0 k2 (wrap64 (x3_2 + 1)) a0_0 l0_1) else (some false)) = some r := H
             have A63 := Aside0.mk A630
             clear A630
             by_cases c64 : t107 = true
             ·
              subst c64
              have H1 : (standstillref06_Valid.l0 k2 (wrap64 (x3_2 + 1)) a0_0 l0_1) = some r := by rw [if_pos rfl] at H; exact H
              clear H
              have H := H1
              clear H1
              have H' := Aside0.mk H
              clear H
              have hz65 := zc2 BK102
              have p103 : 0 ≤ (x3_2 : Int) := of_decide_eq_true (by first | (with_reducible assumption) | assumption)
              have q103 : x3_2 < (l0_1.length : Int) := of_decide_eq_true (by first | (with_reducible assumption) | assumption)
              obtain ⟨ad103, e103, hx103_0, hx103_1, hx103_2, hx103_3⟩ := at_T35 HR0_1.out x3_2 p103 q103
              cases e103
              replace hx103_0 := (HB.out.cell (World.block_lt_of_cell? w _ hx103_0)).trans hx103_0
              replace hx103_1 := (HB.out.cell (World.block_lt_of_cell? w _ hx103_1)).trans hx103_1
              replace hx103_2 := (HB.out.cell (World.block_lt_of_cell? w _ hx103_2)).trans hx103_2
              replace hx103_3 := (HB.out.cell (World.block_lt_of_cell? w _ hx103_3)).trans hx103_3
              replace p103 := eq_true p103
              replace q103 := eq_true q103
              go_wp2_with (first | ((with_reducible refine gate_dst (N := 4) rfl ?_); (try (refine gate_guard (by rfl) ?_; dsimp only)); refine box_event ?hg (N := 4) ?hd (cs := #[.int .i64 0, .int .i64 0, .int .i64 0, .int .i64 0]) (t := 35) ?hr ?_; (case hd => rfl); (case hg => rfl); (case hr => first | (go_simp; done) | (go_simp; rfl)); intro gb104 hg w66 hbox hb; have BK104 := Aside0.mk (hbox); have GW104 := Aside0.mk ((by rw [hg]; exact (below_size (zB HB)) : w.heap.size ≤ gb104)); have GE104 := Aside0.mk ((by rw [hg]; exact (below_size (zB HB)) : w.heap.size ≤ gb104)); have NB102_104 := Aside0.mk ((by rw [hg]; exact Nat.ne_of_lt (zL BK102) : gb102 ≠ gb104)); have NB104_102 := Aside0.mk ((by rw [hg]; exact Nat.ne_of_gt (zL BK102) : gb104 ≠ gb102)); replace BK102 := Aside0.mk (zb BK102 hb); replace HB := Aside0.mk (below_step (zB HB) hb); clear hb hbox hg; have hnb67 := NB104_102.out; have hnc67 := NB102_104.out; have hz68 := zc4 BK104; have hz69 := zc2 BK102) | (go_at_call 21; (with_reducible refine (standstillref06_index.calls a0_0 _ _ l0_1 ((rd_T35 l0_1 x3_2).f2) true _ ?side1 ?side2 A61.out).mono ?_); (case side1 => exact Kd.C_below HR0_1.out (zB HB)); (case side2 => exact HC0_1.out); rintro e w70 ⟨rfl, hb⟩; replace BK102 := Aside0.mk (blk_below (g := gb102) (o := .cells #[.int .i64 a0_0, .slice (some ad103) l0_1.length c0_1] 24 (0, 0)) (zK BK102) hb); replace BK104 := Aside0.mk (blk_below (g := gb104) (o := .cells #[.int .i64 ((rd_T35 l0_1 x3_2).f0), .int .i64 ((rd_T35 l0_1 x3_2).f1), .int .i64 ((rd_T35 l0_1 x3_2).f2), .int .i64 ((rd_T35 l0_1 x3_2).f3)] 35 (0, 0)) (by (with_reducible repeat (first | refine blk_drewN ?_ _ | refine blk_drew ?_ | refine blk_alloc ?_ _)); refine blk_put (cs := #[.int .i64 ((rd_T35 l0_1 x3_2).f0), .int .i64 ((rd_T35 l0_1 x3_2).f1), .int .i64 ((rd_T35 l0_1 x3_2).f2), .int .i64 0]) ?_ 3 _ rfl; (with_reducible repeat (first | refine blk_drewN ?_ _ | refine blk_drew ?_ | refine blk_alloc ?_ _)); refine blk_put (cs := #[.int .i64 ((rd_T35 l0_1 x3_2).f0), .int .i64 ((rd_T35 l0_1 x3_2).f1), .int .i64 0, .int .i64 0]) ?_ 2 _ rfl; (with_reducible repeat (first | refine blk_drewN ?_ _ | refine blk_drew ?_ | refine blk_alloc ?_ _)); refine blk_put (cs := #[.int .i64 ((rd_T35 l0_1 x3_2).f0), .int .i64 0, .int .i64 0, .int .i64 0]) ?_ 1 _ rfl; (with_reducible repeat (first | refine blk_drewN ?_ _ | refine blk_drew ?_ | refine blk_alloc ?_ _)); refine blk_put (cs := #[.int .i64 0, .int .i64 0, .int .i64 0, .int .i64 0]) ?_ 0 _ rfl; (with_reducible repeat (first | refine blk_drewN ?_ _ | refine blk_drew ?_ | refine blk_alloc ?_ _)); exact BK104.out) hb); replace HB := Aside0.mk (below_step (zB HB) hb); (try clear hb); (try clear hb2); (try clear hk); (try clear hi); have hz71 := zc2 BK102; have hz72 := zc4 BK104) | (go_at_call 21; (with_reducible refine (standstillref06_index.calls a0_0 _ _ l0_1 ((rd_T35 l0_1 x3_2).f3) true _ ?side1 ?side2 A63.out).mono ?_); (case side1 => exact zC ((Kd.C_below HR0_1.out HB.out))); (case side2 => exact HC0_1.out); rintro e w73 ⟨rfl, hb⟩; replace BK102 := Aside0.mk (zb BK102 hb); replace BK104 := Aside0.mk (zb BK104 hb); replace HB := Aside0.mk (below_step (zB HB) hb); (try clear hb); (try clear hb2); (try clear hk); (try clear hi)))
              go_roundg k2
              case measure => have := HJ1.out; have := HK2.out; omega
              case rel => exact ⟨(wrap64 (x3_2 + 1)), (by first | rfl | (simp; done) | (simp [*]; done)), H', ⟨by have := HJ1.out; have := HK2.out; omega⟩, ⟨zk BK102⟩, ⟨zB HB⟩⟩
             ·
              replace c64 := Bool.eq_false_iff.mpr c64
              subst c64
              have H1 : (some false) = some r := by rw [if_neg (show ¬ (false = true) by decide)] at H; exact H
              clear H
              have H := H1
              clear H1
              obtain rfl := Option.some.inj H
              have hz74 := zc2 BK102
              have p103 : 0 ≤ (x3_2 : Int) := of_decide_eq_true (by first | (with_reducible assumption) | assumption)
              have q103 : x3_2 < (l0_1.length : Int) := of_decide_eq_true (by first | (with_reducible assumption) | assumption)
              obtain ⟨ad103, e103, hx103_0, hx103_1, hx103_2, hx103_3⟩ := at_T35 HR0_1.out x3_2 p103 q103
              cases e103
              replace hx103_0 := (HB.out.cell (World.block_lt_of_cell? w _ hx103_0)).trans hx103_0
              replace hx103_1 := (HB.out.cell (World.block_lt_of_cell? w _ hx103_1)).trans hx103_1
              replace hx103_2 := (HB.out.cell (World.block_lt_of_cell? w _ hx103_2)).trans hx103_2
              replace hx103_3 := (HB.out.cell (World.block_lt_of_cell? w _ hx103_3)).trans hx103_3
              replace p103 := eq_true p103
              replace q103 := eq_true q103
              go_wp2_with (first | ((with_reducible refine gate_dst (N := 4) rfl ?_); (try (refine gate_guard (by rfl) ?_; dsimp only)); refine box_event ?hg (N := 4) ?hd (cs := #[.int .i64 0, .int .i64 0, .int .i64 0, .int .i64 0]) (t := 35) ?hr ?_; (case hd => rfl); (case hg => rfl); (case hr => first | (go_simp; done) | (go_simp; rfl)); intro gb104 hg w75 hbox hb; have BK104 := Aside0.mk (hbox); have GW104 := Aside0.mk ((by rw [hg]; exact (below_size (zB HB)) : w.heap.size ≤ gb104)); have GE104 := Aside0.mk ((by rw [hg]; exact (below_size (zB HB)) : w.heap.size ≤ gb104)); have NB102_104 := Aside0.mk ((by rw [hg]; exact Nat.ne_of_lt (zL BK102) : gb102 ≠ gb104)); have NB104_102 := Aside0.mk ((by rw [hg]; exact Nat.ne_of_gt (zL BK102) : gb104 ≠ gb102)); replace BK102 := Aside0.mk (zb BK102 hb); replace HB := Aside0.mk (below_step (zB HB) hb); clear hb hbox hg; have hnb76 := NB104_102.out; have hnc76 := NB102_104.out; have hz77 := zc4 BK104; have hz78 := zc2 BK102) | (go_at_call 21; (with_reducible refine (standstillref06_index.calls a0_0 _ _ l0_1 ((rd_T35 l0_1 x3_2).f2) true _ ?side1 ?side2 A61.out).mono ?_); (case side1 => exact Kd.C_below HR0_1.out (zB HB)); (case side2 => exact HC0_1.out); rintro e w79 ⟨rfl, hb⟩; replace BK102 := Aside0.mk (blk_below (g := gb102) (o := .cells #[.int .i64 a0_0, .slice (some ad103) l0_1.length c0_1] 24 (0, 0)) (zK BK102) hb); replace BK104 := Aside0.mk (blk_below (g := gb104) (o := .cells #[.int .i64 ((rd_T35 l0_1 x3_2).f0), .int .i64 ((rd_T35 l0_1 x3_2).f1), .int .i64 ((rd_T35 l0_1 x3_2).f2), .int .i64 ((rd_T35 l0_1 x3_2).f3)] 35 (0, 0)) (by (with_reducible repeat (first | refine blk_drewN ?_ _ | refine blk_drew ?_ | refine blk_alloc ?_ _)); refine blk_put (cs := #[.int .i64 ((rd_T35 l0_1 x3_2).f0), .int .i64 ((rd_T35 l0_1 x3_2).f1), .int .i64 ((rd_T35 l0_1 x3_2).f2), .int .i64 0]) ?_ 3 _ rfl; (with_reducible repeat (first | refine blk_drewN ?_ _ | refine blk_drew ?_ | refine blk_alloc ?_ _)); refine blk_put (cs := #[.int .i64 ((rd_T35 l0_1 x3_2).f0), .int .i64 ((rd_T35 l0_1 x3_2).f1), .int .i64 0, .int .i64 0]) ?_ 2 _ rfl; (with_reducible repeat (first | refine blk_drewN ?_ _ | refine blk_drew ?_ | refine blk_alloc ?_ _)); refine blk_put (cs := #[.int .i64 ((rd_T35 l0_1 x3_2).f0), .int .i64 0, .int .i64 0, .int .i64 0]) ?_ 1 _ rfl; (with_reducible repeat (first | refine blk_drewN ?_ _ | refine blk_drew ?_ | refine blk_alloc ?_ _)); refine blk_put (cs := #[.int .i64 0, .int .i64 0, .int .i64 0, .int .i64 0]) ?_ 0 _ rfl; (with_reducible repeat (first | refine blk_drewN ?_ _ | refine blk_drew ?_ | refine blk_alloc ?_ _)); exact BK104.out) hb); replace HB := Aside0.mk (below_step (zB HB) hb); (try clear hb); (try clear hb2); (try clear hk); (try clear hi); have hz80 := zc2 BK102; have hz81 := zc4 BK104) | (go_at_call 21; (with_reducible refine (standstillref06_index.calls a0_0 _ _ l0_1 ((rd_T35 l0_1 x3_2).f3) false _ ?side1 ?side2 A63.out).mono ?_); (case side1 => exact zC ((Kd.C_below HR0_1.out HB.out))); (case side2 => exact HC0_1.out); rintro e w82 ⟨rfl, hb⟩; replace BK102 := Aside0.mk (zb BK102 hb); replace BK104 := Aside0.mk (zb BK104 hb); replace HB := Aside0.mk (below_step (zB HB) hb); (try clear hb); (try clear hb2); (try clear hk); (try clear hi)))
              go_ret
              exact ⟨by first | rfl | (simp [errW_none, errW_some] <;> rfl) | (simp [*, errW_none, errW_some] <;> rfl), zB HB⟩
            ·
             replace c62 := Bool.eq_false_iff.mpr c62
             subst c62
             have H1 : (some false) = some r := by rw [if_neg (show ¬ (false = true) by decide)] at H; exact H
             clear H
             have H := H1
             clear H1
             obtain rfl := Option.some.inj H
             have hz83 := zc2 BK102
             have p103 : 0 ≤ (x3_2 : Int) := of_decide_eq_true (by first | (with_reducible assumption) | assumption)
             have q103 : x3_2 < (l0_1.length : Int) := of_decide_eq_true (by first | (with_reducible assumption) | assumption)
             obtain ⟨ad103, e103, hx103_0, hx103_1, hx103_2, hx103_3⟩ := at_T35 HR0_1.out x3_2 p103 q103
             cases e103
             replace hx103_0 := (HB.out.cell (World.block_lt_of_cell? w _ hx103_0)).trans hx103_0
             replace hx103_1 := (HB.out.cell (World.block_lt_of_cell? w _ hx103_1)).trans hx103_1
             replace hx103_2 := (HB.out.cell (World.block_lt_of_cell? w _ hx103_2)).trans hx103_2
             replace hx103_3 := (HB.out.cell (World.block_lt_of_cell? w _ hx103_3)).trans hx103_3
             replace p103 := eq_true p103
             replace q103 := eq_true q103
             go_wp2_with (first | ((with_reducible refine gate_dst (N := 4) rfl ?_); (try (refine gate_guard (by rfl) ?_; dsimp only)); refine box_event ?hg (N := 4) ?hd (cs := #[.int .i64 0, .int .i64 0, .int .i64 0, .int .i64 0]) (t := 35) ?hr ?_; (case hd => rfl); (case hg => rfl); (case hr => first | (go_simp; done) | (go_simp; rfl)); intro gb104 hg w84 hbox hb; have BK104 := Aside0.mk (hbox); have GW104 := Aside0.mk ((by rw [hg]; exact (below_size (zB HB)) : w.heap.size ≤ gb104)); have GE104 := Aside0.mk ((by rw [hg]; exact (below_size (zB HB)) : w.heap.size ≤ gb104)); have NB102_104 := Aside0.mk ((by rw [hg]; exact Nat.ne_of_lt (zL BK102) : gb102 ≠ gb104)); have NB104_102 := Aside0.mk ((by rw [hg]; exact Nat.ne_of_gt (zL BK102) : gb104 ≠ gb102)); replace BK102 := Aside0.mk (zb BK102 hb); replace HB := Aside0.mk (below_step (zB HB) hb); clear hb hbox hg; have hnb85 := NB104_102.out; have hnc85 := NB102_104.out; have hz86 := zc4 BK104; have hz87 := zc2 BK102) | (go_at_call 21; (with_reducible refine (standstillref06_index.calls a0_0 _ _ l0_1 ((rd_T35 l0_1 x3_2).f2) false _ ?side1 ?side2 A61.out).mono ?_); (case side1 => exact Kd.C_below HR0_1.out (zB HB)); (case side2 => exact HC0_1.out); rintro e w88 ⟨rfl, hb⟩; replace BK102 := Aside0.mk (blk_below (g := gb102) (o := .cells #[.int .i64 a0_0, .slice (some ad103) l0_1.length c0_1] 24 (0, 0)) (zK BK102) hb); replace BK104 := Aside0.mk (blk_below (g := gb104) (o := .cells #[.int .i64 ((rd_T35 l0_1 x3_2).f0), .int .i64 ((rd_T35 l0_1 x3_2).f1), .int .i64 ((rd_T35 l0_1 x3_2).f2), .int .i64 ((rd_T35 l0_1 x3_2).f3)] 35 (0, 0)) (by (with_reducible repeat (first | refine blk_drewN ?_ _ | refine blk_drew ?_ | refine blk_alloc ?_ _)); refine blk_put (cs := #[.int .i64 ((rd_T35 l0_1 x3_2).f0), .int .i64 ((rd_T35 l0_1 x3_2).f1), .int .i64 ((rd_T35 l0_1 x3_2).f2), .int .i64 0]) ?_ 3 _ rfl; (with_reducible repeat (first | refine blk_drewN ?_ _ | refine blk_drew ?_ | refine blk_alloc ?_ _)); refine blk_put (cs := #[.int .i64 ((rd_T35 l0_1 x3_2).f0), .int .i64 ((rd_T35 l0_1 x3_2).f1), .int .i64 0, .int .i64 0]) ?_ 2 _ rfl; (with_reducible repeat (first | refine blk_drewN ?_ _ | refine blk_drew ?_ | refine blk_alloc ?_ _)); refine blk_put (cs := #[.int .i64 ((rd_T35 l0_1 x3_2).f0), .int .i64 0, .int .i64 0, .int .i64 0]) ?_ 1 _ rfl; (with_reducible repeat (first | refine blk_drewN ?_ _ | refine blk_drew ?_ | refine blk_alloc ?_ _)); refine blk_put (cs := #[.int .i64 0, .int .i64 0, .int .i64 0, .int .i64 0]) ?_ 0 _ rfl; (with_reducible repeat (first | refine blk_drewN ?_ _ | refine blk_drew ?_ | refine blk_alloc ?_ _)); exact BK104.out) hb); replace HB := Aside0.mk (below_step (zB HB) hb); (try clear hb); (try clear hb2); (try clear hk); (try clear hi)))
             go_ret
             exact ⟨by first | rfl | (simp [errW_none, errW_some] <;> rfl) | (simp [*, errW_none, errW_some] <;> rfl), zB HB⟩
         ·
          rw [if_neg c49] at H
          have c49b0 : (((rd_T35 l0_1 x3_2).f0) == 1) = false := beq_eq_false_iff_ne.mpr c49
          have c49b1 : (((rd_T35 l0_1 x3_2).f0) != 1) = true := bne_iff_ne.mpr c49
          by_cases c89 : ((rd_T35 l0_1 x3_2).f0) = 2
          ·
           rw [if_pos c89] at H
           have c89b0 : (((rd_T35 l0_1 x3_2).f0) == 2) = true := beq_iff_eq.mpr c89
           have c89b1 : (((rd_T35 l0_1 x3_2).f0) != 2) = false := bne_eq_false_iff_eq.mpr c89
           clear c89
           by_cases c90 : (!(((rd_T35 l0_1 x3_2).f0) == 2) || (!(((rd_T35 l0_1 x3_2).f1) == 0) || (!(((rd_T35 l0_1 x3_2).f2) == 0) || (!(((rd_T35 l0_1 x3_2).f3) == 0))))) = true
           ·
            rw [if_pos c90] at H
            have c90b0 : (!(((rd_T35 l0_1 x3_2).f0) == 2) || (!(((rd_T35 l0_1 x3_2).f1) == 0) || (!(((rd_T35 l0_1 x3_2).f2) == 0) || (!(((rd_T35 l0_1 x3_2).f3) == 0))))) = true := c90
            (try simp only [c89b0, Bool.not_true, Bool.false_or] at c90b0)
            clear c90
            obtain rfl := Option.some.inj H
            have hz91 := zc2 BK102
            have p103 : 0 ≤ (x3_2 : Int) := of_decide_eq_true (by first | (with_reducible assumption) | assumption)
            have q103 : x3_2 < (l0_1.length : Int) := of_decide_eq_true (by first | (with_reducible assumption) | assumption)
            obtain ⟨ad103, e103, hx103_0, hx103_1, hx103_2, hx103_3⟩ := at_T35 HR0_1.out x3_2 p103 q103
            cases e103
            replace hx103_0 := (HB.out.cell (World.block_lt_of_cell? w _ hx103_0)).trans hx103_0
            replace hx103_1 := (HB.out.cell (World.block_lt_of_cell? w _ hx103_1)).trans hx103_1
            replace hx103_2 := (HB.out.cell (World.block_lt_of_cell? w _ hx103_2)).trans hx103_2
            replace hx103_3 := (HB.out.cell (World.block_lt_of_cell? w _ hx103_3)).trans hx103_3
            replace p103 := eq_true p103
            replace q103 := eq_true q103
            go_wp2_with (first | ((with_reducible refine gate_dst (N := 4) rfl ?_); (try (refine gate_guard (by rfl) ?_; dsimp only)); refine box_event ?hg (N := 4) ?hd (cs := #[.int .i64 0, .int .i64 0, .int .i64 0, .int .i64 0]) (t := 35) ?hr ?_; (case hd => rfl); (case hg => rfl); (case hr => first | (go_simp; done) | (go_simp; rfl)); intro gb104 hg w92 hbox hb; have BK104 := Aside0.mk (hbox); have GW104 := Aside0.mk ((by rw [hg]; exact (below_size (zB HB)) : w.heap.size ≤ gb104)); have GE104 := Aside0.mk ((by rw [hg]; exact (below_size (zB HB)) : w.heap.size ≤ gb104)); have NB102_104 := Aside0.mk ((by rw [hg]; exact Nat.ne_of_lt (zL BK102) : gb102 ≠ gb104)); have NB104_102 := Aside0.mk ((by rw [hg]; exact Nat.ne_of_gt (zL BK102) : gb104 ≠ gb102)); replace BK102 := Aside0.mk (zb BK102 hb); replace HB := Aside0.mk (below_step (zB HB) hb); clear hb hbox hg; have hnb93 := NB104_102.out; have hnc93 := NB102_104.out; have hz94 := zc4 BK104))
            go_ret
            exact ⟨by first | rfl | (simp [errW_none, errW_some] <;> rfl) | (simp [*, errW_none, errW_some] <;> rfl), zB HB⟩
           ·
            rw [if_neg c90] at H
            have c90b0 : (!(((rd_T35 l0_1 x3_2).f0) == 2) || (!(((rd_T35 l0_1 x3_2).f1) == 0) || (!(((rd_T35 l0_1 x3_2).f2) == 0) || (!(((rd_T35 l0_1 x3_2).f3) == 0))))) = false := by simpa using c90
            (try simp only [c89b0, Bool.not_true, Bool.false_or] at c90b0)
            clear c90
            have H' := Aside0.mk H
            clear H
            have hz95 := zc2 BK102
            have p103 : 0 ≤ (x3_2 : Int) := of_decide_eq_true (by first | (with_reducible assumption) | assumption)
            have q103 : x3_2 < (l0_1.length : Int) := of_decide_eq_true (by first | (with_reducible assumption) | assumption)
            obtain ⟨ad103, e103, hx103_0, hx103_1, hx103_2, hx103_3⟩ := at_T35 HR0_1.out x3_2 p103 q103
            cases e103
            replace hx103_0 := (HB.out.cell (World.block_lt_of_cell? w _ hx103_0)).trans hx103_0
            replace hx103_1 := (HB.out.cell (World.block_lt_of_cell? w _ hx103_1)).trans hx103_1
            replace hx103_2 := (HB.out.cell (World.block_lt_of_cell? w _ hx103_2)).trans hx103_2
            replace hx103_3 := (HB.out.cell (World.block_lt_of_cell? w _ hx103_3)).trans hx103_3
            replace p103 := eq_true p103
            replace q103 := eq_true q103
            go_wp2_with (first | ((with_reducible refine gate_dst (N := 4) rfl ?_); (try (refine gate_guard (by rfl) ?_; dsimp only)); refine box_event ?hg (N := 4) ?hd (cs := #[.int .i64 0, .int .i64 0, .int .i64 0, .int .i64 0]) (t := 35) ?hr ?_; (case hd => rfl); (case hg => rfl); (case hr => first | (go_simp; done) | (go_simp; rfl)); intro gb104 hg w96 hbox hb; have BK104 := Aside0.mk (hbox); have GW104 := Aside0.mk ((by rw [hg]; exact (below_size (zB HB)) : w.heap.size ≤ gb104)); have GE104 := Aside0.mk ((by rw [hg]; exact (below_size (zB HB)) : w.heap.size ≤ gb104)); have NB102_104 := Aside0.mk ((by rw [hg]; exact Nat.ne_of_lt (zL BK102) : gb102 ≠ gb104)); have NB104_102 := Aside0.mk ((by rw [hg]; exact Nat.ne_of_gt (zL BK102) : gb104 ≠ gb102)); replace BK102 := Aside0.mk (zb BK102 hb); replace HB := Aside0.mk (below_step (zB HB) hb); clear hb hbox hg; have hnb97 := NB104_102.out; have hnc97 := NB102_104.out; have hz98 := zc4 BK104))
            go_roundg k2
            case measure => have := HJ1.out; have := HK2.out; omega
            case rel => exact ⟨(wrap64 (x3_2 + 1)), (by first | rfl | (simp; done) | (simp [*]; done)), H', ⟨by have := HJ1.out; have := HK2.out; omega⟩, ⟨zK BK102⟩, ⟨zB HB⟩⟩
          ·
           rw [if_neg c89] at H
           have c89b0 : (((rd_T35 l0_1 x3_2).f0) == 2) = false := beq_eq_false_iff_ne.mpr c89
           have c89b1 : (((rd_T35 l0_1 x3_2).f0) != 2) = true := bne_iff_ne.mpr c89
           obtain rfl := Option.some.inj H
           have hz99 := zc2 BK102
           have p103 : 0 ≤ (x3_2 : Int) := of_decide_eq_true (by first | (with_reducible assumption) | assumption)
           have q103 : x3_2 < (l0_1.length : Int) := of_decide_eq_true (by first | (with_reducible assumption) | assumption)
           obtain ⟨ad103, e103, hx103_0, hx103_1, hx103_2, hx103_3⟩ := at_T35 HR0_1.out x3_2 p103 q103
           cases e103
           replace hx103_0 := (HB.out.cell (World.block_lt_of_cell? w _ hx103_0)).trans hx103_0
           replace hx103_1 := (HB.out.cell (World.block_lt_of_cell? w _ hx103_1)).trans hx103_1
           replace hx103_2 := (HB.out.cell (World.block_lt_of_cell? w _ hx103_2)).trans hx103_2
           replace hx103_3 := (HB.out.cell (World.block_lt_of_cell? w _ hx103_3)).trans hx103_3
           replace p103 := eq_true p103
           replace q103 := eq_true q103
           go_wp2_with (first | ((with_reducible refine gate_dst (N := 4) rfl ?_); (try (refine gate_guard (by rfl) ?_; dsimp only)); refine box_event ?hg (N := 4) ?hd (cs := #[.int .i64 0, .int .i64 0, .int .i64 0, .int .i64 0]) (t := 35) ?hr ?_; (case hd => rfl); (case hg => rfl); (case hr => first | (go_simp; done) | (go_simp; rfl)); intro gb104 hg w100 hbox hb; have BK104 := Aside0.mk (hbox); have GW104 := Aside0.mk ((by rw [hg]; exact (below_size (zB HB)) : w.heap.size ≤ gb104)); have GE104 := Aside0.mk ((by rw [hg]; exact (below_size (zB HB)) : w.heap.size ≤ gb104)); have NB102_104 := Aside0.mk ((by rw [hg]; exact Nat.ne_of_lt (zL BK102) : gb102 ≠ gb104)); have NB104_102 := Aside0.mk ((by rw [hg]; exact Nat.ne_of_gt (zL BK102) : gb104 ≠ gb102)); replace BK102 := Aside0.mk (zb BK102 hb); replace HB := Aside0.mk (below_step (zB HB) hb); clear hb hbox hg; have hnb101 := NB104_102.out; have hnc101 := NB102_104.out; have hz102 := zc4 BK104))
           go_ret
           exact ⟨by first | rfl | (simp [errW_none, errW_some] <;> rfl) | (simp [*, errW_none, errW_some] <;> rfl), zB HB⟩
       ·
        rw [if_neg c13] at H
        exact absurd H (by simp)
      ·
       rw [if_neg c12] at H
       have c12b0 : decide (x3_2 < (l0_1.length : Int)) = false := decide_eq_false c12
       clear c12
       obtain rfl := Option.some.inj H
       have hz103 := zc2 BK102
       go_wp2
       go_ret
       exact ⟨by first | rfl | (simp [errW_none, errW_some] <;> rfl) | (simp [*, errW_none, errW_some] <;> rfl), zB HB⟩

end Go.Proofs.Ytcdmgeceahmngaa.GC
