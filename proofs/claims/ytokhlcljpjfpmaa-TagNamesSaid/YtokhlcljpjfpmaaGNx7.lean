/- The functions of one seat as Lean functions, each with its contract: the call of the Go function returns what the Lean function answers. Written by a program of this session out of the translation; contracts made by hand are laid between. -/
import Derived.Test.YtokhlcljpjfpmaaGNx0
import Derived.Test.YtokhlcljpjfpmaaGNx1
import Derived.Test.YtokhlcljpjfpmaaGNx3
import Derived.Test.YtokhlcljpjfpmaaGNx6
namespace Go.Proofs.Ytokhlcljpjfpmaa.GN
open Go.RowKit Go.Proofs.YtokhlcljpjfpmaaW.PrintWords Go.Proofs.YtokhlcljpjfpmaaW.PrintLast Go.Proofs.YtokhlcljpjfpmaaW.PrintMore
attribute [local go_sem] max2_int min2_int max_two min_two max_three min_three max_four min_four   -- for this text's walks alone
set_option linter.unusedVariables false
set_option linter.unusedSimpArgs false

def standstilllaw07_TagNames.T10 : Bool × List (List Nat × List Nat) := (true, [([], []), ([0], [0]), ([], []), ([2], [2]), ([3, 3], [3]), ([], []), ([5], [5]), ([6, 6], [6]), ([1, 4, 7], [1, 4, 7]), ([], []), ([9, 8, 0, 1, 2, 3, 4, 5, 6, 7, 8, 9], [8, 9])])
def standstilllaw07_TagNames.B10 : List Nat := [0, 1, 0, 4, 12, 0, 32, 96, 255, 0, 1023]
theorem standstilllaw07_TagNames.tab10 : rtab .any (opsOf Try.f3 10) = standstilllaw07_TagNames.T10 := by kernel_rfl
theorem standstilllaw07_TagNames.bits10 : waitsOk standstilllaw07_TagNames.T10.2 standstilllaw07_TagNames.B10 = true := by kernel_rfl
def standstilllaw07_TagNames.T16 : Bool × List (List Nat × List Nat) := (true, [([], []), ([], []), ([], []), ([1, 2], [1, 2]), ([], []), ([4], [4]), ([0, 3, 5, 3], [0, 3, 5]), ([6], [6]), ([7], [7]), ([7], [7]), ([7], [7]), ([8, 6, 0, 1, 2, 3, 4, 5, 6, 7, 8], [8]), ([9, 11, 0, 1, 2, 3, 4, 5, 6, 7, 8, 9, 11], [9]), ([10, 12, 0, 1, 2, 3, 4, 5, 6, 7, 8, 9, 10, 11, 12], [10])])
def standstilllaw07_TagNames.B16 : List Nat := [0, 0, 0, 6, 0, 16, 63, 127, 255, 255, 255, 511, 3071, 8191]
theorem standstilllaw07_TagNames.tab16 : rtab .any (opsOf Try.f3 16) = standstilllaw07_TagNames.T16 := by kernel_rfl
theorem standstilllaw07_TagNames.bits16 : waitsOk standstilllaw07_TagNames.T16.2 standstilllaw07_TagNames.B16 = true := by kernel_rfl
set_option maxHeartbeats 8000000 in
set_option maxRecDepth 100000 in
theorem standstilllaw07_TagNames.calls (k : Nat) (a0_0 : Int) (A0_1 : Option Addr) (c0_1 : Nat) (l0_1 : List (List Int)) (A0_2 : Option Addr) (c0_2 : Nat) (l0_2 : List Bool) (A1 : Option Addr) (c1 : Nat) (l1 : List Int) (A2 : Option Addr) (c2 : Nat) (l2 : List Int) (a3 : Int) (r : Bool) (w : World) (hr0_1 : Kd.C (Kd.slice 3 (Kd.int .i64)) w A0_1 l0_1.length l0_1) (hc0_1 : l0_1.length ≤ c0_1) (hr0_2 : Kd.C Kd.bool w A0_2 l0_2.length l0_2) (hc0_2 : l0_2.length ≤ c0_2) (hr1 : Kd.C (Kd.int .i64) w A1 l1.length l1) (hc1 : l1.length ≤ c1) (hr2 : Kd.C (Kd.int .i64) w A2 l2.length l2) (hc2 : l2.length ≤ c2) (h : standstilllaw07_TagNames.f k a0_0 l0_1 l0_2 l1 l2 a3 = some r) :
  Calls Try.prog 3 #[.agg #[.int .i64 a0_0, .slice A0_1 l0_1.length c0_1, .slice A0_2 l0_2.length c0_2], .slice A1 l1.length c1, .slice A2 l2.length c2, .int .u8 a3] w fun e w' => e = .returned (.bool r) ∧ Below w.heap.size w w' := by
 have hu25 := Try.underlying25
 have HR0_1 := zz9 hr0_1
 have HC0_1 := zz9 hc0_1
 clear hr0_1 hc0_1
 have HR0_2 := zz9 hr0_2
 have HC0_2 := zz9 hc0_2
 clear hr0_2 hc0_2
 have HR1 := zz9 hr1
 have HC1 := zz9 hc1
 clear hr1 hc1
 have HR2 := zz9 hr2
 have HC2 := zz9 hc2
 clear hr2 hc2
 have HB := zz9 (Below.refl w.heap.size w)
 have H : ((standstilllaw07_wide.f k a0_0 l0_1 l0_2 l1).bind fun t212 => (if t212 = true then (standstilllaw07_TagNames.j0 k l1 l2 a3 true a0_0 l0_1 l0_2) else ((standstillref07_Fits.f k a0_0 l0_1 l0_2 l1).bind fun t213 => (if t213 = true then (standstilllaw07_TagNames.j0 k l1 l2 a3 ((l2.length : Int) != (l0_1.length : Int)) a0_0 l0_1 l0_2) else (standstilllaw07_TagNames.j0 k l1 l2 a3 true a0_0 l0_1 l0_2))))) = some r := h
 clear h
 have HC5 := zz9 H
 clear H
 go_enter Try.func3, Try.ntmps3
 go_upto_region 1 with (first | ((with_reducible refine gate_dst (N := 4) rfl ?_); (try (refine gate_guard (by rfl) ?_; dsimp only)); refine box_event ?hg (N := 4) ?hd (cs := #[.int .i64 a0_0, .slice A0_1 l0_1.length c0_1, .slice A0_2 l0_2.length c0_2]) (t := 25) ?hr ?_; (case hd => rfl); (case hg => rfl); (case hr => first | (go_simp; done) | (go_simp; rfl)); intro gb211 hg w6 hbox hb; have n0_ := zz9 (below_step (by repeat (first | (with_reducible first | exact HB.out | apply zz11 | apply zz10 | apply zz12) | exact HB.out)) hb); have n1_ := zz9 (hbox); have n2_ := zz9 ((by rw [hg]; exact (below_size (by repeat (first | (with_reducible first | exact HB.out | apply zz11 | apply zz10 | apply zz12) | exact HB.out))) : w.heap.size ≤ gb211)); have n3_ := zz9 ((by rw [hg]; exact (below_size (by repeat (first | (with_reducible first | exact HB.out | apply zz11 | apply zz10 | apply zz12) | exact HB.out))) : w.heap.size ≤ gb211)); clear HB; have HB := n0_; have BK211 := n1_; have GW211 := n2_; have GE211 := n3_; clear n0_ n1_ n2_ n3_; clear hb hbox hg))
 (try simp only [Act.put, zz6, zz7, zz8])
 go_cut [35] (fun v35 wc => ∃ (kq : Nat) (x35_4 : Bool), v35 = .bool x35_4 ∧ Aside0 (standstilllaw07_TagNames.j0 kq l1 l2 a3 x35_4 a0_0 l0_1 l0_2 = some r) ∧ Aside0 (kq ≤ k) ∧ Aside0 (wc.heap[gb211]? = some (.cells #[.int .i64 a0_0, (.slice A0_1 l0_1.length c0_1), (.slice A0_2 l0_2.length c0_2)] 25 (0, 0))) ∧ Aside0 (Below w.heap.size w wc))
 case first =>
  have H := HC5.out
  clear HC5
  replace H := Option.bind_eq_some_iff.mp H
  obtain ⟨t212, A70, H⟩ := H
  replace H : (if t212 = true then (standstilllaw07_TagNames.j0 k l1 l2 a3 true a0_0 l0_1 l0_2) else ((standstillref07_Fits.f k a0_0 l0_1 l0_2 l1).bind fun t213 => (if t213 = true then (standstilllaw07_TagNames.j0 k l1 l2 a3 ((l2.length : Int) != (l0_1.length : Int)) a0_0 l0_1 l0_2) else (standstilllaw07_TagNames.j0 k l1 l2 a3 true a0_0 l0_1 l0_2)))) = some r := H
  have A7 := zz9 A70
  clear A70
  by_cases c8 : t212 = true
  ·
   subst c8
   have H1 : (standstilllaw07_TagNames.j0 k l1 l2 a3 true a0_0 l0_1 l0_2) = some r := by rw [if_pos rfl] at H; exact H
   clear H
   have H := H1
   clear H1
   have H' := zz9 H
   clear H
   have hcz9_0 : w6.cell? ⟨gb211, 0, none⟩ = some (.int .i64 a0_0) := (blk_cell BK211.out 0).trans rfl
   have hcz9_1 : w6.cell? ⟨gb211, 1, none⟩ = some (.slice A0_1 l0_1.length c0_1) := (blk_cell BK211.out 1).trans rfl
   have hcz9_2 : w6.cell? ⟨gb211, 2, none⟩ = some (.slice A0_2 l0_2.length c0_2) := (blk_cell BK211.out 2).trans rfl
   have hfz9_0 := blk_frozen BK211.out 0
   have hfz9_1 := blk_frozen BK211.out 1
   have hfz9_2 := blk_frozen BK211.out 2
   go_wp2_with (first | ((with_reducible refine gate_callee (f := 5) rfl ?_); refine goesL_ (some 21) rfl rfl Try.func5 (by kernel_rfl) rfl #[.agg #[.int .i64 a0_0, .slice A0_1 l0_1.length c0_1, .slice A0_2 l0_2.length c0_2], .slice A1 l1.length c1] rfl (by (try simp only [List.map_toArray, List.map_cons, List.map_nil]); first | done | rfl | (simp only [List.length_drop, List.length_take]; rfl)) ?_; (with_reducible refine (standstilllaw07_wide.calls k a0_0 _ _ l0_1 _ _ l0_2 _ _ l1 true _ ?side1 ?side2 ?side3 ?side4 ?side5 ?side6 A7.out).mono ?_); (case side1 => repeat (first | exact (Kd.C_below HR0_1.out HB.out) | (with_reducible refine Kd.C_alloc ?_ _) | (with_reducible refine Kd.C_drewN ?_ _) | (with_reducible refine Kd.C_drew ?_))); (case side2 => exact HC0_1.out); (case side3 => repeat (first | exact (Kd.C_below HR0_2.out HB.out) | (with_reducible refine Kd.C_alloc ?_ _) | (with_reducible refine Kd.C_drewN ?_ _) | (with_reducible refine Kd.C_drew ?_))); (case side4 => exact HC0_2.out); (case side5 => repeat (first | exact (Kd.C_below HR1.out HB.out) | (with_reducible refine Kd.C_alloc ?_ _) | (with_reducible refine Kd.C_drewN ?_ _) | (with_reducible refine Kd.C_drew ?_))); (case side6 => exact HC1.out); rintro e w10 ⟨rfl, hb⟩; refine ⟨_, rfl, ?_⟩; have n0_ := zz9 (blk_below (g := gb211) (o := .cells #[.int .i64 a0_0, .slice A0_1 l0_1.length c0_1, .slice A0_2 l0_2.length c0_2] 25 (0, 0)) (by (with_reducible repeat (first | refine zz13 ?_ _ | refine zz14 ?_ | refine zz15 ?_ _)); exact BK211.out) hb); have n1_ := zz9 (below_step (by repeat (first | (with_reducible first | exact HB.out | apply zz11 | apply zz10 | apply zz12 | refine below_set ?_ GE211.out) | exact HB.out)) hb); clear BK211; clear HB; have BK211 := n0_; have HB := n1_; clear n0_ n1_; (try clear hb); (try clear hb2); (try clear hk); (try clear hi)))
   go_meet
   case rel => exact ⟨_, (true), (by first | rfl | (simp; done) | (simp [*]; done)), H', ⟨by first | omega | exact Nat.le_refl _⟩, ⟨by (with_reducible repeat (first | refine zz13 ?_ _ | refine zz14 ?_ | refine zz15 ?_ _)); exact BK211.out⟩, ⟨by repeat (first | (with_reducible first | exact HB.out | apply zz11 | apply zz10 | apply zz12 | refine below_set ?_ GE211.out) | exact HB.out)⟩⟩
  ·
   replace c8 := Bool.eq_false_iff.mpr c8
   subst c8
   have H1 : ((standstillref07_Fits.f k a0_0 l0_1 l0_2 l1).bind fun t213 => (if t213 = true then (standstilllaw07_TagNames.j0 k l1 l2 a3 ((l2.length : Int) != (l0_1.length : Int)) a0_0 l0_1 l0_2) else (standstilllaw07_TagNames.j0 k l1 l2 a3 true a0_0 l0_1 l0_2))) = some r := by rw [if_neg (show ¬ (false = true) by decide)] at H; exact H
   clear H
   have H := H1
   clear H1
   replace H := Option.bind_eq_some_iff.mp H
   obtain ⟨t213, A110, H⟩ := H
   replace H : (if t213 = true then (standstilllaw07_TagNames.j0 k l1 l2 a3 ((l2.length : Int) != (l0_1.length : Int)) a0_0 l0_1 l0_2) else (standstilllaw07_TagNames.j0 k l1 l2 a3 true a0_0 l0_1 l0_2)) = some r := H
   have A11 := zz9 A110
   clear A110
   by_cases c12 : t213 = true
   ·
    subst c12
    have H1 : (standstilllaw07_TagNames.j0 k l1 l2 a3 ((l2.length : Int) != (l0_1.length : Int)) a0_0 l0_1 l0_2) = some r := by rw [if_pos rfl] at H; exact H
    clear H
    have H := H1
    clear H1
    have H' := zz9 H
    clear H
    have hcz13_0 : w6.cell? ⟨gb211, 0, none⟩ = some (.int .i64 a0_0) := (blk_cell BK211.out 0).trans rfl
    have hcz13_1 : w6.cell? ⟨gb211, 1, none⟩ = some (.slice A0_1 l0_1.length c0_1) := (blk_cell BK211.out 1).trans rfl
    have hcz13_2 : w6.cell? ⟨gb211, 2, none⟩ = some (.slice A0_2 l0_2.length c0_2) := (blk_cell BK211.out 2).trans rfl
    have hfz13_0 := blk_frozen BK211.out 0
    have hfz13_1 := blk_frozen BK211.out 1
    have hfz13_2 := blk_frozen BK211.out 2
    go_wp2_with (first | ((with_reducible refine gate_callee (f := 5) rfl ?_); refine goesL_ (some 21) rfl rfl Try.func5 (by kernel_rfl) rfl #[.agg #[.int .i64 a0_0, .slice A0_1 l0_1.length c0_1, .slice A0_2 l0_2.length c0_2], .slice A1 l1.length c1] rfl (by (try simp only [List.map_toArray, List.map_cons, List.map_nil]); first | done | rfl | (simp only [List.length_drop, List.length_take]; rfl)) ?_; (with_reducible refine (standstilllaw07_wide.calls k a0_0 _ _ l0_1 _ _ l0_2 _ _ l1 false _ ?side1 ?side2 ?side3 ?side4 ?side5 ?side6 A7.out).mono ?_); (case side1 => repeat (first | exact (Kd.C_below HR0_1.out HB.out) | (with_reducible refine Kd.C_alloc ?_ _) | (with_reducible refine Kd.C_drewN ?_ _) | (with_reducible refine Kd.C_drew ?_))); (case side2 => exact HC0_1.out); (case side3 => repeat (first | exact (Kd.C_below HR0_2.out HB.out) | (with_reducible refine Kd.C_alloc ?_ _) | (with_reducible refine Kd.C_drewN ?_ _) | (with_reducible refine Kd.C_drew ?_))); (case side4 => exact HC0_2.out); (case side5 => repeat (first | exact (Kd.C_below HR1.out HB.out) | (with_reducible refine Kd.C_alloc ?_ _) | (with_reducible refine Kd.C_drewN ?_ _) | (with_reducible refine Kd.C_drew ?_))); (case side6 => exact HC1.out); rintro e w14 ⟨rfl, hb⟩; refine ⟨_, rfl, ?_⟩; have n0_ := zz9 (blk_below (g := gb211) (o := .cells #[.int .i64 a0_0, .slice A0_1 l0_1.length c0_1, .slice A0_2 l0_2.length c0_2] 25 (0, 0)) (by (with_reducible repeat (first | refine zz13 ?_ _ | refine zz14 ?_ | refine zz15 ?_ _)); exact BK211.out) hb); have n1_ := zz9 (below_step (by repeat (first | (with_reducible first | exact HB.out | apply zz11 | apply zz10 | apply zz12 | refine below_set ?_ GE211.out) | exact HB.out)) hb); clear BK211; clear HB; have BK211 := n0_; have HB := n1_; clear n0_ n1_; (try clear hb); (try clear hb2); (try clear hk); (try clear hi); have hcz15_0 : w14.cell? ⟨gb211, 0, none⟩ = some (.int .i64 a0_0) := (blk_cell BK211.out 0).trans rfl; have hcz15_1 : w14.cell? ⟨gb211, 1, none⟩ = some (.slice A0_1 l0_1.length c0_1) := (blk_cell BK211.out 1).trans rfl; have hcz15_2 : w14.cell? ⟨gb211, 2, none⟩ = some (.slice A0_2 l0_2.length c0_2) := (blk_cell BK211.out 2).trans rfl; have hfz15_0 := blk_frozen BK211.out 0; have hfz15_1 := blk_frozen BK211.out 1; have hfz15_2 := blk_frozen BK211.out 2) | (go_at_call 6; (with_reducible refine (standstillref07_Fits.calls k a0_0 _ _ l0_1 _ _ l0_2 _ _ l1 true _ ?side1 ?side2 ?side3 ?side4 ?side5 ?side6 A11.out).mono ?_); (case side1 => repeat (first | exact (Kd.C_below HR0_1.out HB.out) | (with_reducible refine Kd.C_alloc ?_ _) | (with_reducible refine Kd.C_drewN ?_ _) | (with_reducible refine Kd.C_drew ?_))); (case side2 => exact HC0_1.out); (case side3 => repeat (first | exact (Kd.C_below HR0_2.out HB.out) | (with_reducible refine Kd.C_alloc ?_ _) | (with_reducible refine Kd.C_drewN ?_ _) | (with_reducible refine Kd.C_drew ?_))); (case side4 => exact HC0_2.out); (case side5 => repeat (first | exact (Kd.C_below HR1.out HB.out) | (with_reducible refine Kd.C_alloc ?_ _) | (with_reducible refine Kd.C_drewN ?_ _) | (with_reducible refine Kd.C_drew ?_))); (case side6 => exact HC1.out); rintro e w16 ⟨rfl, hb⟩; have n0_ := zz9 (blk_below (g := gb211) (o := .cells #[.int .i64 a0_0, .slice A0_1 l0_1.length c0_1, .slice A0_2 l0_2.length c0_2] 25 (0, 0)) (by (with_reducible repeat (first | refine zz13 ?_ _ | refine zz14 ?_ | refine zz15 ?_ _)); exact BK211.out) hb); have n1_ := zz9 (below_step (by repeat (first | (with_reducible first | exact HB.out | apply zz11 | apply zz10 | apply zz12 | refine below_set ?_ GE211.out) | exact HB.out)) hb); clear BK211; clear HB; have BK211 := n0_; have HB := n1_; clear n0_ n1_; (try clear hb); (try clear hb2); (try clear hk); (try clear hi); have hcz17_0 : w16.cell? ⟨gb211, 0, none⟩ = some (.int .i64 a0_0) := (blk_cell BK211.out 0).trans rfl; have hcz17_1 : w16.cell? ⟨gb211, 1, none⟩ = some (.slice A0_1 l0_1.length c0_1) := (blk_cell BK211.out 1).trans rfl; have hcz17_2 : w16.cell? ⟨gb211, 2, none⟩ = some (.slice A0_2 l0_2.length c0_2) := (blk_cell BK211.out 2).trans rfl; have hfz17_0 := blk_frozen BK211.out 0; have hfz17_1 := blk_frozen BK211.out 1; have hfz17_2 := blk_frozen BK211.out 2))
    go_meet
    case rel => exact ⟨_, (((l2.length : Int) != (l0_1.length : Int))), (by first | rfl | (simp; done) | (simp [*]; done)), H', ⟨by first | omega | exact Nat.le_refl _⟩, ⟨by (with_reducible repeat (first | refine zz13 ?_ _ | refine zz14 ?_ | refine zz15 ?_ _)); exact BK211.out⟩, ⟨by repeat (first | (with_reducible first | exact HB.out | apply zz11 | apply zz10 | apply zz12 | refine below_set ?_ GE211.out) | exact HB.out)⟩⟩
   ·
    replace c12 := Bool.eq_false_iff.mpr c12
    subst c12
    have H1 : (standstilllaw07_TagNames.j0 k l1 l2 a3 true a0_0 l0_1 l0_2) = some r := by rw [if_neg (show ¬ (false = true) by decide)] at H; exact H
    clear H
    have H := H1
    clear H1
    have H' := zz9 H
    clear H
    have hcz18_0 : w6.cell? ⟨gb211, 0, none⟩ = some (.int .i64 a0_0) := (blk_cell BK211.out 0).trans rfl
    have hcz18_1 : w6.cell? ⟨gb211, 1, none⟩ = some (.slice A0_1 l0_1.length c0_1) := (blk_cell BK211.out 1).trans rfl
    have hcz18_2 : w6.cell? ⟨gb211, 2, none⟩ = some (.slice A0_2 l0_2.length c0_2) := (blk_cell BK211.out 2).trans rfl
    have hfz18_0 := blk_frozen BK211.out 0
    have hfz18_1 := blk_frozen BK211.out 1
    have hfz18_2 := blk_frozen BK211.out 2
    go_wp2_with (first | ((with_reducible refine gate_callee (f := 5) rfl ?_); refine goesL_ (some 21) rfl rfl Try.func5 (by kernel_rfl) rfl #[.agg #[.int .i64 a0_0, .slice A0_1 l0_1.length c0_1, .slice A0_2 l0_2.length c0_2], .slice A1 l1.length c1] rfl (by (try simp only [List.map_toArray, List.map_cons, List.map_nil]); first | done | rfl | (simp only [List.length_drop, List.length_take]; rfl)) ?_; (with_reducible refine (standstilllaw07_wide.calls k a0_0 _ _ l0_1 _ _ l0_2 _ _ l1 false _ ?side1 ?side2 ?side3 ?side4 ?side5 ?side6 A7.out).mono ?_); (case side1 => repeat (first | exact (Kd.C_below HR0_1.out HB.out) | (with_reducible refine Kd.C_alloc ?_ _) | (with_reducible refine Kd.C_drewN ?_ _) | (with_reducible refine Kd.C_drew ?_))); (case side2 => exact HC0_1.out); (case side3 => repeat (first | exact (Kd.C_below HR0_2.out HB.out) | (with_reducible refine Kd.C_alloc ?_ _) | (with_reducible refine Kd.C_drewN ?_ _) | (with_reducible refine Kd.C_drew ?_))); (case side4 => exact HC0_2.out); (case side5 => repeat (first | exact (Kd.C_below HR1.out HB.out) | (with_reducible refine Kd.C_alloc ?_ _) | (with_reducible refine Kd.C_drewN ?_ _) | (with_reducible refine Kd.C_drew ?_))); (case side6 => exact HC1.out); rintro e w19 ⟨rfl, hb⟩; refine ⟨_, rfl, ?_⟩; have n0_ := zz9 (blk_below (g := gb211) (o := .cells #[.int .i64 a0_0, .slice A0_1 l0_1.length c0_1, .slice A0_2 l0_2.length c0_2] 25 (0, 0)) (by (with_reducible repeat (first | refine zz13 ?_ _ | refine zz14 ?_ | refine zz15 ?_ _)); exact BK211.out) hb); have n1_ := zz9 (below_step (by repeat (first | (with_reducible first | exact HB.out | apply zz11 | apply zz10 | apply zz12 | refine below_set ?_ GE211.out) | exact HB.out)) hb); clear BK211; clear HB; have BK211 := n0_; have HB := n1_; clear n0_ n1_; (try clear hb); (try clear hb2); (try clear hk); (try clear hi); have hcz20_0 : w19.cell? ⟨gb211, 0, none⟩ = some (.int .i64 a0_0) := (blk_cell BK211.out 0).trans rfl; have hcz20_1 : w19.cell? ⟨gb211, 1, none⟩ = some (.slice A0_1 l0_1.length c0_1) := (blk_cell BK211.out 1).trans rfl; have hcz20_2 : w19.cell? ⟨gb211, 2, none⟩ = some (.slice A0_2 l0_2.length c0_2) := (blk_cell BK211.out 2).trans rfl; have hfz20_0 := blk_frozen BK211.out 0; have hfz20_1 := blk_frozen BK211.out 1; have hfz20_2 := blk_frozen BK211.out 2) | (go_at_call 6; (with_reducible refine (standstillref07_Fits.calls k a0_0 _ _ l0_1 _ _ l0_2 _ _ l1 false _ ?side1 ?side2 ?side3 ?side4 ?side5 ?side6 A11.out).mono ?_); (case side1 => repeat (first | exact (Kd.C_below HR0_1.out HB.out) | (with_reducible refine Kd.C_alloc ?_ _) | (with_reducible refine Kd.C_drewN ?_ _) | (with_reducible refine Kd.C_drew ?_))); (case side2 => exact HC0_1.out); (case side3 => repeat (first | exact (Kd.C_below HR0_2.out HB.out) | (with_reducible refine Kd.C_alloc ?_ _) | (with_reducible refine Kd.C_drewN ?_ _) | (with_reducible refine Kd.C_drew ?_))); (case side4 => exact HC0_2.out); (case side5 => repeat (first | exact (Kd.C_below HR1.out HB.out) | (with_reducible refine Kd.C_alloc ?_ _) | (with_reducible refine Kd.C_drewN ?_ _) | (with_reducible refine Kd.C_drew ?_))); (case side6 => exact HC1.out); rintro e w21 ⟨rfl, hb⟩; have n0_ := zz9 (blk_below (g := gb211) (o := .cells #[.int .i64 a0_0, .slice A0_1 l0_1.length c0_1, .slice A0_2 l0_2.length c0_2] 25 (0, 0)) (by (with_reducible repeat (first | refine zz13 ?_ _ | refine zz14 ?_ | refine zz15 ?_ _)); exact BK211.out) hb); have n1_ := zz9 (below_step (by repeat (first | (with_reducible first | exact HB.out | apply zz11 | apply zz10 | apply zz12 | refine below_set ?_ GE211.out) | exact HB.out)) hb); clear BK211; clear HB; have BK211 := n0_; have HB := n1_; clear n0_ n1_; (try clear hb); (try clear hb2); (try clear hk); (try clear hi)))
    go_meet
    case rel => exact ⟨_, (true), (by first | rfl | (simp; done) | (simp [*]; done)), H', ⟨by first | omega | exact Nat.le_refl _⟩, ⟨by (with_reducible repeat (first | refine zz13 ?_ _ | refine zz14 ?_ | refine zz15 ?_ _)); exact BK211.out⟩, ⟨by repeat (first | (with_reducible first | exact HB.out | apply zz11 | apply zz10 | apply zz12 | refine below_set ?_ GE211.out) | exact HB.out)⟩⟩
 case rest =>
  clear HC5
  try clear c1
  try clear c2
  try clear p2
  try clear c3
  try clear c5
  try clear c8
  try clear c12
  try clear hcz13_0
  try clear hcz13_1
  try clear hcz13_2
  try clear hcz15_0
  try clear hcz15_1
  try clear hcz15_2
  try clear hcz17_0
  try clear hcz17_1
  try clear hcz17_2
  try clear hcz18_0
  try clear hcz18_1
  try clear hcz18_2
  try clear hcz20_0
  try clear hcz20_1
  try clear hcz20_2
  try clear hcz9_0
  try clear hcz9_1
  try clear hcz9_2
  try clear hfz13_0
  try clear hfz13_1
  try clear hfz13_2
  try clear hfz15_0
  try clear hfz15_1
  try clear hfz15_2
  try clear hfz17_0
  try clear hfz17_1
  try clear hfz17_2
  try clear hfz18_0
  try clear hfz18_1
  try clear hfz18_2
  try clear hfz20_0
  try clear hfz20_1
  try clear hfz20_2
  try clear hfz9_0
  try clear hfz9_1
  try clear hfz9_2
  obtain ⟨kq, x35_4, rfl, HA, HJ4, BK211, HB⟩ := hcut
  cases kq with
  | zero => exact absurd HA.out (by simp [standstilllaw07_TagNames.j0])
  | succ kj4 =>
   have H := HA.out
   clear HA
   simp only [standstilllaw07_TagNames.j0] at H
   by_cases c22 : x35_4 = true
   ·
    subst c22
    have H1 : ((standstilllaw07_awake.f kj4).bind fun t214 => (some t214)) = some r := by rw [if_pos rfl] at H; exact H
    clear H
    have H := H1
    clear H1
    replace H := Option.bind_eq_some_iff.mp H
    obtain ⟨t214, A230, H⟩ := H
    replace H : (some t214) = some r := H
    have A23 := zz9 A230
    clear A230
    obtain rfl := Option.some.inj H
    go_wp2_with (first | ((with_reducible refine gate_callee (f := 7) rfl ?_); refine goesL_ (some 36) rfl rfl Try.func7 (by kernel_rfl) rfl #[] rfl (by (try simp only [List.map_toArray, List.map_cons, List.map_nil]); first | done | rfl | (simp only [List.length_drop, List.length_take]; rfl)) ?_; (with_reducible refine (standstilllaw07_awake.calls kj4  t214 _ A23.out).mono ?_); rintro e w24 ⟨rfl, hb⟩; refine ⟨_, rfl, ?_⟩; have n0_ := zz9 (blk_below (g := gb211) (o := .cells #[.int .i64 a0_0, .slice A0_1 l0_1.length c0_1, .slice A0_2 l0_2.length c0_2] 25 (0, 0)) (by (with_reducible repeat (first | refine zz13 ?_ _ | refine zz14 ?_ | refine zz15 ?_ _)); exact BK211.out) hb); have n1_ := zz9 (below_step (by repeat (first | (with_reducible first | exact HB.out | apply zz11 | apply zz10 | apply zz12 | refine below_set ?_ GE211.out) | exact HB.out)) hb); clear BK211; clear HB; have BK211 := n0_; have HB := n1_; clear n0_ n1_; (try clear hb); (try clear hb2); (try clear hk); (try clear hi)))
    go_ret
    exact ⟨by first | rfl | (simp [errW_none, errW_some] <;> rfl) | (simp [*, errW_none, errW_some] <;> rfl), by repeat (first | (with_reducible first | exact HB.out | apply zz11 | apply zz10 | apply zz12 | refine below_set ?_ GE211.out) | exact HB.out)⟩
   ·
    replace c22 := Bool.eq_false_iff.mpr c22
    subst c22
    have H1 : (if 0 ≤ (l2.length : Int) then (if ((l2.length : Int) : Int).toNat ≤ 281474976710656 then (standstilllaw07_TagNames.l0 kj4 l1 l2 a3 (List.replicate ((l2.length : Int) : Int).toNat false) 0 a0_0 l0_1 l0_2) else (none)) else (none)) = some r := by rw [if_neg (show ¬ (false = true) by decide)] at H; exact H
    clear H
    have H := H1
    clear H1
    by_cases c25 : 0 ≤ (l2.length : Int)
    ·
     rw [if_pos c25] at H
     have c25b0 := eq_true c25
     have c25b1 : decide (0 ≤ (l2.length : Int)) = true := decide_eq_true c25
     clear c25
     by_cases c26 : ((l2.length : Int) : Int).toNat ≤ 281474976710656
     ·
      rw [if_pos c26] at H
      have c26b0 := eq_true c26
      have c26b1 : decide (((l2.length : Int) : Int).toNat ≤ 281474976710656) = true := decide_eq_true c26
      clear c26
      obtain ⟨y215, hy215⟩ : ∃ y_ : List Bool, y_ = (List.replicate ((l2.length : Int) : Int).toNat false) := ⟨_, rfl⟩
      replace H : (standstilllaw07_TagNames.l0 kj4 l1 l2 a3 y215 0 a0_0 l0_1 l0_2) = some r := by first | (rw [hy215]; with_reducible exact H) | (have H2_ := (Option.bind_some _ _).symm.trans H; rw [hy215]; with_reducible exact H2_) | (have H2_ := (Option.bind_some _ _).symm.trans H; with_reducible exact H2_) | with_reducible exact H | (rw [hy215]; exact H) | exact H
      have Ny215 := zz9 hy215
      clear hy215
      have H' := zz9 H
      clear H
      go_wp2_with (first | ((with_reducible refine gate_dst (N := 39) rfl ?_); (try (refine gate_guard (by rfl) ?_; dsimp only)); refine Kd.R_make Kd.bool _ 4 rfl (N := 39) rfl 23 _ _ rfl (l2.length : Int) rfl rfl Try.underlying23 (.bool false) 1 info4 rfl (by decide) (by omega) false (ok := fun _ => True) (okp := fun _ => True) rfl (fun _ hk => hk) trivial (of_decide_eq_true (by assumption)) (Nat.le_trans (Nat.mul_le_mul_right _ (of_decide_eq_true (by assumption) : (l2.length : Int).toNat ≤ 281474976710656)) (by omega)) (Below.refl _ _) (Nat.le_refl _) ?_; intro v216 w27 ho28 hb hg_ hnew_; clear hg_ hnew_; (first | rw [← Ny215.out] at ho28 | (simp only [Int.reduceToNat] at ho28; rw [← Ny215.out] at ho28)); have n0_ := zz9 (Kd.R_lower ho28 (below_size (by repeat (first | (with_reducible first | exact HB.out | apply zz11 | apply zz10 | apply zz12 | refine below_set ?_ GE211.out) | exact HB.out)))); have n1_ := zz9 (blk_below (g := gb211) (o := .cells #[.int .i64 a0_0, .slice A0_1 l0_1.length c0_1, .slice A0_2 l0_2.length c0_2] 25 (0, 0)) (by (with_reducible repeat (first | refine zz13 ?_ _ | refine zz14 ?_ | refine zz15 ?_ _)); exact BK211.out) hb); have n2_ := zz9 (below_step (by repeat (first | (with_reducible first | exact HB.out | apply zz11 | apply zz10 | apply zz12 | refine below_set ?_ GE211.out) | exact HB.out)) hb); clear BK211; clear HB; have HO217 := n0_; have BK211 := n1_; have HB := n2_; clear n0_ n1_ n2_; clear hb ho28))
      go_loopg [10] kj4 (fun kq v10 w' => ∃ (x9_2 : List Bool) (x10_2 : Int), v10 = .int .i64 x10_2 ∧ Aside0 (standstilllaw07_TagNames.l0 kq l1 l2 a3 x9_2 x10_2 a0_0 l0_1 l0_2 = some r) ∧ Aside0 (kq ≤ kj4) ∧ Aside0 (Kd.R Kd.bool 4 w' w.heap.size (fun _ => True) v216 x9_2) ∧ Aside0 (w'.heap[gb211]? = some (.cells #[.int .i64 a0_0, (.slice A0_1 l0_1.length c0_1), (.slice A0_2 l0_2.length c0_2)] 25 (0, 0))) ∧ Aside0 (Below w.heap.size w w'))
      case atStart => exact ⟨(y215), (0), (by first | rfl | (simp; done) | (simp [*]; done)), H', ⟨Nat.le_refl _⟩, ⟨by (with_reducible repeat (first | apply zz0 | apply zz1 | apply zz2)); exact HO217.out⟩, ⟨by (with_reducible repeat (first | refine zz13 ?_ _ | refine zz14 ?_ | refine zz15 ?_ _)); exact BK211.out⟩, ⟨by repeat (first | (with_reducible first | exact HB.out | apply zz11 | apply zz10 | apply zz12 | refine below_set ?_ GE211.out) | exact HB.out)⟩⟩
      case round =>
       clear H'
       try clear c1
       try clear c2
       try clear p2
       try clear c3
       try clear c5
       try clear c7
       try clear c8
       try clear c12
       try clear c22
       try clear c25
       try clear c25b0
       try clear c25b1
       try clear c26
       try clear c26b0
       try clear c26b1
       try clear hcz13_0
       try clear hcz13_1
       try clear hcz13_2
       try clear hcz15_0
       try clear hcz15_1
       try clear hcz15_2
       try clear hcz17_0
       try clear hcz17_1
       try clear hcz17_2
       try clear hcz18_0
       try clear hcz18_1
       try clear hcz18_2
       try clear hcz20_0
       try clear hcz20_1
       try clear hcz20_2
       try clear hcz9_0
       try clear hcz9_1
       try clear hcz9_2
       try clear hfz13_0
       try clear hfz13_1
       try clear hfz13_2
       try clear hfz15_0
       try clear hfz15_1
       try clear hfz15_2
       try clear hfz17_0
       try clear hfz17_1
       try clear hfz17_2
       try clear hfz18_0
       try clear hfz18_1
       try clear hfz18_2
       try clear hfz20_0
       try clear hfz20_1
       try clear hfz20_2
       try clear hfz9_0
       try clear hfz9_1
       try clear hfz9_2
       try clear p2
       obtain ⟨x9_2, x10_2, rfl, HA, HK2, HO_9, BK211, HB⟩ := hrel
       cases gk with
       | zero => exact absurd HA.out (by simp [standstilllaw07_TagNames.l0])
       | succ k2 =>
        have H := HA.out
        clear HA
        simp only [standstilllaw07_TagNames.l0] at H
        by_cases c29 : x10_2 < (l2.length : Int)
        ·
         rw [if_pos c29] at H
         have c29b0 : decide (x10_2 < (l2.length : Int)) = true := decide_eq_true c29
         clear c29
         by_cases c30 : 0 ≤ x10_2
         ·
          rw [if_pos c30] at H
          have c30b0 : decide (0 ≤ x10_2) = true := decide_eq_true c30
          clear c30
          by_cases c31 : (rd l2 x10_2) < 0
          ·
           rw [if_pos c31] at H
           have c31b0 : decide ((rd l2 x10_2) < 0) = true := decide_eq_true c31
           clear c31
           replace H := Option.bind_eq_some_iff.mp H
           obtain ⟨t219, A320, H⟩ := H
           replace H : (some t219) = some r := H
           have A32 := zz9 A320
           clear A320
           obtain rfl := Option.some.inj H
           have p218 : 0 ≤ (x10_2 : Int) := of_decide_eq_true (by assumption)
           have q218 : x10_2 < (l2.length : Int) := of_decide_eq_true (by assumption)
           obtain ⟨ad218, e218, hx218_0⟩ := Kd.at_int HR2.out x10_2 p218 q218
           cases e218
           replace hx218_0 := (HB.out.cell (World.block_lt_of_cell? w _ hx218_0)).trans hx218_0
           replace p218 := eq_true p218
           replace q218 := eq_true q218
           go_wp2_with (first | ((with_reducible refine gate_callee (f := 7) rfl ?_); refine goesL_ (some 69) rfl rfl Try.func7 (by kernel_rfl) rfl #[] rfl (by (try simp only [List.map_toArray, List.map_cons, List.map_nil]); first | done | rfl | (simp only [List.length_drop, List.length_take]; rfl)) ?_; (with_reducible refine (standstilllaw07_awake.calls k2  t219 _ A32.out).mono ?_); rintro e w33 ⟨rfl, hb⟩; refine ⟨_, rfl, ?_⟩; have n0_ := zz9 (Kd.R_below (by (with_reducible repeat (first | apply zz0 | apply zz1 | apply zz2)); exact HO_9.out) hb); have n1_ := zz9 (blk_below (g := gb211) (o := .cells #[.int .i64 a0_0, .slice A0_1 l0_1.length c0_1, .slice A0_2 l0_2.length c0_2] 25 (0, 0)) (by (with_reducible repeat (first | refine zz13 ?_ _ | refine zz14 ?_ | refine zz15 ?_ _)); exact BK211.out) hb); have n2_ := zz9 (below_step (by repeat (first | (with_reducible first | exact HB.out | apply zz11 | apply zz10 | apply zz12 | refine below_set ?_ GE211.out) | exact HB.out)) hb); clear HO_9; clear BK211; clear HB; have HO_9 := n0_; have BK211 := n1_; have HB := n2_; clear n0_ n1_ n2_; (try clear hb); (try clear hb2); (try clear hk); (try clear hi)))
           go_ret
           exact ⟨by first | rfl | (simp [errW_none, errW_some] <;> rfl) | (simp [*, errW_none, errW_some] <;> rfl), by repeat (first | (with_reducible first | exact HB.out | apply zz11 | apply zz10 | apply zz12 | refine below_set ?_ GE211.out) | exact HB.out)⟩
          ·
           rw [if_neg c31] at H
           have c31b0 : decide ((rd l2 x10_2) < 0) = false := decide_eq_false c31
           clear c31
           by_cases c34 : (rd l2 x10_2) ≥ (l2.length : Int)
           ·
            rw [if_pos c34] at H
            have c34b0 : decide ((l2.length : Int) ≤ (rd l2 x10_2)) = true := decide_eq_true c34
            clear c34
            replace H := Option.bind_eq_some_iff.mp H
            obtain ⟨t221, A350, H⟩ := H
            replace H : (some t221) = some r := H
            have A35 := zz9 A350
            clear A350
            obtain rfl := Option.some.inj H
            have p218 : 0 ≤ (x10_2 : Int) := of_decide_eq_true (by assumption)
            have q218 : x10_2 < (l2.length : Int) := of_decide_eq_true (by assumption)
            obtain ⟨ad218, e218, hx218_0⟩ := Kd.at_int HR2.out x10_2 p218 q218
            cases e218
            replace hx218_0 := (HB.out.cell (World.block_lt_of_cell? w _ hx218_0)).trans hx218_0
            replace p218 := eq_true p218
            replace q218 := eq_true q218
            have p220 : 0 ≤ (x10_2 : Int) := of_decide_eq_true (by assumption)
            have q220 : x10_2 < (l2.length : Int) := of_decide_eq_true (by assumption)
            obtain ⟨ad220, e220, hx220_0⟩ := Kd.at_int HR2.out x10_2 p220 q220
            obtain rfl : ad218 = ad220 := (by injection e220)
            replace hx220_0 := (HB.out.cell (World.block_lt_of_cell? w _ hx220_0)).trans hx220_0
            replace p220 := eq_true p220
            replace q220 := eq_true q220
            go_wp2_with (first | ((with_reducible refine gate_callee (f := 7) rfl ?_); refine goesL_ (some 69) rfl rfl Try.func7 (by kernel_rfl) rfl #[] rfl (by (try simp only [List.map_toArray, List.map_cons, List.map_nil]); first | done | rfl | (simp only [List.length_drop, List.length_take]; rfl)) ?_; (with_reducible refine (standstilllaw07_awake.calls k2  t221 _ A35.out).mono ?_); rintro e w36 ⟨rfl, hb⟩; refine ⟨_, rfl, ?_⟩; have n0_ := zz9 (Kd.R_below (by (with_reducible repeat (first | apply zz0 | apply zz1 | apply zz2)); exact HO_9.out) hb); have n1_ := zz9 (blk_below (g := gb211) (o := .cells #[.int .i64 a0_0, .slice A0_1 l0_1.length c0_1, .slice A0_2 l0_2.length c0_2] 25 (0, 0)) (by (with_reducible repeat (first | refine zz13 ?_ _ | refine zz14 ?_ | refine zz15 ?_ _)); exact BK211.out) hb); have n2_ := zz9 (below_step (by repeat (first | (with_reducible first | exact HB.out | apply zz11 | apply zz10 | apply zz12 | refine below_set ?_ GE211.out) | exact HB.out)) hb); clear HO_9; clear BK211; clear HB; have HO_9 := n0_; have BK211 := n1_; have HB := n2_; clear n0_ n1_ n2_; (try clear hb); (try clear hb2); (try clear hk); (try clear hi)))
            go_ret
            exact ⟨by first | rfl | (simp [errW_none, errW_some] <;> rfl) | (simp [*, errW_none, errW_some] <;> rfl), by repeat (first | (with_reducible first | exact HB.out | apply zz11 | apply zz10 | apply zz12 | refine below_set ?_ GE211.out) | exact HB.out)⟩
           ·
            rw [if_neg c34] at H
            have c34b0 : decide ((l2.length : Int) ≤ (rd l2 x10_2)) = false := decide_eq_false c34
            clear c34
            by_cases c37 : 0 ≤ (rd l2 x10_2)
            ·
             rw [if_pos c37] at H
             have c37b0 : decide (0 ≤ (rd l2 x10_2)) = true := decide_eq_true c37
             clear c37
             by_cases c38 : (rd l2 x10_2) < (x9_2.length : Int)
             ·
              rw [if_pos c38] at H
              have c38b0 : decide ((rd l2 x10_2) < (x9_2.length : Int)) = true := decide_eq_true c38
              clear c38
              obtain ⟨bq39, hbq39⟩ : ∃ b_ : Bool, b_ = (rdOf false x9_2 (rd l2 x10_2)) := ⟨_, rfl⟩
              replace H : (if bq39 = true then ((standstilllaw07_awake.f k2).bind fun t224 => (some t224)) else (standstilllaw07_TagNames.l0 k2 l1 l2 a3 (x9_2.set ((rd l2 x10_2) : Int).toNat true) (wrap64 (x10_2 + 1)) a0_0 l0_1 l0_2)) = some r := by rw [← hbq39] at H; exact H
              have Nbq39 := zz9 hbq39
              clear hbq39
              by_cases c40 : bq39 = true
              ·
               subst c40
               have H1 : ((standstilllaw07_awake.f k2).bind fun t224 => (some t224)) = some r := by rw [if_pos rfl] at H; exact H
               clear H
               have H := H1
               clear H1
               replace H := Option.bind_eq_some_iff.mp H
               obtain ⟨t224, A410, H⟩ := H
               replace H : (some t224) = some r := H
               have A41 := zz9 A410
               clear A410
               obtain rfl := Option.some.inj H
               have p218 : 0 ≤ (x10_2 : Int) := of_decide_eq_true (by assumption)
               have q218 : x10_2 < (l2.length : Int) := of_decide_eq_true (by assumption)
               obtain ⟨ad218, e218, hx218_0⟩ := Kd.at_int HR2.out x10_2 p218 q218
               cases e218
               replace hx218_0 := (HB.out.cell (World.block_lt_of_cell? w _ hx218_0)).trans hx218_0
               replace p218 := eq_true p218
               replace q218 := eq_true q218
               have p220 : 0 ≤ (x10_2 : Int) := of_decide_eq_true (by assumption)
               have q220 : x10_2 < (l2.length : Int) := of_decide_eq_true (by assumption)
               obtain ⟨ad220, e220, hx220_0⟩ := Kd.at_int HR2.out x10_2 p220 q220
               obtain rfl : ad218 = ad220 := (by injection e220)
               replace hx220_0 := (HB.out.cell (World.block_lt_of_cell? w _ hx220_0)).trans hx220_0
               replace p220 := eq_true p220
               replace q220 := eq_true q220
               have p222 : 0 ≤ (x10_2 : Int) := of_decide_eq_true (by assumption)
               have q222 : x10_2 < (l2.length : Int) := of_decide_eq_true (by assumption)
               obtain ⟨ad222, e222, hx222_0⟩ := Kd.at_int HR2.out x10_2 p222 q222
               obtain rfl : ad218 = ad222 := (by injection e222)
               replace hx222_0 := (HB.out.cell (World.block_lt_of_cell? w _ hx222_0)).trans hx222_0
               replace p222 := eq_true p222
               replace q222 := eq_true q222
               obtain ⟨Ao42, co42, eo42⟩ := Kd.R_slice HO_9.out
               subst eo42
               have p223 : 0 ≤ ((rd l2 x10_2) : Int) := of_decide_eq_true (by assumption)
               have q223 : (rd l2 x10_2) < (x9_2.length : Int) := of_decide_eq_true (by assumption)
               obtain ⟨ad223, e223, hx223_0⟩ := Kd.at_bool (Kd.R_reads' HO_9.out).2.2 (rd l2 x10_2) p223 q223
               (try rw [← Nbq39.out] at hx223_0)
               cases e223
               replace p223 := eq_true p223
               replace q223 := eq_true q223
               go_wp2_with (first | ((with_reducible refine gate_callee (f := 7) rfl ?_); refine goesL_ (some 69) rfl rfl Try.func7 (by kernel_rfl) rfl #[] rfl (by (try simp only [List.map_toArray, List.map_cons, List.map_nil]); first | done | rfl | (simp only [List.length_drop, List.length_take]; rfl)) ?_; (with_reducible refine (standstilllaw07_awake.calls k2  t224 _ A41.out).mono ?_); rintro e w43 ⟨rfl, hb⟩; refine ⟨_, rfl, ?_⟩; have n0_ := zz9 (Kd.R_below (by (with_reducible repeat (first | apply zz0 | apply zz1 | apply zz2)); exact HO_9.out) hb); have n1_ := zz9 (blk_below (g := gb211) (o := .cells #[.int .i64 a0_0, .slice A0_1 l0_1.length c0_1, .slice A0_2 l0_2.length c0_2] 25 (0, 0)) (by (with_reducible repeat (first | refine zz13 ?_ _ | refine zz14 ?_ | refine zz15 ?_ _)); exact BK211.out) hb); have n2_ := zz9 (below_step (by repeat (first | (with_reducible first | exact HB.out | apply zz11 | apply zz10 | apply zz12 | refine below_set ?_ GE211.out) | exact HB.out)) hb); clear HO_9; clear BK211; clear HB; have HO_9 := n0_; have BK211 := n1_; have HB := n2_; clear n0_ n1_ n2_; (try clear hb); (try clear hb2); (try clear hk); (try clear hi)))
               go_ret
               exact ⟨by first | rfl | (simp [errW_none, errW_some] <;> rfl) | (simp [*, errW_none, errW_some] <;> rfl), by repeat (first | (with_reducible first | exact HB.out | apply zz11 | apply zz10 | apply zz12 | refine below_set ?_ GE211.out) | exact HB.out)⟩
              ·
               replace c40 := Bool.eq_false_iff.mpr c40
               subst c40
               have H1 : (standstilllaw07_TagNames.l0 k2 l1 l2 a3 (x9_2.set ((rd l2 x10_2) : Int).toNat true) (wrap64 (x10_2 + 1)) a0_0 l0_1 l0_2) = some r := by rw [if_neg (show ¬ (false = true) by decide)] at H; exact H
               clear H
               have H := H1
               clear H1
               obtain ⟨y226, hy226⟩ : ∃ y_ : List Bool, y_ = (x9_2.set ((rd l2 x10_2) : Int).toNat true) := ⟨_, rfl⟩
               replace H : (standstilllaw07_TagNames.l0 k2 l1 l2 a3 y226 (wrap64 (x10_2 + 1)) a0_0 l0_1 l0_2) = some r := by first | (rw [hy226]; with_reducible exact H) | (have H2_ := (Option.bind_some _ _).symm.trans H; rw [hy226]; with_reducible exact H2_) | (have H2_ := (Option.bind_some _ _).symm.trans H; with_reducible exact H2_) | with_reducible exact H | (rw [hy226]; exact H) | exact H
               have Ny226 := zz9 hy226
               clear hy226
               have H' := zz9 H
               clear H
               have p218 : 0 ≤ (x10_2 : Int) := of_decide_eq_true (by assumption)
               have q218 : x10_2 < (l2.length : Int) := of_decide_eq_true (by assumption)
               obtain ⟨ad218, e218, hx218_0⟩ := Kd.at_int HR2.out x10_2 p218 q218
               cases e218
               replace hx218_0 := (HB.out.cell (World.block_lt_of_cell? w _ hx218_0)).trans hx218_0
               replace p218 := eq_true p218
               replace q218 := eq_true q218
               have p220 : 0 ≤ (x10_2 : Int) := of_decide_eq_true (by assumption)
               have q220 : x10_2 < (l2.length : Int) := of_decide_eq_true (by assumption)
               obtain ⟨ad220, e220, hx220_0⟩ := Kd.at_int HR2.out x10_2 p220 q220
               obtain rfl : ad218 = ad220 := (by injection e220)
               replace hx220_0 := (HB.out.cell (World.block_lt_of_cell? w _ hx220_0)).trans hx220_0
               replace p220 := eq_true p220
               replace q220 := eq_true q220
               have p222 : 0 ≤ (x10_2 : Int) := of_decide_eq_true (by assumption)
               have q222 : x10_2 < (l2.length : Int) := of_decide_eq_true (by assumption)
               obtain ⟨ad222, e222, hx222_0⟩ := Kd.at_int HR2.out x10_2 p222 q222
               obtain rfl : ad218 = ad222 := (by injection e222)
               replace hx222_0 := (HB.out.cell (World.block_lt_of_cell? w _ hx222_0)).trans hx222_0
               replace p222 := eq_true p222
               replace q222 := eq_true q222
               obtain ⟨Ao45, co45, eo45⟩ := Kd.R_slice HO_9.out
               subst eo45
               have p223 : 0 ≤ ((rd l2 x10_2) : Int) := of_decide_eq_true (by assumption)
               have q223 : (rd l2 x10_2) < (x9_2.length : Int) := of_decide_eq_true (by assumption)
               obtain ⟨ad223, e223, hx223_0⟩ := Kd.at_bool (Kd.R_reads' HO_9.out).2.2 (rd l2 x10_2) p223 q223
               (try rw [← Nbq39.out] at hx223_0)
               cases e223
               replace p223 := eq_true p223
               replace q223 := eq_true q223
               have p225 : 0 ≤ (x10_2 : Int) := of_decide_eq_true (by assumption)
               have q225 : x10_2 < (l2.length : Int) := of_decide_eq_true (by assumption)
               obtain ⟨ad225, e225, hx225_0⟩ := Kd.at_int HR2.out x10_2 p225 q225
               obtain rfl : ad218 = ad225 := (by injection e225)
               replace hx225_0 := (HB.out.cell (World.block_lt_of_cell? w _ hx225_0)).trans hx225_0
               replace p225 := eq_true p225
               replace q225 := eq_true q225
               have p44 : 0 ≤ ((rd l2 x10_2) : Int) := of_decide_eq_true (by assumption)
               have q44 : ((rd l2 x10_2) : Int) < ((x9_2.length : Int) : Int) := of_decide_eq_true (by assumption)
               obtain ⟨go44, co44, eo44, gb44, gl44, cl44, HG44⟩ := Kd.R_form HO_9.out (by omega)
               (first | cases eo44 | (injection eo44 with ea_ en_ ec_; (first | subst ea_ | (injection ea_ with ea_; subst ea_)); subst ec_; clear en_))
               have GB44 := zz9 gb44
               have GG44 := zz9 HG44
               clear gb44 gl44 HG44
               (first | simp only [add_plain] at hx223_0 | skip)
               obtain ⟨hx44_0, hf44_0⟩ := Kd.R_celln false HO_9.out ((rd l2 x10_2) : Int) p44 q44
               replace p44 := eq_true p44
               replace q44 := eq_true q44
               have HP46 := Kd.R_putg HO_9.out ((rd l2 x10_2) : Int) true
               go_wp2_with (first | ((with_reducible refine gate_store (t := 4) (p := 75) rfl ?_); refine store_event (t := 4) (p := 75) (v := ?vo_w47) (w1 := (wr.setCell ⟨go44, ((rd l2 x10_2) : Int).toNat, none⟩ (.bool true))) ?hg ?ho ?hn ?hr ?_; (case ho => rfl); (case hg => rfl); (case hn => rfl); (case hr => first | (go_simp; done) | (go_simp; rfl)); intro w47 hw; have hg : wr.grownBy w47 (some go44) := (by rw [hw]; exact HP46.2); have hp_ : Kd.R Kd.bool 4 w47 w.heap.size (fun _ => True) (.slice (some ⟨go44, 0, none⟩) x9_2.length co45) y226 := (by rw [hw, Ny226.out]; exact HP46.1); clear HP46; have n0_ := zz9 (hp_); have n1_ := zz9 (blk_grown (g := gb211) (o := .cells #[.int .i64 a0_0, .slice A0_1 l0_1.length c0_1, .slice A0_2 l0_2.length c0_2] 25 (0, 0)) (by (with_reducible repeat (first | refine zz13 ?_ _ | refine zz14 ?_ | refine zz15 ?_ _)); exact BK211.out) hg (Kd.R_ne HO_9.out BK211.out (by decide))); have n2_ := zz9 ((by rw [hw]; exact below_set (HB.out) GB44.out : Below w.heap.size w w47)); clear HO_9; clear BK211; clear HB; have HO_9 := n0_; have BK211 := n1_; have HB := n2_; clear n0_ n1_ n2_; clear hg hw hp_))
               go_roundg k2
               case measure => have := HJ4.out; have := HK2.out; omega
               case rel => exact ⟨(y226), (wrap64 (x10_2 + 1)), (by first | rfl | (simp; done) | (simp [*]; done)), H', ⟨by have := HJ4.out; have := HK2.out; omega⟩, ⟨by (with_reducible repeat (first | apply zz0 | apply zz1 | apply zz2)); exact HO_9.out⟩, ⟨by (with_reducible repeat (first | refine zz13 ?_ _ | refine zz14 ?_ | refine zz15 ?_ _)); exact BK211.out⟩, ⟨by repeat (first | (with_reducible first | exact HB.out | apply zz11 | apply zz10 | apply zz12 | refine below_set ?_ GE211.out) | exact HB.out)⟩⟩
             ·
              rw [if_neg c38] at H
              exact absurd H (by simp)
            ·
             rw [if_neg c37] at H
             exact absurd H (by simp)
         ·
          rw [if_neg c30] at H
          exact absurd H (by simp)
        ·
         rw [if_neg c29] at H
         have c29b0 : decide (x10_2 < (l2.length : Int)) = false := decide_eq_false c29
         clear c29
         by_cases c48 : 0 ≤ (l2.length : Int)
         ·
          rw [if_pos c48] at H
          have c48b0 := eq_true c48
          have c48b1 : decide (0 ≤ (l2.length : Int)) = true := decide_eq_true c48
          clear c48
          by_cases c49 : ((l2.length : Int) : Int).toNat ≤ 11728124029610
          ·
           rw [if_pos c49] at H
           have c49b0 := eq_true c49
           have c49b1 : decide (((l2.length : Int) : Int).toNat ≤ 11728124029610) = true := decide_eq_true c49
           clear c49
           obtain ⟨y227, hy227⟩ : ∃ y_ : List (List Int), y_ = (List.replicate ((l2.length : Int) : Int).toNat []) := ⟨_, rfl⟩
           replace H : (if ((l2.length : Int) : Int).toNat ≤ 281474976710656 then (standstilllaw07_TagNames.l1 k2 l1 l2 a3 0 a0_0 l0_1 l0_2 a0_0 y227 (List.replicate ((l2.length : Int) : Int).toNat false)) else (none)) = some r := by first | (rw [hy227]; with_reducible exact H) | (have H2_ := (Option.bind_some _ _).symm.trans H; rw [hy227]; with_reducible exact H2_) | (have H2_ := (Option.bind_some _ _).symm.trans H; with_reducible exact H2_) | with_reducible exact H | (rw [hy227]; exact H) | exact H
           have Ny227 := zz9 hy227
           clear hy227
           by_cases c50 : ((l2.length : Int) : Int).toNat ≤ 281474976710656
           ·
            rw [if_pos c50] at H
            have c50b0 := eq_true c50
            have c50b1 : decide (((l2.length : Int) : Int).toNat ≤ 281474976710656) = true := decide_eq_true c50
            clear c50
            obtain ⟨y230, hy230⟩ : ∃ y_ : List Bool, y_ = (List.replicate ((l2.length : Int) : Int).toNat false) := ⟨_, rfl⟩
            replace H : (standstilllaw07_TagNames.l1 k2 l1 l2 a3 0 a0_0 l0_1 l0_2 a0_0 y227 y230) = some r := by first | (rw [hy230]; with_reducible exact H) | (have H2_ := (Option.bind_some _ _).symm.trans H; rw [hy230]; with_reducible exact H2_) | (have H2_ := (Option.bind_some _ _).symm.trans H; with_reducible exact H2_) | with_reducible exact H | (rw [hy230]; exact H) | exact H
            have Ny230 := zz9 hy230
            clear hy230
            have H' := zz9 H
            clear H
            try go_wp2
            have n0_ := zz9 (zz2 HO_9.out)
            have n1_ := zz9 (zz14 BK211.out)
            have n2_ := zz9 (zz12 HB.out)
            clear HO_9
            clear BK211
            clear HB
            have HO_9 := n0_
            have BK211 := n1_
            have HB := n2_
            clear n0_ n1_ n2_
            refine start_ (n := 11) (S := fun w' => w'.cell? ⟨gb211, 0, none⟩ = some (.int .i64 a0_0) ∧ w'.cell? ⟨gb211, 1, none⟩ = some (.slice A0_1 l0_1.length c0_1) ∧ w'.cell? ⟨gb211, 2, none⟩ = some (.slice A0_2 l0_2.length c0_2)) (ds := []) #[false, false, false, false, false, false, false, false, false, false, false] (by kernel_rfl) rfl rfl ⟨(blk_cell BK211.out 0).trans rfl, (blk_cell BK211.out 1).trans rfl, (blk_cell BK211.out 2).trans rfl⟩ (fun hHeld => ?_); refine with_tabW standstilllaw07_TagNames.tab10 standstilllaw07_TagNames.bits10 (fun HT_ HW_ => ?_)
            generalize wr.drew = w51 at HO_9 BK211 HB hHeld ⊢
            refine pure_ (i := 0) (N := some 76) (v := ?_) (a' := ?_) #[true, false, false, false, false, false, false, false, false, false, false] rfl rfl (any_of HT_.out (by kernel_rfl)) (fun _ _ _ h => h) (Or.inl ⟨by rfl, ?_⟩) ?_ ?_
            rotate_left
            ·
             intro w'
             go_simp
             with_reducible rfl
            rotate_left
            ·
             simp only [Act.put, zz6, zz7, zz8, i64_w, i32_w]
             rfl
            refine pure_ (i := 2) (N := some 78) (v := ?_) (a' := ?_) #[true, false, true, false, false, false, false, false, false, false, false] rfl rfl (any_of HT_.out (by kernel_rfl)) (fun _ _ _ h => h) (Or.inl ⟨by rfl, ?_⟩) ?_ ?_
            rotate_left
            ·
             intro w'
             go_simp
             with_reducible rfl
            rotate_left
            ·
             simp only [Act.put, zz6, zz7, zz8, i64_w, i32_w]
             rfl
            refine pure_ (i := 3) (N := some 79) (v := ?_) (a' := ?_) #[true, false, true, true, false, false, false, false, false, false, false] rfl rfl (any_of HT_.out (by kernel_rfl)) (fun _ _ _ h => h) (Or.inl ⟨by rfl, ?_⟩) ?_ ?_
            rotate_left
            ·
             intro w'
             go_simp
             with_reducible rfl
            rotate_left
            ·
             simp only [Act.put, zz6, zz7, zz8, i64_w, i32_w]
             rfl
            refine pure_ (i := 5) (N := some 81) (v := ?_) (a' := ?_) #[true, false, true, true, false, true, false, false, false, false, false] rfl rfl (any_of HT_.out (by kernel_rfl)) (fun _ _ _ h => h) (Or.inl ⟨by rfl, ?_⟩) ?_ ?_
            rotate_left
            ·
             intro w'
             go_simp
             with_reducible rfl
            rotate_left
            ·
             simp only [Act.put, zz6, zz7, zz8, i64_w, i32_w]
             rfl
            refine pure_ (i := 6) (N := some 82) (v := ?_) (a' := ?_) #[true, false, true, true, false, true, true, false, false, false, false] rfl rfl (any_of HT_.out (by kernel_rfl)) (fun _ _ _ h => h) (Or.inl ⟨by rfl, ?_⟩) ?_ ?_
            rotate_left
            ·
             intro w'
             go_simp
             with_reducible rfl
            rotate_left
            ·
             simp only [Act.put, zz6, zz7, zz8, i64_w, i32_w]
             rfl
            refine take_ (i := 1) (N := some 77) (v := ?_) (a' := ?_) #[true, true, true, true, false, true, true, false, false, false, false] rfl rfl (take_ofW HT_.out HW_.out (by kernel_rfl)) (fun _ _ _ h => h) (Or.inl ⟨by rfl, ?_⟩) hHeld ?_ ?_
            rotate_left
            ·
             rintro w' ⟨s0, s1, s2⟩
             go_simp
             with_reducible rfl
            rotate_left
            ·
             simp only [Act.put, zz6, zz7, zz8, i64_w, i32_w]
             rfl
            refine join_ (σ := Value × Value × Nat) 1 #[true, true, true, true, true, true, true, true, true, true, false] (fun s_ => [(80, s_.1), (83, s_.2.1), (11, .pointer (some ⟨s_.2.2, 0, none⟩)), (84, .agg #[.int .i64 a0_0, s_.1, s_.2.1])]) (fun s_ w' => (w'.cell? ⟨gb211, 0, none⟩ = some (.int .i64 a0_0) ∧ w'.cell? ⟨gb211, 1, none⟩ = some (.slice A0_1 l0_1.length c0_1) ∧ w'.cell? ⟨gb211, 2, none⟩ = some (.slice A0_2 l0_2.length c0_2)) ∧ (Kd.S (Kd.slice 3 (Kd.int .i64)) 26 w' w.heap.size (fun _ => True) s_.1 y227) ∧ (Kd.R Kd.bool 4 w' w.heap.size (fun k_ => some k_ ≠ (v216 : Value).ownBlock) s_.2.1 y230) ∧ (Kd.R Kd.bool 4 w' w.heap.size (fun k_ => some k_ ≠ (s_.2.1 : Value).ownBlock) v216 x9_2) ∧ (w'.heap[gb211]? = some (.cells #[.int .i64 a0_0, .slice A0_1 l0_1.length c0_1, .slice A0_2 l0_2.length c0_2] 25 (0, 0))) ∧ (w'.heap[s_.2.2]? = some (.cells #[.int .i64 0, .slice none 0 0, .slice none 0 0] 25 (0, 0))) ∧ (w.heap.size ≤ s_.2.2) ∧ (w.heap.size ≤ s_.2.2) ∧ (gb211 ≠ s_.2.2) ∧ (s_.2.2 ≠ gb211) ∧ (Below w.heap.size w w')) ?_ ?_
            rotate_left
            ·
             intro hJ4_7_9
             refine join_ (σ := Value × Value) 2 #[true, true, true, true, true, true, true, true, true, false, false] (fun s_ => [(80, s_.1), (83, s_.2), (84, .agg #[.int .i64 a0_0, s_.1, s_.2])]) (fun s_ w' => (w'.cell? ⟨gb211, 0, none⟩ = some (.int .i64 a0_0) ∧ w'.cell? ⟨gb211, 1, none⟩ = some (.slice A0_1 l0_1.length c0_1) ∧ w'.cell? ⟨gb211, 2, none⟩ = some (.slice A0_2 l0_2.length c0_2)) ∧ (Kd.S (Kd.slice 3 (Kd.int .i64)) 26 w' w.heap.size (fun _ => True) s_.1 y227) ∧ (Kd.R Kd.bool 4 w' w.heap.size (fun k_ => some k_ ≠ (v216 : Value).ownBlock) s_.2 y230) ∧ (Kd.R Kd.bool 4 w' w.heap.size (fun k_ => some k_ ≠ (s_.2 : Value).ownBlock) v216 x9_2) ∧ (w'.heap[gb211]? = some (.cells #[.int .i64 a0_0, .slice A0_1 l0_1.length c0_1, .slice A0_2 l0_2.length c0_2] 25 (0, 0))) ∧ (Below w.heap.size w w')) ?_ ?_
             rotate_left
             ·
              intro hJ4_7
              refine join_ (σ := Value × Nat) 3 #[true, true, true, true, true, true, true, false, false, true, false] (fun s_ => [(80, s_.1), (11, .pointer (some ⟨s_.2, 0, none⟩))]) (fun s_ w' => (w'.cell? ⟨gb211, 0, none⟩ = some (.int .i64 a0_0) ∧ w'.cell? ⟨gb211, 1, none⟩ = some (.slice A0_1 l0_1.length c0_1) ∧ w'.cell? ⟨gb211, 2, none⟩ = some (.slice A0_2 l0_2.length c0_2)) ∧ (Kd.S (Kd.slice 3 (Kd.int .i64)) 26 w' w.heap.size (fun _ => True) s_.1 y227) ∧ (Kd.R Kd.bool 4 w' w.heap.size (fun _ => True) v216 x9_2) ∧ (w'.heap[gb211]? = some (.cells #[.int .i64 a0_0, .slice A0_1 l0_1.length c0_1, .slice A0_2 l0_2.length c0_2] 25 (0, 0))) ∧ (w'.heap[s_.2]? = some (.cells #[.int .i64 0, .slice none 0 0, .slice none 0 0] 25 (0, 0))) ∧ (w.heap.size ≤ s_.2) ∧ (w.heap.size ≤ s_.2) ∧ (gb211 ≠ s_.2) ∧ (s_.2 ≠ gb211) ∧ (Below w.heap.size w w')) ?_ ?_
              rotate_left
              ·
               intro hJ4_9
               refine join_ (σ := Value × Nat) 3 #[true, true, true, true, false, true, true, true, false, true, false] (fun s_ => [(83, s_.1), (11, .pointer (some ⟨s_.2, 0, none⟩))]) (fun s_ w' => (w'.cell? ⟨gb211, 0, none⟩ = some (.int .i64 a0_0) ∧ w'.cell? ⟨gb211, 1, none⟩ = some (.slice A0_1 l0_1.length c0_1) ∧ w'.cell? ⟨gb211, 2, none⟩ = some (.slice A0_2 l0_2.length c0_2)) ∧ (Kd.R Kd.bool 4 w' w.heap.size (fun k_ => some k_ ≠ (v216 : Value).ownBlock) s_.1 y230) ∧ (Kd.R Kd.bool 4 w' w.heap.size (fun k_ => some k_ ≠ (s_.1 : Value).ownBlock) v216 x9_2) ∧ (w'.heap[gb211]? = some (.cells #[.int .i64 a0_0, .slice A0_1 l0_1.length c0_1, .slice A0_2 l0_2.length c0_2] 25 (0, 0))) ∧ (w'.heap[s_.2]? = some (.cells #[.int .i64 0, .slice none 0 0, .slice none 0 0] 25 (0, 0))) ∧ (w.heap.size ≤ s_.2) ∧ (w.heap.size ≤ s_.2) ∧ (gb211 ≠ s_.2) ∧ (s_.2 ≠ gb211) ∧ (Below w.heap.size w w')) ?_ ?_
               rotate_left
               ·
                intro hJ7_9
                refine join_ (σ := Value) 4 #[true, true, true, true, true, true, true, false, false, false, false] (fun s_ => [(80, s_)]) (fun s_ w' => (w'.cell? ⟨gb211, 0, none⟩ = some (.int .i64 a0_0) ∧ w'.cell? ⟨gb211, 1, none⟩ = some (.slice A0_1 l0_1.length c0_1) ∧ w'.cell? ⟨gb211, 2, none⟩ = some (.slice A0_2 l0_2.length c0_2)) ∧ (Kd.S (Kd.slice 3 (Kd.int .i64)) 26 w' w.heap.size (fun _ => True) s_ y227) ∧ (Kd.R Kd.bool 4 w' w.heap.size (fun _ => True) v216 x9_2) ∧ (w'.heap[gb211]? = some (.cells #[.int .i64 a0_0, .slice A0_1 l0_1.length c0_1, .slice A0_2 l0_2.length c0_2] 25 (0, 0))) ∧ (Below w.heap.size w w')) ?_ ?_
                rotate_left
                ·
                 intro hJ4
                 refine join_ (σ := Value) 4 #[true, true, true, true, false, true, true, true, false, false, false] (fun s_ => [(83, s_)]) (fun s_ w' => (w'.cell? ⟨gb211, 0, none⟩ = some (.int .i64 a0_0) ∧ w'.cell? ⟨gb211, 1, none⟩ = some (.slice A0_1 l0_1.length c0_1) ∧ w'.cell? ⟨gb211, 2, none⟩ = some (.slice A0_2 l0_2.length c0_2)) ∧ (Kd.R Kd.bool 4 w' w.heap.size (fun k_ => some k_ ≠ (v216 : Value).ownBlock) s_ y230) ∧ (Kd.R Kd.bool 4 w' w.heap.size (fun k_ => some k_ ≠ (s_ : Value).ownBlock) v216 x9_2) ∧ (w'.heap[gb211]? = some (.cells #[.int .i64 a0_0, .slice A0_1 l0_1.length c0_1, .slice A0_2 l0_2.length c0_2] 25 (0, 0))) ∧ (Below w.heap.size w w')) ?_ ?_
                 rotate_left
                 ·
                  intro hJ7
                  refine join_ (σ := Nat) 4 #[true, true, true, true, false, true, true, false, false, true, false] (fun s_ => [(11, .pointer (some ⟨s_, 0, none⟩))]) (fun s_ w' => (w'.cell? ⟨gb211, 0, none⟩ = some (.int .i64 a0_0) ∧ w'.cell? ⟨gb211, 1, none⟩ = some (.slice A0_1 l0_1.length c0_1) ∧ w'.cell? ⟨gb211, 2, none⟩ = some (.slice A0_2 l0_2.length c0_2)) ∧ (Kd.R Kd.bool 4 w' w.heap.size (fun _ => True) v216 x9_2) ∧ (w'.heap[gb211]? = some (.cells #[.int .i64 a0_0, .slice A0_1 l0_1.length c0_1, .slice A0_2 l0_2.length c0_2] 25 (0, 0))) ∧ (w'.heap[s_]? = some (.cells #[.int .i64 0, .slice none 0 0, .slice none 0 0] 25 (0, 0))) ∧ (w.heap.size ≤ s_) ∧ (w.heap.size ≤ s_) ∧ (gb211 ≠ s_) ∧ (s_ ≠ gb211) ∧ (Below w.heap.size w w')) ?_ ?_
                  rotate_left
                  ·
                   intro hJ9
                   refine three_ (i := 4) (j := 7) (k := 9) (Ni := some 80) (Nj := some 83) (Nk := some 11) #[true, true, true, true, true, true, true, false, false, false, false] #[true, true, true, true, false, true, true, true, false, false, false] #[true, true, true, true, false, true, true, false, false, true, false] rfl rfl rfl rfl rfl rfl (three_of HT_.out (by kernel_rfl)) (by decide) (by decide) (by decide) (fun K hK => ?_) (fun K hK => ?_) (fun K hK => ?_)
                   ·
                    skip
                    refine Kd.S_make_step (Kd.slice 3 (Kd.int .i64)) _ 26 (by rfl) (N := 80) rfl 22 _ _ rfl (l2.length : Int) rfl rfl Try.underlying22 (.slice none 0 0) 24 info26 rfl (by decide) (by omega) [] (ok := fun _ => True) (okp := fun _ => True) ⟨_, rfl, Kd.R_nil _ _ _ _ _⟩ (fun _ hk => hk) trivial (of_decide_eq_true (by assumption)) (Nat.le_trans (Nat.mul_le_mul_right _ (of_decide_eq_true (by assumption) : (l2.length : Int).toNat ≤ 11728124029610)) (by omega)) (Below.refl _ _) (Nat.le_refl _) ?_
                    intro v228 w52 ho53 hb hg_ hnew_
                    clear hg_ hnew_
                    (first | rw [← Ny227.out] at ho53 | (simp only [Int.reduceToNat] at ho53; rw [← Ny227.out] at ho53))
                    have n0_ := zz9 (Kd.R_below (by (with_reducible repeat (first | apply zz0 | apply zz1 | apply zz2)); exact HO_9.out) hb)
                    have n1_ := zz9 (Kd.S_lower ho53 (below_size (by repeat (first | (with_reducible first | exact HB.out | apply zz11 | apply zz10 | apply zz12 | refine below_set ?_ GE211.out) | exact HB.out))))
                    have n2_ := zz9 (blk_below (g := gb211) (o := .cells #[.int .i64 a0_0, .slice A0_1 l0_1.length c0_1, .slice A0_2 l0_2.length c0_2] 25 (0, 0)) (by (with_reducible repeat (first | refine zz13 ?_ _ | refine zz14 ?_ | refine zz15 ?_ _)); exact BK211.out) hb)
                    have n3_ := zz9 (below_step (by repeat (first | (with_reducible first | exact HB.out | apply zz11 | apply zz10 | apply zz12 | refine below_set ?_ GE211.out) | exact HB.out)) hb)
                    clear HO_9
                    clear BK211
                    clear HB
                    have HO_9 := n0_
                    have HO229 := n1_
                    have BK211 := n2_
                    have HB := n3_
                    clear n0_ n1_ n2_ n3_
                    clear hb ho53
                    refine hK.out _ _ ⟨(blk_cell BK211.out 0).trans rfl, (blk_cell BK211.out 1).trans rfl, (blk_cell BK211.out 2).trans rfl⟩ (fun hHeld => ?_)
                    clear hK K
                    refine norm_ (a' := ?_) ?_ ?_
                    rotate_left
                    ·
                     show Act.put _ (some 80) _ = _
                     simp only [Act.put, zz6, zz7, zz8, i64_w, i32_w]
                     rfl
                    exact norm_ (by first | (simp only [putAll, Act.put, zz6, zz7, zz8]; done) | (simp only [putAll, Act.put, zz6, zz7, zz8]; rfl)) (hJ4 (v228) _ ⟨hHeld, (by (with_reducible repeat (first | apply zz3 | apply zz4 | apply zz5)); exact HO229.out), (by (with_reducible repeat (first | apply zz0 | apply zz1 | apply zz2)); exact HO_9.out), (by (with_reducible repeat (first | refine zz13 ?_ _ | refine zz14 ?_ | refine zz15 ?_ _)); exact BK211.out), (by repeat (first | (with_reducible first | exact HB.out | apply zz11 | apply zz10 | apply zz12 | refine below_set ?_ GE211.out) | exact HB.out))⟩)
                   ·
                    skip
                    refine Kd.R_make_step Kd.bool _ 4 (by rfl) (N := 83) rfl 23 _ _ rfl (l2.length : Int) rfl rfl Try.underlying23 (.bool false) 1 info4 rfl (by decide) (by omega) false (ok := fun _ => True) (okp := fun _ => True) rfl (fun _ hk => hk) trivial (of_decide_eq_true (by assumption)) (Nat.le_trans (Nat.mul_le_mul_right _ (of_decide_eq_true (by assumption) : (l2.length : Int).toNat ≤ 281474976710656)) (by omega)) (Below.refl _ _) (Nat.le_refl _) ?_
                    intro v231 w52 ho53 hb hg_ hnew_
                    clear hg_ hnew_
                    (first | rw [← Ny230.out] at ho53 | (simp only [Int.reduceToNat] at ho53; rw [← Ny230.out] at ho53))
                    have n0_ := zz9 (Kd.R_elder' (by (with_reducible repeat (first | apply zz0 | apply zz1 | apply zz2)); exact HO_9.out) (Kd.R_base ho53) hb)
                    have n1_ := zz9 (Kd.R_lower (Kd.R_new' ho53 (Kd.R_lt (by (with_reducible repeat (first | apply zz0 | apply zz1 | apply zz2)); exact HO_9.out))) (below_size (by repeat (first | (with_reducible first | exact HB.out | apply zz11 | apply zz10 | apply zz12 | refine below_set ?_ GE211.out) | exact HB.out))))
                    have n2_ := zz9 (blk_below (g := gb211) (o := .cells #[.int .i64 a0_0, .slice A0_1 l0_1.length c0_1, .slice A0_2 l0_2.length c0_2] 25 (0, 0)) (by (with_reducible repeat (first | refine zz13 ?_ _ | refine zz14 ?_ | refine zz15 ?_ _)); exact BK211.out) hb)
                    have n3_ := zz9 (below_step (by repeat (first | (with_reducible first | exact HB.out | apply zz11 | apply zz10 | apply zz12 | refine below_set ?_ GE211.out) | exact HB.out)) hb)
                    clear HO_9
                    clear BK211
                    clear HB
                    have HO_9 := n0_
                    have HO232 := n1_
                    have BK211 := n2_
                    have HB := n3_
                    clear n0_ n1_ n2_ n3_
                    clear hb ho53
                    refine hK.out _ _ ⟨(blk_cell BK211.out 0).trans rfl, (blk_cell BK211.out 1).trans rfl, (blk_cell BK211.out 2).trans rfl⟩ (fun hHeld => ?_)
                    clear hK K
                    refine norm_ (a' := ?_) ?_ ?_
                    rotate_left
                    ·
                     show Act.put _ (some 83) _ = _
                     simp only [Act.put, zz6, zz7, zz8, i64_w, i32_w]
                     rfl
                    exact norm_ (by first | (simp only [putAll, Act.put, zz6, zz7, zz8]; done) | (simp only [putAll, Act.put, zz6, zz7, zz8]; rfl)) (hJ7 (v231) _ ⟨hHeld, (by (with_reducible repeat (first | apply zz0 | apply zz1 | apply zz2)); exact Kd.R_mono HO232.out (fun _ hk => hk.2)), (by (with_reducible repeat (first | apply zz0 | apply zz1 | apply zz2)); exact Kd.R_mono HO_9.out (fun _ hk => hk.2)), (by (with_reducible repeat (first | refine zz13 ?_ _ | refine zz14 ?_ | refine zz15 ?_ _)); exact BK211.out), (by repeat (first | (with_reducible first | exact HB.out | apply zz11 | apply zz10 | apply zz12 | refine below_set ?_ GE211.out) | exact HB.out))⟩)
                   ·
                    skip
                    refine box_step ?hg (N := 11) ?hd (cs := #[.int .i64 0, .slice none 0 0, .slice none 0 0]) (t := 25) ?hr ?_; (case hd => rfl); (case hg => rfl); (case hr => first | (go_simp; done) | (go_simp; rfl))
                    intro gb233 hg w52 hbox hb
                    have n0_ := zz9 (Kd.R_below (by (with_reducible repeat (first | apply zz0 | apply zz1 | apply zz2)); exact HO_9.out) hb)
                    have n1_ := zz9 (blk_below (g := gb211) (o := .cells #[.int .i64 a0_0, .slice A0_1 l0_1.length c0_1, .slice A0_2 l0_2.length c0_2] 25 (0, 0)) (by (with_reducible repeat (first | refine zz13 ?_ _ | refine zz14 ?_ | refine zz15 ?_ _)); exact BK211.out) hb)
                    have n2_ := zz9 (below_step (by repeat (first | (with_reducible first | exact HB.out | apply zz11 | apply zz10 | apply zz12 | refine below_set ?_ GE211.out) | exact HB.out)) hb)
                    have n3_ := zz9 (hbox)
                    have n4_ := zz9 ((by rw [hg]; exact (below_size (by repeat (first | (with_reducible first | exact HB.out | apply zz11 | apply zz10 | apply zz12 | refine below_set ?_ GE211.out) | exact HB.out))) : w.heap.size ≤ gb233))
                    have n5_ := zz9 ((by rw [hg]; exact (below_size (by repeat (first | (with_reducible first | exact HB.out | apply zz11 | apply zz10 | apply zz12 | refine below_set ?_ GE211.out) | exact HB.out))) : w.heap.size ≤ gb233))
                    have n6_ := zz9 ((by rw [hg]; exact Nat.ne_of_lt (blk_lt (g := gb211) (o := .cells #[.int .i64 a0_0, .slice A0_1 l0_1.length c0_1, .slice A0_2 l0_2.length c0_2] 25 (0, 0)) (by (with_reducible repeat (first | refine zz13 ?_ _ | refine zz14 ?_ | refine zz15 ?_ _)); exact BK211.out)) : gb211 ≠ gb233))
                    have n7_ := zz9 ((by rw [hg]; exact Nat.ne_of_gt (blk_lt (g := gb211) (o := .cells #[.int .i64 a0_0, .slice A0_1 l0_1.length c0_1, .slice A0_2 l0_2.length c0_2] 25 (0, 0)) (by (with_reducible repeat (first | refine zz13 ?_ _ | refine zz14 ?_ | refine zz15 ?_ _)); exact BK211.out)) : gb233 ≠ gb211))
                    clear HO_9
                    clear BK211
                    clear HB
                    have HO_9 := n0_
                    have BK211 := n1_
                    have HB := n2_
                    have BK233 := n3_
                    have GW233 := n4_
                    have GE233 := n5_
                    have NB211_233 := n6_
                    have NB233_211 := n7_
                    clear n0_ n1_ n2_ n3_ n4_ n5_ n6_ n7_
                    clear hb hbox hg
                    refine hK.out _ _ ⟨(blk_cell BK211.out 0).trans rfl, (blk_cell BK211.out 1).trans rfl, (blk_cell BK211.out 2).trans rfl⟩ (fun hHeld => ?_)
                    clear hK K
                    refine norm_ (a' := ?_) ?_ ?_
                    rotate_left
                    ·
                     show Act.put _ (some 11) _ = _
                     simp only [Act.put, zz6, zz7, zz8, i64_w, i32_w]
                     rfl
                    exact norm_ (by first | (simp only [putAll, Act.put, zz6, zz7, zz8]; done) | (simp only [putAll, Act.put, zz6, zz7, zz8]; rfl)) (hJ9 (gb233) _ ⟨hHeld, (by (with_reducible repeat (first | apply zz0 | apply zz1 | apply zz2)); exact HO_9.out), (by (with_reducible repeat (first | refine zz13 ?_ _ | refine zz14 ?_ | refine zz15 ?_ _)); exact BK211.out), (by (with_reducible repeat (first | refine zz13 ?_ _ | refine zz14 ?_ | refine zz15 ?_ _)); exact BK233.out), GW233.out, GE233.out, NB211_233.out, NB233_211.out, (by repeat (first | (with_reducible first | exact HB.out | apply zz11 | apply zz10 | apply zz12 | refine below_set ?_ GE211.out | refine below_set ?_ GE233.out) | exact HB.out))⟩)
                  ·
                   skip
                   rintro gb233 w53 ⟨hS_, h0_, h1_, h2_, h3_, h4_, h5_, h6_, h7_⟩
                   have n0_ : Aside0 (Kd.R Kd.bool 4 w53 w.heap.size (fun _ => True) v216 x9_2) := ⟨h0_⟩
                   have n1_ : Aside0 (w53.heap[gb211]? = some (.cells #[.int .i64 a0_0, .slice A0_1 l0_1.length c0_1, .slice A0_2 l0_2.length c0_2] 25 (0, 0))) := ⟨h1_⟩
                   have n2_ : Aside0 (w53.heap[gb233]? = some (.cells #[.int .i64 0, .slice none 0 0, .slice none 0 0] 25 (0, 0))) := ⟨h2_⟩
                   have n3_ : Aside0 (w.heap.size ≤ gb233) := ⟨h3_⟩
                   have n4_ : Aside0 (w.heap.size ≤ gb233) := ⟨h4_⟩
                   have n5_ : Aside0 (gb211 ≠ gb233) := ⟨h5_⟩
                   have n6_ : Aside0 (gb233 ≠ gb211) := ⟨h6_⟩
                   have n7_ : Aside0 (Below w.heap.size w w53) := ⟨h7_⟩
                   clear HO_9
                   clear BK211
                   clear HB
                   clear h0_ h1_ h2_ h3_ h4_ h5_ h6_ h7_
                   have HO_9 := n0_
                   have BK211 := n1_
                   have BK233 := n2_
                   have GW233 := n3_
                   have GE233 := n4_
                   have NB211_233 := n5_
                   have NB233_211 := n6_
                   have HB := n7_
                   clear n0_ n1_ n2_ n3_ n4_ n5_ n6_ n7_
                   have hHeld : w53.cell? ⟨gb211, 0, none⟩ = some (.int .i64 a0_0) ∧ w53.cell? ⟨gb211, 1, none⟩ = some (.slice A0_1 l0_1.length c0_1) ∧ w53.cell? ⟨gb211, 2, none⟩ = some (.slice A0_2 l0_2.length c0_2) := hS_
                   refine norm_ (a' := ?_) ?_ ?_
                   rotate_left
                   ·
                    simp only [putAll, Act.put, zz6, zz7, zz8]
                    rfl
                   refine two_ (i := 4) (j := 7) (Ni := some 80) (Nj := some 83) #[true, true, true, true, true, true, true, false, false, true, false] #[true, true, true, true, false, true, true, true, false, true, false] rfl rfl rfl rfl (two_of HT_.out (by kernel_rfl)) (by decide) (by decide) (fun K hK => ?_) (fun K hK => ?_)
                   ·
                    skip
                    refine Kd.S_make_step (Kd.slice 3 (Kd.int .i64)) _ 26 (by rfl) (N := 80) rfl 22 _ _ rfl (l2.length : Int) rfl rfl Try.underlying22 (.slice none 0 0) 24 info26 rfl (by decide) (by omega) [] (ok := fun _ => True) (okp := fun _ => True) ⟨_, rfl, Kd.R_nil _ _ _ _ _⟩ (fun _ hk => hk) trivial (of_decide_eq_true (by assumption)) (Nat.le_trans (Nat.mul_le_mul_right _ (of_decide_eq_true (by assumption) : (l2.length : Int).toNat ≤ 11728124029610)) (by omega)) (Below.refl _ _) (Nat.le_refl _) ?_
                    intro v228 w54 ho55 hb hg_ hnew_
                    clear hg_ hnew_
                    (first | rw [← Ny227.out] at ho55 | (simp only [Int.reduceToNat] at ho55; rw [← Ny227.out] at ho55))
                    have n0_ := zz9 (Kd.R_below (by (with_reducible repeat (first | apply zz0 | apply zz1 | apply zz2)); exact HO_9.out) hb)
                    have n1_ := zz9 (Kd.S_lower ho55 (below_size (by repeat (first | (with_reducible first | exact HB.out | apply zz11 | apply zz10 | apply zz12 | refine below_set ?_ GE211.out | refine below_set ?_ GE233.out) | exact HB.out))))
                    have n2_ := zz9 (blk_below (g := gb211) (o := .cells #[.int .i64 a0_0, .slice A0_1 l0_1.length c0_1, .slice A0_2 l0_2.length c0_2] 25 (0, 0)) (by (with_reducible repeat (first | refine zz13 ?_ _ | refine zz14 ?_ | refine zz15 ?_ _)); exact BK211.out) hb)
                    have n3_ := zz9 (blk_below (g := gb233) (o := .cells #[.int .i64 0, .slice none 0 0, .slice none 0 0] 25 (0, 0)) (by (with_reducible repeat (first | refine zz13 ?_ _ | refine zz14 ?_ | refine zz15 ?_ _)); exact BK233.out) hb)
                    have n4_ := zz9 (below_step (by repeat (first | (with_reducible first | exact HB.out | apply zz11 | apply zz10 | apply zz12 | refine below_set ?_ GE211.out | refine below_set ?_ GE233.out) | exact HB.out)) hb)
                    clear HO_9
                    clear BK211
                    clear BK233
                    clear HB
                    have HO_9 := n0_
                    have HO229 := n1_
                    have BK211 := n2_
                    have BK233 := n3_
                    have HB := n4_
                    clear n0_ n1_ n2_ n3_ n4_
                    clear hb ho55
                    refine hK.out _ _ ⟨(blk_cell BK211.out 0).trans rfl, (blk_cell BK211.out 1).trans rfl, (blk_cell BK211.out 2).trans rfl⟩ (fun hHeld => ?_)
                    clear hK K
                    refine norm_ (a' := ?_) ?_ ?_
                    rotate_left
                    ·
                     show Act.put _ (some 80) _ = _
                     simp only [Act.put, zz6, zz7, zz8, i64_w, i32_w]
                     rfl
                    exact norm_ (by first | (simp only [putAll, Act.put, zz6, zz7, zz8]; done) | (simp only [putAll, Act.put, zz6, zz7, zz8]; rfl)) (hJ4_9 (v228, gb233) _ ⟨hHeld, (by (with_reducible repeat (first | apply zz3 | apply zz4 | apply zz5)); exact HO229.out), (by (with_reducible repeat (first | apply zz0 | apply zz1 | apply zz2)); exact HO_9.out), (by (with_reducible repeat (first | refine zz13 ?_ _ | refine zz14 ?_ | refine zz15 ?_ _)); exact BK211.out), (by (with_reducible repeat (first | refine zz13 ?_ _ | refine zz14 ?_ | refine zz15 ?_ _)); exact BK233.out), GW233.out, GE233.out, NB211_233.out, NB233_211.out, (by repeat (first | (with_reducible first | exact HB.out | apply zz11 | apply zz10 | apply zz12 | refine below_set ?_ GE211.out | refine below_set ?_ GE233.out) | exact HB.out))⟩)
                   ·
                    skip
                    refine Kd.R_make_step Kd.bool _ 4 (by rfl) (N := 83) rfl 23 _ _ rfl (l2.length : Int) rfl rfl Try.underlying23 (.bool false) 1 info4 rfl (by decide) (by omega) false (ok := fun _ => True) (okp := fun _ => True) rfl (fun _ hk => hk) trivial (of_decide_eq_true (by assumption)) (Nat.le_trans (Nat.mul_le_mul_right _ (of_decide_eq_true (by assumption) : (l2.length : Int).toNat ≤ 281474976710656)) (by omega)) (Below.refl _ _) (Nat.le_refl _) ?_
                    intro v231 w54 ho55 hb hg_ hnew_
                    clear hg_ hnew_
                    (first | rw [← Ny230.out] at ho55 | (simp only [Int.reduceToNat] at ho55; rw [← Ny230.out] at ho55))
                    have n0_ := zz9 (Kd.R_elder' (by (with_reducible repeat (first | apply zz0 | apply zz1 | apply zz2)); exact HO_9.out) (Kd.R_base ho55) hb)
                    have n1_ := zz9 (Kd.R_lower (Kd.R_new' ho55 (Kd.R_lt (by (with_reducible repeat (first | apply zz0 | apply zz1 | apply zz2)); exact HO_9.out))) (below_size (by repeat (first | (with_reducible first | exact HB.out | apply zz11 | apply zz10 | apply zz12 | refine below_set ?_ GE211.out | refine below_set ?_ GE233.out) | exact HB.out))))
                    have n2_ := zz9 (blk_below (g := gb211) (o := .cells #[.int .i64 a0_0, .slice A0_1 l0_1.length c0_1, .slice A0_2 l0_2.length c0_2] 25 (0, 0)) (by (with_reducible repeat (first | refine zz13 ?_ _ | refine zz14 ?_ | refine zz15 ?_ _)); exact BK211.out) hb)
                    have n3_ := zz9 (blk_below (g := gb233) (o := .cells #[.int .i64 0, .slice none 0 0, .slice none 0 0] 25 (0, 0)) (by (with_reducible repeat (first | refine zz13 ?_ _ | refine zz14 ?_ | refine zz15 ?_ _)); exact BK233.out) hb)
                    have n4_ := zz9 (below_step (by repeat (first | (with_reducible first | exact HB.out | apply zz11 | apply zz10 | apply zz12 | refine below_set ?_ GE211.out | refine below_set ?_ GE233.out) | exact HB.out)) hb)
                    clear HO_9
                    clear BK211
                    clear BK233
                    clear HB
                    have HO_9 := n0_
                    have HO232 := n1_
                    have BK211 := n2_
                    have BK233 := n3_
                    have HB := n4_
                    clear n0_ n1_ n2_ n3_ n4_
                    clear hb ho55
                    refine hK.out _ _ ⟨(blk_cell BK211.out 0).trans rfl, (blk_cell BK211.out 1).trans rfl, (blk_cell BK211.out 2).trans rfl⟩ (fun hHeld => ?_)
                    clear hK K
                    refine norm_ (a' := ?_) ?_ ?_
                    rotate_left
                    ·
                     show Act.put _ (some 83) _ = _
                     simp only [Act.put, zz6, zz7, zz8, i64_w, i32_w]
                     rfl
                    exact norm_ (by first | (simp only [putAll, Act.put, zz6, zz7, zz8]; done) | (simp only [putAll, Act.put, zz6, zz7, zz8]; rfl)) (hJ7_9 (v231, gb233) _ ⟨hHeld, (by (with_reducible repeat (first | apply zz0 | apply zz1 | apply zz2)); exact Kd.R_mono HO232.out (fun _ hk => hk.2)), (by (with_reducible repeat (first | apply zz0 | apply zz1 | apply zz2)); exact Kd.R_mono HO_9.out (fun _ hk => hk.2)), (by (with_reducible repeat (first | refine zz13 ?_ _ | refine zz14 ?_ | refine zz15 ?_ _)); exact BK211.out), (by (with_reducible repeat (first | refine zz13 ?_ _ | refine zz14 ?_ | refine zz15 ?_ _)); exact BK233.out), GW233.out, GE233.out, NB211_233.out, NB233_211.out, (by repeat (first | (with_reducible first | exact HB.out | apply zz11 | apply zz10 | apply zz12 | refine below_set ?_ GE211.out | refine below_set ?_ GE233.out) | exact HB.out))⟩)
                 ·
                  skip
                  rintro v231 w54 ⟨hS_, h0_, h1_, h2_, h3_⟩
                  have n0_ : Aside0 (Kd.R Kd.bool 4 w54 w.heap.size (fun k_ => some k_ ≠ (v216 : Value).ownBlock) v231 y230) := ⟨h0_⟩
                  have n1_ : Aside0 (Kd.R Kd.bool 4 w54 w.heap.size (fun k_ => some k_ ≠ (v231 : Value).ownBlock) v216 x9_2) := ⟨h1_⟩
                  have n2_ : Aside0 (w54.heap[gb211]? = some (.cells #[.int .i64 a0_0, .slice A0_1 l0_1.length c0_1, .slice A0_2 l0_2.length c0_2] 25 (0, 0))) := ⟨h2_⟩
                  have n3_ : Aside0 (Below w.heap.size w w54) := ⟨h3_⟩
                  clear HO_9
                  clear BK211
                  clear HB
                  clear h0_ h1_ h2_ h3_
                  have HO232 := n0_
                  have HO_9 := n1_
                  have BK211 := n2_
                  have HB := n3_
                  clear n0_ n1_ n2_ n3_
                  have hHeld : w54.cell? ⟨gb211, 0, none⟩ = some (.int .i64 a0_0) ∧ w54.cell? ⟨gb211, 1, none⟩ = some (.slice A0_1 l0_1.length c0_1) ∧ w54.cell? ⟨gb211, 2, none⟩ = some (.slice A0_2 l0_2.length c0_2) := hS_
                  refine norm_ (a' := ?_) ?_ ?_
                  rotate_left
                  ·
                   simp only [putAll, Act.put, zz6, zz7, zz8]
                   rfl
                  refine two_ (i := 4) (j := 9) (Ni := some 80) (Nj := some 11) #[true, true, true, true, true, true, true, true, false, false, false] #[true, true, true, true, false, true, true, true, false, true, false] rfl rfl rfl rfl (two_of HT_.out (by kernel_rfl)) (by decide) (by decide) (fun K hK => ?_) (fun K hK => ?_)
                  ·
                   skip
                   refine Kd.S_make_step (Kd.slice 3 (Kd.int .i64)) _ 26 (by rfl) (N := 80) rfl 22 _ _ rfl (l2.length : Int) rfl rfl Try.underlying22 (.slice none 0 0) 24 info26 rfl (by decide) (by omega) [] (ok := fun _ => True) (okp := fun _ => True) ⟨_, rfl, Kd.R_nil _ _ _ _ _⟩ (fun _ hk => hk) trivial (of_decide_eq_true (by assumption)) (Nat.le_trans (Nat.mul_le_mul_right _ (of_decide_eq_true (by assumption) : (l2.length : Int).toNat ≤ 11728124029610)) (by omega)) (Below.refl _ _) (Nat.le_refl _) ?_
                   intro v228 w55 ho56 hb hg_ hnew_
                   clear hg_ hnew_
                   (first | rw [← Ny227.out] at ho56 | (simp only [Int.reduceToNat] at ho56; rw [← Ny227.out] at ho56))
                   have n0_ := zz9 (Kd.R_below (by (with_reducible repeat (first | apply zz0 | apply zz1 | apply zz2)); exact HO_9.out) hb)
                   have n1_ := zz9 (Kd.R_below (by (with_reducible repeat (first | apply zz0 | apply zz1 | apply zz2)); exact HO232.out) hb)
                   have n2_ := zz9 (Kd.S_lower ho56 (below_size (by repeat (first | (with_reducible first | exact HB.out | apply zz11 | apply zz10 | apply zz12 | refine below_set ?_ GE211.out) | exact HB.out))))
                   have n3_ := zz9 (blk_below (g := gb211) (o := .cells #[.int .i64 a0_0, .slice A0_1 l0_1.length c0_1, .slice A0_2 l0_2.length c0_2] 25 (0, 0)) (by (with_reducible repeat (first | refine zz13 ?_ _ | refine zz14 ?_ | refine zz15 ?_ _)); exact BK211.out) hb)
                   have n4_ := zz9 (below_step (by repeat (first | (with_reducible first | exact HB.out | apply zz11 | apply zz10 | apply zz12 | refine below_set ?_ GE211.out) | exact HB.out)) hb)
                   clear HO_9
                   clear HO232
                   clear BK211
                   clear HB
                   have HO_9 := n0_
                   have HO232 := n1_
                   have HO229 := n2_
                   have BK211 := n3_
                   have HB := n4_
                   clear n0_ n1_ n2_ n3_ n4_
                   clear hb ho56
                   obtain ⟨Ao57, co57, eo57⟩ := Kd.R_slice HO232.out
                   (first | subst eo57 | (injection eo57 with f1_ f2_ f3_; have f4_ := f1_.symm; have f5_ := f3_.symm; clear f1_ f2_ f3_; subst f4_; subst f5_))
                   obtain ⟨Ao58, co58, eo58⟩ := Kd.S_slice HO229.out
                   (first | subst eo58 | (injection eo58 with f1_ f2_ f3_; have f4_ := f1_.symm; have f5_ := f3_.symm; clear f1_ f2_ f3_; subst f4_; subst f5_))
                   refine hK.out _ _ ⟨(blk_cell BK211.out 0).trans rfl, (blk_cell BK211.out 1).trans rfl, (blk_cell BK211.out 2).trans rfl⟩ (fun hHeld => ?_)
                   clear hK K
                   refine norm_ (a' := ?_) ?_ ?_
                   rotate_left
                   ·
                    show Act.put _ (some 80) _ = _
                    simp only [Act.put, zz6, zz7, zz8, i64_w, i32_w]
                    rfl
                   refine pure_ (i := 8) (N := some 84) (v := ?_) (a' := ?_) #[true, true, true, true, true, true, true, true, true, false, false] rfl rfl (any_of HT_.out (by kernel_rfl)) (fun _ _ _ h => h) (Or.inl ⟨by rfl, ?_⟩) ?_ ?_
                   rotate_left
                   ·
                    intro w'
                    go_simp
                    with_reducible rfl
                   rotate_left
                   ·
                    simp only [Act.put, zz6, zz7, zz8, i64_w, i32_w]
                    rfl
                   exact norm_ (by first | (simp only [putAll, Act.put, zz6, zz7, zz8]; done) | (simp only [putAll, Act.put, zz6, zz7, zz8]; rfl)) (hJ4_7 (.slice Ao58 y227.length co58, .slice Ao57 y230.length co57) _ ⟨hHeld, (by (with_reducible repeat (first | apply zz3 | apply zz4 | apply zz5)); exact HO229.out), (by (with_reducible repeat (first | apply zz0 | apply zz1 | apply zz2)); exact HO232.out), (by (with_reducible repeat (first | apply zz0 | apply zz1 | apply zz2)); exact HO_9.out), (by (with_reducible repeat (first | refine zz13 ?_ _ | refine zz14 ?_ | refine zz15 ?_ _)); exact BK211.out), (by repeat (first | (with_reducible first | exact HB.out | apply zz11 | apply zz10 | apply zz12 | refine below_set ?_ GE211.out) | exact HB.out))⟩)
                  ·
                   skip
                   refine box_step ?hg (N := 11) ?hd (cs := #[.int .i64 0, .slice none 0 0, .slice none 0 0]) (t := 25) ?hr ?_; (case hd => rfl); (case hg => rfl); (case hr => first | (go_simp; done) | (go_simp; rfl))
                   intro gb233 hg w55 hbox hb
                   have n0_ := zz9 (Kd.R_below (by (with_reducible repeat (first | apply zz0 | apply zz1 | apply zz2)); exact HO_9.out) hb)
                   have n1_ := zz9 (Kd.R_below (by (with_reducible repeat (first | apply zz0 | apply zz1 | apply zz2)); exact HO232.out) hb)
                   have n2_ := zz9 (blk_below (g := gb211) (o := .cells #[.int .i64 a0_0, .slice A0_1 l0_1.length c0_1, .slice A0_2 l0_2.length c0_2] 25 (0, 0)) (by (with_reducible repeat (first | refine zz13 ?_ _ | refine zz14 ?_ | refine zz15 ?_ _)); exact BK211.out) hb)
                   have n3_ := zz9 (below_step (by repeat (first | (with_reducible first | exact HB.out | apply zz11 | apply zz10 | apply zz12 | refine below_set ?_ GE211.out) | exact HB.out)) hb)
                   have n4_ := zz9 (hbox)
                   have n5_ := zz9 ((by rw [hg]; exact (below_size (by repeat (first | (with_reducible first | exact HB.out | apply zz11 | apply zz10 | apply zz12 | refine below_set ?_ GE211.out) | exact HB.out))) : w.heap.size ≤ gb233))
                   have n6_ := zz9 ((by rw [hg]; exact (below_size (by repeat (first | (with_reducible first | exact HB.out | apply zz11 | apply zz10 | apply zz12 | refine below_set ?_ GE211.out) | exact HB.out))) : w.heap.size ≤ gb233))
                   have n7_ := zz9 ((by rw [hg]; exact Nat.ne_of_lt (blk_lt (g := gb211) (o := .cells #[.int .i64 a0_0, .slice A0_1 l0_1.length c0_1, .slice A0_2 l0_2.length c0_2] 25 (0, 0)) (by (with_reducible repeat (first | refine zz13 ?_ _ | refine zz14 ?_ | refine zz15 ?_ _)); exact BK211.out)) : gb211 ≠ gb233))
                   have n8_ := zz9 ((by rw [hg]; exact Nat.ne_of_gt (blk_lt (g := gb211) (o := .cells #[.int .i64 a0_0, .slice A0_1 l0_1.length c0_1, .slice A0_2 l0_2.length c0_2] 25 (0, 0)) (by (with_reducible repeat (first | refine zz13 ?_ _ | refine zz14 ?_ | refine zz15 ?_ _)); exact BK211.out)) : gb233 ≠ gb211))
                   clear HO_9
                   clear HO232
                   clear BK211
                   clear HB
                   have HO_9 := n0_
                   have HO232 := n1_
                   have BK211 := n2_
                   have HB := n3_
                   have BK233 := n4_
                   have GW233 := n5_
                   have GE233 := n6_
                   have NB211_233 := n7_
                   have NB233_211 := n8_
                   clear n0_ n1_ n2_ n3_ n4_ n5_ n6_ n7_ n8_
                   clear hb hbox hg
                   refine hK.out _ _ ⟨(blk_cell BK211.out 0).trans rfl, (blk_cell BK211.out 1).trans rfl, (blk_cell BK211.out 2).trans rfl⟩ (fun hHeld => ?_)
                   clear hK K
                   refine norm_ (a' := ?_) ?_ ?_
                   rotate_left
                   ·
                    show Act.put _ (some 11) _ = _
                    simp only [Act.put, zz6, zz7, zz8, i64_w, i32_w]
                    rfl
                   exact norm_ (by first | (simp only [putAll, Act.put, zz6, zz7, zz8]; done) | (simp only [putAll, Act.put, zz6, zz7, zz8]; rfl)) (hJ7_9 (v231, gb233) _ ⟨hHeld, (by (with_reducible repeat (first | apply zz0 | apply zz1 | apply zz2)); exact HO232.out), (by (with_reducible repeat (first | apply zz0 | apply zz1 | apply zz2)); exact HO_9.out), (by (with_reducible repeat (first | refine zz13 ?_ _ | refine zz14 ?_ | refine zz15 ?_ _)); exact BK211.out), (by (with_reducible repeat (first | refine zz13 ?_ _ | refine zz14 ?_ | refine zz15 ?_ _)); exact BK233.out), GW233.out, GE233.out, NB211_233.out, NB233_211.out, (by repeat (first | (with_reducible first | exact HB.out | apply zz11 | apply zz10 | apply zz12 | refine below_set ?_ GE211.out | refine below_set ?_ GE233.out) | exact HB.out))⟩)
                ·
                 skip
                 rintro v228 w54 ⟨hS_, h0_, h1_, h2_, h3_⟩
                 have n0_ : Aside0 (Kd.S (Kd.slice 3 (Kd.int .i64)) 26 w54 w.heap.size (fun _ => True) v228 y227) := ⟨h0_⟩
                 have n1_ : Aside0 (Kd.R Kd.bool 4 w54 w.heap.size (fun _ => True) v216 x9_2) := ⟨h1_⟩
                 have n2_ : Aside0 (w54.heap[gb211]? = some (.cells #[.int .i64 a0_0, .slice A0_1 l0_1.length c0_1, .slice A0_2 l0_2.length c0_2] 25 (0, 0))) := ⟨h2_⟩
                 have n3_ : Aside0 (Below w.heap.size w w54) := ⟨h3_⟩
                 clear HO_9
                 clear BK211
                 clear HB
                 clear h0_ h1_ h2_ h3_
                 have HO229 := n0_
                 have HO_9 := n1_
                 have BK211 := n2_
                 have HB := n3_
                 clear n0_ n1_ n2_ n3_
                 have hHeld : w54.cell? ⟨gb211, 0, none⟩ = some (.int .i64 a0_0) ∧ w54.cell? ⟨gb211, 1, none⟩ = some (.slice A0_1 l0_1.length c0_1) ∧ w54.cell? ⟨gb211, 2, none⟩ = some (.slice A0_2 l0_2.length c0_2) := hS_
                 refine norm_ (a' := ?_) ?_ ?_
                 rotate_left
                 ·
                  simp only [putAll, Act.put, zz6, zz7, zz8]
                  rfl
                 refine two_ (i := 7) (j := 9) (Ni := some 83) (Nj := some 11) #[true, true, true, true, true, true, true, true, false, false, false] #[true, true, true, true, true, true, true, false, false, true, false] rfl rfl rfl rfl (two_of HT_.out (by kernel_rfl)) (by decide) (by decide) (fun K hK => ?_) (fun K hK => ?_)
                 ·
                  skip
                  refine Kd.R_make_step Kd.bool _ 4 (by rfl) (N := 83) rfl 23 _ _ rfl (l2.length : Int) rfl rfl Try.underlying23 (.bool false) 1 info4 rfl (by decide) (by omega) false (ok := fun _ => True) (okp := fun _ => True) rfl (fun _ hk => hk) trivial (of_decide_eq_true (by assumption)) (Nat.le_trans (Nat.mul_le_mul_right _ (of_decide_eq_true (by assumption) : (l2.length : Int).toNat ≤ 281474976710656)) (by omega)) (Below.refl _ _) (Nat.le_refl _) ?_
                  intro v231 w55 ho56 hb hg_ hnew_
                  clear hg_ hnew_
                  (first | rw [← Ny230.out] at ho56 | (simp only [Int.reduceToNat] at ho56; rw [← Ny230.out] at ho56))
                  have n0_ := zz9 (Kd.R_elder' (by (with_reducible repeat (first | apply zz0 | apply zz1 | apply zz2)); exact HO_9.out) (Kd.R_base ho56) hb)
                  have n1_ := zz9 (Kd.S_below (by (with_reducible repeat (first | apply zz3 | apply zz4 | apply zz5)); exact HO229.out) hb)
                  have n2_ := zz9 (Kd.R_lower (Kd.R_new' ho56 (Kd.R_lt (by (with_reducible repeat (first | apply zz0 | apply zz1 | apply zz2)); exact HO_9.out))) (below_size (by repeat (first | (with_reducible first | exact HB.out | apply zz11 | apply zz10 | apply zz12 | refine below_set ?_ GE211.out) | exact HB.out))))
                  have n3_ := zz9 (blk_below (g := gb211) (o := .cells #[.int .i64 a0_0, .slice A0_1 l0_1.length c0_1, .slice A0_2 l0_2.length c0_2] 25 (0, 0)) (by (with_reducible repeat (first | refine zz13 ?_ _ | refine zz14 ?_ | refine zz15 ?_ _)); exact BK211.out) hb)
                  have n4_ := zz9 (below_step (by repeat (first | (with_reducible first | exact HB.out | apply zz11 | apply zz10 | apply zz12 | refine below_set ?_ GE211.out) | exact HB.out)) hb)
                  clear HO_9
                  clear HO229
                  clear BK211
                  clear HB
                  have HO_9 := n0_
                  have HO229 := n1_
                  have HO232 := n2_
                  have BK211 := n3_
                  have HB := n4_
                  clear n0_ n1_ n2_ n3_ n4_
                  clear hb ho56
                  obtain ⟨Ao57, co57, eo57⟩ := Kd.R_slice HO232.out
                  (first | subst eo57 | (injection eo57 with f1_ f2_ f3_; have f4_ := f1_.symm; have f5_ := f3_.symm; clear f1_ f2_ f3_; subst f4_; subst f5_))
                  obtain ⟨Ao58, co58, eo58⟩ := Kd.S_slice HO229.out
                  (first | subst eo58 | (injection eo58 with f1_ f2_ f3_; have f4_ := f1_.symm; have f5_ := f3_.symm; clear f1_ f2_ f3_; subst f4_; subst f5_))
                  refine hK.out _ _ ⟨(blk_cell BK211.out 0).trans rfl, (blk_cell BK211.out 1).trans rfl, (blk_cell BK211.out 2).trans rfl⟩ (fun hHeld => ?_)
                  clear hK K
                  refine norm_ (a' := ?_) ?_ ?_
                  rotate_left
                  ·
                   show Act.put _ (some 83) _ = _
                   simp only [Act.put, zz6, zz7, zz8, i64_w, i32_w]
                   rfl
                  refine pure_ (i := 8) (N := some 84) (v := ?_) (a' := ?_) #[true, true, true, true, true, true, true, true, true, false, false] rfl rfl (any_of HT_.out (by kernel_rfl)) (fun _ _ _ h => h) (Or.inl ⟨by rfl, ?_⟩) ?_ ?_
                  rotate_left
                  ·
                   intro w'
                   go_simp
                   with_reducible rfl
                  rotate_left
                  ·
                   simp only [Act.put, zz6, zz7, zz8, i64_w, i32_w]
                   rfl
                  exact norm_ (by first | (simp only [putAll, Act.put, zz6, zz7, zz8]; done) | (simp only [putAll, Act.put, zz6, zz7, zz8]; rfl)) (hJ4_7 (.slice Ao58 y227.length co58, .slice Ao57 y230.length co57) _ ⟨hHeld, (by (with_reducible repeat (first | apply zz3 | apply zz4 | apply zz5)); exact HO229.out), (by (with_reducible repeat (first | apply zz0 | apply zz1 | apply zz2)); exact Kd.R_mono HO232.out (fun _ hk => hk.2)), (by (with_reducible repeat (first | apply zz0 | apply zz1 | apply zz2)); exact Kd.R_mono HO_9.out (fun _ hk => hk.2)), (by (with_reducible repeat (first | refine zz13 ?_ _ | refine zz14 ?_ | refine zz15 ?_ _)); exact BK211.out), (by repeat (first | (with_reducible first | exact HB.out | apply zz11 | apply zz10 | apply zz12 | refine below_set ?_ GE211.out) | exact HB.out))⟩)
                 ·
                  skip
                  refine box_step ?hg (N := 11) ?hd (cs := #[.int .i64 0, .slice none 0 0, .slice none 0 0]) (t := 25) ?hr ?_; (case hd => rfl); (case hg => rfl); (case hr => first | (go_simp; done) | (go_simp; rfl))
                  intro gb233 hg w55 hbox hb
                  have n0_ := zz9 (Kd.R_below (by (with_reducible repeat (first | apply zz0 | apply zz1 | apply zz2)); exact HO_9.out) hb)
                  have n1_ := zz9 (Kd.S_below (by (with_reducible repeat (first | apply zz3 | apply zz4 | apply zz5)); exact HO229.out) hb)
                  have n2_ := zz9 (blk_below (g := gb211) (o := .cells #[.int .i64 a0_0, .slice A0_1 l0_1.length c0_1, .slice A0_2 l0_2.length c0_2] 25 (0, 0)) (by (with_reducible repeat (first | refine zz13 ?_ _ | refine zz14 ?_ | refine zz15 ?_ _)); exact BK211.out) hb)
                  have n3_ := zz9 (below_step (by repeat (first | (with_reducible first | exact HB.out | apply zz11 | apply zz10 | apply zz12 | refine below_set ?_ GE211.out) | exact HB.out)) hb)
                  have n4_ := zz9 (hbox)
                  have n5_ := zz9 ((by rw [hg]; exact (below_size (by repeat (first | (with_reducible first | exact HB.out | apply zz11 | apply zz10 | apply zz12 | refine below_set ?_ GE211.out) | exact HB.out))) : w.heap.size ≤ gb233))
                  have n6_ := zz9 ((by rw [hg]; exact (below_size (by repeat (first | (with_reducible first | exact HB.out | apply zz11 | apply zz10 | apply zz12 | refine below_set ?_ GE211.out) | exact HB.out))) : w.heap.size ≤ gb233))
                  have n7_ := zz9 ((by rw [hg]; exact Nat.ne_of_lt (blk_lt (g := gb211) (o := .cells #[.int .i64 a0_0, .slice A0_1 l0_1.length c0_1, .slice A0_2 l0_2.length c0_2] 25 (0, 0)) (by (with_reducible repeat (first | refine zz13 ?_ _ | refine zz14 ?_ | refine zz15 ?_ _)); exact BK211.out)) : gb211 ≠ gb233))
                  have n8_ := zz9 ((by rw [hg]; exact Nat.ne_of_gt (blk_lt (g := gb211) (o := .cells #[.int .i64 a0_0, .slice A0_1 l0_1.length c0_1, .slice A0_2 l0_2.length c0_2] 25 (0, 0)) (by (with_reducible repeat (first | refine zz13 ?_ _ | refine zz14 ?_ | refine zz15 ?_ _)); exact BK211.out)) : gb233 ≠ gb211))
                  clear HO_9
                  clear HO229
                  clear BK211
                  clear HB
                  have HO_9 := n0_
                  have HO229 := n1_
                  have BK211 := n2_
                  have HB := n3_
                  have BK233 := n4_
                  have GW233 := n5_
                  have GE233 := n6_
                  have NB211_233 := n7_
                  have NB233_211 := n8_
                  clear n0_ n1_ n2_ n3_ n4_ n5_ n6_ n7_ n8_
                  clear hb hbox hg
                  refine hK.out _ _ ⟨(blk_cell BK211.out 0).trans rfl, (blk_cell BK211.out 1).trans rfl, (blk_cell BK211.out 2).trans rfl⟩ (fun hHeld => ?_)
                  clear hK K
                  refine norm_ (a' := ?_) ?_ ?_
                  rotate_left
                  ·
                   show Act.put _ (some 11) _ = _
                   simp only [Act.put, zz6, zz7, zz8, i64_w, i32_w]
                   rfl
                  exact norm_ (by first | (simp only [putAll, Act.put, zz6, zz7, zz8]; done) | (simp only [putAll, Act.put, zz6, zz7, zz8]; rfl)) (hJ4_9 (v228, gb233) _ ⟨hHeld, (by (with_reducible repeat (first | apply zz3 | apply zz4 | apply zz5)); exact HO229.out), (by (with_reducible repeat (first | apply zz0 | apply zz1 | apply zz2)); exact HO_9.out), (by (with_reducible repeat (first | refine zz13 ?_ _ | refine zz14 ?_ | refine zz15 ?_ _)); exact BK211.out), (by (with_reducible repeat (first | refine zz13 ?_ _ | refine zz14 ?_ | refine zz15 ?_ _)); exact BK233.out), GW233.out, GE233.out, NB211_233.out, NB233_211.out, (by repeat (first | (with_reducible first | exact HB.out | apply zz11 | apply zz10 | apply zz12 | refine below_set ?_ GE211.out | refine below_set ?_ GE233.out) | exact HB.out))⟩)
               ·
                skip
                rintro ⟨v231, gb233⟩ w55 ⟨hS_, h0_, h1_, h2_, h3_, h4_, h5_, h6_, h7_, h8_⟩
                have n0_ : Aside0 (Kd.R Kd.bool 4 w55 w.heap.size (fun k_ => some k_ ≠ (v216 : Value).ownBlock) v231 y230) := ⟨h0_⟩
                have n1_ : Aside0 (Kd.R Kd.bool 4 w55 w.heap.size (fun k_ => some k_ ≠ (v231 : Value).ownBlock) v216 x9_2) := ⟨h1_⟩
                have n2_ : Aside0 (w55.heap[gb211]? = some (.cells #[.int .i64 a0_0, .slice A0_1 l0_1.length c0_1, .slice A0_2 l0_2.length c0_2] 25 (0, 0))) := ⟨h2_⟩
                have n3_ : Aside0 (w55.heap[gb233]? = some (.cells #[.int .i64 0, .slice none 0 0, .slice none 0 0] 25 (0, 0))) := ⟨h3_⟩
                have n4_ : Aside0 (w.heap.size ≤ gb233) := ⟨h4_⟩
                have n5_ : Aside0 (w.heap.size ≤ gb233) := ⟨h5_⟩
                have n6_ : Aside0 (gb211 ≠ gb233) := ⟨h6_⟩
                have n7_ : Aside0 (gb233 ≠ gb211) := ⟨h7_⟩
                have n8_ : Aside0 (Below w.heap.size w w55) := ⟨h8_⟩
                clear HO_9
                clear BK211
                clear HB
                clear h0_ h1_ h2_ h3_ h4_ h5_ h6_ h7_ h8_
                have HO232 := n0_
                have HO_9 := n1_
                have BK211 := n2_
                have BK233 := n3_
                have GW233 := n4_
                have GE233 := n5_
                have NB211_233 := n6_
                have NB233_211 := n7_
                have HB := n8_
                clear n0_ n1_ n2_ n3_ n4_ n5_ n6_ n7_ n8_
                have hHeld : w55.cell? ⟨gb211, 0, none⟩ = some (.int .i64 a0_0) ∧ w55.cell? ⟨gb211, 1, none⟩ = some (.slice A0_1 l0_1.length c0_1) ∧ w55.cell? ⟨gb211, 2, none⟩ = some (.slice A0_2 l0_2.length c0_2) := hS_
                refine norm_ (a' := ?_) ?_ ?_
                rotate_left
                ·
                 simp only [putAll, Act.put, zz6, zz7, zz8]
                 rfl
                refine one_ (i := 4) (N := some 80) #[true, true, true, true, true, true, true, true, false, true, false] rfl rfl (one_of HT_.out (by kernel_rfl)) (by decide) (fun K hK => ?_)
                refine Kd.S_make_step (Kd.slice 3 (Kd.int .i64)) _ 26 (by rfl) (N := 80) rfl 22 _ _ rfl (l2.length : Int) rfl rfl Try.underlying22 (.slice none 0 0) 24 info26 rfl (by decide) (by omega) [] (ok := fun _ => True) (okp := fun _ => True) ⟨_, rfl, Kd.R_nil _ _ _ _ _⟩ (fun _ hk => hk) trivial (of_decide_eq_true (by assumption)) (Nat.le_trans (Nat.mul_le_mul_right _ (of_decide_eq_true (by assumption) : (l2.length : Int).toNat ≤ 11728124029610)) (by omega)) (Below.refl _ _) (Nat.le_refl _) ?_
                intro v228 w56 ho57 hb hg_ hnew_
                clear hg_ hnew_
                (first | rw [← Ny227.out] at ho57 | (simp only [Int.reduceToNat] at ho57; rw [← Ny227.out] at ho57))
                have n0_ := zz9 (Kd.R_below (by (with_reducible repeat (first | apply zz0 | apply zz1 | apply zz2)); exact HO_9.out) hb)
                have n1_ := zz9 (Kd.R_below (by (with_reducible repeat (first | apply zz0 | apply zz1 | apply zz2)); exact HO232.out) hb)
                have n2_ := zz9 (Kd.S_lower ho57 (below_size (by repeat (first | (with_reducible first | exact HB.out | apply zz11 | apply zz10 | apply zz12 | refine below_set ?_ GE211.out | refine below_set ?_ GE233.out) | exact HB.out))))
                have n3_ := zz9 (blk_below (g := gb211) (o := .cells #[.int .i64 a0_0, .slice A0_1 l0_1.length c0_1, .slice A0_2 l0_2.length c0_2] 25 (0, 0)) (by (with_reducible repeat (first | refine zz13 ?_ _ | refine zz14 ?_ | refine zz15 ?_ _)); exact BK211.out) hb)
                have n4_ := zz9 (blk_below (g := gb233) (o := .cells #[.int .i64 0, .slice none 0 0, .slice none 0 0] 25 (0, 0)) (by (with_reducible repeat (first | refine zz13 ?_ _ | refine zz14 ?_ | refine zz15 ?_ _)); exact BK233.out) hb)
                have n5_ := zz9 (below_step (by repeat (first | (with_reducible first | exact HB.out | apply zz11 | apply zz10 | apply zz12 | refine below_set ?_ GE211.out | refine below_set ?_ GE233.out) | exact HB.out)) hb)
                clear HO_9
                clear HO232
                clear BK211
                clear BK233
                clear HB
                have HO_9 := n0_
                have HO232 := n1_
                have HO229 := n2_
                have BK211 := n3_
                have BK233 := n4_
                have HB := n5_
                clear n0_ n1_ n2_ n3_ n4_ n5_
                clear hb ho57
                obtain ⟨Ao58, co58, eo58⟩ := Kd.R_slice HO232.out
                (first | subst eo58 | (injection eo58 with f1_ f2_ f3_; have f4_ := f1_.symm; have f5_ := f3_.symm; clear f1_ f2_ f3_; subst f4_; subst f5_))
                obtain ⟨Ao59, co59, eo59⟩ := Kd.S_slice HO229.out
                (first | subst eo59 | (injection eo59 with f1_ f2_ f3_; have f4_ := f1_.symm; have f5_ := f3_.symm; clear f1_ f2_ f3_; subst f4_; subst f5_))
                refine hK.out _ _ ⟨(blk_cell BK211.out 0).trans rfl, (blk_cell BK211.out 1).trans rfl, (blk_cell BK211.out 2).trans rfl⟩ (fun hHeld => ?_)
                clear hK K
                refine norm_ (a' := ?_) ?_ ?_
                rotate_left
                ·
                 show Act.put _ (some 80) _ = _
                 simp only [Act.put, zz6, zz7, zz8, i64_w, i32_w]
                 rfl
                refine pure_ (i := 8) (N := some 84) (v := ?_) (a' := ?_) #[true, true, true, true, true, true, true, true, true, true, false] rfl rfl (any_of HT_.out (by kernel_rfl)) (fun _ _ _ h => h) (Or.inl ⟨by rfl, ?_⟩) ?_ ?_
                rotate_left
                ·
                 intro w'
                 go_simp
                 with_reducible rfl
                rotate_left
                ·
                 simp only [Act.put, zz6, zz7, zz8, i64_w, i32_w]
                 rfl
                exact norm_ (by first | (simp only [putAll, Act.put, zz6, zz7, zz8]; done) | (simp only [putAll, Act.put, zz6, zz7, zz8]; rfl)) (hJ4_7_9 (.slice Ao59 y227.length co59, .slice Ao58 y230.length co58, gb233) _ ⟨hHeld, (by (with_reducible repeat (first | apply zz3 | apply zz4 | apply zz5)); exact HO229.out), (by (with_reducible repeat (first | apply zz0 | apply zz1 | apply zz2)); exact HO232.out), (by (with_reducible repeat (first | apply zz0 | apply zz1 | apply zz2)); exact HO_9.out), (by (with_reducible repeat (first | refine zz13 ?_ _ | refine zz14 ?_ | refine zz15 ?_ _)); exact BK211.out), (by (with_reducible repeat (first | refine zz13 ?_ _ | refine zz14 ?_ | refine zz15 ?_ _)); exact BK233.out), GW233.out, GE233.out, NB211_233.out, NB233_211.out, (by repeat (first | (with_reducible first | exact HB.out | apply zz11 | apply zz10 | apply zz12 | refine below_set ?_ GE211.out | refine below_set ?_ GE233.out) | exact HB.out))⟩)
              ·
               skip
               rintro ⟨v228, gb233⟩ w55 ⟨hS_, h0_, h1_, h2_, h3_, h4_, h5_, h6_, h7_, h8_⟩
               have n0_ : Aside0 (Kd.S (Kd.slice 3 (Kd.int .i64)) 26 w55 w.heap.size (fun _ => True) v228 y227) := ⟨h0_⟩
               have n1_ : Aside0 (Kd.R Kd.bool 4 w55 w.heap.size (fun _ => True) v216 x9_2) := ⟨h1_⟩
               have n2_ : Aside0 (w55.heap[gb211]? = some (.cells #[.int .i64 a0_0, .slice A0_1 l0_1.length c0_1, .slice A0_2 l0_2.length c0_2] 25 (0, 0))) := ⟨h2_⟩
               have n3_ : Aside0 (w55.heap[gb233]? = some (.cells #[.int .i64 0, .slice none 0 0, .slice none 0 0] 25 (0, 0))) := ⟨h3_⟩
               have n4_ : Aside0 (w.heap.size ≤ gb233) := ⟨h4_⟩
               have n5_ : Aside0 (w.heap.size ≤ gb233) := ⟨h5_⟩
               have n6_ : Aside0 (gb211 ≠ gb233) := ⟨h6_⟩
               have n7_ : Aside0 (gb233 ≠ gb211) := ⟨h7_⟩
               have n8_ : Aside0 (Below w.heap.size w w55) := ⟨h8_⟩
               clear HO_9
               clear BK211
               clear HB
               clear h0_ h1_ h2_ h3_ h4_ h5_ h6_ h7_ h8_
               have HO229 := n0_
               have HO_9 := n1_
               have BK211 := n2_
               have BK233 := n3_
               have GW233 := n4_
               have GE233 := n5_
               have NB211_233 := n6_
               have NB233_211 := n7_
               have HB := n8_
               clear n0_ n1_ n2_ n3_ n4_ n5_ n6_ n7_ n8_
               have hHeld : w55.cell? ⟨gb211, 0, none⟩ = some (.int .i64 a0_0) ∧ w55.cell? ⟨gb211, 1, none⟩ = some (.slice A0_1 l0_1.length c0_1) ∧ w55.cell? ⟨gb211, 2, none⟩ = some (.slice A0_2 l0_2.length c0_2) := hS_
               refine norm_ (a' := ?_) ?_ ?_
               rotate_left
               ·
                simp only [putAll, Act.put, zz6, zz7, zz8]
                rfl
               refine one_ (i := 7) (N := some 83) #[true, true, true, true, true, true, true, true, false, true, false] rfl rfl (one_of HT_.out (by kernel_rfl)) (by decide) (fun K hK => ?_)
               refine Kd.R_make_step Kd.bool _ 4 (by rfl) (N := 83) rfl 23 _ _ rfl (l2.length : Int) rfl rfl Try.underlying23 (.bool false) 1 info4 rfl (by decide) (by omega) false (ok := fun _ => True) (okp := fun _ => True) rfl (fun _ hk => hk) trivial (of_decide_eq_true (by assumption)) (Nat.le_trans (Nat.mul_le_mul_right _ (of_decide_eq_true (by assumption) : (l2.length : Int).toNat ≤ 281474976710656)) (by omega)) (Below.refl _ _) (Nat.le_refl _) ?_
               intro v231 w56 ho57 hb hg_ hnew_
               clear hg_ hnew_
               (first | rw [← Ny230.out] at ho57 | (simp only [Int.reduceToNat] at ho57; rw [← Ny230.out] at ho57))
               have n0_ := zz9 (Kd.R_elder' (by (with_reducible repeat (first | apply zz0 | apply zz1 | apply zz2)); exact HO_9.out) (Kd.R_base ho57) hb)
               have n1_ := zz9 (Kd.S_below (by (with_reducible repeat (first | apply zz3 | apply zz4 | apply zz5)); exact HO229.out) hb)
               have n2_ := zz9 (Kd.R_lower (Kd.R_new' ho57 (Kd.R_lt (by (with_reducible repeat (first | apply zz0 | apply zz1 | apply zz2)); exact HO_9.out))) (below_size (by repeat (first | (with_reducible first | exact HB.out | apply zz11 | apply zz10 | apply zz12 | refine below_set ?_ GE211.out | refine below_set ?_ GE233.out) | exact HB.out))))
               have n3_ := zz9 (blk_below (g := gb211) (o := .cells #[.int .i64 a0_0, .slice A0_1 l0_1.length c0_1, .slice A0_2 l0_2.length c0_2] 25 (0, 0)) (by (with_reducible repeat (first | refine zz13 ?_ _ | refine zz14 ?_ | refine zz15 ?_ _)); exact BK211.out) hb)
               have n4_ := zz9 (blk_below (g := gb233) (o := .cells #[.int .i64 0, .slice none 0 0, .slice none 0 0] 25 (0, 0)) (by (with_reducible repeat (first | refine zz13 ?_ _ | refine zz14 ?_ | refine zz15 ?_ _)); exact BK233.out) hb)
               have n5_ := zz9 (below_step (by repeat (first | (with_reducible first | exact HB.out | apply zz11 | apply zz10 | apply zz12 | refine below_set ?_ GE211.out | refine below_set ?_ GE233.out) | exact HB.out)) hb)
               clear HO_9
               clear HO229
               clear BK211
               clear BK233
               clear HB
               have HO_9 := n0_
               have HO229 := n1_
               have HO232 := n2_
               have BK211 := n3_
               have BK233 := n4_
               have HB := n5_
               clear n0_ n1_ n2_ n3_ n4_ n5_
               clear hb ho57
               obtain ⟨Ao58, co58, eo58⟩ := Kd.R_slice HO232.out
               (first | subst eo58 | (injection eo58 with f1_ f2_ f3_; have f4_ := f1_.symm; have f5_ := f3_.symm; clear f1_ f2_ f3_; subst f4_; subst f5_))
               obtain ⟨Ao59, co59, eo59⟩ := Kd.S_slice HO229.out
               (first | subst eo59 | (injection eo59 with f1_ f2_ f3_; have f4_ := f1_.symm; have f5_ := f3_.symm; clear f1_ f2_ f3_; subst f4_; subst f5_))
               refine hK.out _ _ ⟨(blk_cell BK211.out 0).trans rfl, (blk_cell BK211.out 1).trans rfl, (blk_cell BK211.out 2).trans rfl⟩ (fun hHeld => ?_)
               clear hK K
               refine norm_ (a' := ?_) ?_ ?_
               rotate_left
               ·
                show Act.put _ (some 83) _ = _
                simp only [Act.put, zz6, zz7, zz8, i64_w, i32_w]
                rfl
               refine pure_ (i := 8) (N := some 84) (v := ?_) (a' := ?_) #[true, true, true, true, true, true, true, true, true, true, false] rfl rfl (any_of HT_.out (by kernel_rfl)) (fun _ _ _ h => h) (Or.inl ⟨by rfl, ?_⟩) ?_ ?_
               rotate_left
               ·
                intro w'
                go_simp
                with_reducible rfl
               rotate_left
               ·
                simp only [Act.put, zz6, zz7, zz8, i64_w, i32_w]
                rfl
               exact norm_ (by first | (simp only [putAll, Act.put, zz6, zz7, zz8]; done) | (simp only [putAll, Act.put, zz6, zz7, zz8]; rfl)) (hJ4_7_9 (.slice Ao59 y227.length co59, .slice Ao58 y230.length co58, gb233) _ ⟨hHeld, (by (with_reducible repeat (first | apply zz3 | apply zz4 | apply zz5)); exact HO229.out), (by (with_reducible repeat (first | apply zz0 | apply zz1 | apply zz2)); exact Kd.R_mono HO232.out (fun _ hk => hk.2)), (by (with_reducible repeat (first | apply zz0 | apply zz1 | apply zz2)); exact Kd.R_mono HO_9.out (fun _ hk => hk.2)), (by (with_reducible repeat (first | refine zz13 ?_ _ | refine zz14 ?_ | refine zz15 ?_ _)); exact BK211.out), (by (with_reducible repeat (first | refine zz13 ?_ _ | refine zz14 ?_ | refine zz15 ?_ _)); exact BK233.out), GW233.out, GE233.out, NB211_233.out, NB233_211.out, (by repeat (first | (with_reducible first | exact HB.out | apply zz11 | apply zz10 | apply zz12 | refine below_set ?_ GE211.out | refine below_set ?_ GE233.out) | exact HB.out))⟩)
             ·
              skip
              rintro ⟨v228, v231⟩ w58 ⟨hS_, h0_, h1_, h2_, h3_, h4_⟩
              have n0_ : Aside0 (Kd.S (Kd.slice 3 (Kd.int .i64)) 26 w58 w.heap.size (fun _ => True) v228 y227) := ⟨h0_⟩
              have n1_ : Aside0 (Kd.R Kd.bool 4 w58 w.heap.size (fun k_ => some k_ ≠ (v216 : Value).ownBlock) v231 y230) := ⟨h1_⟩
              have n2_ : Aside0 (Kd.R Kd.bool 4 w58 w.heap.size (fun k_ => some k_ ≠ (v231 : Value).ownBlock) v216 x9_2) := ⟨h2_⟩
              have n3_ : Aside0 (w58.heap[gb211]? = some (.cells #[.int .i64 a0_0, .slice A0_1 l0_1.length c0_1, .slice A0_2 l0_2.length c0_2] 25 (0, 0))) := ⟨h3_⟩
              have n4_ : Aside0 (Below w.heap.size w w58) := ⟨h4_⟩
              clear HO_9
              clear BK211
              clear HB
              clear h0_ h1_ h2_ h3_ h4_
              have HO229 := n0_
              have HO232 := n1_
              have HO_9 := n2_
              have BK211 := n3_
              have HB := n4_
              clear n0_ n1_ n2_ n3_ n4_
              have hHeld : w58.cell? ⟨gb211, 0, none⟩ = some (.int .i64 a0_0) ∧ w58.cell? ⟨gb211, 1, none⟩ = some (.slice A0_1 l0_1.length c0_1) ∧ w58.cell? ⟨gb211, 2, none⟩ = some (.slice A0_2 l0_2.length c0_2) := hS_
              obtain ⟨Ao59, co59, eo59⟩ := Kd.R_slice HO232.out
              (first | subst eo59 | (injection eo59 with f1_ f2_ f3_; have f4_ := f1_.symm; have f5_ := f3_.symm; clear f1_ f2_ f3_; subst f4_; subst f5_))
              obtain ⟨Ao60, co60, eo60⟩ := Kd.S_slice HO229.out
              (first | subst eo60 | (injection eo60 with f1_ f2_ f3_; have f4_ := f1_.symm; have f5_ := f3_.symm; clear f1_ f2_ f3_; subst f4_; subst f5_))
              refine norm_ (a' := ?_) ?_ ?_
              rotate_left
              ·
               simp only [putAll, Act.put, zz6, zz7, zz8]
               rfl
              refine one_ (i := 9) (N := some 11) #[true, true, true, true, true, true, true, true, true, true, false] rfl rfl (one_of HT_.out (by kernel_rfl)) (by decide) (fun K hK => ?_)
              refine box_step ?hg (N := 11) ?hd (cs := #[.int .i64 0, .slice none 0 0, .slice none 0 0]) (t := 25) ?hr ?_; (case hd => rfl); (case hg => rfl); (case hr => first | (go_simp; done) | (go_simp; rfl))
              intro gb233 hg w61 hbox hb
              have n0_ := zz9 (Kd.R_below (by (with_reducible repeat (first | apply zz0 | apply zz1 | apply zz2)); exact HO_9.out) hb)
              have n1_ := zz9 (Kd.S_below (by (with_reducible repeat (first | apply zz3 | apply zz4 | apply zz5)); exact HO229.out) hb)
              have n2_ := zz9 (Kd.R_below (by (with_reducible repeat (first | apply zz0 | apply zz1 | apply zz2)); exact HO232.out) hb)
              have n3_ := zz9 (blk_below (g := gb211) (o := .cells #[.int .i64 a0_0, .slice A0_1 l0_1.length c0_1, .slice A0_2 l0_2.length c0_2] 25 (0, 0)) (by (with_reducible repeat (first | refine zz13 ?_ _ | refine zz14 ?_ | refine zz15 ?_ _)); exact BK211.out) hb)
              have n4_ := zz9 (below_step (by repeat (first | (with_reducible first | exact HB.out | apply zz11 | apply zz10 | apply zz12 | refine below_set ?_ GE211.out) | exact HB.out)) hb)
              have n5_ := zz9 (hbox)
              have n6_ := zz9 ((by rw [hg]; exact (below_size (by repeat (first | (with_reducible first | exact HB.out | apply zz11 | apply zz10 | apply zz12 | refine below_set ?_ GE211.out) | exact HB.out))) : w.heap.size ≤ gb233))
              have n7_ := zz9 ((by rw [hg]; exact (below_size (by repeat (first | (with_reducible first | exact HB.out | apply zz11 | apply zz10 | apply zz12 | refine below_set ?_ GE211.out) | exact HB.out))) : w.heap.size ≤ gb233))
              have n8_ := zz9 ((by rw [hg]; exact Nat.ne_of_lt (blk_lt (g := gb211) (o := .cells #[.int .i64 a0_0, .slice A0_1 l0_1.length c0_1, .slice A0_2 l0_2.length c0_2] 25 (0, 0)) (by (with_reducible repeat (first | refine zz13 ?_ _ | refine zz14 ?_ | refine zz15 ?_ _)); exact BK211.out)) : gb211 ≠ gb233))
              have n9_ := zz9 ((by rw [hg]; exact Nat.ne_of_gt (blk_lt (g := gb211) (o := .cells #[.int .i64 a0_0, .slice A0_1 l0_1.length c0_1, .slice A0_2 l0_2.length c0_2] 25 (0, 0)) (by (with_reducible repeat (first | refine zz13 ?_ _ | refine zz14 ?_ | refine zz15 ?_ _)); exact BK211.out)) : gb233 ≠ gb211))
              clear HO_9
              clear HO229
              clear HO232
              clear BK211
              clear HB
              have HO_9 := n0_
              have HO229 := n1_
              have HO232 := n2_
              have BK211 := n3_
              have HB := n4_
              have BK233 := n5_
              have GW233 := n6_
              have GE233 := n7_
              have NB211_233 := n8_
              have NB233_211 := n9_
              clear n0_ n1_ n2_ n3_ n4_ n5_ n6_ n7_ n8_ n9_
              clear hb hbox hg
              refine hK.out _ _ ⟨(blk_cell BK211.out 0).trans rfl, (blk_cell BK211.out 1).trans rfl, (blk_cell BK211.out 2).trans rfl⟩ (fun hHeld => ?_)
              clear hK K
              refine norm_ (a' := ?_) ?_ ?_
              rotate_left
              ·
               show Act.put _ (some 11) _ = _
               simp only [Act.put, zz6, zz7, zz8, i64_w, i32_w]
               rfl
              exact norm_ (by first | (simp only [putAll, Act.put, zz6, zz7, zz8]; done) | (simp only [putAll, Act.put, zz6, zz7, zz8]; rfl)) (hJ4_7_9 (.slice Ao60 y227.length co60, .slice Ao59 y230.length co59, gb233) _ ⟨hHeld, (by (with_reducible repeat (first | apply zz3 | apply zz4 | apply zz5)); exact HO229.out), (by (with_reducible repeat (first | apply zz0 | apply zz1 | apply zz2)); exact HO232.out), (by (with_reducible repeat (first | apply zz0 | apply zz1 | apply zz2)); exact HO_9.out), (by (with_reducible repeat (first | refine zz13 ?_ _ | refine zz14 ?_ | refine zz15 ?_ _)); exact BK211.out), (by (with_reducible repeat (first | refine zz13 ?_ _ | refine zz14 ?_ | refine zz15 ?_ _)); exact BK233.out), GW233.out, GE233.out, NB211_233.out, NB233_211.out, (by repeat (first | (with_reducible first | exact HB.out | apply zz11 | apply zz10 | apply zz12 | refine below_set ?_ GE211.out | refine below_set ?_ GE233.out) | exact HB.out))⟩)
            rintro ⟨v228, v231, gb233⟩ w59 ⟨hS_, h0_, h1_, h2_, h3_, h4_, h5_, h6_, h7_, h8_, h9_⟩
            have n0_ : Aside0 (Kd.S (Kd.slice 3 (Kd.int .i64)) 26 w59 w.heap.size (fun _ => True) v228 y227) := ⟨h0_⟩
            have n1_ : Aside0 (Kd.R Kd.bool 4 w59 w.heap.size (fun k_ => some k_ ≠ (v216 : Value).ownBlock) v231 y230) := ⟨h1_⟩
            have n2_ : Aside0 (Kd.R Kd.bool 4 w59 w.heap.size (fun k_ => some k_ ≠ (v231 : Value).ownBlock) v216 x9_2) := ⟨h2_⟩
            have n3_ : Aside0 (w59.heap[gb211]? = some (.cells #[.int .i64 a0_0, .slice A0_1 l0_1.length c0_1, .slice A0_2 l0_2.length c0_2] 25 (0, 0))) := ⟨h3_⟩
            have n4_ : Aside0 (w59.heap[gb233]? = some (.cells #[.int .i64 0, .slice none 0 0, .slice none 0 0] 25 (0, 0))) := ⟨h4_⟩
            have n5_ : Aside0 (w.heap.size ≤ gb233) := ⟨h5_⟩
            have n6_ : Aside0 (w.heap.size ≤ gb233) := ⟨h6_⟩
            have n7_ : Aside0 (gb211 ≠ gb233) := ⟨h7_⟩
            have n8_ : Aside0 (gb233 ≠ gb211) := ⟨h8_⟩
            have n9_ : Aside0 (Below w.heap.size w w59) := ⟨h9_⟩
            clear HO_9
            clear BK211
            clear HB
            clear h0_ h1_ h2_ h3_ h4_ h5_ h6_ h7_ h8_ h9_
            have HO229 := n0_
            have HO232 := n1_
            have HO_9 := n2_
            have BK211 := n3_
            have BK233 := n4_
            have GW233 := n5_
            have GE233 := n6_
            have NB211_233 := n7_
            have NB233_211 := n8_
            have HB := n9_
            clear n0_ n1_ n2_ n3_ n4_ n5_ n6_ n7_ n8_ n9_
            have hHeld : w59.cell? ⟨gb211, 0, none⟩ = some (.int .i64 a0_0) ∧ w59.cell? ⟨gb211, 1, none⟩ = some (.slice A0_1 l0_1.length c0_1) ∧ w59.cell? ⟨gb211, 2, none⟩ = some (.slice A0_2 l0_2.length c0_2) := hS_
            obtain ⟨Ao60, co60, eo60⟩ := Kd.R_slice HO232.out
            (first | subst eo60 | (injection eo60 with f1_ f2_ f3_; have f4_ := f1_.symm; have f5_ := f3_.symm; clear f1_ f2_ f3_; subst f4_; subst f5_))
            obtain ⟨Ao61, co61, eo61⟩ := Kd.S_slice HO229.out
            (first | subst eo61 | (injection eo61 with f1_ f2_ f3_; have f4_ := f1_.symm; have f5_ := f3_.symm; clear f1_ f2_ f3_; subst f4_; subst f5_))
            refine norm_ (a' := ?_) ?_ ?_
            rotate_left
            ·
             simp only [putAll, Act.put, zz6, zz7, zz8]
             rfl
            refine one_ (i := 10) (N := none) #[true, true, true, true, true, true, true, true, true, true, true] rfl rfl (one_of HT_.out (by kernel_rfl)) (by decide) (fun K hK => ?_)
            have hs62 : w59.cell? ⟨gb233, 0, none⟩ = some (.int .i64 0) := (blk_cell BK233.out 0).trans rfl
            have hfs62 := blk_frozen BK233.out 0
            have hns62_0 := NB211_233.out
            have hms62_0 := NB233_211.out
            have hs63 : w59.cell? ⟨gb233, 1, none⟩ = some (.slice none 0 0) := (blk_cell BK233.out 1).trans rfl
            have hfs63 := blk_frozen BK233.out 1
            have hns63_0 := NB211_233.out
            have hms63_0 := NB233_211.out
            have hs64 : w59.cell? ⟨gb233, 2, none⟩ = some (.slice none 0 0) := (blk_cell BK233.out 2).trans rfl
            have hfs64 := blk_frozen BK233.out 2
            have hns64_0 := NB211_233.out
            have hms64_0 := NB233_211.out
            refine skip_ (w1 := ?_) (by rfl) rfl ?_ ?_
            rotate_left
            ·
             go_simp
             rfl
            refine hK.out _ _ ⟨((cell_far (p := ⟨gb233, _, none⟩) NB211_233.out _).trans (((cell_far (p := ⟨gb233, _, none⟩) NB211_233.out _).trans (((cell_far (p := ⟨gb233, _, none⟩) NB211_233.out _).trans (hHeld.1)))))), ((cell_far (p := ⟨gb233, _, none⟩) NB211_233.out _).trans (((cell_far (p := ⟨gb233, _, none⟩) NB211_233.out _).trans (((cell_far (p := ⟨gb233, _, none⟩) NB211_233.out _).trans (hHeld.2.1)))))), ((cell_far (p := ⟨gb233, _, none⟩) NB211_233.out _).trans (((cell_far (p := ⟨gb233, _, none⟩) NB211_233.out _).trans (((cell_far (p := ⟨gb233, _, none⟩) NB211_233.out _).trans (hHeld.2.2))))))⟩ (fun hHeld => ?_)
            clear hK K
            refine done_ (done_of HT_.out (by kernel_rfl)) ?_
            try go_wp2
            go_loopg [12] k2 (fun kq v12 w' => ∃ (x12_3 : Int) (x234001_3 : List (List Int)) (x234002_3 : List Bool) (u234001 : Value) (u234002 : Value), v12 = .int .i64 x12_3 ∧ Aside0 (standstilllaw07_TagNames.l1 kq l1 l2 a3 x12_3 a0_0 l0_1 l0_2 a0_0 x234001_3 x234002_3 = some r) ∧ Aside0 (kq ≤ k2) ∧ Aside0 (Kd.S (Kd.slice 3 (Kd.int .i64)) 26 w' w.heap.size (fun _ => True) u234001 x234001_3) ∧ Aside0 (Kd.R Kd.bool 4 w' w.heap.size (fun _ => True) u234002 x234002_3) ∧ Aside0 (w'.heap[gb211]? = some (.cells #[.int .i64 a0_0, (.slice A0_1 l0_1.length c0_1), (.slice A0_2 l0_2.length c0_2)] 25 (0, 0))) ∧ Aside0 (w'.heap[gb233]? = some (.cells #[.int .i64 a0_0, u234001, u234002] 25 (0, 0))) ∧ Aside0 (Below w.heap.size w w'))
            case atStart => exact ⟨(0), (y227), (y230), (.slice Ao61 y227.length co61), (.slice Ao60 y230.length co60), (by first | rfl | (simp; done) | (simp [*]; done)), H', ⟨Nat.le_refl _⟩, ⟨by (with_reducible repeat (first | apply zz3 | apply zz4 | apply zz5)); exact Kd.S_mono (Kd.S_far (p := ⟨gb233, 2, none⟩) (Kd.S_far (p := ⟨gb233, 1, none⟩) (Kd.S_far (p := ⟨gb233, 0, none⟩) (Kd.S_types HO229.out BK233.out (by decide)) (fun _ hk => hk.2) (.int .i64 a0_0)) (fun _ hk => hk.2) (.slice Ao61 y227.length co61)) (fun _ hk => hk.2) (.slice Ao60 y230.length co60)) (fun _ hk => trivial)⟩, ⟨by (with_reducible repeat (first | apply zz0 | apply zz1 | apply zz2)); exact Kd.R_mono (Kd.R_far (p := ⟨gb233, 2, none⟩) (Kd.R_far (p := ⟨gb233, 1, none⟩) (Kd.R_far (p := ⟨gb233, 0, none⟩) (Kd.R_types HO232.out BK233.out (by decide)) (fun _ hk => hk.2) (.int .i64 a0_0)) (fun _ hk => hk.2) (.slice Ao61 y227.length co61)) (fun _ hk => hk.2) (.slice Ao60 y230.length co60)) (fun _ hk => trivial)⟩, ⟨by (with_reducible repeat (first | refine zz13 ?_ _ | refine zz14 ?_ | refine zz15 ?_ _)); refine blk_far ?_ NB211_233.out _; (with_reducible repeat (first | refine zz13 ?_ _ | refine zz14 ?_ | refine zz15 ?_ _)); refine blk_far ?_ NB211_233.out _; (with_reducible repeat (first | refine zz13 ?_ _ | refine zz14 ?_ | refine zz15 ?_ _)); refine blk_far ?_ NB211_233.out _; (with_reducible repeat (first | refine zz13 ?_ _ | refine zz14 ?_ | refine zz15 ?_ _)); exact BK211.out⟩, ⟨by (with_reducible repeat (first | refine zz13 ?_ _ | refine zz14 ?_ | refine zz15 ?_ _)); refine blk_put (cs := #[.int .i64 a0_0, .slice Ao61 y227.length co61, .slice none 0 0]) ?_ 2 _ rfl; (with_reducible repeat (first | refine zz13 ?_ _ | refine zz14 ?_ | refine zz15 ?_ _)); refine blk_put (cs := #[.int .i64 a0_0, .slice none 0 0, .slice none 0 0]) ?_ 1 _ rfl; (with_reducible repeat (first | refine zz13 ?_ _ | refine zz14 ?_ | refine zz15 ?_ _)); refine blk_put (cs := #[.int .i64 0, .slice none 0 0, .slice none 0 0]) ?_ 0 _ rfl; (with_reducible repeat (first | refine zz13 ?_ _ | refine zz14 ?_ | refine zz15 ?_ _)); exact BK233.out⟩, ⟨by repeat (first | (with_reducible first | exact HB.out | apply zz11 | apply zz10 | apply zz12 | refine below_set ?_ GE211.out | refine below_set ?_ GE233.out) | exact HB.out)⟩⟩
            case round =>
             clear H'
             try clear p2
             obtain ⟨x12_3, x234001_3, x234002_3, u234001, u234002, rfl, HA, HK3, HO_234001, HO_234002, BK211, BK233, HB⟩ := hrel
             cases gk with
             | zero => exact absurd HA.out (by simp [standstilllaw07_TagNames.l1])
             | succ k3 =>
              have H := HA.out
              clear HA
              simp only [standstilllaw07_TagNames.l1] at H
              by_cases c65 : x12_3 < (l2.length : Int)
              ·
               rw [if_pos c65] at H
               have c65b0 : decide (x12_3 < (l2.length : Int)) = true := decide_eq_true c65
               clear c65
               by_cases c66 : 0 ≤ x12_3
               ·
                rw [if_pos c66] at H
                have c66b0 : decide (0 ≤ x12_3) = true := decide_eq_true c66
                clear c66
                by_cases c67 : x12_3 < (l0_1.length : Int)
                ·
                 rw [if_pos c67] at H
                 have c67b0 : decide (x12_3 < (l0_1.length : Int)) = true := decide_eq_true c67
                 clear c67
                 replace H := Option.bind_eq_some_iff.mp H
                 obtain ⟨t237, A680, H⟩ := H
                 replace H : (if x12_3 < (l0_2.length : Int) then (if 0 ≤ (rd l2 x12_3) then (if (rd l2 x12_3) < (x234001_3.length : Int) then (if (rd l2 x12_3) < (x234002_3.length : Int) then (standstilllaw07_TagNames.l1 k3 l1 l2 a3 (wrap64 (x12_3 + 1)) a0_0 l0_1 l0_2 a0_0 (x234001_3.set ((rd l2 x12_3) : Int).toNat t237) (x234002_3.set ((rd l2 x12_3) : Int).toNat (rdOf false l0_2 x12_3))) else (none)) else (none)) else (none)) else (none)) = some r := H
                 have A68 := zz9 A680
                 clear A680
                 by_cases c69 : x12_3 < (l0_2.length : Int)
                 ·
                  rw [if_pos c69] at H
                  have c69b0 : decide (x12_3 < (l0_2.length : Int)) = true := decide_eq_true c69
                  clear c69
                  by_cases c70 : 0 ≤ (rd l2 x12_3)
                  ·
                   rw [if_pos c70] at H
                   have c70b0 : decide (0 ≤ (rd l2 x12_3)) = true := decide_eq_true c70
                   clear c70
                   by_cases c71 : (rd l2 x12_3) < (x234001_3.length : Int)
                   ·
                    rw [if_pos c71] at H
                    have c71b0 : decide ((rd l2 x12_3) < (x234001_3.length : Int)) = true := decide_eq_true c71
                    clear c71
                    obtain ⟨y241, hy241⟩ : ∃ y_ : List (List Int), y_ = (x234001_3.set ((rd l2 x12_3) : Int).toNat t237) := ⟨_, rfl⟩
                    replace H : (if (rd l2 x12_3) < (x234002_3.length : Int) then (standstilllaw07_TagNames.l1 k3 l1 l2 a3 (wrap64 (x12_3 + 1)) a0_0 l0_1 l0_2 a0_0 y241 (x234002_3.set ((rd l2 x12_3) : Int).toNat (rdOf false l0_2 x12_3))) else (none)) = some r := by first | (rw [hy241]; with_reducible exact H) | (have H2_ := (Option.bind_some _ _).symm.trans H; rw [hy241]; with_reducible exact H2_) | (have H2_ := (Option.bind_some _ _).symm.trans H; with_reducible exact H2_) | with_reducible exact H | (rw [hy241]; exact H) | exact H
                    have Ny241 := zz9 hy241
                    clear hy241
                    by_cases c73 : (rd l2 x12_3) < (x234002_3.length : Int)
                    ·
                     rw [if_pos c73] at H
                     have c73b0 : decide ((rd l2 x12_3) < (x234002_3.length : Int)) = true := decide_eq_true c73
                     clear c73
                     obtain ⟨y242, hy242⟩ : ∃ y_ : List Bool, y_ = (x234002_3.set ((rd l2 x12_3) : Int).toNat (rdOf false l0_2 x12_3)) := ⟨_, rfl⟩
                     replace H : (standstilllaw07_TagNames.l1 k3 l1 l2 a3 (wrap64 (x12_3 + 1)) a0_0 l0_1 l0_2 a0_0 y241 y242) = some r := by first | (rw [hy242]; with_reducible exact H) | (have H2_ := (Option.bind_some _ _).symm.trans H; rw [hy242]; with_reducible exact H2_) | (have H2_ := (Option.bind_some _ _).symm.trans H; with_reducible exact H2_) | with_reducible exact H | (rw [hy242]; exact H) | exact H
                     have Ny242 := zz9 hy242
                     clear hy242
                     have H' := zz9 H
                     clear H
                     have hnb75 := NB233_211.out
                     have hnc75 := NB211_233.out
                     have hcz76_0 : wr.cell? ⟨gb233, 0, none⟩ = some (.int .i64 a0_0) := (blk_cell BK233.out 0).trans rfl
                     have hcz76_1 : wr.cell? ⟨gb233, 1, none⟩ = some (u234001) := (blk_cell BK233.out 1).trans rfl
                     have hcz76_2 : wr.cell? ⟨gb233, 2, none⟩ = some (u234002) := (blk_cell BK233.out 2).trans rfl
                     have hfz76_0 := blk_frozen BK233.out 0
                     have hfz76_1 := blk_frozen BK233.out 1
                     have hfz76_2 := blk_frozen BK233.out 2
                     have p234 : 0 ≤ (x12_3 : Int) := of_decide_eq_true (by assumption)
                     have q234 : x12_3 < (l2.length : Int) := of_decide_eq_true (by assumption)
                     obtain ⟨ad234, e234, hx234_0⟩ := Kd.at_int HR2.out x12_3 p234 q234
                     cases e234
                     replace hx234_0 := (HB.out.cell (World.block_lt_of_cell? w _ hx234_0)).trans hx234_0
                     replace p234 := eq_true p234
                     replace q234 := eq_true q234
                     have p235 : 0 ≤ (x12_3 : Int) := of_decide_eq_true (by assumption)
                     have q235 : x12_3 < (l2.length : Int) := of_decide_eq_true (by assumption)
                     obtain ⟨ad235, e235, hx235_0⟩ := Kd.at_int HR2.out x12_3 p235 q235
                     obtain rfl : ad234 = ad235 := (by injection e235)
                     replace hx235_0 := (HB.out.cell (World.block_lt_of_cell? w _ hx235_0)).trans hx235_0
                     replace p235 := eq_true p235
                     replace q235 := eq_true q235
                     have hcz77_0 : wr.cell? ⟨gb211, 0, none⟩ = some (.int .i64 a0_0) := (blk_cell BK211.out 0).trans rfl
                     have hcz77_1 : wr.cell? ⟨gb211, 1, none⟩ = some (.slice A0_1 l0_1.length c0_1) := (blk_cell BK211.out 1).trans rfl
                     have hcz77_2 : wr.cell? ⟨gb211, 2, none⟩ = some (.slice A0_2 l0_2.length c0_2) := (blk_cell BK211.out 2).trans rfl
                     have hfz77_0 := blk_frozen BK211.out 0
                     have hfz77_1 := blk_frozen BK211.out 1
                     have hfz77_2 := blk_frozen BK211.out 2
                     have p236 : 0 ≤ (x12_3 : Int) := of_decide_eq_true (by assumption)
                     have q236 : x12_3 < (l0_1.length : Int) := of_decide_eq_true (by assumption)
                     obtain ⟨ad236, A236_0, c236_0, e236, hx236_0, hl236_0, hi236_0⟩ := at_L1 HR0_1.out x12_3 p236 q236
                     cases e236
                     replace hx236_0 := (HB.out.cell (World.block_lt_of_cell? w _ hx236_0)).trans hx236_0
                     have HR236_0 := zz9 hi236_0
                     have HC236_0 := zz9 hl236_0
                     clear hi236_0 hl236_0
                     replace p236 := eq_true p236
                     replace q236 := eq_true q236
                     have ql0 : 0 ≤ (rd l2 x12_3) := of_decide_eq_true c70b0
                     have ql1 : (rd l2 x12_3) < (x234001_3.length : Int) := of_decide_eq_true c71b0
                     have ql2 : (rd l2 x12_3) < (x234002_3.length : Int) := of_decide_eq_true c73b0
                     obtain ⟨go72, co72, eo72, gb72, gl72, cl72, HG72⟩ := Kd.S_form HO_234001.out (by omega)
                     cases eo72
                     obtain ⟨go74, co74, eo74, gb74, gl74, cl74, HG74⟩ := Kd.R_form HO_234002.out (by omega)
                     cases eo74
                     have p240 : 0 ≤ (x12_3 : Int) := of_decide_eq_true c66b0
                     have q240 : x12_3 < (l0_2.length : Int) := of_decide_eq_true c69b0
                     obtain ⟨ad240, e240, hx240_0⟩ := Kd.at_bool HR0_2.out x12_3 p240 q240
                     cases e240
                     have la234 := zz9 (World.block_lt_of_cell? w _ (by obtain ⟨ad_, e_, h_⟩ := Kd.at_int HR2.out x12_3 p240 (of_decide_eq_true c65b0); cases e_; exact h_ : w.cell? (ad234.add x12_3.toNat) = _))
                     obtain ⟨ad_, A_, c_, e_, h_, _, _⟩ := at_L1 HR0_1.out x12_3 p240 (of_decide_eq_true c67b0)
                     cases e_
                     have la236 := zz9 (World.block_lt_of_cell? w _ h_)
                     clear h_
                     have la240 := zz9 (World.block_lt_of_cell? w _ hx240_0)
                     replace hx240_0 := (HB.out.cell la240.out).trans hx240_0
                     have GB72 := zz9 gb72
                     have GB74 := zz9 gb74
                     have GG72 := zz9 HG72
                     clear gb72 gl72 gb74 gl74 HG74 HG72
                     have S1 := zz9 hx234_0
                     have S2 := zz9 hx236_0
                     have S3 := zz9 hx240_0
                     clear hx234_0 hx235_0 hx236_0 hx240_0 hcz76_0 hcz76_1 hcz76_2 hfz76_0 hfz76_1 hfz76_2 hcz77_0 hcz77_1 hcz77_2 hfz77_0 hfz77_1 hfz77_2 hnb75 hnc75
                     go_wp2_with fail
                     refine start_ (n := 28) (S := fun w' => w'.cell? ⟨gb233, 1, none⟩ = some (.slice (some ⟨go72, 0, none⟩) x234001_3.length co72) ∧ w'.cell? ⟨gb233, 2, none⟩ = some (.slice (some ⟨go74, 0, none⟩) x234002_3.length co74) ∧ w'.cell? (ad234.add x12_3.toNat) = some (.int .i64 (rd l2 x12_3)) ∧ w'.cell? ⟨gb211, 1, none⟩ = some (.slice (some ad236) l0_1.length c0_1) ∧ w'.cell? ⟨gb211, 2, none⟩ = some (.slice (some ad240) l0_2.length c0_2) ∧ w'.cell? (ad236.add x12_3.toNat) = some (.slice A236_0 (rd_L1 l0_1 x12_3).length c236_0) ∧ w'.cell? (ad240.add x12_3.toNat) = some (.bool (rdOf false l0_2 x12_3))) (ds := [27]) #[false, false, false, false, false, false, false, false, false, false, false, false, false, false, false, false, false, false, false, false, false, false, false, false, false, false, false, false] (by kernel_rfl) rfl rfl ⟨(blk_cell BK233.out 1).trans rfl, (blk_cell BK233.out 2).trans rfl, S1.out, (blk_cell BK211.out 1).trans rfl, (blk_cell BK211.out 2).trans rfl, S2.out, S3.out⟩ (fun hHeld => ?_)
                     have n0_ := zz9 (zz5 HO_234001.out)
                     have n1_ := zz9 (zz2 HO_234002.out)
                     have n2_ := zz9 (zz14 BK211.out)
                     have n3_ := zz9 (zz14 BK233.out)
                     have n4_ := zz9 (zz12 HB.out)
                     have m1_ : Aside0 (wr.drew.cell? (ad234.add x12_3.toNat) = some (.int .i64 (rd l2 x12_3))) := ⟨S1.out⟩
                     have m2_ : Aside0 (wr.drew.cell? (ad236.add x12_3.toNat) = some (.slice A236_0 (rd_L1 l0_1 x12_3).length c236_0)) := ⟨S2.out⟩
                     have m3_ : Aside0 (wr.drew.cell? (ad240.add x12_3.toNat) = some (.bool (rdOf false l0_2 x12_3))) := ⟨S3.out⟩
                     clear HO_234001 HO_234002 BK211 BK233 HB S1 S2 S3
                     have HO_234001 := n0_
                     have HO_234002 := n1_
                     have BK211 := n2_
                     have BK233 := n3_
                     have HB := n4_
                     have S1 := m1_
                     have S2 := m2_
                     have S3 := m3_
                     clear n0_ n1_ n2_ n3_ n4_ m1_ m2_ m3_
                     generalize wr.drew = w78 at HO_234001 HO_234002 BK211 BK233 HB S1 S2 S3 hHeld ⊢
                     refine pure_ (i := 0) (N := some 91) (v := ?_) (a' := ?_) #[true, false, false, false, false, false, false, false, false, false, false, false, false, false, false, false, false, false, false, false, false, false, false, false, false, false, false, false] rfl rfl (by kernel_rfl) (fun _ _ _ h => h) (Or.inl ⟨by rfl, ?_⟩) ?_ ?_
                     rotate_left
                     ·
                      intro w'; go_simp; with_reducible rfl
                     rotate_left
                     ·
                      simp only [Act.put, zz6, zz7, zz8, i64_w, i32_w]; rfl
                     refine pure_ (i := 2) (N := some 93) (v := ?_) (a' := ?_) #[true, false, true, false, false, false, false, false, false, false, false, false, false, false, false, false, false, false, false, false, false, false, false, false, false, false, false, false] rfl rfl (by kernel_rfl) (fun _ _ _ h => h) (Or.inl ⟨by rfl, ?_⟩) ?_ ?_
                     rotate_left
                     ·
                      intro w'; go_simp; with_reducible rfl
                     rotate_left
                     ·
                      simp only [Act.put, zz6, zz7, zz8, i64_w, i32_w]; rfl
                     refine pure_ (i := 3) (N := some 94) (v := ?_) (a' := ?_) #[true, false, true, true, false, false, false, false, false, false, false, false, false, false, false, false, false, false, false, false, false, false, false, false, false, false, false, false] rfl rfl (by kernel_rfl) (fun _ _ _ h => h) (Or.inl ⟨by rfl, ?_⟩) ?_ ?_
                     rotate_left
                     ·
                      intro w'; go_simp; with_reducible rfl
                     rotate_left
                     ·
                      simp only [Act.put, zz6, zz7, zz8, i64_w, i32_w]; rfl
                     refine pure_ (i := 6) (N := some 97) (v := ?_) (a' := ?_) #[true, false, true, true, false, false, true, false, false, false, false, false, false, false, false, false, false, false, false, false, false, false, false, false, false, false, false, false] rfl rfl (by kernel_rfl) (fun _ _ _ h => h) (Or.inl ⟨by rfl, ?_⟩) ?_ ?_
                     rotate_left
                     ·
                      intro w'; go_simp; with_reducible rfl
                     rotate_left
                     ·
                      simp only [Act.put, zz6, zz7, zz8, i64_w, i32_w]; rfl
                     refine pure_ (i := 8) (N := some 99) (v := ?_) (a' := ?_) #[true, false, true, true, false, false, true, false, true, false, false, false, false, false, false, false, false, false, false, false, false, false, false, false, false, false, false, false] rfl rfl (by kernel_rfl) (fun _ _ _ h => h) (Or.inl ⟨by rfl, ?_⟩) ?_ ?_
                     rotate_left
                     ·
                      intro w'; go_simp; with_reducible rfl
                     rotate_left
                     ·
                      simp only [Act.put, zz6, zz7, zz8, i64_w, i32_w]; rfl
                     refine pure_ (i := 9) (N := some 100) (v := ?_) (a' := ?_) #[true, false, true, true, false, false, true, false, true, true, false, false, false, false, false, false, false, false, false, false, false, false, false, false, false, false, false, false] rfl rfl (by kernel_rfl) (fun _ _ _ h => h) (Or.inl ⟨by rfl, ?_⟩) ?_ ?_
                     rotate_left
                     ·
                      intro w'; go_simp; with_reducible rfl
                     rotate_left
                     ·
                      simp only [Act.put, zz6, zz7, zz8, i64_w, i32_w]; rfl
                     refine pure_ (i := 12) (N := some 103) (v := ?_) (a' := ?_) #[true, false, true, true, false, false, true, false, true, true, false, false, true, false, false, false, false, false, false, false, false, false, false, false, false, false, false, false] rfl rfl (by kernel_rfl) (fun _ _ _ h => h) (Or.inl ⟨by rfl, ?_⟩) ?_ ?_
                     rotate_left
                     ·
                      intro w'; go_simp; with_reducible rfl
                     rotate_left
                     ·
                      simp only [Act.put, zz6, zz7, zz8, i64_w, i32_w]; rfl
                     refine pure_ (i := 14) (N := some 105) (v := ?_) (a' := ?_) #[true, false, true, true, false, false, true, false, true, true, false, false, true, false, true, false, false, false, false, false, false, false, false, false, false, false, false, false] rfl rfl (by kernel_rfl) (fun _ _ _ h => h) (Or.inl ⟨by rfl, ?_⟩) ?_ ?_
                     rotate_left
                     ·
                      intro w'; go_simp; with_reducible rfl
                     rotate_left
                     ·
                      simp only [Act.put, zz6, zz7, zz8, i64_w, i32_w]; rfl
                     refine pure_ (i := 17) (N := some 108) (v := ?_) (a' := ?_) #[true, false, true, true, false, false, true, false, true, true, false, false, true, false, true, false, false, true, false, false, false, false, false, false, false, false, false, false] rfl rfl (by kernel_rfl) (fun _ _ _ h => h) (Or.inl ⟨by rfl, ?_⟩) ?_ ?_
                     rotate_left
                     ·
                      intro w'; go_simp; with_reducible rfl
                     rotate_left
                     ·
                      simp only [Act.put, zz6, zz7, zz8, i64_w, i32_w]; rfl
                     refine pure_ (i := 19) (N := some 110) (v := ?_) (a' := ?_) #[true, false, true, true, false, false, true, false, true, true, false, false, true, false, true, false, false, true, false, true, false, false, false, false, false, false, false, false] rfl rfl (by kernel_rfl) (fun _ _ _ h => h) (Or.inl ⟨by rfl, ?_⟩) ?_ ?_
                     rotate_left
                     ·
                      intro w'; go_simp; with_reducible rfl
                     rotate_left
                     ·
                      simp only [Act.put, zz6, zz7, zz8, i64_w, i32_w]; rfl
                     refine pure_ (i := 21) (N := some 112) (v := ?_) (a' := ?_) #[true, false, true, true, false, false, true, false, true, true, false, false, true, false, true, false, false, true, false, true, false, true, false, false, false, false, false, false] rfl rfl (by kernel_rfl) (fun _ _ _ h => h) (Or.inl ⟨by rfl, ?_⟩) ?_ ?_
                     rotate_left
                     ·
                      intro w'; go_simp; with_reducible rfl
                     rotate_left
                     ·
                      simp only [Act.put, zz6, zz7, zz8, i64_w, i32_w]; rfl
                     refine pure_ (i := 4) (N := some 95) (v := ?_) (a' := ?_) #[true, false, true, true, true, false, true, false, true, true, false, false, true, false, true, false, false, true, false, true, false, true, false, false, false, false, false, false] rfl rfl (by kernel_rfl) (fun _ _ _ h => h) (Or.inl ⟨by rfl, ?_⟩) ?_ ?_
                     rotate_left
                     ·
                      intro w'; go_simp; with_reducible rfl
                     rotate_left
                     ·
                      simp only [Act.put, zz6, zz7, zz8, i64_w, i32_w]; rfl
                     refine pure_ (i := 10) (N := some 101) (v := ?_) (a' := ?_) #[true, false, true, true, true, false, true, false, true, true, true, false, true, false, true, false, false, true, false, true, false, true, false, false, false, false, false, false] rfl rfl (by kernel_rfl) (fun _ _ _ h => h) (Or.inl ⟨by rfl, ?_⟩) ?_ ?_
                     rotate_left
                     ·
                      intro w'; go_simp; with_reducible rfl
                     rotate_left
                     ·
                      simp only [Act.put, zz6, zz7, zz8, i64_w, i32_w]; rfl
                     refine take_ (i := 1) (N := some 92) (v := ?_) (a' := ?_) #[true, true, true, true, true, false, true, false, true, true, true, false, true, false, true, false, false, true, false, true, false, true, false, false, false, false, false, false] rfl rfl (by kernel_rfl) (fun _ _ _ h => h) (Or.inl ⟨by rfl, ?_⟩) hHeld ?_ ?_
                     rotate_left
                     ·
                      rintro w' ⟨s1, s2, s3, s4, s5, s6, s7⟩; go_simp; with_reducible rfl
                     rotate_left
                     ·
                      simp only [Act.put, zz6, zz7, zz8, i64_w, i32_w]; rfl
                     refine take_ (i := 7) (N := some 98) (v := ?_) (a' := ?_) #[true, true, true, true, true, false, true, true, true, true, true, false, true, false, true, false, false, true, false, true, false, true, false, false, false, false, false, false] rfl rfl (by kernel_rfl) (fun _ _ _ h => h) (Or.inl ⟨by rfl, ?_⟩) hHeld ?_ ?_
                     rotate_left
                     ·
                      rintro w' ⟨s1, s2, s3, s4, s5, s6, s7⟩; go_simp; with_reducible rfl
                     rotate_left
                     ·
                      simp only [Act.put, zz6, zz7, zz8, i64_w, i32_w]; rfl
                     refine take_ (i := 5) (N := some 96) (v := ?_) (a' := ?_) #[true, true, true, true, true, true, true, true, true, true, true, false, true, false, true, false, false, true, false, true, false, true, false, false, false, false, false, false] rfl rfl (by kernel_rfl) (fun _ _ _ h => h) (Or.inl ⟨by rfl, ?_⟩) hHeld ?_ ?_
                     rotate_left
                     ·
                      rintro w' ⟨s1, s2, s3, s4, s5, s6, s7⟩; go_simp; with_reducible rfl
                     rotate_left
                     ·
                      simp only [Act.put, zz6, zz7, zz8, i64_w, i32_w]; rfl
                     refine take_ (i := 11) (N := some 102) (v := ?_) (a' := ?_) #[true, true, true, true, true, true, true, true, true, true, true, true, true, false, true, false, false, true, false, true, false, true, false, false, false, false, false, false] rfl rfl (by kernel_rfl) (fun _ _ _ h => h) (Or.inl ⟨by rfl, ?_⟩) hHeld ?_ ?_
                     rotate_left
                     ·
                      rintro w' ⟨s1, s2, s3, s4, s5, s6, s7⟩; go_simp; with_reducible rfl
                     rotate_left
                     ·
                      simp only [Act.put, zz6, zz7, zz8, i64_w, i32_w]; rfl
                     refine take_ (i := 13) (N := some 104) (v := ?_) (a' := ?_) #[true, true, true, true, true, true, true, true, true, true, true, true, true, true, true, false, false, true, false, true, false, true, false, false, false, false, false, false] rfl rfl (by kernel_rfl) (fun _ _ _ h => h) (Or.inl ⟨by rfl, ?_⟩) hHeld ?_ ?_
                     rotate_left
                     ·
                      rintro w' ⟨s1, s2, s3, s4, s5, s6, s7⟩; go_simp; with_reducible rfl
                     rotate_left
                     ·
                      simp only [Act.put, zz6, zz7, zz8, i64_w, i32_w]; rfl
                     refine pure_ (i := 15) (N := some 106) (v := ?_) (a' := ?_) #[true, true, true, true, true, true, true, true, true, true, true, true, true, true, true, true, false, true, false, true, false, true, false, false, false, false, false, false] rfl rfl (by kernel_rfl) (fun _ _ _ h => h) (Or.inl ⟨by rfl, ?_⟩) ?_ ?_
                     rotate_left
                     ·
                      intro w'; go_simp; with_reducible rfl
                     rotate_left
                     ·
                      simp only [Act.put, zz6, zz7, zz8, i64_w, i32_w]; rfl
                     refine take_ (i := 16) (N := some 107) (v := ?_) (a' := ?_) #[true, true, true, true, true, true, true, true, true, true, true, true, true, true, true, true, true, true, false, true, false, true, false, false, false, false, false, false] rfl rfl (by kernel_rfl) (fun _ _ _ h => h) (Or.inl ⟨by rfl, ?_⟩) hHeld ?_ ?_
                     rotate_left
                     ·
                      rintro w' ⟨s1, s2, s3, s4, s5, s6, s7⟩; go_simp; with_reducible rfl
                     rotate_left
                     ·
                      simp only [Act.put, zz6, zz7, zz8, i64_w, i32_w]; rfl
                     refine take_ (i := 20) (N := some 111) (v := ?_) (a' := ?_) #[true, true, true, true, true, true, true, true, true, true, true, true, true, true, true, true, true, true, false, true, true, true, false, false, false, false, false, false] rfl rfl (by kernel_rfl) (fun _ _ _ h => h) (Or.inl ⟨by rfl, ?_⟩) hHeld ?_ ?_
                     rotate_left
                     ·
                      rintro w' ⟨s1, s2, s3, s4, s5, s6, s7⟩; go_simp; with_reducible rfl
                     rotate_left
                     ·
                      simp only [Act.put, zz6, zz7, zz8, i64_w, i32_w]; rfl
                     refine pure_ (i := 22) (N := some 113) (v := ?_) (a' := ?_) #[true, true, true, true, true, true, true, true, true, true, true, true, true, true, true, true, true, true, false, true, true, true, true, false, false, false, false, false] rfl rfl (by kernel_rfl) (fun _ _ _ h => h) (Or.inl ⟨by rfl, ?_⟩) ?_ ?_
                     rotate_left
                     ·
                      intro w'; go_simp; with_reducible rfl
                     rotate_left
                     ·
                      simp only [Act.put, zz6, zz7, zz8, i64_w, i32_w]; rfl
                     refine take_ (i := 23) (N := some 114) (v := ?_) (a' := ?_) #[true, true, true, true, true, true, true, true, true, true, true, true, true, true, true, true, true, true, false, true, true, true, true, true, false, false, false, false] rfl rfl (by kernel_rfl) (fun _ _ _ h => h) (Or.inl ⟨by rfl, ?_⟩) hHeld ?_ ?_
                     rotate_left
                     ·
                      rintro w' ⟨s1, s2, s3, s4, s5, s6, s7⟩; go_simp; with_reducible rfl
                     rotate_left
                     ·
                      simp only [Act.put, zz6, zz7, zz8, i64_w, i32_w]; rfl
                     refine one_ (i := 18) (N := some 109) #[true, true, true, true, true, true, true, true, true, true, true, true, true, true, true, true, true, true, true, true, true, true, true, true, false, false, false, false] rfl rfl (by kernel_rfl) (by decide) (fun K hK => ?_)
                     refine goes_ Try.func8 (by kernel_rfl) rfl #[.slice A236_0 (rd_L1 l0_1 x12_3).length c236_0, .slice (some ad234) l2.length c2] (by rfl) rfl rfl (by (try simp only [List.map_toArray, List.map_cons, List.map_nil]); first | done | rfl) ?_
                     refine (standstilllaw07_named.calls k3 _ _ (rd_L1 l0_1 x12_3) _ _ l2 t237 _ (Kd.C_below HR236_0.out HB.out) HC236_0.out (Kd.C_below HR2.out HB.out) HC2.out A68.out).mono ?_
                     rintro e w' ⟨v238, rfl, ho0, hb⟩
                     have n0_ := zz9 (Kd.S_elder' HO_234001.out (Kd.R_base ho0) hb)
                     have n1_ := zz9 (Kd.R_below HO_234002.out hb)
                     have n2_ := zz9 (Kd.R_lower ho0 HB.out.size)
                     have n3_ := zz9 (blk_below BK211.out hb)
                     have n4_ := zz9 (blk_below BK233.out hb)
                     have n5_ := zz9 (below_step HB.out hb)
                     have m1_ := zz9 ((hb.cell (World.block_lt_of_cell? _ _ S1.out)).trans S1.out)
                     have m2_ := zz9 ((hb.cell (World.block_lt_of_cell? _ _ S2.out)).trans S2.out)
                     have m3_ := zz9 ((hb.cell (World.block_lt_of_cell? _ _ S3.out)).trans S3.out)
                     clear HO_234001 HO_234002 BK211 BK233 HB S1 S2 S3
                     have HO_234001 := n0_
                     have HO_234002 := n1_
                     have HO239 := n2_
                     have BK211 := n3_
                     have BK233 := n4_
                     have HB := n5_
                     have S1 := m1_
                     have S2 := m2_
                     have S3 := m3_
                     clear n0_ n1_ n2_ n3_ n4_ n5_ m1_ m2_ m3_ hb ho0 hHeld
                     obtain ⟨A238, c238, e238⟩ := Kd.R_slice HO239.out
                     subst e238
                     refine ⟨_, rfl, hK.out _ _ ⟨(blk_cell BK233.out 1).trans rfl, (blk_cell BK233.out 2).trans rfl, S1.out, (blk_cell BK211.out 1).trans rfl, (blk_cell BK211.out 2).trans rfl, S2.out, S3.out⟩ (fun hHeld => ?_)⟩
                     clear hK K
                     refine norm_ (a' := ?_) ?_ ?_
                     rotate_left
                     ·
                      show Act.put _ (some 109) _ = _; simp only [Act.put, zz6, zz7, zz8, i64_w, i32_w]; rfl
                     refine pure_ (i := 24) (N := some 115) (v := ?_) (a' := ?_) #[true, true, true, true, true, true, true, true, true, true, true, true, true, true, true, true, true, true, true, true, true, true, true, true, true, false, false, false] rfl rfl (by kernel_rfl) (fun _ _ _ h => h) (Or.inl ⟨by rfl, ?_⟩) ?_ ?_
                     rotate_left
                     ·
                      intro w'; go_simp; with_reducible rfl
                     rotate_left
                     ·
                      simp only [Act.put, zz6, zz7, zz8, i64_w, i32_w]; rfl
                     have n_ := zz9 (Kd.S_mono (ok' := (fun k_ => some k_ ≠ (Value.slice A238 t237.length c238 : Value).ownBlock)) HO_234001.out (fun k_ hk => hk.2))
                     clear HO_234001
                     have HO_234001 := n_
                     clear n_
                     have HX80 := zz9 (show Kd.S (Kd.slice 3 (Kd.int .i64)) 26 w' w.heap.size (fun k_ => ((fun _ => True)) k_ ∧ ¬ ((fun k_ => some k_ = (Value.slice A238 t237.length c238 : Value).ownBlock)) k_) (.slice (some ⟨go72, 0, none⟩) x234001_3.length co72) x234001_3 from Kd.S_mono HO_234001.out (fun k_ hk => ⟨trivial, fun e_ => hk e_⟩))
                     obtain ⟨oki80, ce80, hcl80, hM80, hcc80, hfr80, hoki80, hH80⟩ := Kd.S_elem HX80.out [] (rd l2 x12_3) ql0 ql1
                     obtain ⟨ve80_0, rfl, ge80_0⟩ := hM80
                     have HP80 := Kd.S_seg hH80 ql0 ql1 (seg := [Value.slice A238 t237.length c238]) (j := 0) (show 1 ≤ 1 from by decide) (x' := t237) (Kd.M_row (Kd.R_mono (Kd.R_tight rfl (Kd.R_mono (ok' := fun k_ => ((fun _ => True)) k_ ∧ k_ ≠ go72) (Kd.R_apart' (HO239.out) (Kd.S_typed HO_234001.out) (by decide)) (fun k_ hk => ⟨trivial, fun e_ => (hk.2) (by rw [e_]; rfl)⟩))) (fun _ h_ => Or.inr (h_)))) (fun _ hk => hk) (fun k_ hk_ => ((Kd.R_mono (ok' := fun k_ => ((fun _ => True)) k_ ∧ k_ ≠ go72) (Kd.R_apart' (HO239.out) (Kd.S_typed HO_234001.out) (by decide)) (fun k_ hk => ⟨trivial, fun e_ => (hk.2) (by rw [e_]; rfl)⟩))).1 k_ hk_.symm)
                     have hx80_0 := hcc80 0 _ rfl
                     (try simp only [show ((Kd.slice 3 (Kd.int .i64))).sz = 1 from rfl, Nat.mul_one, Nat.add_zero] at hx80_0)
                     have hf80_0 := hfr80 0
                     (try simp only [show ((Kd.slice 3 (Kd.int .i64))).sz = 1 from rfl, Nat.mul_one, Nat.add_zero] at hf80_0)
                     clear hcl80 hcc80 hfr80 hoki80 hH80
                     (try simp only [show ((Kd.slice 3 (Kd.int .i64))).sz = 1 from rfl, Nat.mul_one, Nat.add_zero] at HP80)
                     have HP := zz9 HP80
                     clear HP80 ge80_0
                     refine one_ (i := 25) (N := none) #[true, true, true, true, true, true, true, true, true, true, true, true, true, true, true, true, true, true, true, true, true, true, true, true, true, true, false, false] rfl rfl (by kernel_rfl) (by decide) (fun K hK => ?_)
                     refine skip_ (w1 := (w'.setCell ⟨go72, (rd l2 x12_3).toNat, none⟩ (.slice A238 t237.length c238))) (by rfl) rfl ?_ ?_
                     ·
                      first | (go_simp; done) | (go_simp; rfl)
                     have hg_ : w'.grownBy (w'.setCell ⟨go72, (rd l2 x12_3).toNat, none⟩ (.slice A238 t237.length c238)) (some go72) := HP.out.2
                     have hp_ : Kd.S (Kd.slice 3 (Kd.int .i64)) 26 (w'.setCell ⟨go72, (rd l2 x12_3).toNat, none⟩ (.slice A238 t237.length c238)) w.heap.size (fun _ => True) (.slice (some ⟨go72, 0, none⟩) x234001_3.length co72) y241 := by rw [Ny241.out]; exact HP.out.1
                     have ne_ : ∀ a : Addr, a.block < w.heap.size → some a.block ≠ some go72 := fun a h e => by have h2 := GB72.out; injection e with e; omega
                     have n0_ := zz9 (hp_)
                     have n1_ := zz9 (Kd.R_over' (v := (.slice (some ⟨go72, 0, none⟩) x234001_3.length co72)) HO_234002.out (Kd.S_typed HO_234001.out) (by decide) hg_)
                     have n2_ := zz9 (blk_grown BK211.out hg_ (Kd.S_ne HO_234001.out BK211.out (by decide)))
                     have n3_ := zz9 (blk_grown BK233.out hg_ (Kd.S_ne HO_234001.out BK233.out (by decide)))
                     have n4_ := zz9 (below_set (j := (rd l2 x12_3).toNat) (v := (.slice A238 t237.length c238)) HB.out GB72.out)
                     have m1_ := zz9 ((World.cell?_of_block (hg_.block _ (World.block_lt_of_cell? _ _ S1.out) (ne_ _ la234.out))).trans S1.out)
                     have m2_ := zz9 ((World.cell?_of_block (hg_.block _ (World.block_lt_of_cell? _ _ S2.out) (ne_ _ la236.out))).trans S2.out)
                     have m3_ := zz9 ((World.cell?_of_block (hg_.block _ (World.block_lt_of_cell? _ _ S3.out) (ne_ _ la240.out))).trans S3.out)
                     clear HO_234001 HO_234002 BK211 BK233 HB S1 S2 S3 HO239 HP hp_ hg_ ne_ hx80_0 hf80_0 hHeld
                     have HO_234001 := n0_
                     have HO_234002 := n1_
                     have BK211 := n2_
                     have BK233 := n3_
                     have HB := n4_
                     have S1 := m1_
                     have S2 := m2_
                     have S3 := m3_
                     clear n0_ n1_ n2_ n3_ n4_ m1_ m2_ m3_
                     refine hK.out _ _ ⟨(blk_cell BK233.out 1).trans rfl, (blk_cell BK233.out 2).trans rfl, S1.out, (blk_cell BK211.out 1).trans rfl, (blk_cell BK211.out 2).trans rfl, S2.out, S3.out⟩ (fun hHeld => ?_)
                     clear hK K
                     generalize (w'.setCell ⟨go72, (rd l2 x12_3).toNat, none⟩ (.slice A238 t237.length c238)) = w81 at HO_234001 HO_234002 BK211 BK233 HB S1 S2 S3 hHeld ⊢
                     refine pure_ (i := 26) (N := some 116) (v := ?_) (a' := ?_) #[true, true, true, true, true, true, true, true, true, true, true, true, true, true, true, true, true, true, true, true, true, true, true, true, true, true, true, false] rfl rfl (by kernel_rfl) (fun _ _ _ h => h) (Or.inl ⟨by rfl, ?_⟩) ?_ ?_
                     rotate_left
                     ·
                      intro w'; go_simp; with_reducible rfl
                     rotate_left
                     ·
                      simp only [Act.put, zz6, zz7, zz8, i64_w, i32_w]; rfl
                     obtain ⟨hy82_, hz82_⟩ := Kd.R_celln false HO_234002.out (rd l2 x12_3) ql0 ql2
                     have HP82 := zz9 (Kd.R_putg HO_234002.out (rd l2 x12_3) (rdOf false l0_2 x12_3))
                     refine last_ (i := 27) (N := none) #[true, true, true, true, true, true, true, true, true, true, true, true, true, true, true, true, true, true, true, true, true, true, true, true, true, true, true, true] rfl rfl (by kernel_rfl) (by decide) (fun K hK => ?_)
                     refine skip_ (w1 := (w81.setCell ⟨go74, (rd l2 x12_3).toNat, none⟩ (.bool (rdOf false l0_2 x12_3)))) (by rfl) rfl ?_ ?_
                     ·
                      first | (go_simp; done) | (go_simp; rfl)
                     have hg_ : w81.grownBy (w81.setCell ⟨go74, (rd l2 x12_3).toNat, none⟩ (.bool (rdOf false l0_2 x12_3))) (some go74) := HP82.out.2
                     have hp_ : Kd.R Kd.bool 4 (w81.setCell ⟨go74, (rd l2 x12_3).toNat, none⟩ (.bool (rdOf false l0_2 x12_3))) w.heap.size (fun _ => True) (.slice (some ⟨go74, 0, none⟩) x234002_3.length co74) y242 := by rw [Ny242.out]; exact HP82.out.1
                     have n0_ := zz9 (Kd.S_over' (v := (.slice (some ⟨go74, 0, none⟩) x234002_3.length co74)) HO_234001.out (Kd.R_typed HO_234002.out) (by decide) hg_)
                     have n1_ := zz9 (hp_)
                     have n2_ := zz9 (blk_grown BK211.out hg_ (Kd.R_ne HO_234002.out BK211.out (by decide)))
                     have n3_ := zz9 (blk_grown BK233.out hg_ (Kd.R_ne HO_234002.out BK233.out (by decide)))
                     have n4_ := zz9 (below_set (j := (rd l2 x12_3).toNat) (v := (.bool (rdOf false l0_2 x12_3))) HB.out GB74.out)
                     clear HO_234001 HO_234002 BK211 BK233 HB S1 S2 S3 HP82 hp_ hg_ hy82_ hz82_ hHeld la234 la236 la240 GG72
                     have HO_234001 := n0_
                     have HO_234002 := n1_
                     have BK211 := n2_
                     have BK233 := n3_
                     have HB := n4_
                     clear n0_ n1_ n2_ n3_ n4_
                     refine hK.out _ _ ?_
                     clear hK K
                     generalize (w81.setCell ⟨go74, (rd l2 x12_3).toNat, none⟩ (.bool (rdOf false l0_2 x12_3))) = w83 at HO_234001 HO_234002 BK211 BK233 HB ⊢
                     refine done_ (by kernel_rfl) ?_
                     go_wp2_with fail
                     go_roundg k3
                     case measure => have := HJ4.out; have := HK2.out; have := HK3.out; omega
                     case rel => exact ⟨(wrap64 (x12_3 + 1)), (y241), (y242), (.slice (some ⟨go72, 0, none⟩) x234001_3.length co72), (.slice (some ⟨go74, 0, none⟩) x234002_3.length co74), (by first | rfl | (simp; done) | (simp [*]; done)), H', ⟨by have := HJ4.out; have := HK2.out; have := HK3.out; omega⟩, ⟨by (with_reducible repeat (first | apply zz3 | apply zz4 | apply zz5)); exact HO_234001.out⟩, ⟨by (with_reducible repeat (first | apply zz0 | apply zz1 | apply zz2)); exact HO_234002.out⟩, ⟨by (with_reducible repeat (first | refine zz13 ?_ _ | refine zz14 ?_ | refine zz15 ?_ _)); exact BK211.out⟩, ⟨by (with_reducible repeat (first | refine zz13 ?_ _ | refine zz14 ?_ | refine zz15 ?_ _)); exact BK233.out⟩, ⟨by repeat (first | (with_reducible first | exact HB.out | apply zz11 | apply zz10 | apply zz12 | refine below_set ?_ GE211.out | refine below_set ?_ GE233.out) | exact HB.out)⟩⟩
                    ·
                     rw [if_neg c73] at H
                     exact absurd H (by simp)
                   ·
                    rw [if_neg c71] at H
                    exact absurd H (by simp)
                  ·
                   rw [if_neg c70] at H
                   exact absurd H (by simp)
                 ·
                  rw [if_neg c69] at H
                  exact absurd H (by simp)
                ·
                 rw [if_neg c67] at H
                 exact absurd H (by simp)
               ·
                rw [if_neg c66] at H
                exact absurd H (by simp)
              ·
               rw [if_neg c65] at H
               have c65b0 : decide (x12_3 < (l2.length : Int)) = false := decide_eq_false c65
               clear c65
               replace H := Option.bind_eq_some_iff.mp H
               obtain ⟨⟨t243, t246, t247⟩, A840, H⟩ := H
               replace H : ((standstilllaw07_named.f k3 l1 l2).bind fun t248 => ((tag_Run.f k3 a0_0 x234001_3 x234002_3 t248 (wrap64 (a3))).bind fun bt251 => (if t247 = bt251.2.2 then (if t246 = bt251.2.1 then ((standstillref07_Fits.f k3 a0_0 l0_1 l0_2 t243).bind fun t256 => (if t256 = true then ((standstilllaw07_named.f k3 t243 l2).bind fun t257 => ((standstillref07_Same.f k3 t257 bt251.1).bind fun t260 => (if t260 = true then ((standstilllaw07_awake.f k3).bind fun t261 => (some t261)) else (some false)))) else (some false))) else (some false)) else (some false)))) = some r := H
               have A84 := zz9 A840
               clear A840
               replace H := Option.bind_eq_some_iff.mp H
               obtain ⟨t248, A850, H⟩ := H
               replace H : ((tag_Run.f k3 a0_0 x234001_3 x234002_3 t248 (wrap64 (a3))).bind fun bt251 => (if t247 = bt251.2.2 then (if t246 = bt251.2.1 then ((standstillref07_Fits.f k3 a0_0 l0_1 l0_2 t243).bind fun t256 => (if t256 = true then ((standstilllaw07_named.f k3 t243 l2).bind fun t257 => ((standstillref07_Same.f k3 t257 bt251.1).bind fun t260 => (if t260 = true then ((standstilllaw07_awake.f k3).bind fun t261 => (some t261)) else (some false)))) else (some false))) else (some false)) else (some false))) = some r := H
               have A85 := zz9 A850
               clear A850
               replace H := Option.bind_eq_some_iff.mp H
               obtain ⟨⟨t251, t254, t255⟩, A860, H⟩ := H
               replace H : (if t247 = t255 then (if t246 = t254 then ((standstillref07_Fits.f k3 a0_0 l0_1 l0_2 t243).bind fun t256 => (if t256 = true then ((standstilllaw07_named.f k3 t243 l2).bind fun t257 => ((standstillref07_Same.f k3 t257 t251).bind fun t260 => (if t260 = true then ((standstilllaw07_awake.f k3).bind fun t261 => (some t261)) else (some false)))) else (some false))) else (some false)) else (some false)) = some r := H
               have A86 := zz9 A860
               clear A860
               by_cases c87 : t247 = t255
               ·
                rw [if_pos c87] at H
                have c87b0 : (t247 == t255) = true := beq_iff_eq.mpr c87
                have c87b1 : (t247 != t255) = false := bne_eq_false_iff_eq.mpr c87
                clear c87
                by_cases c88 : t246 = t254
                ·
                 rw [if_pos c88] at H
                 have c88b0 : (t246 == t254) = true := beq_iff_eq.mpr c88
                 have c88b1 : (t246 != t254) = false := bne_eq_false_iff_eq.mpr c88
                 clear c88
                 replace H := Option.bind_eq_some_iff.mp H
                 obtain ⟨t256, A890, H⟩ := H
                 replace H : (if t256 = true then ((standstilllaw07_named.f k3 t243 l2).bind fun t257 => ((standstillref07_Same.f k3 t257 t251).bind fun t260 => (if t260 = true then ((standstilllaw07_awake.f k3).bind fun t261 => (some t261)) else (some false)))) else (some false)) = some r := H
                 have A89 := zz9 A890
                 clear A890
                 by_cases c90 : t256 = true
                 ·
                  subst c90
                  have H1 : ((standstilllaw07_named.f k3 t243 l2).bind fun t257 => ((standstillref07_Same.f k3 t257 t251).bind fun t260 => (if t260 = true then ((standstilllaw07_awake.f k3).bind fun t261 => (some t261)) else (some false)))) = some r := by rw [if_pos rfl] at H; exact H
                  clear H
                  have H := H1
                  clear H1
                  replace H := Option.bind_eq_some_iff.mp H
                  obtain ⟨t257, A910, H⟩ := H
                  replace H : ((standstillref07_Same.f k3 t257 t251).bind fun t260 => (if t260 = true then ((standstilllaw07_awake.f k3).bind fun t261 => (some t261)) else (some false))) = some r := H
                  have A91 := zz9 A910
                  clear A910
                  replace H := Option.bind_eq_some_iff.mp H
                  obtain ⟨t260, A920, H⟩ := H
                  replace H : (if t260 = true then ((standstilllaw07_awake.f k3).bind fun t261 => (some t261)) else (some false)) = some r := H
                  have A92 := zz9 A920
                  clear A920
                  by_cases c93 : t260 = true
                  ·
                   subst c93
                   have H1 : ((standstilllaw07_awake.f k3).bind fun t261 => (some t261)) = some r := by rw [if_pos rfl] at H; exact H
                   clear H
                   have H := H1
                   clear H1
                   replace H := Option.bind_eq_some_iff.mp H
                   obtain ⟨t261, A940, H⟩ := H
                   replace H : (some t261) = some r := H
                   have A94 := zz9 A940
                   clear A940
                   obtain rfl := Option.some.inj H
                   have hnb95 := NB211_233.out
                   have hnc95 := NB233_211.out
                   have hcz96_0 : wr.cell? ⟨gb211, 0, none⟩ = some (.int .i64 a0_0) := (blk_cell BK211.out 0).trans rfl
                   have hcz96_1 : wr.cell? ⟨gb211, 1, none⟩ = some (.slice A0_1 l0_1.length c0_1) := (blk_cell BK211.out 1).trans rfl
                   have hcz96_2 : wr.cell? ⟨gb211, 2, none⟩ = some (.slice A0_2 l0_2.length c0_2) := (blk_cell BK211.out 2).trans rfl
                   have hfz96_0 := blk_frozen BK211.out 0
                   have hfz96_1 := blk_frozen BK211.out 1
                   have hfz96_2 := blk_frozen BK211.out 2
                   try go_wp2_with (first | ((with_reducible refine gate_callee (f := 9) rfl ?_); refine goesL_ (some 122) rfl rfl Try.func9 (by kernel_rfl) rfl #[.agg #[.int .i64 a0_0, .slice A0_1 l0_1.length c0_1, .slice A0_2 l0_2.length c0_2], .slice A1 l1.length c1, .int .i64 (wrap64 (a3))] rfl (by (try simp only [List.map_toArray, List.map_cons, List.map_nil]); first | done | rfl | (simp only [List.length_drop, List.length_take]; rfl)) ?_; (with_reducible refine (tag_Run.calls k3 a0_0 _ _ l0_1 _ _ l0_2 _ _ l1 (wrap64 (a3)) t243 t246 t247 _ ?side1 ?side2 ?side3 ?side4 ?side5 ?side6 A84.out).mono ?_); (case side1 => repeat (first | exact (Kd.C_below HR0_1.out HB.out) | (with_reducible refine Kd.C_alloc ?_ _) | (with_reducible refine Kd.C_drewN ?_ _) | (with_reducible refine Kd.C_drew ?_))); (case side2 => exact HC0_1.out); (case side3 => repeat (first | exact (Kd.C_below HR0_2.out HB.out) | (with_reducible refine Kd.C_alloc ?_ _) | (with_reducible refine Kd.C_drewN ?_ _) | (with_reducible refine Kd.C_drew ?_))); (case side4 => exact HC0_2.out); (case side5 => repeat (first | exact (Kd.C_below HR1.out HB.out) | (with_reducible refine Kd.C_alloc ?_ _) | (with_reducible refine Kd.C_drewN ?_ _) | (with_reducible refine Kd.C_drew ?_))); (case side6 => exact HC1.out); rintro e w97 ⟨v244, rfl, ho0, hb⟩; refine ⟨_, rfl, ?_⟩; have n0_ := zz9 (Kd.S_elder' (by (with_reducible repeat (first | apply zz3 | apply zz4 | apply zz5)); exact HO_234001.out) (Kd.R_base ho0) hb); have n1_ := zz9 (Kd.R_below (by (with_reducible repeat (first | apply zz0 | apply zz1 | apply zz2)); exact HO_234002.out) hb); have n2_ := zz9 (Kd.R_lower ho0 (below_size (by repeat (first | (with_reducible first | exact HB.out | apply zz11 | apply zz10 | apply zz12 | refine below_set ?_ GE211.out | refine below_set ?_ GE233.out) | exact HB.out)))); have n3_ := zz9 (blk_below (g := gb211) (o := .cells #[.int .i64 a0_0, .slice A0_1 l0_1.length c0_1, .slice A0_2 l0_2.length c0_2] 25 (0, 0)) (by (with_reducible repeat (first | refine zz13 ?_ _ | refine zz14 ?_ | refine zz15 ?_ _)); exact BK211.out) hb); have n4_ := zz9 (blk_below (g := gb233) (o := .cells #[.int .i64 a0_0, u234001, u234002] 25 (0, 0)) (by (with_reducible repeat (first | refine zz13 ?_ _ | refine zz14 ?_ | refine zz15 ?_ _)); exact BK233.out) hb); have n5_ := zz9 (below_step (by repeat (first | (with_reducible first | exact HB.out | apply zz11 | apply zz10 | apply zz12 | refine below_set ?_ GE211.out | refine below_set ?_ GE233.out) | exact HB.out)) hb); clear HO_234001; clear HO_234002; clear BK211; clear BK233; clear HB; have HO_234001 := n0_; have HO_234002 := n1_; have HO245 := n2_; have BK211 := n3_; have BK233 := n4_; have HB := n5_; clear n0_ n1_ n2_ n3_ n4_ n5_; (try clear hb); (try clear hb2); (try clear hk); (try clear hi); (try clear ho0)))
                   have n0_ := zz9 (zz5 HO_234001.out)
                   have n1_ := zz9 (zz2 HO_234002.out)
                   have n2_ := zz9 (zz2 HO245.out)
                   have n3_ := zz9 (zz14 BK211.out)
                   have n4_ := zz9 (zz14 BK233.out)
                   have n5_ := zz9 (zz12 HB.out)
                   clear HO_234001
                   clear HO_234002
                   clear HO245
                   clear BK211
                   clear BK233
                   clear HB
                   have HO_234001 := n0_
                   have HO_234002 := n1_
                   have HO245 := n2_
                   have BK211 := n3_
                   have BK233 := n4_
                   have HB := n5_
                   clear n0_ n1_ n2_ n3_ n4_ n5_
                   refine start_ (n := 14) (S := fun w' => w'.cell? ⟨gb233, 0, none⟩ = some (.int .i64 a0_0) ∧ w'.cell? ⟨gb233, 1, none⟩ = some (u234001) ∧ w'.cell? ⟨gb233, 2, none⟩ = some (u234002)) (ds := []) #[false, false, false, false, false, false, false, false, false, false, false, false, false, false] (by kernel_rfl) rfl rfl ⟨(blk_cell BK233.out 0).trans rfl, (blk_cell BK233.out 1).trans rfl, (blk_cell BK233.out 2).trans rfl⟩ (fun hHeld => ?_); refine with_tabW standstilllaw07_TagNames.tab16 standstilllaw07_TagNames.bits16 (fun HT_ HW_ => ?_)
                   generalize w97.drew = w98 at HO_234001 HO_234002 HO245 BK211 BK233 HB hHeld ⊢
                   refine pure_ (i := 1) (N := some 128) (v := ?_) (a' := ?_) #[false, true, false, false, false, false, false, false, false, false, false, false, false, false] rfl rfl (any_of HT_.out (by kernel_rfl)) (fun _ _ _ h => h) (Or.inl ⟨by rfl, ?_⟩) ?_ ?_
                   rotate_left
                   ·
                    intro w'
                    go_simp
                    with_reducible rfl
                   rotate_left
                   ·
                    simp only [Act.put, zz6, zz7, zz8, i64_w, i32_w]
                    rfl
                   refine pure_ (i := 2) (N := some 129) (v := ?_) (a' := ?_) #[false, true, true, false, false, false, false, false, false, false, false, false, false, false] rfl rfl (any_of HT_.out (by kernel_rfl)) (fun _ _ _ h => h) (Or.inl ⟨by rfl, ?_⟩) ?_ ?_
                   rotate_left
                   ·
                    intro w'
                    go_simp
                    with_reducible rfl
                   rotate_left
                   ·
                    simp only [Act.put, zz6, zz7, zz8, i64_w, i32_w]
                    rfl
                   refine pure_ (i := 4) (N := some 131) (v := ?_) (a' := ?_) #[false, true, true, false, true, false, false, false, false, false, false, false, false, false] rfl rfl (any_of HT_.out (by kernel_rfl)) (fun _ _ _ h => h) (Or.inl ⟨by rfl, ?_⟩) ?_ ?_
                   rotate_left
                   ·
                    intro w'
                    go_simp
                    with_reducible rfl
                   rotate_left
                   ·
                    simp only [Act.put, zz6, zz7, zz8, i64_w, i32_w]
                    rfl
                   refine pure_ (i := 5) (N := some 132) (v := ?_) (a' := ?_) #[false, true, true, false, true, true, false, false, false, false, false, false, false, false] rfl rfl (any_of HT_.out (by kernel_rfl)) (fun _ _ _ h => h) (Or.inl ⟨by rfl, ?_⟩) ?_ ?_
                   rotate_left
                   ·
                    intro w'
                    go_simp
                    with_reducible rfl
                   rotate_left
                   ·
                    simp only [Act.put, zz6, zz7, zz8, i64_w, i32_w]
                    rfl
                   refine take_ (i := 0) (N := some 127) (v := ?_) (a' := ?_) #[true, true, true, false, true, true, false, false, false, false, false, false, false, false] rfl rfl (take_ofW HT_.out HW_.out (by kernel_rfl)) (fun _ _ _ h => h) (Or.inl ⟨by rfl, ?_⟩) hHeld ?_ ?_
                   rotate_left
                   ·
                    rintro w' ⟨s0, s1, s2⟩
                    go_simp
                    with_reducible rfl
                   rotate_left
                   ·
                    simp only [Act.put, zz6, zz7, zz8, i64_w, i32_w]
                    rfl
                   refine one_ (i := 3) (N := some 130) #[true, true, true, true, true, true, false, false, false, false, false, false, false, false] rfl rfl (one_of HT_.out (by kernel_rfl)) (by decide) (fun K hK => ?_)
                   refine goes_ Try.func8 (by kernel_rfl) rfl #[.slice A1 l1.length c1, .slice A2 l2.length c2] (by rfl) rfl rfl (by (try simp only [List.map_toArray, List.map_cons, List.map_nil]); first | done | rfl | (simp only [List.length_drop, List.length_take]; rfl)) ?_
                   with_reducible refine (standstilllaw07_named.calls k3 _ _ l1 _ _ l2 t248 _ ?side1 ?side2 ?side3 ?side4 A85.out).mono ?_
                   (case side1 => repeat (first | exact (Kd.C_below HR1.out HB.out) | (with_reducible refine Kd.C_alloc ?_ _) | (with_reducible refine Kd.C_drewN ?_ _) | (with_reducible refine Kd.C_drew ?_)))
                   (case side2 => exact HC1.out)
                   (case side3 => repeat (first | exact (Kd.C_below HR2.out HB.out) | (with_reducible refine Kd.C_alloc ?_ _) | (with_reducible refine Kd.C_drewN ?_ _) | (with_reducible refine Kd.C_drew ?_)))
                   (case side4 => exact HC2.out)
                   rintro e w99 ⟨v249, rfl, ho0, hb⟩
                   refine ⟨_, rfl, ?_⟩
                   have n0_ := zz9 (Kd.S_elder' (by (with_reducible repeat (first | apply zz3 | apply zz4 | apply zz5)); exact HO_234001.out) (Kd.R_base ho0) hb)
                   have n1_ := zz9 (Kd.R_below (by (with_reducible repeat (first | apply zz0 | apply zz1 | apply zz2)); exact HO_234002.out) hb)
                   have n2_ := zz9 (Kd.R_elder' (by (with_reducible repeat (first | apply zz0 | apply zz1 | apply zz2)); exact HO245.out) (Kd.R_base ho0) hb)
                   have n3_ := zz9 (Kd.R_lower (Kd.R_new' ho0 (Kd.R_lt (by (with_reducible repeat (first | apply zz0 | apply zz1 | apply zz2)); exact HO245.out))) (below_size (by repeat (first | (with_reducible first | exact HB.out | apply zz11 | apply zz10 | apply zz12 | refine below_set ?_ GE211.out | refine below_set ?_ GE233.out) | exact HB.out))))
                   have n4_ := zz9 (blk_below (g := gb211) (o := .cells #[.int .i64 a0_0, .slice A0_1 l0_1.length c0_1, .slice A0_2 l0_2.length c0_2] 25 (0, 0)) (by (with_reducible repeat (first | refine zz13 ?_ _ | refine zz14 ?_ | refine zz15 ?_ _)); exact BK211.out) hb)
                   have n5_ := zz9 (blk_below (g := gb233) (o := .cells #[.int .i64 a0_0, u234001, u234002] 25 (0, 0)) (by (with_reducible repeat (first | refine zz13 ?_ _ | refine zz14 ?_ | refine zz15 ?_ _)); exact BK233.out) hb)
                   have n6_ := zz9 (below_step (by repeat (first | (with_reducible first | exact HB.out | apply zz11 | apply zz10 | apply zz12 | refine below_set ?_ GE211.out | refine below_set ?_ GE233.out) | exact HB.out)) hb)
                   clear HO_234001
                   clear HO_234002
                   clear HO245
                   clear BK211
                   clear BK233
                   clear HB
                   have HO_234001 := n0_
                   have HO_234002 := n1_
                   have HO245 := n2_
                   have HO250 := n3_
                   have BK211 := n4_
                   have BK233 := n5_
                   have HB := n6_
                   clear n0_ n1_ n2_ n3_ n4_ n5_ n6_
                   (try clear hb)
                   (try clear hb2)
                   (try clear hk)
                   (try clear hi)
                   (try clear ho0)
                   obtain ⟨Ao100, co100, eo100⟩ := Kd.S_slice HO_234001.out
                   (first | subst eo100 | (injection eo100 with f1_ f2_ f3_; have f4_ := f1_.symm; have f5_ := f3_.symm; clear f1_ f2_ f3_; subst f4_; subst f5_))
                   obtain ⟨Ao101, co101, eo101⟩ := Kd.R_slice HO_234002.out
                   (first | subst eo101 | (injection eo101 with f1_ f2_ f3_; have f4_ := f1_.symm; have f5_ := f3_.symm; clear f1_ f2_ f3_; subst f4_; subst f5_))
                   obtain ⟨Ao102, co102, eo102⟩ := Kd.R_slice HO250.out
                   (first | subst eo102 | (injection eo102 with f1_ f2_ f3_; have f4_ := f1_.symm; have f5_ := f3_.symm; clear f1_ f2_ f3_; subst f4_; subst f5_))
                   refine hK.out _ _ ⟨(blk_cell BK233.out 0).trans rfl, (blk_cell BK233.out 1).trans rfl, (blk_cell BK233.out 2).trans rfl⟩ (fun hHeld => ?_)
                   clear hK K
                   refine norm_ (a' := ?_) ?_ ?_
                   rotate_left
                   ·
                    show Act.put _ (some 130) _ = _
                    simp only [Act.put, zz6, zz7, zz8, i64_w, i32_w]
                    rfl
                   refine one_ (i := 6) (N := some 133) #[true, true, true, true, true, true, true, false, false, false, false, false, false, false] rfl rfl (one_of HT_.out (by kernel_rfl)) (by decide) (fun K hK => ?_)
                   refine goes_ Try.func9 (by kernel_rfl) rfl #[.agg #[.int .i64 a0_0, .slice Ao100 x234001_3.length co100, .slice Ao101 x234002_3.length co101], .slice Ao102 t248.length co102, .int .i64 (wrap64 (a3))] (by rfl) rfl rfl (by (try simp only [List.map_toArray, List.map_cons, List.map_nil]); first | done | rfl | (simp only [List.length_drop, List.length_take]; rfl)) ?_
                   with_reducible refine (tag_Run.calls k3 a0_0 _ _ x234001_3 _ _ x234002_3 _ _ t248 (wrap64 (a3)) t251 t254 t255 _ ?side1 ?side2 ?side3 ?side4 ?side5 ?side6 A86.out).mono ?_
                   (case side1 => repeat (first | exact (Kd.S_reads' HO_234001.out).2.2 | (with_reducible refine Kd.C_alloc ?_ _) | (with_reducible refine Kd.C_drewN ?_ _) | (with_reducible refine Kd.C_drew ?_)))
                   (case side2 => exact (Kd.S_reads' HO_234001.out).2.1)
                   (case side3 => repeat (first | exact (Kd.R_reads' HO_234002.out).2.2 | (with_reducible refine Kd.C_alloc ?_ _) | (with_reducible refine Kd.C_drewN ?_ _) | (with_reducible refine Kd.C_drew ?_)))
                   (case side4 => exact (Kd.R_reads' HO_234002.out).2.1)
                   (case side5 => repeat (first | exact (Kd.R_reads' HO250.out).2.2 | (with_reducible refine Kd.C_alloc ?_ _) | (with_reducible refine Kd.C_drewN ?_ _) | (with_reducible refine Kd.C_drew ?_)))
                   (case side6 => exact (Kd.R_reads' HO250.out).2.1)
                   rintro e w103 ⟨v252, rfl, ho0, hb⟩
                   refine ⟨_, rfl, ?_⟩
                   have n0_ := zz9 (Kd.S_elder' (by (with_reducible repeat (first | apply zz3 | apply zz4 | apply zz5)); exact HO_234001.out) (Kd.R_base ho0) hb)
                   have n1_ := zz9 (Kd.R_below (by (with_reducible repeat (first | apply zz0 | apply zz1 | apply zz2)); exact HO_234002.out) hb)
                   have n2_ := zz9 (Kd.R_elder' (by (with_reducible repeat (first | apply zz0 | apply zz1 | apply zz2)); exact HO245.out) (Kd.R_base ho0) hb)
                   have n3_ := zz9 (Kd.R_elder' (by (with_reducible repeat (first | apply zz0 | apply zz1 | apply zz2)); exact HO250.out) (Kd.R_base ho0) hb)
                   have n4_ := zz9 (Kd.R_lower (Kd.R_new' (Kd.R_new' ho0 (Kd.R_lt (by (with_reducible repeat (first | apply zz0 | apply zz1 | apply zz2)); exact HO245.out))) (Kd.R_lt (by (with_reducible repeat (first | apply zz0 | apply zz1 | apply zz2)); exact HO250.out))) (below_size (by repeat (first | (with_reducible first | exact HB.out | apply zz11 | apply zz10 | apply zz12 | refine below_set ?_ GE211.out | refine below_set ?_ GE233.out) | exact HB.out))))
                   have n5_ := zz9 (blk_below (g := gb211) (o := .cells #[.int .i64 a0_0, .slice A0_1 l0_1.length c0_1, .slice A0_2 l0_2.length c0_2] 25 (0, 0)) (by (with_reducible repeat (first | refine zz13 ?_ _ | refine zz14 ?_ | refine zz15 ?_ _)); exact BK211.out) hb)
                   have n6_ := zz9 (blk_below (g := gb233) (o := .cells #[.int .i64 a0_0, .slice Ao100 x234001_3.length co100, .slice Ao101 x234002_3.length co101] 25 (0, 0)) (by (with_reducible repeat (first | refine zz13 ?_ _ | refine zz14 ?_ | refine zz15 ?_ _)); exact BK233.out) hb)
                   have n7_ := zz9 (below_step (by repeat (first | (with_reducible first | exact HB.out | apply zz11 | apply zz10 | apply zz12 | refine below_set ?_ GE211.out | refine below_set ?_ GE233.out) | exact HB.out)) hb)
                   clear HO_234001
                   clear HO_234002
                   clear HO245
                   clear HO250
                   clear BK211
                   clear BK233
                   clear HB
                   have HO_234001 := n0_
                   have HO_234002 := n1_
                   have HO245 := n2_
                   have HO250 := n3_
                   have HO253 := n4_
                   have BK211 := n5_
                   have BK233 := n6_
                   have HB := n7_
                   clear n0_ n1_ n2_ n3_ n4_ n5_ n6_ n7_
                   (try clear hb)
                   (try clear hb2)
                   (try clear hk)
                   (try clear hi)
                   (try clear ho0)
                   refine hK.out _ _ ⟨(blk_cell BK233.out 0).trans rfl, (blk_cell BK233.out 1).trans rfl, (blk_cell BK233.out 2).trans rfl⟩ (fun hHeld => ?_)
                   clear hK K
                   refine norm_ (a' := ?_) ?_ ?_
                   rotate_left
                   ·
                    show Act.put _ (some 133) _ = _
                    simp only [Act.put, zz6, zz7, zz8, i64_w, i32_w]
                    rfl
                   refine pure_ (i := 7) (N := some 126) (v := ?_) (a' := ?_) #[true, true, true, true, true, true, true, true, false, false, false, false, false, false] rfl rfl (any_of HT_.out (by kernel_rfl)) (fun _ _ _ h => h) (Or.inl ⟨by rfl, ?_⟩) ?_ ?_
                   rotate_left
                   ·
                    intro w'
                    go_simp
                    with_reducible rfl
                   rotate_left
                   ·
                    simp only [Act.put, zz6, zz7, zz8, i64_w, i32_w]
                    rfl
                   refine pure_ (i := 8) (N := some 134) (v := ?_) (a' := ?_) #[true, true, true, true, true, true, true, true, true, false, false, false, false, false] rfl rfl (any_of HT_.out (by kernel_rfl)) (fun _ _ _ h => h) (Or.inl ⟨by rfl, ?_⟩) ?_ ?_
                   rotate_left
                   ·
                    intro w'
                    go_simp
                    with_reducible rfl
                   rotate_left
                   ·
                    simp only [Act.put, zz6, zz7, zz8, i64_w, i32_w]
                    rfl
                   refine pure_ (i := 9) (N := some 135) (v := ?_) (a' := ?_) #[true, true, true, true, true, true, true, true, true, true, false, false, false, false] rfl rfl (any_of HT_.out (by kernel_rfl)) (fun _ _ _ h => h) (Or.inl ⟨by rfl, ?_⟩) ?_ ?_
                   rotate_left
                   ·
                    intro w'
                    go_simp
                    with_reducible rfl
                   rotate_left
                   ·
                    simp only [Act.put, zz6, zz7, zz8, i64_w, i32_w]
                    rfl
                   refine pure_ (i := 10) (N := some 136) (v := ?_) (a' := ?_) #[true, true, true, true, true, true, true, true, true, true, true, false, false, false] rfl rfl (any_of HT_.out (by kernel_rfl)) (fun _ _ _ h => h) (Or.inl ⟨by rfl, ?_⟩) ?_ ?_
                   rotate_left
                   ·
                    intro w'
                    go_simp
                    with_reducible rfl
                   rotate_left
                   ·
                    simp only [Act.put, zz6, zz7, zz8, i64_w, i32_w]
                    rfl
                   refine pure_ (i := 11) (N := some 16) (v := ?_) (a' := ?_) #[true, true, true, true, true, true, true, true, true, true, true, true, false, false] rfl rfl (any_of HT_.out (by kernel_rfl)) (fun _ _ _ h => h) (Or.inl ⟨by rfl, ?_⟩) ?_ ?_
                   rotate_left
                   ·
                    intro w'
                    go_simp
                    with_reducible rfl
                   rotate_left
                   ·
                    simp only [Act.put, zz6, zz7, zz8, i64_w, i32_w]
                    rfl
                   refine pure_ (i := 12) (N := some 17) (v := ?_) (a' := ?_) #[true, true, true, true, true, true, true, true, true, true, true, true, true, false] rfl rfl (any_of HT_.out (by kernel_rfl)) (fun _ _ _ h => h) (Or.inl ⟨by rfl, ?_⟩) ?_ ?_
                   rotate_left
                   ·
                    intro w'
                    go_simp
                    with_reducible rfl
                   rotate_left
                   ·
                    simp only [Act.put, zz6, zz7, zz8, i64_w, i32_w]
                    rfl
                   refine pure_ (i := 13) (N := some 18) (v := ?_) (a' := ?_) #[true, true, true, true, true, true, true, true, true, true, true, true, true, true] rfl rfl (any_of HT_.out (by kernel_rfl)) (fun _ _ _ h => h) (Or.inl ⟨by rfl, ?_⟩) ?_ ?_
                   rotate_left
                   ·
                    intro w'
                    go_simp
                    with_reducible rfl
                   rotate_left
                   ·
                    simp only [Act.put, zz6, zz7, zz8, i64_w, i32_w]
                    rfl
                   refine done_ (done_of HT_.out (by kernel_rfl)) ?_
                   have hcz104_0 : w103.cell? ⟨gb211, 0, none⟩ = some (.int .i64 a0_0) := (blk_cell BK211.out 0).trans rfl
                   have hcz104_1 : w103.cell? ⟨gb211, 1, none⟩ = some (.slice A0_1 l0_1.length c0_1) := (blk_cell BK211.out 1).trans rfl
                   have hcz104_2 : w103.cell? ⟨gb211, 2, none⟩ = some (.slice A0_2 l0_2.length c0_2) := (blk_cell BK211.out 2).trans rfl
                   have hfz104_0 := blk_frozen BK211.out 0
                   have hfz104_1 := blk_frozen BK211.out 1
                   have hfz104_2 := blk_frozen BK211.out 2
                   obtain ⟨Ao105, co105, eo105⟩ := Kd.R_slice HO245.out
                   subst eo105
                   try go_wp2_with (first | (go_at_call 6; (with_reducible refine (standstillref07_Fits.calls k3 a0_0 _ _ l0_1 _ _ l0_2 _ _ t243 true _ ?side1 ?side2 ?side3 ?side4 ?side5 ?side6 A89.out).mono ?_); (case side1 => repeat (first | exact (Kd.C_below HR0_1.out HB.out) | (with_reducible refine Kd.C_alloc ?_ _) | (with_reducible refine Kd.C_drewN ?_ _) | (with_reducible refine Kd.C_drew ?_))); (case side2 => exact HC0_1.out); (case side3 => repeat (first | exact (Kd.C_below HR0_2.out HB.out) | (with_reducible refine Kd.C_alloc ?_ _) | (with_reducible refine Kd.C_drewN ?_ _) | (with_reducible refine Kd.C_drew ?_))); (case side4 => exact HC0_2.out); (case side5 => repeat (first | exact (Kd.R_reads' HO245.out).2.2 | (with_reducible refine Kd.C_alloc ?_ _) | (with_reducible refine Kd.C_drewN ?_ _) | (with_reducible refine Kd.C_drew ?_))); (case side6 => exact (Kd.R_reads' HO245.out).2.1); rintro e w106 ⟨rfl, hb⟩; have n0_ := zz9 (Kd.S_below (by (with_reducible repeat (first | apply zz3 | apply zz4 | apply zz5)); exact HO_234001.out) hb); have n1_ := zz9 (Kd.R_below (by (with_reducible repeat (first | apply zz0 | apply zz1 | apply zz2)); exact HO_234002.out) hb); have n2_ := zz9 (Kd.R_below (by (with_reducible repeat (first | apply zz0 | apply zz1 | apply zz2)); exact HO245.out) hb); have n3_ := zz9 (Kd.R_below (by (with_reducible repeat (first | apply zz0 | apply zz1 | apply zz2)); exact HO250.out) hb); have n4_ := zz9 (Kd.R_below (by (with_reducible repeat (first | apply zz0 | apply zz1 | apply zz2)); exact HO253.out) hb); have n5_ := zz9 (blk_below (g := gb211) (o := .cells #[.int .i64 a0_0, .slice A0_1 l0_1.length c0_1, .slice A0_2 l0_2.length c0_2] 25 (0, 0)) (by (with_reducible repeat (first | refine zz13 ?_ _ | refine zz14 ?_ | refine zz15 ?_ _)); exact BK211.out) hb); have n6_ := zz9 (blk_below (g := gb233) (o := .cells #[.int .i64 a0_0, .slice Ao100 x234001_3.length co100, .slice Ao101 x234002_3.length co101] 25 (0, 0)) (by (with_reducible repeat (first | refine zz13 ?_ _ | refine zz14 ?_ | refine zz15 ?_ _)); exact BK233.out) hb); have n7_ := zz9 (below_step (by repeat (first | (with_reducible first | exact HB.out | apply zz11 | apply zz10 | apply zz12 | refine below_set ?_ GE211.out | refine below_set ?_ GE233.out) | exact HB.out)) hb); clear HO_234001; clear HO_234002; clear HO245; clear HO250; clear HO253; clear BK211; clear BK233; clear HB; have HO_234001 := n0_; have HO_234002 := n1_; have HO245 := n2_; have HO250 := n3_; have HO253 := n4_; have BK211 := n5_; have BK233 := n6_; have HB := n7_; clear n0_ n1_ n2_ n3_ n4_ n5_ n6_ n7_; (try clear hb); (try clear hb2); (try clear hk); (try clear hi)) | (go_at_call 8; (with_reducible refine (standstilllaw07_named.calls k3 _ _ t243 _ _ l2 t257 _ ?side1 ?side2 ?side3 ?side4 A91.out).mono ?_); (case side1 => repeat (first | exact (Kd.R_reads' HO245.out).2.2 | (with_reducible refine Kd.C_alloc ?_ _) | (with_reducible refine Kd.C_drewN ?_ _) | (with_reducible refine Kd.C_drew ?_))); (case side2 => exact (Kd.R_reads' HO245.out).2.1); (case side3 => repeat (first | exact (Kd.C_below HR2.out HB.out) | (with_reducible refine Kd.C_alloc ?_ _) | (with_reducible refine Kd.C_drewN ?_ _) | (with_reducible refine Kd.C_drew ?_))); (case side4 => exact HC2.out); rintro e w107 ⟨v258, rfl, ho0, hb⟩; have n0_ := zz9 (Kd.S_elder' (by (with_reducible repeat (first | apply zz3 | apply zz4 | apply zz5)); exact HO_234001.out) (Kd.R_base ho0) hb); have n1_ := zz9 (Kd.R_below (by (with_reducible repeat (first | apply zz0 | apply zz1 | apply zz2)); exact HO_234002.out) hb); have n2_ := zz9 (Kd.R_elder' (by (with_reducible repeat (first | apply zz0 | apply zz1 | apply zz2)); exact HO245.out) (Kd.R_base ho0) hb); have n3_ := zz9 (Kd.R_elder' (by (with_reducible repeat (first | apply zz0 | apply zz1 | apply zz2)); exact HO250.out) (Kd.R_base ho0) hb); have n4_ := zz9 (Kd.R_elder' (by (with_reducible repeat (first | apply zz0 | apply zz1 | apply zz2)); exact HO253.out) (Kd.R_base ho0) hb); have n5_ := zz9 (Kd.R_lower (Kd.R_new' (Kd.R_new' (Kd.R_new' ho0 (Kd.R_lt (by (with_reducible repeat (first | apply zz0 | apply zz1 | apply zz2)); exact HO245.out))) (Kd.R_lt (by (with_reducible repeat (first | apply zz0 | apply zz1 | apply zz2)); exact HO250.out))) (Kd.R_lt (by (with_reducible repeat (first | apply zz0 | apply zz1 | apply zz2)); exact HO253.out))) (below_size (by repeat (first | (with_reducible first | exact HB.out | apply zz11 | apply zz10 | apply zz12 | refine below_set ?_ GE211.out | refine below_set ?_ GE233.out) | exact HB.out)))); have n6_ := zz9 (blk_below (g := gb211) (o := .cells #[.int .i64 a0_0, .slice A0_1 l0_1.length c0_1, .slice A0_2 l0_2.length c0_2] 25 (0, 0)) (by (with_reducible repeat (first | refine zz13 ?_ _ | refine zz14 ?_ | refine zz15 ?_ _)); exact BK211.out) hb); have n7_ := zz9 (blk_below (g := gb233) (o := .cells #[.int .i64 a0_0, .slice Ao100 x234001_3.length co100, .slice Ao101 x234002_3.length co101] 25 (0, 0)) (by (with_reducible repeat (first | refine zz13 ?_ _ | refine zz14 ?_ | refine zz15 ?_ _)); exact BK233.out) hb); have n8_ := zz9 (below_step (by repeat (first | (with_reducible first | exact HB.out | apply zz11 | apply zz10 | apply zz12 | refine below_set ?_ GE211.out | refine below_set ?_ GE233.out) | exact HB.out)) hb); clear HO_234001; clear HO_234002; clear HO245; clear HO250; clear HO253; clear BK211; clear BK233; clear HB; have HO_234001 := n0_; have HO_234002 := n1_; have HO245 := n2_; have HO250 := n3_; have HO253 := n4_; have HO259 := n5_; have BK211 := n6_; have BK233 := n7_; have HB := n8_; clear n0_ n1_ n2_ n3_ n4_ n5_ n6_ n7_ n8_; (try clear hb); (try clear hb2); (try clear hk); (try clear hi); (try clear ho0); obtain ⟨Ao108, co108, eo108⟩ := Kd.R_slice HO259.out; subst eo108; obtain ⟨Ao109, co109, eo109⟩ := Kd.R_slice HO253.out; subst eo109) | (go_at_call 10; (with_reducible refine (standstillref07_Same.calls k3 _ _ t257 _ _ t251 true _ ?side1 ?side2 ?side3 ?side4 A92.out).mono ?_); (case side1 => repeat (first | exact (Kd.R_reads' HO259.out).2.2 | (with_reducible refine Kd.C_alloc ?_ _) | (with_reducible refine Kd.C_drewN ?_ _) | (with_reducible refine Kd.C_drew ?_))); (case side2 => exact (Kd.R_reads' HO259.out).2.1); (case side3 => repeat (first | exact (Kd.R_reads' HO253.out).2.2 | (with_reducible refine Kd.C_alloc ?_ _) | (with_reducible refine Kd.C_drewN ?_ _) | (with_reducible refine Kd.C_drew ?_))); (case side4 => exact (Kd.R_reads' HO253.out).2.1); rintro e w' ⟨rfl, ⟨nd, rfl⟩⟩) | (go_at_call 7; (with_reducible refine (standstilllaw07_awake.calls k3  t261 _ A94.out).mono ?_); rintro e w110 ⟨rfl, hb⟩; have n0_ := zz9 (Kd.S_below (by (with_reducible repeat (first | apply zz3 | apply zz4 | apply zz5)); exact HO_234001.out) hb); have n1_ := zz9 (Kd.R_below (by (with_reducible repeat (first | apply zz0 | apply zz1 | apply zz2)); exact HO_234002.out) hb); have n2_ := zz9 (Kd.R_below (by (with_reducible repeat (first | apply zz0 | apply zz1 | apply zz2)); exact HO245.out) hb); have n3_ := zz9 (Kd.R_below (by (with_reducible repeat (first | apply zz0 | apply zz1 | apply zz2)); exact HO250.out) hb); have n4_ := zz9 (Kd.R_below (by (with_reducible repeat (first | apply zz0 | apply zz1 | apply zz2)); exact HO253.out) hb); have n5_ := zz9 (Kd.R_below (by (with_reducible repeat (first | apply zz0 | apply zz1 | apply zz2)); exact HO259.out) hb); have n6_ := zz9 (blk_below (g := gb211) (o := .cells #[.int .i64 a0_0, .slice A0_1 l0_1.length c0_1, .slice A0_2 l0_2.length c0_2] 25 (0, 0)) (by (with_reducible repeat (first | refine zz13 ?_ _ | refine zz14 ?_ | refine zz15 ?_ _)); exact BK211.out) hb); have n7_ := zz9 (blk_below (g := gb233) (o := .cells #[.int .i64 a0_0, .slice Ao100 x234001_3.length co100, .slice Ao101 x234002_3.length co101] 25 (0, 0)) (by (with_reducible repeat (first | refine zz13 ?_ _ | refine zz14 ?_ | refine zz15 ?_ _)); exact BK233.out) hb); have n8_ := zz9 (below_step (by repeat (first | (with_reducible first | exact HB.out | apply zz11 | apply zz10 | apply zz12 | refine below_set ?_ GE211.out | refine below_set ?_ GE233.out) | exact HB.out)) hb); clear HO_234001; clear HO_234002; clear HO245; clear HO250; clear HO253; clear HO259; clear BK211; clear BK233; clear HB; have HO_234001 := n0_; have HO_234002 := n1_; have HO245 := n2_; have HO250 := n3_; have HO253 := n4_; have HO259 := n5_; have BK211 := n6_; have BK233 := n7_; have HB := n8_; clear n0_ n1_ n2_ n3_ n4_ n5_ n6_ n7_ n8_; (try clear hb); (try clear hb2); (try clear hk); (try clear hi)))
                   go_ret
                   exact ⟨by first | rfl | (simp [errW_none, errW_some] <;> rfl) | (simp [*, errW_none, errW_some] <;> rfl), by repeat (first | (with_reducible first | exact HB.out | apply zz11 | apply zz10 | apply zz12 | refine below_set ?_ GE211.out | refine below_set ?_ GE233.out) | exact HB.out)⟩
                  ·
                   replace c93 := Bool.eq_false_iff.mpr c93
                   subst c93
                   have H1 : (some false) = some r := by rw [if_neg (show ¬ (false = true) by decide)] at H; exact H
                   clear H
                   have H := H1
                   clear H1
                   obtain rfl := Option.some.inj H
                   have hnb111 := NB211_233.out
                   have hnc111 := NB233_211.out
                   have hcz112_0 : wr.cell? ⟨gb211, 0, none⟩ = some (.int .i64 a0_0) := (blk_cell BK211.out 0).trans rfl
                   have hcz112_1 : wr.cell? ⟨gb211, 1, none⟩ = some (.slice A0_1 l0_1.length c0_1) := (blk_cell BK211.out 1).trans rfl
                   have hcz112_2 : wr.cell? ⟨gb211, 2, none⟩ = some (.slice A0_2 l0_2.length c0_2) := (blk_cell BK211.out 2).trans rfl
                   have hfz112_0 := blk_frozen BK211.out 0
                   have hfz112_1 := blk_frozen BK211.out 1
                   have hfz112_2 := blk_frozen BK211.out 2
                   try go_wp2_with (first | ((with_reducible refine gate_callee (f := 9) rfl ?_); refine goesL_ (some 122) rfl rfl Try.func9 (by kernel_rfl) rfl #[.agg #[.int .i64 a0_0, .slice A0_1 l0_1.length c0_1, .slice A0_2 l0_2.length c0_2], .slice A1 l1.length c1, .int .i64 (wrap64 (a3))] rfl (by (try simp only [List.map_toArray, List.map_cons, List.map_nil]); first | done | rfl | (simp only [List.length_drop, List.length_take]; rfl)) ?_; (with_reducible refine (tag_Run.calls k3 a0_0 _ _ l0_1 _ _ l0_2 _ _ l1 (wrap64 (a3)) t243 t246 t247 _ ?side1 ?side2 ?side3 ?side4 ?side5 ?side6 A84.out).mono ?_); (case side1 => repeat (first | exact (Kd.C_below HR0_1.out HB.out) | (with_reducible refine Kd.C_alloc ?_ _) | (with_reducible refine Kd.C_drewN ?_ _) | (with_reducible refine Kd.C_drew ?_))); (case side2 => exact HC0_1.out); (case side3 => repeat (first | exact (Kd.C_below HR0_2.out HB.out) | (with_reducible refine Kd.C_alloc ?_ _) | (with_reducible refine Kd.C_drewN ?_ _) | (with_reducible refine Kd.C_drew ?_))); (case side4 => exact HC0_2.out); (case side5 => repeat (first | exact (Kd.C_below HR1.out HB.out) | (with_reducible refine Kd.C_alloc ?_ _) | (with_reducible refine Kd.C_drewN ?_ _) | (with_reducible refine Kd.C_drew ?_))); (case side6 => exact HC1.out); rintro e w113 ⟨v244, rfl, ho0, hb⟩; refine ⟨_, rfl, ?_⟩; have n0_ := zz9 (Kd.S_elder' (by (with_reducible repeat (first | apply zz3 | apply zz4 | apply zz5)); exact HO_234001.out) (Kd.R_base ho0) hb); have n1_ := zz9 (Kd.R_below (by (with_reducible repeat (first | apply zz0 | apply zz1 | apply zz2)); exact HO_234002.out) hb); have n2_ := zz9 (Kd.R_lower ho0 (below_size (by repeat (first | (with_reducible first | exact HB.out | apply zz11 | apply zz10 | apply zz12 | refine below_set ?_ GE211.out | refine below_set ?_ GE233.out) | exact HB.out)))); have n3_ := zz9 (blk_below (g := gb211) (o := .cells #[.int .i64 a0_0, .slice A0_1 l0_1.length c0_1, .slice A0_2 l0_2.length c0_2] 25 (0, 0)) (by (with_reducible repeat (first | refine zz13 ?_ _ | refine zz14 ?_ | refine zz15 ?_ _)); exact BK211.out) hb); have n4_ := zz9 (blk_below (g := gb233) (o := .cells #[.int .i64 a0_0, u234001, u234002] 25 (0, 0)) (by (with_reducible repeat (first | refine zz13 ?_ _ | refine zz14 ?_ | refine zz15 ?_ _)); exact BK233.out) hb); have n5_ := zz9 (below_step (by repeat (first | (with_reducible first | exact HB.out | apply zz11 | apply zz10 | apply zz12 | refine below_set ?_ GE211.out | refine below_set ?_ GE233.out) | exact HB.out)) hb); clear HO_234001; clear HO_234002; clear BK211; clear BK233; clear HB; have HO_234001 := n0_; have HO_234002 := n1_; have HO245 := n2_; have BK211 := n3_; have BK233 := n4_; have HB := n5_; clear n0_ n1_ n2_ n3_ n4_ n5_; (try clear hb); (try clear hb2); (try clear hk); (try clear hi); (try clear ho0)))
                   have n0_ := zz9 (zz5 HO_234001.out)
                   have n1_ := zz9 (zz2 HO_234002.out)
                   have n2_ := zz9 (zz2 HO245.out)
                   have n3_ := zz9 (zz14 BK211.out)
                   have n4_ := zz9 (zz14 BK233.out)
                   have n5_ := zz9 (zz12 HB.out)
                   clear HO_234001
                   clear HO_234002
                   clear HO245
                   clear BK211
                   clear BK233
                   clear HB
                   have HO_234001 := n0_
                   have HO_234002 := n1_
                   have HO245 := n2_
                   have BK211 := n3_
                   have BK233 := n4_
                   have HB := n5_
                   clear n0_ n1_ n2_ n3_ n4_ n5_
                   refine start_ (n := 14) (S := fun w' => w'.cell? ⟨gb233, 0, none⟩ = some (.int .i64 a0_0) ∧ w'.cell? ⟨gb233, 1, none⟩ = some (u234001) ∧ w'.cell? ⟨gb233, 2, none⟩ = some (u234002)) (ds := []) #[false, false, false, false, false, false, false, false, false, false, false, false, false, false] (by kernel_rfl) rfl rfl ⟨(blk_cell BK233.out 0).trans rfl, (blk_cell BK233.out 1).trans rfl, (blk_cell BK233.out 2).trans rfl⟩ (fun hHeld => ?_); refine with_tabW standstilllaw07_TagNames.tab16 standstilllaw07_TagNames.bits16 (fun HT_ HW_ => ?_)
                   generalize w113.drew = w114 at HO_234001 HO_234002 HO245 BK211 BK233 HB hHeld ⊢
                   refine pure_ (i := 1) (N := some 128) (v := ?_) (a' := ?_) #[false, true, false, false, false, false, false, false, false, false, false, false, false, false] rfl rfl (any_of HT_.out (by kernel_rfl)) (fun _ _ _ h => h) (Or.inl ⟨by rfl, ?_⟩) ?_ ?_
                   rotate_left
                   ·
                    intro w'
                    go_simp
                    with_reducible rfl
                   rotate_left
                   ·
                    simp only [Act.put, zz6, zz7, zz8, i64_w, i32_w]
                    rfl
                   refine pure_ (i := 2) (N := some 129) (v := ?_) (a' := ?_) #[false, true, true, false, false, false, false, false, false, false, false, false, false, false] rfl rfl (any_of HT_.out (by kernel_rfl)) (fun _ _ _ h => h) (Or.inl ⟨by rfl, ?_⟩) ?_ ?_
                   rotate_left
                   ·
                    intro w'
                    go_simp
                    with_reducible rfl
                   rotate_left
                   ·
                    simp only [Act.put, zz6, zz7, zz8, i64_w, i32_w]
                    rfl
                   refine pure_ (i := 4) (N := some 131) (v := ?_) (a' := ?_) #[false, true, true, false, true, false, false, false, false, false, false, false, false, false] rfl rfl (any_of HT_.out (by kernel_rfl)) (fun _ _ _ h => h) (Or.inl ⟨by rfl, ?_⟩) ?_ ?_
                   rotate_left
                   ·
                    intro w'
                    go_simp
                    with_reducible rfl
                   rotate_left
                   ·
                    simp only [Act.put, zz6, zz7, zz8, i64_w, i32_w]
                    rfl
                   refine pure_ (i := 5) (N := some 132) (v := ?_) (a' := ?_) #[false, true, true, false, true, true, false, false, false, false, false, false, false, false] rfl rfl (any_of HT_.out (by kernel_rfl)) (fun _ _ _ h => h) (Or.inl ⟨by rfl, ?_⟩) ?_ ?_
                   rotate_left
                   ·
                    intro w'
                    go_simp
                    with_reducible rfl
                   rotate_left
                   ·
                    simp only [Act.put, zz6, zz7, zz8, i64_w, i32_w]
                    rfl
                   refine take_ (i := 0) (N := some 127) (v := ?_) (a' := ?_) #[true, true, true, false, true, true, false, false, false, false, false, false, false, false] rfl rfl (take_ofW HT_.out HW_.out (by kernel_rfl)) (fun _ _ _ h => h) (Or.inl ⟨by rfl, ?_⟩) hHeld ?_ ?_
                   rotate_left
                   ·
                    rintro w' ⟨s0, s1, s2⟩
                    go_simp
                    with_reducible rfl
                   rotate_left
                   ·
                    simp only [Act.put, zz6, zz7, zz8, i64_w, i32_w]
                    rfl
                   refine one_ (i := 3) (N := some 130) #[true, true, true, true, true, true, false, false, false, false, false, false, false, false] rfl rfl (one_of HT_.out (by kernel_rfl)) (by decide) (fun K hK => ?_)
                   refine goes_ Try.func8 (by kernel_rfl) rfl #[.slice A1 l1.length c1, .slice A2 l2.length c2] (by rfl) rfl rfl (by (try simp only [List.map_toArray, List.map_cons, List.map_nil]); first | done | rfl | (simp only [List.length_drop, List.length_take]; rfl)) ?_
                   with_reducible refine (standstilllaw07_named.calls k3 _ _ l1 _ _ l2 t248 _ ?side1 ?side2 ?side3 ?side4 A85.out).mono ?_
                   (case side1 => repeat (first | exact (Kd.C_below HR1.out HB.out) | (with_reducible refine Kd.C_alloc ?_ _) | (with_reducible refine Kd.C_drewN ?_ _) | (with_reducible refine Kd.C_drew ?_)))
                   (case side2 => exact HC1.out)
                   (case side3 => repeat (first | exact (Kd.C_below HR2.out HB.out) | (with_reducible refine Kd.C_alloc ?_ _) | (with_reducible refine Kd.C_drewN ?_ _) | (with_reducible refine Kd.C_drew ?_)))
                   (case side4 => exact HC2.out)
                   rintro e w115 ⟨v249, rfl, ho0, hb⟩
                   refine ⟨_, rfl, ?_⟩
                   have n0_ := zz9 (Kd.S_elder' (by (with_reducible repeat (first | apply zz3 | apply zz4 | apply zz5)); exact HO_234001.out) (Kd.R_base ho0) hb)
                   have n1_ := zz9 (Kd.R_below (by (with_reducible repeat (first | apply zz0 | apply zz1 | apply zz2)); exact HO_234002.out) hb)
                   have n2_ := zz9 (Kd.R_elder' (by (with_reducible repeat (first | apply zz0 | apply zz1 | apply zz2)); exact HO245.out) (Kd.R_base ho0) hb)
                   have n3_ := zz9 (Kd.R_lower (Kd.R_new' ho0 (Kd.R_lt (by (with_reducible repeat (first | apply zz0 | apply zz1 | apply zz2)); exact HO245.out))) (below_size (by repeat (first | (with_reducible first | exact HB.out | apply zz11 | apply zz10 | apply zz12 | refine below_set ?_ GE211.out | refine below_set ?_ GE233.out) | exact HB.out))))
                   have n4_ := zz9 (blk_below (g := gb211) (o := .cells #[.int .i64 a0_0, .slice A0_1 l0_1.length c0_1, .slice A0_2 l0_2.length c0_2] 25 (0, 0)) (by (with_reducible repeat (first | refine zz13 ?_ _ | refine zz14 ?_ | refine zz15 ?_ _)); exact BK211.out) hb)
                   have n5_ := zz9 (blk_below (g := gb233) (o := .cells #[.int .i64 a0_0, u234001, u234002] 25 (0, 0)) (by (with_reducible repeat (first | refine zz13 ?_ _ | refine zz14 ?_ | refine zz15 ?_ _)); exact BK233.out) hb)
                   have n6_ := zz9 (below_step (by repeat (first | (with_reducible first | exact HB.out | apply zz11 | apply zz10 | apply zz12 | refine below_set ?_ GE211.out | refine below_set ?_ GE233.out) | exact HB.out)) hb)
                   clear HO_234001
                   clear HO_234002
                   clear HO245
                   clear BK211
                   clear BK233
                   clear HB
                   have HO_234001 := n0_
                   have HO_234002 := n1_
                   have HO245 := n2_
                   have HO250 := n3_
                   have BK211 := n4_
                   have BK233 := n5_
                   have HB := n6_
                   clear n0_ n1_ n2_ n3_ n4_ n5_ n6_
                   (try clear hb)
                   (try clear hb2)
                   (try clear hk)
                   (try clear hi)
                   (try clear ho0)
                   obtain ⟨Ao116, co116, eo116⟩ := Kd.S_slice HO_234001.out
                   (first | subst eo116 | (injection eo116 with f1_ f2_ f3_; have f4_ := f1_.symm; have f5_ := f3_.symm; clear f1_ f2_ f3_; subst f4_; subst f5_))
                   obtain ⟨Ao117, co117, eo117⟩ := Kd.R_slice HO_234002.out
                   (first | subst eo117 | (injection eo117 with f1_ f2_ f3_; have f4_ := f1_.symm; have f5_ := f3_.symm; clear f1_ f2_ f3_; subst f4_; subst f5_))
                   obtain ⟨Ao118, co118, eo118⟩ := Kd.R_slice HO250.out
                   (first | subst eo118 | (injection eo118 with f1_ f2_ f3_; have f4_ := f1_.symm; have f5_ := f3_.symm; clear f1_ f2_ f3_; subst f4_; subst f5_))
                   refine hK.out _ _ ⟨(blk_cell BK233.out 0).trans rfl, (blk_cell BK233.out 1).trans rfl, (blk_cell BK233.out 2).trans rfl⟩ (fun hHeld => ?_)
                   clear hK K
                   refine norm_ (a' := ?_) ?_ ?_
                   rotate_left
                   ·
                    show Act.put _ (some 130) _ = _
                    simp only [Act.put, zz6, zz7, zz8, i64_w, i32_w]
                    rfl
                   refine one_ (i := 6) (N := some 133) #[true, true, true, true, true, true, true, false, false, false, false, false, false, false] rfl rfl (one_of HT_.out (by kernel_rfl)) (by decide) (fun K hK => ?_)
                   refine goes_ Try.func9 (by kernel_rfl) rfl #[.agg #[.int .i64 a0_0, .slice Ao116 x234001_3.length co116, .slice Ao117 x234002_3.length co117], .slice Ao118 t248.length co118, .int .i64 (wrap64 (a3))] (by rfl) rfl rfl (by (try simp only [List.map_toArray, List.map_cons, List.map_nil]); first | done | rfl | (simp only [List.length_drop, List.length_take]; rfl)) ?_
                   with_reducible refine (tag_Run.calls k3 a0_0 _ _ x234001_3 _ _ x234002_3 _ _ t248 (wrap64 (a3)) t251 t254 t255 _ ?side1 ?side2 ?side3 ?side4 ?side5 ?side6 A86.out).mono ?_
                   (case side1 => repeat (first | exact (Kd.S_reads' HO_234001.out).2.2 | (with_reducible refine Kd.C_alloc ?_ _) | (with_reducible refine Kd.C_drewN ?_ _) | (with_reducible refine Kd.C_drew ?_)))
                   (case side2 => exact (Kd.S_reads' HO_234001.out).2.1)
                   (case side3 => repeat (first | exact (Kd.R_reads' HO_234002.out).2.2 | (with_reducible refine Kd.C_alloc ?_ _) | (with_reducible refine Kd.C_drewN ?_ _) | (with_reducible refine Kd.C_drew ?_)))
                   (case side4 => exact (Kd.R_reads' HO_234002.out).2.1)
                   (case side5 => repeat (first | exact (Kd.R_reads' HO250.out).2.2 | (with_reducible refine Kd.C_alloc ?_ _) | (with_reducible refine Kd.C_drewN ?_ _) | (with_reducible refine Kd.C_drew ?_)))
                   (case side6 => exact (Kd.R_reads' HO250.out).2.1)
                   rintro e w119 ⟨v252, rfl, ho0, hb⟩
                   refine ⟨_, rfl, ?_⟩
                   have n0_ := zz9 (Kd.S_elder' (by (with_reducible repeat (first | apply zz3 | apply zz4 | apply zz5)); exact HO_234001.out) (Kd.R_base ho0) hb)
                   have n1_ := zz9 (Kd.R_below (by (with_reducible repeat (first | apply zz0 | apply zz1 | apply zz2)); exact HO_234002.out) hb)
                   have n2_ := zz9 (Kd.R_elder' (by (with_reducible repeat (first | apply zz0 | apply zz1 | apply zz2)); exact HO245.out) (Kd.R_base ho0) hb)
                   have n3_ := zz9 (Kd.R_elder' (by (with_reducible repeat (first | apply zz0 | apply zz1 | apply zz2)); exact HO250.out) (Kd.R_base ho0) hb)
                   have n4_ := zz9 (Kd.R_lower (Kd.R_new' (Kd.R_new' ho0 (Kd.R_lt (by (with_reducible repeat (first | apply zz0 | apply zz1 | apply zz2)); exact HO245.out))) (Kd.R_lt (by (with_reducible repeat (first | apply zz0 | apply zz1 | apply zz2)); exact HO250.out))) (below_size (by repeat (first | (with_reducible first | exact HB.out | apply zz11 | apply zz10 | apply zz12 | refine below_set ?_ GE211.out | refine below_set ?_ GE233.out) | exact HB.out))))
                   have n5_ := zz9 (blk_below (g := gb211) (o := .cells #[.int .i64 a0_0, .slice A0_1 l0_1.length c0_1, .slice A0_2 l0_2.length c0_2] 25 (0, 0)) (by (with_reducible repeat (first | refine zz13 ?_ _ | refine zz14 ?_ | refine zz15 ?_ _)); exact BK211.out) hb)
                   have n6_ := zz9 (blk_below (g := gb233) (o := .cells #[.int .i64 a0_0, .slice Ao116 x234001_3.length co116, .slice Ao117 x234002_3.length co117] 25 (0, 0)) (by (with_reducible repeat (first | refine zz13 ?_ _ | refine zz14 ?_ | refine zz15 ?_ _)); exact BK233.out) hb)
                   have n7_ := zz9 (below_step (by repeat (first | (with_reducible first | exact HB.out | apply zz11 | apply zz10 | apply zz12 | refine below_set ?_ GE211.out | refine below_set ?_ GE233.out) | exact HB.out)) hb)
                   clear HO_234001
                   clear HO_234002
                   clear HO245
                   clear HO250
                   clear BK211
                   clear BK233
                   clear HB
                   have HO_234001 := n0_
                   have HO_234002 := n1_
                   have HO245 := n2_
                   have HO250 := n3_
                   have HO253 := n4_
                   have BK211 := n5_
                   have BK233 := n6_
                   have HB := n7_
                   clear n0_ n1_ n2_ n3_ n4_ n5_ n6_ n7_
                   (try clear hb)
                   (try clear hb2)
                   (try clear hk)
                   (try clear hi)
                   (try clear ho0)
                   refine hK.out _ _ ⟨(blk_cell BK233.out 0).trans rfl, (blk_cell BK233.out 1).trans rfl, (blk_cell BK233.out 2).trans rfl⟩ (fun hHeld => ?_)
                   clear hK K
                   refine norm_ (a' := ?_) ?_ ?_
                   rotate_left
                   ·
                    show Act.put _ (some 133) _ = _
                    simp only [Act.put, zz6, zz7, zz8, i64_w, i32_w]
                    rfl
                   refine pure_ (i := 7) (N := some 126) (v := ?_) (a' := ?_) #[true, true, true, true, true, true, true, true, false, false, false, false, false, false] rfl rfl (any_of HT_.out (by kernel_rfl)) (fun _ _ _ h => h) (Or.inl ⟨by rfl, ?_⟩) ?_ ?_
                   rotate_left
                   ·
                    intro w'
                    go_simp
                    with_reducible rfl
                   rotate_left
                   ·
                    simp only [Act.put, zz6, zz7, zz8, i64_w, i32_w]
                    rfl
                   refine pure_ (i := 8) (N := some 134) (v := ?_) (a' := ?_) #[true, true, true, true, true, true, true, true, true, false, false, false, false, false] rfl rfl (any_of HT_.out (by kernel_rfl)) (fun _ _ _ h => h) (Or.inl ⟨by rfl, ?_⟩) ?_ ?_
                   rotate_left
                   ·
                    intro w'
                    go_simp
                    with_reducible rfl
                   rotate_left
                   ·
                    simp only [Act.put, zz6, zz7, zz8, i64_w, i32_w]
                    rfl
                   refine pure_ (i := 9) (N := some 135) (v := ?_) (a' := ?_) #[true, true, true, true, true, true, true, true, true, true, false, false, false, false] rfl rfl (any_of HT_.out (by kernel_rfl)) (fun _ _ _ h => h) (Or.inl ⟨by rfl, ?_⟩) ?_ ?_
                   rotate_left
                   ·
                    intro w'
                    go_simp
                    with_reducible rfl
                   rotate_left
                   ·
                    simp only [Act.put, zz6, zz7, zz8, i64_w, i32_w]
                    rfl
                   refine pure_ (i := 10) (N := some 136) (v := ?_) (a' := ?_) #[true, true, true, true, true, true, true, true, true, true, true, false, false, false] rfl rfl (any_of HT_.out (by kernel_rfl)) (fun _ _ _ h => h) (Or.inl ⟨by rfl, ?_⟩) ?_ ?_
                   rotate_left
                   ·
                    intro w'
                    go_simp
                    with_reducible rfl
                   rotate_left
                   ·
                    simp only [Act.put, zz6, zz7, zz8, i64_w, i32_w]
                    rfl
                   refine pure_ (i := 11) (N := some 16) (v := ?_) (a' := ?_) #[true, true, true, true, true, true, true, true, true, true, true, true, false, false] rfl rfl (any_of HT_.out (by kernel_rfl)) (fun _ _ _ h => h) (Or.inl ⟨by rfl, ?_⟩) ?_ ?_
                   rotate_left
                   ·
                    intro w'
                    go_simp
                    with_reducible rfl
                   rotate_left
                   ·
                    simp only [Act.put, zz6, zz7, zz8, i64_w, i32_w]
                    rfl
                   refine pure_ (i := 12) (N := some 17) (v := ?_) (a' := ?_) #[true, true, true, true, true, true, true, true, true, true, true, true, true, false] rfl rfl (any_of HT_.out (by kernel_rfl)) (fun _ _ _ h => h) (Or.inl ⟨by rfl, ?_⟩) ?_ ?_
                   rotate_left
                   ·
                    intro w'
                    go_simp
                    with_reducible rfl
                   rotate_left
                   ·
                    simp only [Act.put, zz6, zz7, zz8, i64_w, i32_w]
                    rfl
                   refine pure_ (i := 13) (N := some 18) (v := ?_) (a' := ?_) #[true, true, true, true, true, true, true, true, true, true, true, true, true, true] rfl rfl (any_of HT_.out (by kernel_rfl)) (fun _ _ _ h => h) (Or.inl ⟨by rfl, ?_⟩) ?_ ?_
                   rotate_left
                   ·
                    intro w'
                    go_simp
                    with_reducible rfl
                   rotate_left
                   ·
                    simp only [Act.put, zz6, zz7, zz8, i64_w, i32_w]
                    rfl
                   refine done_ (done_of HT_.out (by kernel_rfl)) ?_
                   have hcz120_0 : w119.cell? ⟨gb211, 0, none⟩ = some (.int .i64 a0_0) := (blk_cell BK211.out 0).trans rfl
                   have hcz120_1 : w119.cell? ⟨gb211, 1, none⟩ = some (.slice A0_1 l0_1.length c0_1) := (blk_cell BK211.out 1).trans rfl
                   have hcz120_2 : w119.cell? ⟨gb211, 2, none⟩ = some (.slice A0_2 l0_2.length c0_2) := (blk_cell BK211.out 2).trans rfl
                   have hfz120_0 := blk_frozen BK211.out 0
                   have hfz120_1 := blk_frozen BK211.out 1
                   have hfz120_2 := blk_frozen BK211.out 2
                   obtain ⟨Ao121, co121, eo121⟩ := Kd.R_slice HO245.out
                   subst eo121
                   try go_wp2_with (first | (go_at_call 6; (with_reducible refine (standstillref07_Fits.calls k3 a0_0 _ _ l0_1 _ _ l0_2 _ _ t243 true _ ?side1 ?side2 ?side3 ?side4 ?side5 ?side6 A89.out).mono ?_); (case side1 => repeat (first | exact (Kd.C_below HR0_1.out HB.out) | (with_reducible refine Kd.C_alloc ?_ _) | (with_reducible refine Kd.C_drewN ?_ _) | (with_reducible refine Kd.C_drew ?_))); (case side2 => exact HC0_1.out); (case side3 => repeat (first | exact (Kd.C_below HR0_2.out HB.out) | (with_reducible refine Kd.C_alloc ?_ _) | (with_reducible refine Kd.C_drewN ?_ _) | (with_reducible refine Kd.C_drew ?_))); (case side4 => exact HC0_2.out); (case side5 => repeat (first | exact (Kd.R_reads' HO245.out).2.2 | (with_reducible refine Kd.C_alloc ?_ _) | (with_reducible refine Kd.C_drewN ?_ _) | (with_reducible refine Kd.C_drew ?_))); (case side6 => exact (Kd.R_reads' HO245.out).2.1); rintro e w122 ⟨rfl, hb⟩; have n0_ := zz9 (Kd.S_below (by (with_reducible repeat (first | apply zz3 | apply zz4 | apply zz5)); exact HO_234001.out) hb); have n1_ := zz9 (Kd.R_below (by (with_reducible repeat (first | apply zz0 | apply zz1 | apply zz2)); exact HO_234002.out) hb); have n2_ := zz9 (Kd.R_below (by (with_reducible repeat (first | apply zz0 | apply zz1 | apply zz2)); exact HO245.out) hb); have n3_ := zz9 (Kd.R_below (by (with_reducible repeat (first | apply zz0 | apply zz1 | apply zz2)); exact HO250.out) hb); have n4_ := zz9 (Kd.R_below (by (with_reducible repeat (first | apply zz0 | apply zz1 | apply zz2)); exact HO253.out) hb); have n5_ := zz9 (blk_below (g := gb211) (o := .cells #[.int .i64 a0_0, .slice A0_1 l0_1.length c0_1, .slice A0_2 l0_2.length c0_2] 25 (0, 0)) (by (with_reducible repeat (first | refine zz13 ?_ _ | refine zz14 ?_ | refine zz15 ?_ _)); exact BK211.out) hb); have n6_ := zz9 (blk_below (g := gb233) (o := .cells #[.int .i64 a0_0, .slice Ao116 x234001_3.length co116, .slice Ao117 x234002_3.length co117] 25 (0, 0)) (by (with_reducible repeat (first | refine zz13 ?_ _ | refine zz14 ?_ | refine zz15 ?_ _)); exact BK233.out) hb); have n7_ := zz9 (below_step (by repeat (first | (with_reducible first | exact HB.out | apply zz11 | apply zz10 | apply zz12 | refine below_set ?_ GE211.out | refine below_set ?_ GE233.out) | exact HB.out)) hb); clear HO_234001; clear HO_234002; clear HO245; clear HO250; clear HO253; clear BK211; clear BK233; clear HB; have HO_234001 := n0_; have HO_234002 := n1_; have HO245 := n2_; have HO250 := n3_; have HO253 := n4_; have BK211 := n5_; have BK233 := n6_; have HB := n7_; clear n0_ n1_ n2_ n3_ n4_ n5_ n6_ n7_; (try clear hb); (try clear hb2); (try clear hk); (try clear hi)) | (go_at_call 8; (with_reducible refine (standstilllaw07_named.calls k3 _ _ t243 _ _ l2 t257 _ ?side1 ?side2 ?side3 ?side4 A91.out).mono ?_); (case side1 => repeat (first | exact (Kd.R_reads' HO245.out).2.2 | (with_reducible refine Kd.C_alloc ?_ _) | (with_reducible refine Kd.C_drewN ?_ _) | (with_reducible refine Kd.C_drew ?_))); (case side2 => exact (Kd.R_reads' HO245.out).2.1); (case side3 => repeat (first | exact (Kd.C_below HR2.out HB.out) | (with_reducible refine Kd.C_alloc ?_ _) | (with_reducible refine Kd.C_drewN ?_ _) | (with_reducible refine Kd.C_drew ?_))); (case side4 => exact HC2.out); rintro e w123 ⟨v258, rfl, ho0, hb⟩; have n0_ := zz9 (Kd.S_elder' (by (with_reducible repeat (first | apply zz3 | apply zz4 | apply zz5)); exact HO_234001.out) (Kd.R_base ho0) hb); have n1_ := zz9 (Kd.R_below (by (with_reducible repeat (first | apply zz0 | apply zz1 | apply zz2)); exact HO_234002.out) hb); have n2_ := zz9 (Kd.R_elder' (by (with_reducible repeat (first | apply zz0 | apply zz1 | apply zz2)); exact HO245.out) (Kd.R_base ho0) hb); have n3_ := zz9 (Kd.R_elder' (by (with_reducible repeat (first | apply zz0 | apply zz1 | apply zz2)); exact HO250.out) (Kd.R_base ho0) hb); have n4_ := zz9 (Kd.R_elder' (by (with_reducible repeat (first | apply zz0 | apply zz1 | apply zz2)); exact HO253.out) (Kd.R_base ho0) hb); have n5_ := zz9 (Kd.R_lower (Kd.R_new' (Kd.R_new' (Kd.R_new' ho0 (Kd.R_lt (by (with_reducible repeat (first | apply zz0 | apply zz1 | apply zz2)); exact HO245.out))) (Kd.R_lt (by (with_reducible repeat (first | apply zz0 | apply zz1 | apply zz2)); exact HO250.out))) (Kd.R_lt (by (with_reducible repeat (first | apply zz0 | apply zz1 | apply zz2)); exact HO253.out))) (below_size (by repeat (first | (with_reducible first | exact HB.out | apply zz11 | apply zz10 | apply zz12 | refine below_set ?_ GE211.out | refine below_set ?_ GE233.out) | exact HB.out)))); have n6_ := zz9 (blk_below (g := gb211) (o := .cells #[.int .i64 a0_0, .slice A0_1 l0_1.length c0_1, .slice A0_2 l0_2.length c0_2] 25 (0, 0)) (by (with_reducible repeat (first | refine zz13 ?_ _ | refine zz14 ?_ | refine zz15 ?_ _)); exact BK211.out) hb); have n7_ := zz9 (blk_below (g := gb233) (o := .cells #[.int .i64 a0_0, .slice Ao116 x234001_3.length co116, .slice Ao117 x234002_3.length co117] 25 (0, 0)) (by (with_reducible repeat (first | refine zz13 ?_ _ | refine zz14 ?_ | refine zz15 ?_ _)); exact BK233.out) hb); have n8_ := zz9 (below_step (by repeat (first | (with_reducible first | exact HB.out | apply zz11 | apply zz10 | apply zz12 | refine below_set ?_ GE211.out | refine below_set ?_ GE233.out) | exact HB.out)) hb); clear HO_234001; clear HO_234002; clear HO245; clear HO250; clear HO253; clear BK211; clear BK233; clear HB; have HO_234001 := n0_; have HO_234002 := n1_; have HO245 := n2_; have HO250 := n3_; have HO253 := n4_; have HO259 := n5_; have BK211 := n6_; have BK233 := n7_; have HB := n8_; clear n0_ n1_ n2_ n3_ n4_ n5_ n6_ n7_ n8_; (try clear hb); (try clear hb2); (try clear hk); (try clear hi); (try clear ho0); obtain ⟨Ao124, co124, eo124⟩ := Kd.R_slice HO259.out; subst eo124; obtain ⟨Ao125, co125, eo125⟩ := Kd.R_slice HO253.out; subst eo125) | (go_at_call 10; (with_reducible refine (standstillref07_Same.calls k3 _ _ t257 _ _ t251 false _ ?side1 ?side2 ?side3 ?side4 A92.out).mono ?_); (case side1 => repeat (first | exact (Kd.R_reads' HO259.out).2.2 | (with_reducible refine Kd.C_alloc ?_ _) | (with_reducible refine Kd.C_drewN ?_ _) | (with_reducible refine Kd.C_drew ?_))); (case side2 => exact (Kd.R_reads' HO259.out).2.1); (case side3 => repeat (first | exact (Kd.R_reads' HO253.out).2.2 | (with_reducible refine Kd.C_alloc ?_ _) | (with_reducible refine Kd.C_drewN ?_ _) | (with_reducible refine Kd.C_drew ?_))); (case side4 => exact (Kd.R_reads' HO253.out).2.1); rintro e w' ⟨rfl, ⟨nd, rfl⟩⟩))
                   go_ret
                   exact ⟨by first | rfl | (simp [errW_none, errW_some] <;> rfl) | (simp [*, errW_none, errW_some] <;> rfl), by repeat (first | (with_reducible first | exact HB.out | apply zz11 | apply zz10 | apply zz12 | refine below_set ?_ GE211.out | refine below_set ?_ GE233.out) | exact HB.out)⟩
                 ·
                  replace c90 := Bool.eq_false_iff.mpr c90
                  subst c90
                  have H1 : (some false) = some r := by rw [if_neg (show ¬ (false = true) by decide)] at H; exact H
                  clear H
                  have H := H1
                  clear H1
                  obtain rfl := Option.some.inj H
                  have hnb126 := NB211_233.out
                  have hnc126 := NB233_211.out
                  have hcz127_0 : wr.cell? ⟨gb211, 0, none⟩ = some (.int .i64 a0_0) := (blk_cell BK211.out 0).trans rfl
                  have hcz127_1 : wr.cell? ⟨gb211, 1, none⟩ = some (.slice A0_1 l0_1.length c0_1) := (blk_cell BK211.out 1).trans rfl
                  have hcz127_2 : wr.cell? ⟨gb211, 2, none⟩ = some (.slice A0_2 l0_2.length c0_2) := (blk_cell BK211.out 2).trans rfl
                  have hfz127_0 := blk_frozen BK211.out 0
                  have hfz127_1 := blk_frozen BK211.out 1
                  have hfz127_2 := blk_frozen BK211.out 2
                  try go_wp2_with (first | ((with_reducible refine gate_callee (f := 9) rfl ?_); refine goesL_ (some 122) rfl rfl Try.func9 (by kernel_rfl) rfl #[.agg #[.int .i64 a0_0, .slice A0_1 l0_1.length c0_1, .slice A0_2 l0_2.length c0_2], .slice A1 l1.length c1, .int .i64 (wrap64 (a3))] rfl (by (try simp only [List.map_toArray, List.map_cons, List.map_nil]); first | done | rfl | (simp only [List.length_drop, List.length_take]; rfl)) ?_; (with_reducible refine (tag_Run.calls k3 a0_0 _ _ l0_1 _ _ l0_2 _ _ l1 (wrap64 (a3)) t243 t246 t247 _ ?side1 ?side2 ?side3 ?side4 ?side5 ?side6 A84.out).mono ?_); (case side1 => repeat (first | exact (Kd.C_below HR0_1.out HB.out) | (with_reducible refine Kd.C_alloc ?_ _) | (with_reducible refine Kd.C_drewN ?_ _) | (with_reducible refine Kd.C_drew ?_))); (case side2 => exact HC0_1.out); (case side3 => repeat (first | exact (Kd.C_below HR0_2.out HB.out) | (with_reducible refine Kd.C_alloc ?_ _) | (with_reducible refine Kd.C_drewN ?_ _) | (with_reducible refine Kd.C_drew ?_))); (case side4 => exact HC0_2.out); (case side5 => repeat (first | exact (Kd.C_below HR1.out HB.out) | (with_reducible refine Kd.C_alloc ?_ _) | (with_reducible refine Kd.C_drewN ?_ _) | (with_reducible refine Kd.C_drew ?_))); (case side6 => exact HC1.out); rintro e w128 ⟨v244, rfl, ho0, hb⟩; refine ⟨_, rfl, ?_⟩; have n0_ := zz9 (Kd.S_elder' (by (with_reducible repeat (first | apply zz3 | apply zz4 | apply zz5)); exact HO_234001.out) (Kd.R_base ho0) hb); have n1_ := zz9 (Kd.R_below (by (with_reducible repeat (first | apply zz0 | apply zz1 | apply zz2)); exact HO_234002.out) hb); have n2_ := zz9 (Kd.R_lower ho0 (below_size (by repeat (first | (with_reducible first | exact HB.out | apply zz11 | apply zz10 | apply zz12 | refine below_set ?_ GE211.out | refine below_set ?_ GE233.out) | exact HB.out)))); have n3_ := zz9 (blk_below (g := gb211) (o := .cells #[.int .i64 a0_0, .slice A0_1 l0_1.length c0_1, .slice A0_2 l0_2.length c0_2] 25 (0, 0)) (by (with_reducible repeat (first | refine zz13 ?_ _ | refine zz14 ?_ | refine zz15 ?_ _)); exact BK211.out) hb); have n4_ := zz9 (blk_below (g := gb233) (o := .cells #[.int .i64 a0_0, u234001, u234002] 25 (0, 0)) (by (with_reducible repeat (first | refine zz13 ?_ _ | refine zz14 ?_ | refine zz15 ?_ _)); exact BK233.out) hb); have n5_ := zz9 (below_step (by repeat (first | (with_reducible first | exact HB.out | apply zz11 | apply zz10 | apply zz12 | refine below_set ?_ GE211.out | refine below_set ?_ GE233.out) | exact HB.out)) hb); clear HO_234001; clear HO_234002; clear BK211; clear BK233; clear HB; have HO_234001 := n0_; have HO_234002 := n1_; have HO245 := n2_; have BK211 := n3_; have BK233 := n4_; have HB := n5_; clear n0_ n1_ n2_ n3_ n4_ n5_; (try clear hb); (try clear hb2); (try clear hk); (try clear hi); (try clear ho0)))
                  have n0_ := zz9 (zz5 HO_234001.out)
                  have n1_ := zz9 (zz2 HO_234002.out)
                  have n2_ := zz9 (zz2 HO245.out)
                  have n3_ := zz9 (zz14 BK211.out)
                  have n4_ := zz9 (zz14 BK233.out)
                  have n5_ := zz9 (zz12 HB.out)
                  clear HO_234001
                  clear HO_234002
                  clear HO245
                  clear BK211
                  clear BK233
                  clear HB
                  have HO_234001 := n0_
                  have HO_234002 := n1_
                  have HO245 := n2_
                  have BK211 := n3_
                  have BK233 := n4_
                  have HB := n5_
                  clear n0_ n1_ n2_ n3_ n4_ n5_
                  refine start_ (n := 14) (S := fun w' => w'.cell? ⟨gb233, 0, none⟩ = some (.int .i64 a0_0) ∧ w'.cell? ⟨gb233, 1, none⟩ = some (u234001) ∧ w'.cell? ⟨gb233, 2, none⟩ = some (u234002)) (ds := []) #[false, false, false, false, false, false, false, false, false, false, false, false, false, false] (by kernel_rfl) rfl rfl ⟨(blk_cell BK233.out 0).trans rfl, (blk_cell BK233.out 1).trans rfl, (blk_cell BK233.out 2).trans rfl⟩ (fun hHeld => ?_); refine with_tabW standstilllaw07_TagNames.tab16 standstilllaw07_TagNames.bits16 (fun HT_ HW_ => ?_)
                  generalize w128.drew = w129 at HO_234001 HO_234002 HO245 BK211 BK233 HB hHeld ⊢
                  refine pure_ (i := 1) (N := some 128) (v := ?_) (a' := ?_) #[false, true, false, false, false, false, false, false, false, false, false, false, false, false] rfl rfl (any_of HT_.out (by kernel_rfl)) (fun _ _ _ h => h) (Or.inl ⟨by rfl, ?_⟩) ?_ ?_
                  rotate_left
                  ·
                   intro w'
                   go_simp
                   with_reducible rfl
                  rotate_left
                  ·
                   simp only [Act.put, zz6, zz7, zz8, i64_w, i32_w]
                   rfl
                  refine pure_ (i := 2) (N := some 129) (v := ?_) (a' := ?_) #[false, true, true, false, false, false, false, false, false, false, false, false, false, false] rfl rfl (any_of HT_.out (by kernel_rfl)) (fun _ _ _ h => h) (Or.inl ⟨by rfl, ?_⟩) ?_ ?_
                  rotate_left
                  ·
                   intro w'
                   go_simp
                   with_reducible rfl
                  rotate_left
                  ·
                   simp only [Act.put, zz6, zz7, zz8, i64_w, i32_w]
                   rfl
                  refine pure_ (i := 4) (N := some 131) (v := ?_) (a' := ?_) #[false, true, true, false, true, false, false, false, false, false, false, false, false, false] rfl rfl (any_of HT_.out (by kernel_rfl)) (fun _ _ _ h => h) (Or.inl ⟨by rfl, ?_⟩) ?_ ?_
                  rotate_left
                  ·
                   intro w'
                   go_simp
                   with_reducible rfl
                  rotate_left
                  ·
                   simp only [Act.put, zz6, zz7, zz8, i64_w, i32_w]
                   rfl
                  refine pure_ (i := 5) (N := some 132) (v := ?_) (a' := ?_) #[false, true, true, false, true, true, false, false, false, false, false, false, false, false] rfl rfl (any_of HT_.out (by kernel_rfl)) (fun _ _ _ h => h) (Or.inl ⟨by rfl, ?_⟩) ?_ ?_
                  rotate_left
                  ·
                   intro w'
                   go_simp
                   with_reducible rfl
                  rotate_left
                  ·
                   simp only [Act.put, zz6, zz7, zz8, i64_w, i32_w]
                   rfl
                  refine take_ (i := 0) (N := some 127) (v := ?_) (a' := ?_) #[true, true, true, false, true, true, false, false, false, false, false, false, false, false] rfl rfl (take_ofW HT_.out HW_.out (by kernel_rfl)) (fun _ _ _ h => h) (Or.inl ⟨by rfl, ?_⟩) hHeld ?_ ?_
                  rotate_left
                  ·
                   rintro w' ⟨s0, s1, s2⟩
                   go_simp
                   with_reducible rfl
                  rotate_left
                  ·
                   simp only [Act.put, zz6, zz7, zz8, i64_w, i32_w]
                   rfl
                  refine one_ (i := 3) (N := some 130) #[true, true, true, true, true, true, false, false, false, false, false, false, false, false] rfl rfl (one_of HT_.out (by kernel_rfl)) (by decide) (fun K hK => ?_)
                  refine goes_ Try.func8 (by kernel_rfl) rfl #[.slice A1 l1.length c1, .slice A2 l2.length c2] (by rfl) rfl rfl (by (try simp only [List.map_toArray, List.map_cons, List.map_nil]); first | done | rfl | (simp only [List.length_drop, List.length_take]; rfl)) ?_
                  with_reducible refine (standstilllaw07_named.calls k3 _ _ l1 _ _ l2 t248 _ ?side1 ?side2 ?side3 ?side4 A85.out).mono ?_
                  (case side1 => repeat (first | exact (Kd.C_below HR1.out HB.out) | (with_reducible refine Kd.C_alloc ?_ _) | (with_reducible refine Kd.C_drewN ?_ _) | (with_reducible refine Kd.C_drew ?_)))
                  (case side2 => exact HC1.out)
                  (case side3 => repeat (first | exact (Kd.C_below HR2.out HB.out) | (with_reducible refine Kd.C_alloc ?_ _) | (with_reducible refine Kd.C_drewN ?_ _) | (with_reducible refine Kd.C_drew ?_)))
                  (case side4 => exact HC2.out)
                  rintro e w130 ⟨v249, rfl, ho0, hb⟩
                  refine ⟨_, rfl, ?_⟩
                  have n0_ := zz9 (Kd.S_elder' (by (with_reducible repeat (first | apply zz3 | apply zz4 | apply zz5)); exact HO_234001.out) (Kd.R_base ho0) hb)
                  have n1_ := zz9 (Kd.R_below (by (with_reducible repeat (first | apply zz0 | apply zz1 | apply zz2)); exact HO_234002.out) hb)
                  have n2_ := zz9 (Kd.R_elder' (by (with_reducible repeat (first | apply zz0 | apply zz1 | apply zz2)); exact HO245.out) (Kd.R_base ho0) hb)
                  have n3_ := zz9 (Kd.R_lower (Kd.R_new' ho0 (Kd.R_lt (by (with_reducible repeat (first | apply zz0 | apply zz1 | apply zz2)); exact HO245.out))) (below_size (by repeat (first | (with_reducible first | exact HB.out | apply zz11 | apply zz10 | apply zz12 | refine below_set ?_ GE211.out | refine below_set ?_ GE233.out) | exact HB.out))))
                  have n4_ := zz9 (blk_below (g := gb211) (o := .cells #[.int .i64 a0_0, .slice A0_1 l0_1.length c0_1, .slice A0_2 l0_2.length c0_2] 25 (0, 0)) (by (with_reducible repeat (first | refine zz13 ?_ _ | refine zz14 ?_ | refine zz15 ?_ _)); exact BK211.out) hb)
                  have n5_ := zz9 (blk_below (g := gb233) (o := .cells #[.int .i64 a0_0, u234001, u234002] 25 (0, 0)) (by (with_reducible repeat (first | refine zz13 ?_ _ | refine zz14 ?_ | refine zz15 ?_ _)); exact BK233.out) hb)
                  have n6_ := zz9 (below_step (by repeat (first | (with_reducible first | exact HB.out | apply zz11 | apply zz10 | apply zz12 | refine below_set ?_ GE211.out | refine below_set ?_ GE233.out) | exact HB.out)) hb)
                  clear HO_234001
                  clear HO_234002
                  clear HO245
                  clear BK211
                  clear BK233
                  clear HB
                  have HO_234001 := n0_
                  have HO_234002 := n1_
                  have HO245 := n2_
                  have HO250 := n3_
                  have BK211 := n4_
                  have BK233 := n5_
                  have HB := n6_
                  clear n0_ n1_ n2_ n3_ n4_ n5_ n6_
                  (try clear hb)
                  (try clear hb2)
                  (try clear hk)
                  (try clear hi)
                  (try clear ho0)
                  obtain ⟨Ao131, co131, eo131⟩ := Kd.S_slice HO_234001.out
                  (first | subst eo131 | (injection eo131 with f1_ f2_ f3_; have f4_ := f1_.symm; have f5_ := f3_.symm; clear f1_ f2_ f3_; subst f4_; subst f5_))
                  obtain ⟨Ao132, co132, eo132⟩ := Kd.R_slice HO_234002.out
                  (first | subst eo132 | (injection eo132 with f1_ f2_ f3_; have f4_ := f1_.symm; have f5_ := f3_.symm; clear f1_ f2_ f3_; subst f4_; subst f5_))
                  obtain ⟨Ao133, co133, eo133⟩ := Kd.R_slice HO250.out
                  (first | subst eo133 | (injection eo133 with f1_ f2_ f3_; have f4_ := f1_.symm; have f5_ := f3_.symm; clear f1_ f2_ f3_; subst f4_; subst f5_))
                  refine hK.out _ _ ⟨(blk_cell BK233.out 0).trans rfl, (blk_cell BK233.out 1).trans rfl, (blk_cell BK233.out 2).trans rfl⟩ (fun hHeld => ?_)
                  clear hK K
                  refine norm_ (a' := ?_) ?_ ?_
                  rotate_left
                  ·
                   show Act.put _ (some 130) _ = _
                   simp only [Act.put, zz6, zz7, zz8, i64_w, i32_w]
                   rfl
                  refine one_ (i := 6) (N := some 133) #[true, true, true, true, true, true, true, false, false, false, false, false, false, false] rfl rfl (one_of HT_.out (by kernel_rfl)) (by decide) (fun K hK => ?_)
                  refine goes_ Try.func9 (by kernel_rfl) rfl #[.agg #[.int .i64 a0_0, .slice Ao131 x234001_3.length co131, .slice Ao132 x234002_3.length co132], .slice Ao133 t248.length co133, .int .i64 (wrap64 (a3))] (by rfl) rfl rfl (by (try simp only [List.map_toArray, List.map_cons, List.map_nil]); first | done | rfl | (simp only [List.length_drop, List.length_take]; rfl)) ?_
                  with_reducible refine (tag_Run.calls k3 a0_0 _ _ x234001_3 _ _ x234002_3 _ _ t248 (wrap64 (a3)) t251 t254 t255 _ ?side1 ?side2 ?side3 ?side4 ?side5 ?side6 A86.out).mono ?_
                  (case side1 => repeat (first | exact (Kd.S_reads' HO_234001.out).2.2 | (with_reducible refine Kd.C_alloc ?_ _) | (with_reducible refine Kd.C_drewN ?_ _) | (with_reducible refine Kd.C_drew ?_)))
                  (case side2 => exact (Kd.S_reads' HO_234001.out).2.1)
                  (case side3 => repeat (first | exact (Kd.R_reads' HO_234002.out).2.2 | (with_reducible refine Kd.C_alloc ?_ _) | (with_reducible refine Kd.C_drewN ?_ _) | (with_reducible refine Kd.C_drew ?_)))
                  (case side4 => exact (Kd.R_reads' HO_234002.out).2.1)
                  (case side5 => repeat (first | exact (Kd.R_reads' HO250.out).2.2 | (with_reducible refine Kd.C_alloc ?_ _) | (with_reducible refine Kd.C_drewN ?_ _) | (with_reducible refine Kd.C_drew ?_)))
                  (case side6 => exact (Kd.R_reads' HO250.out).2.1)
                  rintro e w134 ⟨v252, rfl, ho0, hb⟩
                  refine ⟨_, rfl, ?_⟩
                  have n0_ := zz9 (Kd.S_elder' (by (with_reducible repeat (first | apply zz3 | apply zz4 | apply zz5)); exact HO_234001.out) (Kd.R_base ho0) hb)
                  have n1_ := zz9 (Kd.R_below (by (with_reducible repeat (first | apply zz0 | apply zz1 | apply zz2)); exact HO_234002.out) hb)
                  have n2_ := zz9 (Kd.R_elder' (by (with_reducible repeat (first | apply zz0 | apply zz1 | apply zz2)); exact HO245.out) (Kd.R_base ho0) hb)
                  have n3_ := zz9 (Kd.R_elder' (by (with_reducible repeat (first | apply zz0 | apply zz1 | apply zz2)); exact HO250.out) (Kd.R_base ho0) hb)
                  have n4_ := zz9 (Kd.R_lower (Kd.R_new' (Kd.R_new' ho0 (Kd.R_lt (by (with_reducible repeat (first | apply zz0 | apply zz1 | apply zz2)); exact HO245.out))) (Kd.R_lt (by (with_reducible repeat (first | apply zz0 | apply zz1 | apply zz2)); exact HO250.out))) (below_size (by repeat (first | (with_reducible first | exact HB.out | apply zz11 | apply zz10 | apply zz12 | refine below_set ?_ GE211.out | refine below_set ?_ GE233.out) | exact HB.out))))
                  have n5_ := zz9 (blk_below (g := gb211) (o := .cells #[.int .i64 a0_0, .slice A0_1 l0_1.length c0_1, .slice A0_2 l0_2.length c0_2] 25 (0, 0)) (by (with_reducible repeat (first | refine zz13 ?_ _ | refine zz14 ?_ | refine zz15 ?_ _)); exact BK211.out) hb)
                  have n6_ := zz9 (blk_below (g := gb233) (o := .cells #[.int .i64 a0_0, .slice Ao131 x234001_3.length co131, .slice Ao132 x234002_3.length co132] 25 (0, 0)) (by (with_reducible repeat (first | refine zz13 ?_ _ | refine zz14 ?_ | refine zz15 ?_ _)); exact BK233.out) hb)
                  have n7_ := zz9 (below_step (by repeat (first | (with_reducible first | exact HB.out | apply zz11 | apply zz10 | apply zz12 | refine below_set ?_ GE211.out | refine below_set ?_ GE233.out) | exact HB.out)) hb)
                  clear HO_234001
                  clear HO_234002
                  clear HO245
                  clear HO250
                  clear BK211
                  clear BK233
                  clear HB
                  have HO_234001 := n0_
                  have HO_234002 := n1_
                  have HO245 := n2_
                  have HO250 := n3_
                  have HO253 := n4_
                  have BK211 := n5_
                  have BK233 := n6_
                  have HB := n7_
                  clear n0_ n1_ n2_ n3_ n4_ n5_ n6_ n7_
                  (try clear hb)
                  (try clear hb2)
                  (try clear hk)
                  (try clear hi)
                  (try clear ho0)
                  refine hK.out _ _ ⟨(blk_cell BK233.out 0).trans rfl, (blk_cell BK233.out 1).trans rfl, (blk_cell BK233.out 2).trans rfl⟩ (fun hHeld => ?_)
                  clear hK K
                  refine norm_ (a' := ?_) ?_ ?_
                  rotate_left
                  ·
                   show Act.put _ (some 133) _ = _
                   simp only [Act.put, zz6, zz7, zz8, i64_w, i32_w]
                   rfl
                  refine pure_ (i := 7) (N := some 126) (v := ?_) (a' := ?_) #[true, true, true, true, true, true, true, true, false, false, false, false, false, false] rfl rfl (any_of HT_.out (by kernel_rfl)) (fun _ _ _ h => h) (Or.inl ⟨by rfl, ?_⟩) ?_ ?_
                  rotate_left
                  ·
                   intro w'
                   go_simp
                   with_reducible rfl
                  rotate_left
                  ·
                   simp only [Act.put, zz6, zz7, zz8, i64_w, i32_w]
                   rfl
                  refine pure_ (i := 8) (N := some 134) (v := ?_) (a' := ?_) #[true, true, true, true, true, true, true, true, true, false, false, false, false, false] rfl rfl (any_of HT_.out (by kernel_rfl)) (fun _ _ _ h => h) (Or.inl ⟨by rfl, ?_⟩) ?_ ?_
                  rotate_left
                  ·
                   intro w'
                   go_simp
                   with_reducible rfl
                  rotate_left
                  ·
                   simp only [Act.put, zz6, zz7, zz8, i64_w, i32_w]
                   rfl
                  refine pure_ (i := 9) (N := some 135) (v := ?_) (a' := ?_) #[true, true, true, true, true, true, true, true, true, true, false, false, false, false] rfl rfl (any_of HT_.out (by kernel_rfl)) (fun _ _ _ h => h) (Or.inl ⟨by rfl, ?_⟩) ?_ ?_
                  rotate_left
                  ·
                   intro w'
                   go_simp
                   with_reducible rfl
                  rotate_left
                  ·
                   simp only [Act.put, zz6, zz7, zz8, i64_w, i32_w]
                   rfl
                  refine pure_ (i := 10) (N := some 136) (v := ?_) (a' := ?_) #[true, true, true, true, true, true, true, true, true, true, true, false, false, false] rfl rfl (any_of HT_.out (by kernel_rfl)) (fun _ _ _ h => h) (Or.inl ⟨by rfl, ?_⟩) ?_ ?_
                  rotate_left
                  ·
                   intro w'
                   go_simp
                   with_reducible rfl
                  rotate_left
                  ·
                   simp only [Act.put, zz6, zz7, zz8, i64_w, i32_w]
                   rfl
                  refine pure_ (i := 11) (N := some 16) (v := ?_) (a' := ?_) #[true, true, true, true, true, true, true, true, true, true, true, true, false, false] rfl rfl (any_of HT_.out (by kernel_rfl)) (fun _ _ _ h => h) (Or.inl ⟨by rfl, ?_⟩) ?_ ?_
                  rotate_left
                  ·
                   intro w'
                   go_simp
                   with_reducible rfl
                  rotate_left
                  ·
                   simp only [Act.put, zz6, zz7, zz8, i64_w, i32_w]
                   rfl
                  refine pure_ (i := 12) (N := some 17) (v := ?_) (a' := ?_) #[true, true, true, true, true, true, true, true, true, true, true, true, true, false] rfl rfl (any_of HT_.out (by kernel_rfl)) (fun _ _ _ h => h) (Or.inl ⟨by rfl, ?_⟩) ?_ ?_
                  rotate_left
                  ·
                   intro w'
                   go_simp
                   with_reducible rfl
                  rotate_left
                  ·
                   simp only [Act.put, zz6, zz7, zz8, i64_w, i32_w]
                   rfl
                  refine pure_ (i := 13) (N := some 18) (v := ?_) (a' := ?_) #[true, true, true, true, true, true, true, true, true, true, true, true, true, true] rfl rfl (any_of HT_.out (by kernel_rfl)) (fun _ _ _ h => h) (Or.inl ⟨by rfl, ?_⟩) ?_ ?_
                  rotate_left
                  ·
                   intro w'
                   go_simp
                   with_reducible rfl
                  rotate_left
                  ·
                   simp only [Act.put, zz6, zz7, zz8, i64_w, i32_w]
                   rfl
                  refine done_ (done_of HT_.out (by kernel_rfl)) ?_
                  have hcz135_0 : w134.cell? ⟨gb211, 0, none⟩ = some (.int .i64 a0_0) := (blk_cell BK211.out 0).trans rfl
                  have hcz135_1 : w134.cell? ⟨gb211, 1, none⟩ = some (.slice A0_1 l0_1.length c0_1) := (blk_cell BK211.out 1).trans rfl
                  have hcz135_2 : w134.cell? ⟨gb211, 2, none⟩ = some (.slice A0_2 l0_2.length c0_2) := (blk_cell BK211.out 2).trans rfl
                  have hfz135_0 := blk_frozen BK211.out 0
                  have hfz135_1 := blk_frozen BK211.out 1
                  have hfz135_2 := blk_frozen BK211.out 2
                  obtain ⟨Ao136, co136, eo136⟩ := Kd.R_slice HO245.out
                  subst eo136
                  try go_wp2_with (first | (go_at_call 6; (with_reducible refine (standstillref07_Fits.calls k3 a0_0 _ _ l0_1 _ _ l0_2 _ _ t243 false _ ?side1 ?side2 ?side3 ?side4 ?side5 ?side6 A89.out).mono ?_); (case side1 => repeat (first | exact (Kd.C_below HR0_1.out HB.out) | (with_reducible refine Kd.C_alloc ?_ _) | (with_reducible refine Kd.C_drewN ?_ _) | (with_reducible refine Kd.C_drew ?_))); (case side2 => exact HC0_1.out); (case side3 => repeat (first | exact (Kd.C_below HR0_2.out HB.out) | (with_reducible refine Kd.C_alloc ?_ _) | (with_reducible refine Kd.C_drewN ?_ _) | (with_reducible refine Kd.C_drew ?_))); (case side4 => exact HC0_2.out); (case side5 => repeat (first | exact (Kd.R_reads' HO245.out).2.2 | (with_reducible refine Kd.C_alloc ?_ _) | (with_reducible refine Kd.C_drewN ?_ _) | (with_reducible refine Kd.C_drew ?_))); (case side6 => exact (Kd.R_reads' HO245.out).2.1); rintro e w137 ⟨rfl, hb⟩; have n0_ := zz9 (Kd.S_below (by (with_reducible repeat (first | apply zz3 | apply zz4 | apply zz5)); exact HO_234001.out) hb); have n1_ := zz9 (Kd.R_below (by (with_reducible repeat (first | apply zz0 | apply zz1 | apply zz2)); exact HO_234002.out) hb); have n2_ := zz9 (Kd.R_below (by (with_reducible repeat (first | apply zz0 | apply zz1 | apply zz2)); exact HO245.out) hb); have n3_ := zz9 (Kd.R_below (by (with_reducible repeat (first | apply zz0 | apply zz1 | apply zz2)); exact HO250.out) hb); have n4_ := zz9 (Kd.R_below (by (with_reducible repeat (first | apply zz0 | apply zz1 | apply zz2)); exact HO253.out) hb); have n5_ := zz9 (blk_below (g := gb211) (o := .cells #[.int .i64 a0_0, .slice A0_1 l0_1.length c0_1, .slice A0_2 l0_2.length c0_2] 25 (0, 0)) (by (with_reducible repeat (first | refine zz13 ?_ _ | refine zz14 ?_ | refine zz15 ?_ _)); exact BK211.out) hb); have n6_ := zz9 (blk_below (g := gb233) (o := .cells #[.int .i64 a0_0, .slice Ao131 x234001_3.length co131, .slice Ao132 x234002_3.length co132] 25 (0, 0)) (by (with_reducible repeat (first | refine zz13 ?_ _ | refine zz14 ?_ | refine zz15 ?_ _)); exact BK233.out) hb); have n7_ := zz9 (below_step (by repeat (first | (with_reducible first | exact HB.out | apply zz11 | apply zz10 | apply zz12 | refine below_set ?_ GE211.out | refine below_set ?_ GE233.out) | exact HB.out)) hb); clear HO_234001; clear HO_234002; clear HO245; clear HO250; clear HO253; clear BK211; clear BK233; clear HB; have HO_234001 := n0_; have HO_234002 := n1_; have HO245 := n2_; have HO250 := n3_; have HO253 := n4_; have BK211 := n5_; have BK233 := n6_; have HB := n7_; clear n0_ n1_ n2_ n3_ n4_ n5_ n6_ n7_; (try clear hb); (try clear hb2); (try clear hk); (try clear hi)))
                  go_ret
                  exact ⟨by first | rfl | (simp [errW_none, errW_some] <;> rfl) | (simp [*, errW_none, errW_some] <;> rfl), by repeat (first | (with_reducible first | exact HB.out | apply zz11 | apply zz10 | apply zz12 | refine below_set ?_ GE211.out | refine below_set ?_ GE233.out) | exact HB.out)⟩
                ·
                 rw [if_neg c88] at H
                 have c88b0 : (t246 == t254) = false := beq_eq_false_iff_ne.mpr c88
                 have c88b1 : (t246 != t254) = true := bne_iff_ne.mpr c88
                 obtain rfl := Option.some.inj H
                 have hnb138 := NB211_233.out
                 have hnc138 := NB233_211.out
                 have hcz139_0 : wr.cell? ⟨gb211, 0, none⟩ = some (.int .i64 a0_0) := (blk_cell BK211.out 0).trans rfl
                 have hcz139_1 : wr.cell? ⟨gb211, 1, none⟩ = some (.slice A0_1 l0_1.length c0_1) := (blk_cell BK211.out 1).trans rfl
                 have hcz139_2 : wr.cell? ⟨gb211, 2, none⟩ = some (.slice A0_2 l0_2.length c0_2) := (blk_cell BK211.out 2).trans rfl
                 have hfz139_0 := blk_frozen BK211.out 0
                 have hfz139_1 := blk_frozen BK211.out 1
                 have hfz139_2 := blk_frozen BK211.out 2
                 try go_wp2_with (first | ((with_reducible refine gate_callee (f := 9) rfl ?_); refine goesL_ (some 122) rfl rfl Try.func9 (by kernel_rfl) rfl #[.agg #[.int .i64 a0_0, .slice A0_1 l0_1.length c0_1, .slice A0_2 l0_2.length c0_2], .slice A1 l1.length c1, .int .i64 (wrap64 (a3))] rfl (by (try simp only [List.map_toArray, List.map_cons, List.map_nil]); first | done | rfl | (simp only [List.length_drop, List.length_take]; rfl)) ?_; (with_reducible refine (tag_Run.calls k3 a0_0 _ _ l0_1 _ _ l0_2 _ _ l1 (wrap64 (a3)) t243 t246 t247 _ ?side1 ?side2 ?side3 ?side4 ?side5 ?side6 A84.out).mono ?_); (case side1 => repeat (first | exact (Kd.C_below HR0_1.out HB.out) | (with_reducible refine Kd.C_alloc ?_ _) | (with_reducible refine Kd.C_drewN ?_ _) | (with_reducible refine Kd.C_drew ?_))); (case side2 => exact HC0_1.out); (case side3 => repeat (first | exact (Kd.C_below HR0_2.out HB.out) | (with_reducible refine Kd.C_alloc ?_ _) | (with_reducible refine Kd.C_drewN ?_ _) | (with_reducible refine Kd.C_drew ?_))); (case side4 => exact HC0_2.out); (case side5 => repeat (first | exact (Kd.C_below HR1.out HB.out) | (with_reducible refine Kd.C_alloc ?_ _) | (with_reducible refine Kd.C_drewN ?_ _) | (with_reducible refine Kd.C_drew ?_))); (case side6 => exact HC1.out); rintro e w140 ⟨v244, rfl, ho0, hb⟩; refine ⟨_, rfl, ?_⟩; have n0_ := zz9 (Kd.S_elder' (by (with_reducible repeat (first | apply zz3 | apply zz4 | apply zz5)); exact HO_234001.out) (Kd.R_base ho0) hb); have n1_ := zz9 (Kd.R_below (by (with_reducible repeat (first | apply zz0 | apply zz1 | apply zz2)); exact HO_234002.out) hb); have n2_ := zz9 (Kd.R_lower ho0 (below_size (by repeat (first | (with_reducible first | exact HB.out | apply zz11 | apply zz10 | apply zz12 | refine below_set ?_ GE211.out | refine below_set ?_ GE233.out) | exact HB.out)))); have n3_ := zz9 (blk_below (g := gb211) (o := .cells #[.int .i64 a0_0, .slice A0_1 l0_1.length c0_1, .slice A0_2 l0_2.length c0_2] 25 (0, 0)) (by (with_reducible repeat (first | refine zz13 ?_ _ | refine zz14 ?_ | refine zz15 ?_ _)); exact BK211.out) hb); have n4_ := zz9 (blk_below (g := gb233) (o := .cells #[.int .i64 a0_0, u234001, u234002] 25 (0, 0)) (by (with_reducible repeat (first | refine zz13 ?_ _ | refine zz14 ?_ | refine zz15 ?_ _)); exact BK233.out) hb); have n5_ := zz9 (below_step (by repeat (first | (with_reducible first | exact HB.out | apply zz11 | apply zz10 | apply zz12 | refine below_set ?_ GE211.out | refine below_set ?_ GE233.out) | exact HB.out)) hb); clear HO_234001; clear HO_234002; clear BK211; clear BK233; clear HB; have HO_234001 := n0_; have HO_234002 := n1_; have HO245 := n2_; have BK211 := n3_; have BK233 := n4_; have HB := n5_; clear n0_ n1_ n2_ n3_ n4_ n5_; (try clear hb); (try clear hb2); (try clear hk); (try clear hi); (try clear ho0)))
                 have n0_ := zz9 (zz5 HO_234001.out)
                 have n1_ := zz9 (zz2 HO_234002.out)
                 have n2_ := zz9 (zz2 HO245.out)
                 have n3_ := zz9 (zz14 BK211.out)
                 have n4_ := zz9 (zz14 BK233.out)
                 have n5_ := zz9 (zz12 HB.out)
                 clear HO_234001
                 clear HO_234002
                 clear HO245
                 clear BK211
                 clear BK233
                 clear HB
                 have HO_234001 := n0_
                 have HO_234002 := n1_
                 have HO245 := n2_
                 have BK211 := n3_
                 have BK233 := n4_
                 have HB := n5_
                 clear n0_ n1_ n2_ n3_ n4_ n5_
                 refine start_ (n := 14) (S := fun w' => w'.cell? ⟨gb233, 0, none⟩ = some (.int .i64 a0_0) ∧ w'.cell? ⟨gb233, 1, none⟩ = some (u234001) ∧ w'.cell? ⟨gb233, 2, none⟩ = some (u234002)) (ds := []) #[false, false, false, false, false, false, false, false, false, false, false, false, false, false] (by kernel_rfl) rfl rfl ⟨(blk_cell BK233.out 0).trans rfl, (blk_cell BK233.out 1).trans rfl, (blk_cell BK233.out 2).trans rfl⟩ (fun hHeld => ?_); refine with_tabW standstilllaw07_TagNames.tab16 standstilllaw07_TagNames.bits16 (fun HT_ HW_ => ?_)
                 generalize w140.drew = w141 at HO_234001 HO_234002 HO245 BK211 BK233 HB hHeld ⊢
                 refine pure_ (i := 1) (N := some 128) (v := ?_) (a' := ?_) #[false, true, false, false, false, false, false, false, false, false, false, false, false, false] rfl rfl (any_of HT_.out (by kernel_rfl)) (fun _ _ _ h => h) (Or.inl ⟨by rfl, ?_⟩) ?_ ?_
                 rotate_left
                 ·
                  intro w'
                  go_simp
                  with_reducible rfl
                 rotate_left
                 ·
                  simp only [Act.put, zz6, zz7, zz8, i64_w, i32_w]
                  rfl
                 refine pure_ (i := 2) (N := some 129) (v := ?_) (a' := ?_) #[false, true, true, false, false, false, false, false, false, false, false, false, false, false] rfl rfl (any_of HT_.out (by kernel_rfl)) (fun _ _ _ h => h) (Or.inl ⟨by rfl, ?_⟩) ?_ ?_
                 rotate_left
                 ·
                  intro w'
                  go_simp
                  with_reducible rfl
                 rotate_left
                 ·
                  simp only [Act.put, zz6, zz7, zz8, i64_w, i32_w]
                  rfl
                 refine pure_ (i := 4) (N := some 131) (v := ?_) (a' := ?_) #[false, true, true, false, true, false, false, false, false, false, false, false, false, false] rfl rfl (any_of HT_.out (by kernel_rfl)) (fun _ _ _ h => h) (Or.inl ⟨by rfl, ?_⟩) ?_ ?_
                 rotate_left
                 ·
                  intro w'
                  go_simp
                  with_reducible rfl
                 rotate_left
                 ·
                  simp only [Act.put, zz6, zz7, zz8, i64_w, i32_w]
                  rfl
                 refine pure_ (i := 5) (N := some 132) (v := ?_) (a' := ?_) #[false, true, true, false, true, true, false, false, false, false, false, false, false, false] rfl rfl (any_of HT_.out (by kernel_rfl)) (fun _ _ _ h => h) (Or.inl ⟨by rfl, ?_⟩) ?_ ?_
                 rotate_left
                 ·
                  intro w'
                  go_simp
                  with_reducible rfl
                 rotate_left
                 ·
                  simp only [Act.put, zz6, zz7, zz8, i64_w, i32_w]
                  rfl
                 refine take_ (i := 0) (N := some 127) (v := ?_) (a' := ?_) #[true, true, true, false, true, true, false, false, false, false, false, false, false, false] rfl rfl (take_ofW HT_.out HW_.out (by kernel_rfl)) (fun _ _ _ h => h) (Or.inl ⟨by rfl, ?_⟩) hHeld ?_ ?_
                 rotate_left
                 ·
                  rintro w' ⟨s0, s1, s2⟩
                  go_simp
                  with_reducible rfl
                 rotate_left
                 ·
                  simp only [Act.put, zz6, zz7, zz8, i64_w, i32_w]
                  rfl
                 refine one_ (i := 3) (N := some 130) #[true, true, true, true, true, true, false, false, false, false, false, false, false, false] rfl rfl (one_of HT_.out (by kernel_rfl)) (by decide) (fun K hK => ?_)
                 refine goes_ Try.func8 (by kernel_rfl) rfl #[.slice A1 l1.length c1, .slice A2 l2.length c2] (by rfl) rfl rfl (by (try simp only [List.map_toArray, List.map_cons, List.map_nil]); first | done | rfl | (simp only [List.length_drop, List.length_take]; rfl)) ?_
                 with_reducible refine (standstilllaw07_named.calls k3 _ _ l1 _ _ l2 t248 _ ?side1 ?side2 ?side3 ?side4 A85.out).mono ?_
                 (case side1 => repeat (first | exact (Kd.C_below HR1.out HB.out) | (with_reducible refine Kd.C_alloc ?_ _) | (with_reducible refine Kd.C_drewN ?_ _) | (with_reducible refine Kd.C_drew ?_)))
                 (case side2 => exact HC1.out)
                 (case side3 => repeat (first | exact (Kd.C_below HR2.out HB.out) | (with_reducible refine Kd.C_alloc ?_ _) | (with_reducible refine Kd.C_drewN ?_ _) | (with_reducible refine Kd.C_drew ?_)))
                 (case side4 => exact HC2.out)
                 rintro e w142 ⟨v249, rfl, ho0, hb⟩
                 refine ⟨_, rfl, ?_⟩
                 have n0_ := zz9 (Kd.S_elder' (by (with_reducible repeat (first | apply zz3 | apply zz4 | apply zz5)); exact HO_234001.out) (Kd.R_base ho0) hb)
                 have n1_ := zz9 (Kd.R_below (by (with_reducible repeat (first | apply zz0 | apply zz1 | apply zz2)); exact HO_234002.out) hb)
                 have n2_ := zz9 (Kd.R_elder' (by (with_reducible repeat (first | apply zz0 | apply zz1 | apply zz2)); exact HO245.out) (Kd.R_base ho0) hb)
                 have n3_ := zz9 (Kd.R_lower (Kd.R_new' ho0 (Kd.R_lt (by (with_reducible repeat (first | apply zz0 | apply zz1 | apply zz2)); exact HO245.out))) (below_size (by repeat (first | (with_reducible first | exact HB.out | apply zz11 | apply zz10 | apply zz12 | refine below_set ?_ GE211.out | refine below_set ?_ GE233.out) | exact HB.out))))
                 have n4_ := zz9 (blk_below (g := gb211) (o := .cells #[.int .i64 a0_0, .slice A0_1 l0_1.length c0_1, .slice A0_2 l0_2.length c0_2] 25 (0, 0)) (by (with_reducible repeat (first | refine zz13 ?_ _ | refine zz14 ?_ | refine zz15 ?_ _)); exact BK211.out) hb)
                 have n5_ := zz9 (blk_below (g := gb233) (o := .cells #[.int .i64 a0_0, u234001, u234002] 25 (0, 0)) (by (with_reducible repeat (first | refine zz13 ?_ _ | refine zz14 ?_ | refine zz15 ?_ _)); exact BK233.out) hb)
                 have n6_ := zz9 (below_step (by repeat (first | (with_reducible first | exact HB.out | apply zz11 | apply zz10 | apply zz12 | refine below_set ?_ GE211.out | refine below_set ?_ GE233.out) | exact HB.out)) hb)
                 clear HO_234001
                 clear HO_234002
                 clear HO245
                 clear BK211
                 clear BK233
                 clear HB
                 have HO_234001 := n0_
                 have HO_234002 := n1_
                 have HO245 := n2_
                 have HO250 := n3_
                 have BK211 := n4_
                 have BK233 := n5_
                 have HB := n6_
                 clear n0_ n1_ n2_ n3_ n4_ n5_ n6_
                 (try clear hb)
                 (try clear hb2)
                 (try clear hk)
                 (try clear hi)
                 (try clear ho0)
                 obtain ⟨Ao143, co143, eo143⟩ := Kd.S_slice HO_234001.out
                 (first | subst eo143 | (injection eo143 with f1_ f2_ f3_; have f4_ := f1_.symm; have f5_ := f3_.symm; clear f1_ f2_ f3_; subst f4_; subst f5_))
                 obtain ⟨Ao144, co144, eo144⟩ := Kd.R_slice HO_234002.out
                 (first | subst eo144 | (injection eo144 with f1_ f2_ f3_; have f4_ := f1_.symm; have f5_ := f3_.symm; clear f1_ f2_ f3_; subst f4_; subst f5_))
                 obtain ⟨Ao145, co145, eo145⟩ := Kd.R_slice HO250.out
                 (first | subst eo145 | (injection eo145 with f1_ f2_ f3_; have f4_ := f1_.symm; have f5_ := f3_.symm; clear f1_ f2_ f3_; subst f4_; subst f5_))
                 refine hK.out _ _ ⟨(blk_cell BK233.out 0).trans rfl, (blk_cell BK233.out 1).trans rfl, (blk_cell BK233.out 2).trans rfl⟩ (fun hHeld => ?_)
                 clear hK K
                 refine norm_ (a' := ?_) ?_ ?_
                 rotate_left
                 ·
                  show Act.put _ (some 130) _ = _
                  simp only [Act.put, zz6, zz7, zz8, i64_w, i32_w]
                  rfl
                 refine one_ (i := 6) (N := some 133) #[true, true, true, true, true, true, true, false, false, false, false, false, false, false] rfl rfl (one_of HT_.out (by kernel_rfl)) (by decide) (fun K hK => ?_)
                 refine goes_ Try.func9 (by kernel_rfl) rfl #[.agg #[.int .i64 a0_0, .slice Ao143 x234001_3.length co143, .slice Ao144 x234002_3.length co144], .slice Ao145 t248.length co145, .int .i64 (wrap64 (a3))] (by rfl) rfl rfl (by (try simp only [List.map_toArray, List.map_cons, List.map_nil]); first | done | rfl | (simp only [List.length_drop, List.length_take]; rfl)) ?_
                 with_reducible refine (tag_Run.calls k3 a0_0 _ _ x234001_3 _ _ x234002_3 _ _ t248 (wrap64 (a3)) t251 t254 t255 _ ?side1 ?side2 ?side3 ?side4 ?side5 ?side6 A86.out).mono ?_
                 (case side1 => repeat (first | exact (Kd.S_reads' HO_234001.out).2.2 | (with_reducible refine Kd.C_alloc ?_ _) | (with_reducible refine Kd.C_drewN ?_ _) | (with_reducible refine Kd.C_drew ?_)))
                 (case side2 => exact (Kd.S_reads' HO_234001.out).2.1)
                 (case side3 => repeat (first | exact (Kd.R_reads' HO_234002.out).2.2 | (with_reducible refine Kd.C_alloc ?_ _) | (with_reducible refine Kd.C_drewN ?_ _) | (with_reducible refine Kd.C_drew ?_)))
                 (case side4 => exact (Kd.R_reads' HO_234002.out).2.1)
                 (case side5 => repeat (first | exact (Kd.R_reads' HO250.out).2.2 | (with_reducible refine Kd.C_alloc ?_ _) | (with_reducible refine Kd.C_drewN ?_ _) | (with_reducible refine Kd.C_drew ?_)))
                 (case side6 => exact (Kd.R_reads' HO250.out).2.1)
                 rintro e w146 ⟨v252, rfl, ho0, hb⟩
                 refine ⟨_, rfl, ?_⟩
                 have n0_ := zz9 (Kd.S_elder' (by (with_reducible repeat (first | apply zz3 | apply zz4 | apply zz5)); exact HO_234001.out) (Kd.R_base ho0) hb)
                 have n1_ := zz9 (Kd.R_below (by (with_reducible repeat (first | apply zz0 | apply zz1 | apply zz2)); exact HO_234002.out) hb)
                 have n2_ := zz9 (Kd.R_elder' (by (with_reducible repeat (first | apply zz0 | apply zz1 | apply zz2)); exact HO245.out) (Kd.R_base ho0) hb)
                 have n3_ := zz9 (Kd.R_elder' (by (with_reducible repeat (first | apply zz0 | apply zz1 | apply zz2)); exact HO250.out) (Kd.R_base ho0) hb)
                 have n4_ := zz9 (Kd.R_lower (Kd.R_new' (Kd.R_new' ho0 (Kd.R_lt (by (with_reducible repeat (first | apply zz0 | apply zz1 | apply zz2)); exact HO245.out))) (Kd.R_lt (by (with_reducible repeat (first | apply zz0 | apply zz1 | apply zz2)); exact HO250.out))) (below_size (by repeat (first | (with_reducible first | exact HB.out | apply zz11 | apply zz10 | apply zz12 | refine below_set ?_ GE211.out | refine below_set ?_ GE233.out) | exact HB.out))))
                 have n5_ := zz9 (blk_below (g := gb211) (o := .cells #[.int .i64 a0_0, .slice A0_1 l0_1.length c0_1, .slice A0_2 l0_2.length c0_2] 25 (0, 0)) (by (with_reducible repeat (first | refine zz13 ?_ _ | refine zz14 ?_ | refine zz15 ?_ _)); exact BK211.out) hb)
                 have n6_ := zz9 (blk_below (g := gb233) (o := .cells #[.int .i64 a0_0, .slice Ao143 x234001_3.length co143, .slice Ao144 x234002_3.length co144] 25 (0, 0)) (by (with_reducible repeat (first | refine zz13 ?_ _ | refine zz14 ?_ | refine zz15 ?_ _)); exact BK233.out) hb)
                 have n7_ := zz9 (below_step (by repeat (first | (with_reducible first | exact HB.out | apply zz11 | apply zz10 | apply zz12 | refine below_set ?_ GE211.out | refine below_set ?_ GE233.out) | exact HB.out)) hb)
                 clear HO_234001
                 clear HO_234002
                 clear HO245
                 clear HO250
                 clear BK211
                 clear BK233
                 clear HB
                 have HO_234001 := n0_
                 have HO_234002 := n1_
                 have HO245 := n2_
                 have HO250 := n3_
                 have HO253 := n4_
                 have BK211 := n5_
                 have BK233 := n6_
                 have HB := n7_
                 clear n0_ n1_ n2_ n3_ n4_ n5_ n6_ n7_
                 (try clear hb)
                 (try clear hb2)
                 (try clear hk)
                 (try clear hi)
                 (try clear ho0)
                 refine hK.out _ _ ⟨(blk_cell BK233.out 0).trans rfl, (blk_cell BK233.out 1).trans rfl, (blk_cell BK233.out 2).trans rfl⟩ (fun hHeld => ?_)
                 clear hK K
                 refine norm_ (a' := ?_) ?_ ?_
                 rotate_left
                 ·
                  show Act.put _ (some 133) _ = _
                  simp only [Act.put, zz6, zz7, zz8, i64_w, i32_w]
                  rfl
                 refine pure_ (i := 7) (N := some 126) (v := ?_) (a' := ?_) #[true, true, true, true, true, true, true, true, false, false, false, false, false, false] rfl rfl (any_of HT_.out (by kernel_rfl)) (fun _ _ _ h => h) (Or.inl ⟨by rfl, ?_⟩) ?_ ?_
                 rotate_left
                 ·
                  intro w'
                  go_simp
                  with_reducible rfl
                 rotate_left
                 ·
                  simp only [Act.put, zz6, zz7, zz8, i64_w, i32_w]
                  rfl
                 refine pure_ (i := 8) (N := some 134) (v := ?_) (a' := ?_) #[true, true, true, true, true, true, true, true, true, false, false, false, false, false] rfl rfl (any_of HT_.out (by kernel_rfl)) (fun _ _ _ h => h) (Or.inl ⟨by rfl, ?_⟩) ?_ ?_
                 rotate_left
                 ·
                  intro w'
                  go_simp
                  with_reducible rfl
                 rotate_left
                 ·
                  simp only [Act.put, zz6, zz7, zz8, i64_w, i32_w]
                  rfl
                 refine pure_ (i := 9) (N := some 135) (v := ?_) (a' := ?_) #[true, true, true, true, true, true, true, true, true, true, false, false, false, false] rfl rfl (any_of HT_.out (by kernel_rfl)) (fun _ _ _ h => h) (Or.inl ⟨by rfl, ?_⟩) ?_ ?_
                 rotate_left
                 ·
                  intro w'
                  go_simp
                  with_reducible rfl
                 rotate_left
                 ·
                  simp only [Act.put, zz6, zz7, zz8, i64_w, i32_w]
                  rfl
                 refine pure_ (i := 10) (N := some 136) (v := ?_) (a' := ?_) #[true, true, true, true, true, true, true, true, true, true, true, false, false, false] rfl rfl (any_of HT_.out (by kernel_rfl)) (fun _ _ _ h => h) (Or.inl ⟨by rfl, ?_⟩) ?_ ?_
                 rotate_left
                 ·
                  intro w'
                  go_simp
                  with_reducible rfl
                 rotate_left
                 ·
                  simp only [Act.put, zz6, zz7, zz8, i64_w, i32_w]
                  rfl
                 refine pure_ (i := 11) (N := some 16) (v := ?_) (a' := ?_) #[true, true, true, true, true, true, true, true, true, true, true, true, false, false] rfl rfl (any_of HT_.out (by kernel_rfl)) (fun _ _ _ h => h) (Or.inl ⟨by rfl, ?_⟩) ?_ ?_
                 rotate_left
                 ·
                  intro w'
                  go_simp
                  with_reducible rfl
                 rotate_left
                 ·
                  simp only [Act.put, zz6, zz7, zz8, i64_w, i32_w]
                  rfl
                 refine pure_ (i := 12) (N := some 17) (v := ?_) (a' := ?_) #[true, true, true, true, true, true, true, true, true, true, true, true, true, false] rfl rfl (any_of HT_.out (by kernel_rfl)) (fun _ _ _ h => h) (Or.inl ⟨by rfl, ?_⟩) ?_ ?_
                 rotate_left
                 ·
                  intro w'
                  go_simp
                  with_reducible rfl
                 rotate_left
                 ·
                  simp only [Act.put, zz6, zz7, zz8, i64_w, i32_w]
                  rfl
                 refine pure_ (i := 13) (N := some 18) (v := ?_) (a' := ?_) #[true, true, true, true, true, true, true, true, true, true, true, true, true, true] rfl rfl (any_of HT_.out (by kernel_rfl)) (fun _ _ _ h => h) (Or.inl ⟨by rfl, ?_⟩) ?_ ?_
                 rotate_left
                 ·
                  intro w'
                  go_simp
                  with_reducible rfl
                 rotate_left
                 ·
                  simp only [Act.put, zz6, zz7, zz8, i64_w, i32_w]
                  rfl
                 refine done_ (done_of HT_.out (by kernel_rfl)) ?_
                 try go_wp2
                 go_ret
                 exact ⟨by first | rfl | (simp [errW_none, errW_some] <;> rfl) | (simp [*, errW_none, errW_some] <;> rfl), by repeat (first | (with_reducible first | exact HB.out | apply zz11 | apply zz10 | apply zz12 | refine below_set ?_ GE211.out | refine below_set ?_ GE233.out) | exact HB.out)⟩
               ·
                rw [if_neg c87] at H
                have c87b0 : (t247 == t255) = false := beq_eq_false_iff_ne.mpr c87
                have c87b1 : (t247 != t255) = true := bne_iff_ne.mpr c87
                obtain rfl := Option.some.inj H
                have hnb147 := NB211_233.out
                have hnc147 := NB233_211.out
                have hcz148_0 : wr.cell? ⟨gb211, 0, none⟩ = some (.int .i64 a0_0) := (blk_cell BK211.out 0).trans rfl
                have hcz148_1 : wr.cell? ⟨gb211, 1, none⟩ = some (.slice A0_1 l0_1.length c0_1) := (blk_cell BK211.out 1).trans rfl
                have hcz148_2 : wr.cell? ⟨gb211, 2, none⟩ = some (.slice A0_2 l0_2.length c0_2) := (blk_cell BK211.out 2).trans rfl
                have hfz148_0 := blk_frozen BK211.out 0
                have hfz148_1 := blk_frozen BK211.out 1
                have hfz148_2 := blk_frozen BK211.out 2
                try go_wp2_with (first | ((with_reducible refine gate_callee (f := 9) rfl ?_); refine goesL_ (some 122) rfl rfl Try.func9 (by kernel_rfl) rfl #[.agg #[.int .i64 a0_0, .slice A0_1 l0_1.length c0_1, .slice A0_2 l0_2.length c0_2], .slice A1 l1.length c1, .int .i64 (wrap64 (a3))] rfl (by (try simp only [List.map_toArray, List.map_cons, List.map_nil]); first | done | rfl | (simp only [List.length_drop, List.length_take]; rfl)) ?_; (with_reducible refine (tag_Run.calls k3 a0_0 _ _ l0_1 _ _ l0_2 _ _ l1 (wrap64 (a3)) t243 t246 t247 _ ?side1 ?side2 ?side3 ?side4 ?side5 ?side6 A84.out).mono ?_); (case side1 => repeat (first | exact (Kd.C_below HR0_1.out HB.out) | (with_reducible refine Kd.C_alloc ?_ _) | (with_reducible refine Kd.C_drewN ?_ _) | (with_reducible refine Kd.C_drew ?_))); (case side2 => exact HC0_1.out); (case side3 => repeat (first | exact (Kd.C_below HR0_2.out HB.out) | (with_reducible refine Kd.C_alloc ?_ _) | (with_reducible refine Kd.C_drewN ?_ _) | (with_reducible refine Kd.C_drew ?_))); (case side4 => exact HC0_2.out); (case side5 => repeat (first | exact (Kd.C_below HR1.out HB.out) | (with_reducible refine Kd.C_alloc ?_ _) | (with_reducible refine Kd.C_drewN ?_ _) | (with_reducible refine Kd.C_drew ?_))); (case side6 => exact HC1.out); rintro e w149 ⟨v244, rfl, ho0, hb⟩; refine ⟨_, rfl, ?_⟩; have n0_ := zz9 (Kd.S_elder' (by (with_reducible repeat (first | apply zz3 | apply zz4 | apply zz5)); exact HO_234001.out) (Kd.R_base ho0) hb); have n1_ := zz9 (Kd.R_below (by (with_reducible repeat (first | apply zz0 | apply zz1 | apply zz2)); exact HO_234002.out) hb); have n2_ := zz9 (Kd.R_lower ho0 (below_size (by repeat (first | (with_reducible first | exact HB.out | apply zz11 | apply zz10 | apply zz12 | refine below_set ?_ GE211.out | refine below_set ?_ GE233.out) | exact HB.out)))); have n3_ := zz9 (blk_below (g := gb211) (o := .cells #[.int .i64 a0_0, .slice A0_1 l0_1.length c0_1, .slice A0_2 l0_2.length c0_2] 25 (0, 0)) (by (with_reducible repeat (first | refine zz13 ?_ _ | refine zz14 ?_ | refine zz15 ?_ _)); exact BK211.out) hb); have n4_ := zz9 (blk_below (g := gb233) (o := .cells #[.int .i64 a0_0, u234001, u234002] 25 (0, 0)) (by (with_reducible repeat (first | refine zz13 ?_ _ | refine zz14 ?_ | refine zz15 ?_ _)); exact BK233.out) hb); have n5_ := zz9 (below_step (by repeat (first | (with_reducible first | exact HB.out | apply zz11 | apply zz10 | apply zz12 | refine below_set ?_ GE211.out | refine below_set ?_ GE233.out) | exact HB.out)) hb); clear HO_234001; clear HO_234002; clear BK211; clear BK233; clear HB; have HO_234001 := n0_; have HO_234002 := n1_; have HO245 := n2_; have BK211 := n3_; have BK233 := n4_; have HB := n5_; clear n0_ n1_ n2_ n3_ n4_ n5_; (try clear hb); (try clear hb2); (try clear hk); (try clear hi); (try clear ho0)))
                have n0_ := zz9 (zz5 HO_234001.out)
                have n1_ := zz9 (zz2 HO_234002.out)
                have n2_ := zz9 (zz2 HO245.out)
                have n3_ := zz9 (zz14 BK211.out)
                have n4_ := zz9 (zz14 BK233.out)
                have n5_ := zz9 (zz12 HB.out)
                clear HO_234001
                clear HO_234002
                clear HO245
                clear BK211
                clear BK233
                clear HB
                have HO_234001 := n0_
                have HO_234002 := n1_
                have HO245 := n2_
                have BK211 := n3_
                have BK233 := n4_
                have HB := n5_
                clear n0_ n1_ n2_ n3_ n4_ n5_
                refine start_ (n := 14) (S := fun w' => w'.cell? ⟨gb233, 0, none⟩ = some (.int .i64 a0_0) ∧ w'.cell? ⟨gb233, 1, none⟩ = some (u234001) ∧ w'.cell? ⟨gb233, 2, none⟩ = some (u234002)) (ds := []) #[false, false, false, false, false, false, false, false, false, false, false, false, false, false] (by kernel_rfl) rfl rfl ⟨(blk_cell BK233.out 0).trans rfl, (blk_cell BK233.out 1).trans rfl, (blk_cell BK233.out 2).trans rfl⟩ (fun hHeld => ?_); refine with_tabW standstilllaw07_TagNames.tab16 standstilllaw07_TagNames.bits16 (fun HT_ HW_ => ?_)
                generalize w149.drew = w150 at HO_234001 HO_234002 HO245 BK211 BK233 HB hHeld ⊢
                refine pure_ (i := 1) (N := some 128) (v := ?_) (a' := ?_) #[false, true, false, false, false, false, false, false, false, false, false, false, false, false] rfl rfl (any_of HT_.out (by kernel_rfl)) (fun _ _ _ h => h) (Or.inl ⟨by rfl, ?_⟩) ?_ ?_
                rotate_left
                ·
                 intro w'
                 go_simp
                 with_reducible rfl
                rotate_left
                ·
                 simp only [Act.put, zz6, zz7, zz8, i64_w, i32_w]
                 rfl
                refine pure_ (i := 2) (N := some 129) (v := ?_) (a' := ?_) #[false, true, true, false, false, false, false, false, false, false, false, false, false, false] rfl rfl (any_of HT_.out (by kernel_rfl)) (fun _ _ _ h => h) (Or.inl ⟨by rfl, ?_⟩) ?_ ?_
                rotate_left
                ·
                 intro w'
                 go_simp
                 with_reducible rfl
                rotate_left
                ·
                 simp only [Act.put, zz6, zz7, zz8, i64_w, i32_w]
                 rfl
                refine pure_ (i := 4) (N := some 131) (v := ?_) (a' := ?_) #[false, true, true, false, true, false, false, false, false, false, false, false, false, false] rfl rfl (any_of HT_.out (by kernel_rfl)) (fun _ _ _ h => h) (Or.inl ⟨by rfl, ?_⟩) ?_ ?_
                rotate_left
                ·
                 intro w'
                 go_simp
                 with_reducible rfl
                rotate_left
                ·
                 simp only [Act.put, zz6, zz7, zz8, i64_w, i32_w]
                 rfl
                refine pure_ (i := 5) (N := some 132) (v := ?_) (a' := ?_) #[false, true, true, false, true, true, false, false, false, false, false, false, false, false] rfl rfl (any_of HT_.out (by kernel_rfl)) (fun _ _ _ h => h) (Or.inl ⟨by rfl, ?_⟩) ?_ ?_
                rotate_left
                ·
                 intro w'
                 go_simp
                 with_reducible rfl
                rotate_left
                ·
                 simp only [Act.put, zz6, zz7, zz8, i64_w, i32_w]
                 rfl
                refine take_ (i := 0) (N := some 127) (v := ?_) (a' := ?_) #[true, true, true, false, true, true, false, false, false, false, false, false, false, false] rfl rfl (take_ofW HT_.out HW_.out (by kernel_rfl)) (fun _ _ _ h => h) (Or.inl ⟨by rfl, ?_⟩) hHeld ?_ ?_
                rotate_left
                ·
                 rintro w' ⟨s0, s1, s2⟩
                 go_simp
                 with_reducible rfl
                rotate_left
                ·
                 simp only [Act.put, zz6, zz7, zz8, i64_w, i32_w]
                 rfl
                refine one_ (i := 3) (N := some 130) #[true, true, true, true, true, true, false, false, false, false, false, false, false, false] rfl rfl (one_of HT_.out (by kernel_rfl)) (by decide) (fun K hK => ?_)
                refine goes_ Try.func8 (by kernel_rfl) rfl #[.slice A1 l1.length c1, .slice A2 l2.length c2] (by rfl) rfl rfl (by (try simp only [List.map_toArray, List.map_cons, List.map_nil]); first | done | rfl | (simp only [List.length_drop, List.length_take]; rfl)) ?_
                with_reducible refine (standstilllaw07_named.calls k3 _ _ l1 _ _ l2 t248 _ ?side1 ?side2 ?side3 ?side4 A85.out).mono ?_
                (case side1 => repeat (first | exact (Kd.C_below HR1.out HB.out) | (with_reducible refine Kd.C_alloc ?_ _) | (with_reducible refine Kd.C_drewN ?_ _) | (with_reducible refine Kd.C_drew ?_)))
                (case side2 => exact HC1.out)
                (case side3 => repeat (first | exact (Kd.C_below HR2.out HB.out) | (with_reducible refine Kd.C_alloc ?_ _) | (with_reducible refine Kd.C_drewN ?_ _) | (with_reducible refine Kd.C_drew ?_)))
                (case side4 => exact HC2.out)
                rintro e w151 ⟨v249, rfl, ho0, hb⟩
                refine ⟨_, rfl, ?_⟩
                have n0_ := zz9 (Kd.S_elder' (by (with_reducible repeat (first | apply zz3 | apply zz4 | apply zz5)); exact HO_234001.out) (Kd.R_base ho0) hb)
                have n1_ := zz9 (Kd.R_below (by (with_reducible repeat (first | apply zz0 | apply zz1 | apply zz2)); exact HO_234002.out) hb)
                have n2_ := zz9 (Kd.R_elder' (by (with_reducible repeat (first | apply zz0 | apply zz1 | apply zz2)); exact HO245.out) (Kd.R_base ho0) hb)
                have n3_ := zz9 (Kd.R_lower (Kd.R_new' ho0 (Kd.R_lt (by (with_reducible repeat (first | apply zz0 | apply zz1 | apply zz2)); exact HO245.out))) (below_size (by repeat (first | (with_reducible first | exact HB.out | apply zz11 | apply zz10 | apply zz12 | refine below_set ?_ GE211.out | refine below_set ?_ GE233.out) | exact HB.out))))
                have n4_ := zz9 (blk_below (g := gb211) (o := .cells #[.int .i64 a0_0, .slice A0_1 l0_1.length c0_1, .slice A0_2 l0_2.length c0_2] 25 (0, 0)) (by (with_reducible repeat (first | refine zz13 ?_ _ | refine zz14 ?_ | refine zz15 ?_ _)); exact BK211.out) hb)
                have n5_ := zz9 (blk_below (g := gb233) (o := .cells #[.int .i64 a0_0, u234001, u234002] 25 (0, 0)) (by (with_reducible repeat (first | refine zz13 ?_ _ | refine zz14 ?_ | refine zz15 ?_ _)); exact BK233.out) hb)
                have n6_ := zz9 (below_step (by repeat (first | (with_reducible first | exact HB.out | apply zz11 | apply zz10 | apply zz12 | refine below_set ?_ GE211.out | refine below_set ?_ GE233.out) | exact HB.out)) hb)
                clear HO_234001
                clear HO_234002
                clear HO245
                clear BK211
                clear BK233
                clear HB
                have HO_234001 := n0_
                have HO_234002 := n1_
                have HO245 := n2_
                have HO250 := n3_
                have BK211 := n4_
                have BK233 := n5_
                have HB := n6_
                clear n0_ n1_ n2_ n3_ n4_ n5_ n6_
                (try clear hb)
                (try clear hb2)
                (try clear hk)
                (try clear hi)
                (try clear ho0)
                obtain ⟨Ao152, co152, eo152⟩ := Kd.S_slice HO_234001.out
                (first | subst eo152 | (injection eo152 with f1_ f2_ f3_; have f4_ := f1_.symm; have f5_ := f3_.symm; clear f1_ f2_ f3_; subst f4_; subst f5_))
                obtain ⟨Ao153, co153, eo153⟩ := Kd.R_slice HO_234002.out
                (first | subst eo153 | (injection eo153 with f1_ f2_ f3_; have f4_ := f1_.symm; have f5_ := f3_.symm; clear f1_ f2_ f3_; subst f4_; subst f5_))
                obtain ⟨Ao154, co154, eo154⟩ := Kd.R_slice HO250.out
                (first | subst eo154 | (injection eo154 with f1_ f2_ f3_; have f4_ := f1_.symm; have f5_ := f3_.symm; clear f1_ f2_ f3_; subst f4_; subst f5_))
                refine hK.out _ _ ⟨(blk_cell BK233.out 0).trans rfl, (blk_cell BK233.out 1).trans rfl, (blk_cell BK233.out 2).trans rfl⟩ (fun hHeld => ?_)
                clear hK K
                refine norm_ (a' := ?_) ?_ ?_
                rotate_left
                ·
                 show Act.put _ (some 130) _ = _
                 simp only [Act.put, zz6, zz7, zz8, i64_w, i32_w]
                 rfl
                refine one_ (i := 6) (N := some 133) #[true, true, true, true, true, true, true, false, false, false, false, false, false, false] rfl rfl (one_of HT_.out (by kernel_rfl)) (by decide) (fun K hK => ?_)
                refine goes_ Try.func9 (by kernel_rfl) rfl #[.agg #[.int .i64 a0_0, .slice Ao152 x234001_3.length co152, .slice Ao153 x234002_3.length co153], .slice Ao154 t248.length co154, .int .i64 (wrap64 (a3))] (by rfl) rfl rfl (by (try simp only [List.map_toArray, List.map_cons, List.map_nil]); first | done | rfl | (simp only [List.length_drop, List.length_take]; rfl)) ?_
                with_reducible refine (tag_Run.calls k3 a0_0 _ _ x234001_3 _ _ x234002_3 _ _ t248 (wrap64 (a3)) t251 t254 t255 _ ?side1 ?side2 ?side3 ?side4 ?side5 ?side6 A86.out).mono ?_
                (case side1 => repeat (first | exact (Kd.S_reads' HO_234001.out).2.2 | (with_reducible refine Kd.C_alloc ?_ _) | (with_reducible refine Kd.C_drewN ?_ _) | (with_reducible refine Kd.C_drew ?_)))
                (case side2 => exact (Kd.S_reads' HO_234001.out).2.1)
                (case side3 => repeat (first | exact (Kd.R_reads' HO_234002.out).2.2 | (with_reducible refine Kd.C_alloc ?_ _) | (with_reducible refine Kd.C_drewN ?_ _) | (with_reducible refine Kd.C_drew ?_)))
                (case side4 => exact (Kd.R_reads' HO_234002.out).2.1)
                (case side5 => repeat (first | exact (Kd.R_reads' HO250.out).2.2 | (with_reducible refine Kd.C_alloc ?_ _) | (with_reducible refine Kd.C_drewN ?_ _) | (with_reducible refine Kd.C_drew ?_)))
                (case side6 => exact (Kd.R_reads' HO250.out).2.1)
                rintro e w155 ⟨v252, rfl, ho0, hb⟩
                refine ⟨_, rfl, ?_⟩
                have n0_ := zz9 (Kd.S_elder' (by (with_reducible repeat (first | apply zz3 | apply zz4 | apply zz5)); exact HO_234001.out) (Kd.R_base ho0) hb)
                have n1_ := zz9 (Kd.R_below (by (with_reducible repeat (first | apply zz0 | apply zz1 | apply zz2)); exact HO_234002.out) hb)
                have n2_ := zz9 (Kd.R_elder' (by (with_reducible repeat (first | apply zz0 | apply zz1 | apply zz2)); exact HO245.out) (Kd.R_base ho0) hb)
                have n3_ := zz9 (Kd.R_elder' (by (with_reducible repeat (first | apply zz0 | apply zz1 | apply zz2)); exact HO250.out) (Kd.R_base ho0) hb)
                have n4_ := zz9 (Kd.R_lower (Kd.R_new' (Kd.R_new' ho0 (Kd.R_lt (by (with_reducible repeat (first | apply zz0 | apply zz1 | apply zz2)); exact HO245.out))) (Kd.R_lt (by (with_reducible repeat (first | apply zz0 | apply zz1 | apply zz2)); exact HO250.out))) (below_size (by repeat (first | (with_reducible first | exact HB.out | apply zz11 | apply zz10 | apply zz12 | refine below_set ?_ GE211.out | refine below_set ?_ GE233.out) | exact HB.out))))
                have n5_ := zz9 (blk_below (g := gb211) (o := .cells #[.int .i64 a0_0, .slice A0_1 l0_1.length c0_1, .slice A0_2 l0_2.length c0_2] 25 (0, 0)) (by (with_reducible repeat (first | refine zz13 ?_ _ | refine zz14 ?_ | refine zz15 ?_ _)); exact BK211.out) hb)
                have n6_ := zz9 (blk_below (g := gb233) (o := .cells #[.int .i64 a0_0, .slice Ao152 x234001_3.length co152, .slice Ao153 x234002_3.length co153] 25 (0, 0)) (by (with_reducible repeat (first | refine zz13 ?_ _ | refine zz14 ?_ | refine zz15 ?_ _)); exact BK233.out) hb)
                have n7_ := zz9 (below_step (by repeat (first | (with_reducible first | exact HB.out | apply zz11 | apply zz10 | apply zz12 | refine below_set ?_ GE211.out | refine below_set ?_ GE233.out) | exact HB.out)) hb)
                clear HO_234001
                clear HO_234002
                clear HO245
                clear HO250
                clear BK211
                clear BK233
                clear HB
                have HO_234001 := n0_
                have HO_234002 := n1_
                have HO245 := n2_
                have HO250 := n3_
                have HO253 := n4_
                have BK211 := n5_
                have BK233 := n6_
                have HB := n7_
                clear n0_ n1_ n2_ n3_ n4_ n5_ n6_ n7_
                (try clear hb)
                (try clear hb2)
                (try clear hk)
                (try clear hi)
                (try clear ho0)
                refine hK.out _ _ ⟨(blk_cell BK233.out 0).trans rfl, (blk_cell BK233.out 1).trans rfl, (blk_cell BK233.out 2).trans rfl⟩ (fun hHeld => ?_)
                clear hK K
                refine norm_ (a' := ?_) ?_ ?_
                rotate_left
                ·
                 show Act.put _ (some 133) _ = _
                 simp only [Act.put, zz6, zz7, zz8, i64_w, i32_w]
                 rfl
                refine pure_ (i := 7) (N := some 126) (v := ?_) (a' := ?_) #[true, true, true, true, true, true, true, true, false, false, false, false, false, false] rfl rfl (any_of HT_.out (by kernel_rfl)) (fun _ _ _ h => h) (Or.inl ⟨by rfl, ?_⟩) ?_ ?_
                rotate_left
                ·
                 intro w'
                 go_simp
                 with_reducible rfl
                rotate_left
                ·
                 simp only [Act.put, zz6, zz7, zz8, i64_w, i32_w]
                 rfl
                refine pure_ (i := 8) (N := some 134) (v := ?_) (a' := ?_) #[true, true, true, true, true, true, true, true, true, false, false, false, false, false] rfl rfl (any_of HT_.out (by kernel_rfl)) (fun _ _ _ h => h) (Or.inl ⟨by rfl, ?_⟩) ?_ ?_
                rotate_left
                ·
                 intro w'
                 go_simp
                 with_reducible rfl
                rotate_left
                ·
                 simp only [Act.put, zz6, zz7, zz8, i64_w, i32_w]
                 rfl
                refine pure_ (i := 9) (N := some 135) (v := ?_) (a' := ?_) #[true, true, true, true, true, true, true, true, true, true, false, false, false, false] rfl rfl (any_of HT_.out (by kernel_rfl)) (fun _ _ _ h => h) (Or.inl ⟨by rfl, ?_⟩) ?_ ?_
                rotate_left
                ·
                 intro w'
                 go_simp
                 with_reducible rfl
                rotate_left
                ·
                 simp only [Act.put, zz6, zz7, zz8, i64_w, i32_w]
                 rfl
                refine pure_ (i := 10) (N := some 136) (v := ?_) (a' := ?_) #[true, true, true, true, true, true, true, true, true, true, true, false, false, false] rfl rfl (any_of HT_.out (by kernel_rfl)) (fun _ _ _ h => h) (Or.inl ⟨by rfl, ?_⟩) ?_ ?_
                rotate_left
                ·
                 intro w'
                 go_simp
                 with_reducible rfl
                rotate_left
                ·
                 simp only [Act.put, zz6, zz7, zz8, i64_w, i32_w]
                 rfl
                refine pure_ (i := 11) (N := some 16) (v := ?_) (a' := ?_) #[true, true, true, true, true, true, true, true, true, true, true, true, false, false] rfl rfl (any_of HT_.out (by kernel_rfl)) (fun _ _ _ h => h) (Or.inl ⟨by rfl, ?_⟩) ?_ ?_
                rotate_left
                ·
                 intro w'
                 go_simp
                 with_reducible rfl
                rotate_left
                ·
                 simp only [Act.put, zz6, zz7, zz8, i64_w, i32_w]
                 rfl
                refine pure_ (i := 12) (N := some 17) (v := ?_) (a' := ?_) #[true, true, true, true, true, true, true, true, true, true, true, true, true, false] rfl rfl (any_of HT_.out (by kernel_rfl)) (fun _ _ _ h => h) (Or.inl ⟨by rfl, ?_⟩) ?_ ?_
                rotate_left
                ·
                 intro w'
                 go_simp
                 with_reducible rfl
                rotate_left
                ·
                 simp only [Act.put, zz6, zz7, zz8, i64_w, i32_w]
                 rfl
                refine pure_ (i := 13) (N := some 18) (v := ?_) (a' := ?_) #[true, true, true, true, true, true, true, true, true, true, true, true, true, true] rfl rfl (any_of HT_.out (by kernel_rfl)) (fun _ _ _ h => h) (Or.inl ⟨by rfl, ?_⟩) ?_ ?_
                rotate_left
                ·
                 intro w'
                 go_simp
                 with_reducible rfl
                rotate_left
                ·
                 simp only [Act.put, zz6, zz7, zz8, i64_w, i32_w]
                 rfl
                refine done_ (done_of HT_.out (by kernel_rfl)) ?_
                try go_wp2
                go_ret
                exact ⟨by first | rfl | (simp [errW_none, errW_some] <;> rfl) | (simp [*, errW_none, errW_some] <;> rfl), by repeat (first | (with_reducible first | exact HB.out | apply zz11 | apply zz10 | apply zz12 | refine below_set ?_ GE211.out | refine below_set ?_ GE233.out) | exact HB.out)⟩
           ·
            rw [if_neg c50] at H
            exact absurd H (by simp)
          ·
           rw [if_neg c49] at H
           exact absurd H (by simp)
         ·
          rw [if_neg c48] at H
          exact absurd H (by simp)
     ·
      rw [if_neg c26] at H
      exact absurd H (by simp)
    ·
     rw [if_neg c25] at H
     exact absurd H (by simp)

end Go.Proofs.Ytokhlcljpjfpmaa.GN
