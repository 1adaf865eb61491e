/- The functions of one seat as Lean functions, each with its contract: the call of the Go function returns what the Lean function answers. Written by a program of this session out of the translation; contracts made by hand are laid between. -/
import Derived.Test.YtpemcbjdlpajlaaG1x0
import Derived.Test.YtpemcbjdlpajlaaG1x5
import Derived.Test.YtpemcbjdlpajlaaG1x7
import Derived.Test.YtpemcbjdlpajlaaG1x8
namespace Go.Proofs.Ytpemcbjdlpajlaa.G1
open Go.RowKit Go.Proofs.YtpemcbjdlpajlaaW.PrintWords Go.Proofs.YtpemcbjdlpajlaaW.PrintLast Go.Proofs.YtpemcbjdlpajlaaW.PrintMore
attribute [local go_sem] max2_int min2_int max_two min_two max_three min_three max_four min_four   -- for this text's walks alone
set_option linter.unusedVariables false
set_option linter.unusedSimpArgs false

/-! ### leap_Leaps: function 14 -/
mutual
def leap_Leaps.j0 : Nat → Int → Bool → Int → Int → List (List (S37)) → Int → Int → Int → List (S62) → List (S62) → Option (Int × Int × Int × (List (S62)) × (List (S62)) × Int × Int × Bool × Int)
 | 0, _, _, _, _, _, _, _, _, _, _ => none
 | k + 1, x2, x26, x440000, x440001, x440002, x441000, x441001, x441002, x441003, x441004 => if x26 = true then (some (0, 0, 0, ([] : List (S62)), ([] : List (S62)), 0, 0, false, 2)) else ((leap_copied.f x441000 x441001 x441002 x441003 x441004).bind fun bt443 => (leap_Leaps.l0 k x2 0 x2 0 x440000 x440001 x440002 bt443.1 bt443.2.1 bt443.2.2.1 bt443.2.2.2.1 bt443.2.2.2.2))
def leap_Leaps.l0 : Nat → Int → Int → Int → Int → Int → Int → List (List (S37)) → Int → Int → Int → List (S62) → List (S62) → Option (Int × Int × Int × (List (S62)) × (List (S62)) × Int × Int × Bool × Int)
 | 0, _, _, _, _, _, _, _, _, _, _, _, _ => none
 | k + 1, x2, x11, x30, x31, x440000, x440001, x440002, x441000, x441001, x441002, x441003, x441004 => if x31 < x30 then (if x441000 = (-1) then (some (x441000, x441001, x441002, x441003, x441004, x31, x11, false, 0)) else ((leap_leap.f k x440000 x440001 x440002 x441000 x441001 x441002 x441003 x441004).bind fun bt452 => (if bt452.2.2.2.2.2.2 = true then (some (x441000, x441001, x441002, x441003, x441004, x31, x11, true, 0)) else ((leap_fits.f k x440000 x440001 bt452.1 bt452.2.1 bt452.2.2.1 bt452.2.2.2.1 bt452.2.2.2.2.1).bind fun t464 => (if t464 = true then (if (wrap64 (x11 + bt452.2.2.2.2.2.1)) > 1152921504606846976 then (some (0, 0, 0, ([] : List (S62)), ([] : List (S62)), 0, 0, false, 4)) else (leap_Leaps.l0 k x2 (wrap64 (x11 + bt452.2.2.2.2.2.1)) x30 (wrap64 (x31 + 1)) x440000 x440001 x440002 bt452.1 bt452.2.1 bt452.2.2.1 bt452.2.2.2.1 bt452.2.2.2.2.1)) else (some (0, 0, 0, ([] : List (S62)), ([] : List (S62)), 0, 0, false, 4))))))) else (some (x441000, x441001, x441002, x441003, x441004, x2, x11, false, 0))
end
def leap_Leaps.f (k : Nat) (a0_0 : Int) (a0_1 : Int) (l0_2 : List (List (S37))) (a1_0 : Int) (a1_1 : Int) (a1_2 : Int) (l1_3 : List (S62)) (l1_4 : List (S62)) (a2 : Int) : Option (Int × Int × Int × (List (S62)) × (List (S62)) × Int × Int × Bool × Int) := (leap_Fits.f k a0_0 a0_1 l0_2 a1_0 a1_1 a1_2 l1_3 l1_4).bind fun t442 => (if t442 = true then (if a2 < 0 then (leap_Leaps.j0 k a2 true a0_0 a0_1 l0_2 a1_0 a1_1 a1_2 l1_3 l1_4) else (leap_Leaps.j0 k a2 (decide (a2 > 1000000)) a0_0 a0_1 l0_2 a1_0 a1_1 a1_2 l1_3 l1_4)) else (some (0, 0, 0, ([] : List (S62)), ([] : List (S62)), 0, 0, false, 1)))
theorem leap_Leaps.mono_l : ∀ k, (∀ y0 y1 y2 y3 y4 y5 y6 y7 y8 y9, LeO (leap_Leaps.j0 k y0 y1 y2 y3 y4 y5 y6 y7 y8 y9) (leap_Leaps.j0 (k + 1) y0 y1 y2 y3 y4 y5 y6 y7 y8 y9)) ∧ (∀ y0 y1 y2 y3 y4 y5 y6 y7 y8 y9 y10 y11, LeO (leap_Leaps.l0 k y0 y1 y2 y3 y4 y5 y6 y7 y8 y9 y10 y11) (leap_Leaps.l0 (k + 1) y0 y1 y2 y3 y4 y5 y6 y7 y8 y9 y10 y11))
 | 0 => ⟨fun _ _ _ _ _ _ _ _ _ _ r h => by simp [leap_Leaps.j0] at h, fun _ _ _ _ _ _ _ _ _ _ _ _ r h => by simp [leap_Leaps.l0] at h⟩
 | k + 1 => by
  obtain ⟨ih0, ih1⟩ := leap_Leaps.mono_l k
  refine ⟨?_, ?_⟩
  ·
   intro y0 y1 y2 y3 y4 y5 y6 y7 y8 y9
   unfold leap_Leaps.j0
   repeat' first
   | (with_reducible exact ih0 _ _ _ _ _ _ _ _ _ _)
   | (with_reducible exact ih1 _ _ _ _ _ _ _ _ _ _ _ _)
   | (with_reducible exact leap_Fits.mono _ _ _ _ _ _ _ _ _)
   | (with_reducible exact leap_fits.mono _ _ _ _ _ _ _ _)
   | (with_reducible exact leap_leap.mono _ _ _ _ _ _ _ _ _)
   | (with_reducible exact LeO.refl _)
   | (with_reducible exact LeO.none _)
   | (with_reducible refine LeO.ite ?_ ?_)
   | (with_reducible refine LeO.bind ?_ (fun _ => ?_))
   | exact ih0 _ _ _ _ _ _ _ _ _ _
   | exact ih1 _ _ _ _ _ _ _ _ _ _ _ _
   | exact leap_Fits.mono _ _ _ _ _ _ _ _ _
   | exact leap_fits.mono _ _ _ _ _ _ _ _
   | exact leap_leap.mono _ _ _ _ _ _ _ _ _
   | exact LeO.none _
   | refine LeO.ite ?_ ?_
   | refine LeO.bind ?_ (fun _ => ?_)
  ·
   intro y0 y1 y2 y3 y4 y5 y6 y7 y8 y9 y10 y11
   unfold leap_Leaps.l0
   repeat' first
   | (with_reducible exact ih0 _ _ _ _ _ _ _ _ _ _)
   | (with_reducible exact ih1 _ _ _ _ _ _ _ _ _ _ _ _)
   | (with_reducible exact leap_Fits.mono _ _ _ _ _ _ _ _ _)
   | (with_reducible exact leap_fits.mono _ _ _ _ _ _ _ _)
   | (with_reducible exact leap_leap.mono _ _ _ _ _ _ _ _ _)
   | (with_reducible exact LeO.refl _)
   | (with_reducible exact LeO.none _)
   | (with_reducible refine LeO.ite ?_ ?_)
   | (with_reducible refine LeO.bind ?_ (fun _ => ?_))
   | exact ih0 _ _ _ _ _ _ _ _ _ _
   | exact ih1 _ _ _ _ _ _ _ _ _ _ _ _
   | exact leap_Fits.mono _ _ _ _ _ _ _ _ _
   | exact leap_fits.mono _ _ _ _ _ _ _ _
   | exact leap_leap.mono _ _ _ _ _ _ _ _ _
   | exact LeO.none _
   | refine LeO.ite ?_ ?_
   | refine LeO.bind ?_ (fun _ => ?_)
theorem leap_Leaps.mono : ∀ a0 a1 a2 a3 a4 a5 a6 a7 a8 k, LeO (leap_Leaps.f k a0 a1 a2 a3 a4 a5 a6 a7 a8) (leap_Leaps.f (k + 1) a0 a1 a2 a3 a4 a5 a6 a7 a8) := by
 intro a0 a1 a2 a3 a4 a5 a6 a7 a8 k
 obtain ⟨ih0, ih1⟩ := leap_Leaps.mono_l k
 unfold leap_Leaps.f
 repeat' first
   | (with_reducible exact ih0 _ _ _ _ _ _ _ _ _ _)
   | (with_reducible exact ih1 _ _ _ _ _ _ _ _ _ _ _ _)
   | (with_reducible exact leap_Fits.mono _ _ _ _ _ _ _ _ _)
   | (with_reducible exact leap_fits.mono _ _ _ _ _ _ _ _)
   | (with_reducible exact leap_leap.mono _ _ _ _ _ _ _ _ _)
   | (with_reducible exact LeO.refl _)
   | (with_reducible exact LeO.none _)
   | (with_reducible refine LeO.ite ?_ ?_)
   | (with_reducible refine LeO.bind ?_ (fun _ => ?_))
   | exact ih0 _ _ _ _ _ _ _ _ _ _
   | exact ih1 _ _ _ _ _ _ _ _ _ _ _ _
   | exact leap_Fits.mono _ _ _ _ _ _ _ _ _
   | exact leap_fits.mono _ _ _ _ _ _ _ _
   | exact leap_leap.mono _ _ _ _ _ _ _ _ _
   | exact LeO.none _
   | refine LeO.ite ?_ ?_
   | refine LeO.bind ?_ (fun _ => ?_)
set_option maxHeartbeats 8000000 in
set_option maxRecDepth 100000 in
theorem leap_Leaps.calls (k : Nat) (a0_0 : Int) (a0_1 : Int) (A0_2 : Option Addr) (c0_2 : Nat) (l0_2 : List (List (S37))) (a1_0 : Int) (a1_1 : Int) (a1_2 : Int) (A1_3 : Option Addr) (c1_3 : Nat) (l1_3 : List (S62)) (A1_4 : Option Addr) (c1_4 : Nat) (l1_4 : List (S62)) (a2 : Int) (r1 : Int) (r2 : Int) (r3 : Int) (r4 : List (S62)) (r5 : List (S62)) (r6 : Int) (r7 : Int) (r8 : Bool) (r9 : Int) (w : World) (hr0_2 : Kd.C (Kd.slice 37 k37) w A0_2 l0_2.length l0_2) (hc0_2 : l0_2.length ≤ c0_2) (hr1_3 : Kd.C k62 w A1_3 l1_3.length l1_3) (hc1_3 : l1_3.length ≤ c1_3) (hr1_4 : Kd.C k62 w A1_4 l1_4.length l1_4) (hc1_4 : l1_4.length ≤ c1_4) (h : leap_Leaps.f k a0_0 a0_1 l0_2 a1_0 a1_1 a1_2 l1_3 l1_4 a2 = some (r1, r2, r3, r4, r5, r6, r7, r8, r9)) :
  Calls Try.prog 14 #[.agg #[.int .i64 a0_0, .int .i64 a0_1, .slice A0_2 l0_2.length c0_2], .agg #[.int .i64 a1_0, .int .i64 a1_1, .int .i64 a1_2, .slice A1_3 l1_3.length c1_3, .slice A1_4 l1_4.length c1_4], .int .i64 a2] w fun e w' => ∃ v3_ v4_ : Value, e = .returned (.tuple #[.agg #[.int .i64 r1, .int .i64 r2, .int .i64 r3, v3_, v4_], .int .i64 r6, .int .i64 r7, .bool r8, .int .i64 r9]) ∧ Kd.V k62 62 w' w.heap.size (fun k_ => (w.heap.size ≤ k_)) v3_ r4 ∧ Kd.V k62 62 w' w.heap.size (fun k_ => (w.heap.size ≤ k_)) v4_ r5 ∧ Below w.heap.size w w' := by
 have hu24 := Try.underlying24
 have hu27 := Try.underlying27
 have HR0_2 := Aside0.mk hr0_2
 have HC0_2 := Aside0.mk hc0_2
 clear hr0_2 hc0_2
 have HR1_3 := Aside0.mk hr1_3
 have HC1_3 := Aside0.mk hc1_3
 clear hr1_3 hc1_3
 have HR1_4 := Aside0.mk hr1_4
 have HC1_4 := Aside0.mk hc1_4
 clear hr1_4 hc1_4
 have HB := Aside0.mk (Below.refl w.heap.size w)
 have H : ((leap_Fits.f k a0_0 a0_1 l0_2 a1_0 a1_1 a1_2 l1_3 l1_4).bind fun t442 => (if t442 = true then (if a2 < 0 then (leap_Leaps.j0 k a2 true a0_0 a0_1 l0_2 a1_0 a1_1 a1_2 l1_3 l1_4) else (leap_Leaps.j0 k a2 (decide (a2 > 1000000)) a0_0 a0_1 l0_2 a1_0 a1_1 a1_2 l1_3 l1_4)) else (some (0, 0, 0, ([] : List (S62)), ([] : List (S62)), 0, 0, false, 1)))) = some (r1, r2, r3, r4, r5, r6, r7, r8, r9) := h
 clear h
 replace H := Option.bind_eq_some_iff.mp H
 obtain ⟨t442, A40, H⟩ := H
 replace H : (if t442 = true then (if a2 < 0 then (leap_Leaps.j0 k a2 true a0_0 a0_1 l0_2 a1_0 a1_1 a1_2 l1_3 l1_4) else (leap_Leaps.j0 k a2 (decide (a2 > 1000000)) a0_0 a0_1 l0_2 a1_0 a1_1 a1_2 l1_3 l1_4)) else (some (0, 0, 0, ([] : List (S62)), ([] : List (S62)), 0, 0, false, 1))) = some (r1, r2, r3, r4, r5, r6, r7, r8, r9) := H
 have A4 := Aside0.mk A40
 clear A40
 have HC5 := Aside0.mk H
 clear H
 go_enter Try.func14, Try.ntmps14
 go_upto_if 19 with (first | ((with_reducible refine gate_dst (N := 3) rfl ?_); refine box_event ?hg (N := 3) ?hd (cs := #[.int .i64 a0_0, .int .i64 a0_1, .slice A0_2 l0_2.length c0_2]) (t := 24) ?hr ?_; (case hd => rfl); (case hg => rfl); (case hr => first | (go_simp; done) | (go_simp; rfl)); intro gb439 hg w6 hbox hb; have BK439 := Aside0.mk (hbox); have GW439 := Aside0.mk ((by rw [hg]; exact (below_size (zB HB)) : w.heap.size ≤ gb439)); have GE439 := Aside0.mk ((by rw [hg]; exact (below_size (zB HB)) : w.heap.size ≤ gb439)); replace HB := Aside0.mk (below_step (zB HB) hb); clear hb hbox hg) | ((with_reducible refine gate_dst (N := 4) rfl ?_); refine box_event ?hg (N := 4) ?hd (cs := #[.int .i64 a1_0, .int .i64 a1_1, .int .i64 a1_2, .slice A1_3 l1_3.length c1_3, .slice A1_4 l1_4.length c1_4]) (t := 27) ?hr ?_; (case hd => rfl); (case hg => rfl); (case hr => first | (go_simp; done) | (go_simp; rfl)); intro gb440 hg w7 hbox hb; have BK440 := Aside0.mk (hbox); have GW440 := Aside0.mk ((by rw [hg]; exact (below_size (zB HB)) : w.heap.size ≤ gb440)); have GE440 := Aside0.mk ((by rw [hg]; exact (below_size (zB HB)) : w.heap.size ≤ gb440)); have NB439_440 := Aside0.mk ((by rw [hg]; exact Nat.ne_of_lt (zL BK439) : gb439 ≠ gb440)); have NB440_439 := Aside0.mk ((by rw [hg]; exact Nat.ne_of_gt (zL BK439) : gb440 ≠ gb439)); replace BK439 := Aside0.mk (zb BK439 hb); replace HB := Aside0.mk (below_step (zB HB) hb); clear hb hbox hg) | ((with_reducible refine gate_dst (N := 6) rfl ?_); refine box_event ?hg (N := 6) ?hd (cs := #[.int .i64 0, .int .i64 0, .int .i64 0, .slice none 0 0, .slice none 0 0]) (t := 27) ?hr ?_; (case hd => rfl); (case hg => rfl); (case hr => first | (go_simp; done) | (go_simp; rfl)); intro gb441 hg w8 hbox hb; have BK441 := Aside0.mk (hbox); have GW441 := Aside0.mk ((by rw [hg]; exact (below_size (zB HB)) : w.heap.size ≤ gb441)); have GE441 := Aside0.mk ((by rw [hg]; exact (below_size (zB HB)) : w.heap.size ≤ gb441)); have NB439_441 := Aside0.mk ((by rw [hg]; exact Nat.ne_of_lt (zL BK439) : gb439 ≠ gb441)); have NB441_439 := Aside0.mk ((by rw [hg]; exact Nat.ne_of_gt (zL BK439) : gb441 ≠ gb439)); have NB440_441 := Aside0.mk ((by rw [hg]; exact Nat.ne_of_lt (zL BK440) : gb440 ≠ gb441)); have NB441_440 := Aside0.mk ((by rw [hg]; exact Nat.ne_of_gt (zL BK440) : gb441 ≠ gb440)); replace BK439 := Aside0.mk (zb BK439 hb); replace BK440 := Aside0.mk (zb BK440 hb); replace HB := Aside0.mk (below_step (zB HB) hb); clear hb hbox hg; have hnb9 := NB439_440.out; have hnc9 := NB440_439.out; have hnb10 := NB439_441.out; have hnc10 := NB441_439.out; have hz11 := zc3 BK439; have hnb12 := NB440_441.out; have hnc12 := NB441_440.out; have hz13 := zc5 BK440) | ((with_reducible refine gate_callee (f := 23) rfl ?_); refine goesL_ (some 18) rfl rfl Try.func23 (by kernel_rfl) rfl #[.agg #[.int .i64 a0_0, .int .i64 a0_1, .slice A0_2 l0_2.length c0_2], .agg #[.int .i64 a1_0, .int .i64 a1_1, .int .i64 a1_2, .slice A1_3 l1_3.length c1_3, .slice A1_4 l1_4.length c1_4]] rfl (zm) ?_; (with_reducible refine (leap_Fits.calls k a0_0 a0_1 _ _ l0_2 a1_0 a1_1 a1_2 _ _ l1_3 _ _ l1_4 t442 _ ?side1 ?side2 ?side3 ?side4 ?side5 ?side6 A4.out).mono ?_); (case side1 => exact zC ((Kd.C_below HR0_2.out HB.out))); (case side2 => exact HC0_2.out); (case side3 => exact zC ((Kd.C_below HR1_3.out HB.out))); (case side4 => exact HC1_3.out); (case side5 => exact zC ((Kd.C_below HR1_4.out HB.out))); (case side6 => exact HC1_4.out); rintro e w14 ⟨rfl, hb⟩; refine ⟨_, rfl, ?_⟩; replace BK439 := Aside0.mk (zb BK439 hb); replace BK440 := Aside0.mk (zb BK440 hb); replace BK441 := Aside0.mk (zb BK441 hb); replace HB := Aside0.mk (below_step (zB HB) hb); (try clear hb); (try clear hb2); (try clear hk); (try clear hi)))
 (try simp only [Act.put, zs, zs0, zs1])
 have H := HC5.out
 clear HC5
 by_cases c15 : t442 = true
 ·
  subst c15
  have H1 : (if a2 < 0 then (leap_Leaps.j0 k a2 true a0_0 a0_1 l0_2 a1_0 a1_1 a1_2 l1_3 l1_4) else (leap_Leaps.j0 k a2 (decide (a2 > 1000000)) a0_0 a0_1 l0_2 a1_0 a1_1 a1_2 l1_3 l1_4)) = some (r1, r2, r3, r4, r5, r6, r7, r8, r9) := by rw [if_pos rfl] at H; exact H
  clear H
  have H := H1
  clear H1
  have HC16 := Aside0.mk H
  clear H
  go_upto_region 3 with (fail)
  go_cut [26] (fun v26 wc => ∃ (kq : Nat) (x26_15 : Bool), v26 = .bool x26_15 ∧ Aside0 (leap_Leaps.j0 kq a2 x26_15 a0_0 a0_1 l0_2 a1_0 a1_1 a1_2 l1_3 l1_4 = some (r1, r2, r3, r4, r5, r6, r7, r8, r9)) ∧ Aside0 (kq ≤ k) ∧ Aside0 (wc.heap[gb439]? = some (.cells #[.int .i64 a0_0, .int .i64 a0_1, (.slice A0_2 l0_2.length c0_2)] 24 (0, 0))) ∧ Aside0 (wc.heap[gb440]? = some (.cells #[.int .i64 a1_0, .int .i64 a1_1, .int .i64 a1_2, (.slice A1_3 l1_3.length c1_3), (.slice A1_4 l1_4.length c1_4)] 27 (0, 0))) ∧ Aside0 (wc.heap[gb441]? = some (.cells #[.int .i64 0, .int .i64 0, .int .i64 0, (.slice none 0 0), (.slice none 0 0)] 27 (0, 0))) ∧ Aside0 (Below w.heap.size w wc))
  case first =>
   have H := HC16.out
   clear HC16
   by_cases c17 : a2 < 0
   ·
    rw [if_pos c17] at H
    have c17b0 : decide (a2 < 0) = true := decide_eq_true c17
    clear c17
    (first | rw [c17b0] | (simp only [i64_w, i32_w]; rw [c17b0]) | skip)
    (try rw [c17b1])
    have H' := Aside0.mk H
    clear H
    go_wp2
    go_meet
    case rel => exact ⟨_, (true), (by first | rfl | (simp; done) | (simp [*]; done)), H', ⟨by first | omega | exact Nat.le_refl _⟩, ⟨zk BK439⟩, ⟨zk BK440⟩, ⟨zk BK441⟩, ⟨zB HB⟩⟩
   ·
    rw [if_neg c17] at H
    have c17b0 : decide (a2 < 0) = false := decide_eq_false c17
    clear c17
    (first | rw [c17b0] | (simp only [i64_w, i32_w]; rw [c17b0]) | skip)
    (try rw [c17b1])
    have H' := Aside0.mk H
    clear H
    go_wp2
    go_meet
    case rel => exact ⟨_, (decide (a2 > 1000000)), (by first | rfl | (simp; done) | (simp [*]; done)), H', ⟨by first | omega | exact Nat.le_refl _⟩, ⟨zk BK439⟩, ⟨zk BK440⟩, ⟨zk BK441⟩, ⟨zB HB⟩⟩
  case rest =>
   clear HC16
   try clear c1
   try clear c2
   try clear p2
   try clear c9
   try clear c10
   try clear c12
   try clear c14
   try clear c15
   try clear c17
   try clear c17b0
   try clear c17b1
   try clear hz11
   try clear hz13
   obtain ⟨kq, x26_15, rfl, HA, HJ15, BK439, BK440, BK441, HB⟩ := hcut
   cases kq with
   | zero => exact absurd HA.out (by simp [leap_Leaps.j0])
   | succ kj15 =>
    have H := HA.out
    clear HA
    simp only [leap_Leaps.j0] at H
    by_cases c18 : x26_15 = true
    ·
     subst c18
     have H1 : (some (0, 0, 0, ([] : List (S62)), ([] : List (S62)), 0, 0, false, 2)) = some (r1, r2, r3, r4, r5, r6, r7, r8, r9) := by rw [if_pos rfl] at H; exact H
     clear H
     have H := H1
     clear H1
     simp only [Option.some.injEq, Prod.mk.injEq] at H
     obtain ⟨rfl, rfl, rfl, rfl, rfl, rfl, rfl, rfl, rfl⟩ := H
     have hnb19 := NB441_439.out
     have hnc19 := NB439_441.out
     have hnb20 := NB441_440.out
     have hnc20 := NB440_441.out
     have hz21 := zc5 BK441
     go_wp2
     refine bodyPost_ret (results_list (rs := [.cell 6 27, .tmp 7, .tmp 8, .tmp 9, .tmp 10]) rfl (by simp) (.cell gb441 27 #[.int .i64 0, .int .i64 0, .int .i64 0, .slice none 0 0, .slice none 0 0] (0, 0) _ rfl (by (with_reducible repeat (first | refine blk_drewN ?_ _ | refine blk_drew ?_ | refine blk_alloc ?_ _)); refine blk_put (cs := #[.int .i64 0, .int .i64 0, .int .i64 0, .slice none 0 0, .slice none 0 0]) ?_ 4 _ rfl; (with_reducible repeat (first | refine blk_drewN ?_ _ | refine blk_drew ?_ | refine blk_alloc ?_ _)); refine blk_put (cs := #[.int .i64 0, .int .i64 0, .int .i64 0, .slice none 0 0, .slice none 0 0]) ?_ 3 _ rfl; (with_reducible repeat (first | refine blk_drewN ?_ _ | refine blk_drew ?_ | refine blk_alloc ?_ _)); refine blk_put (cs := #[.int .i64 0, .int .i64 0, .int .i64 0, .slice none 0 0, .slice none 0 0]) ?_ 2 _ rfl; (with_reducible repeat (first | refine blk_drewN ?_ _ | refine blk_drew ?_ | refine blk_alloc ?_ _)); refine blk_put (cs := #[.int .i64 0, .int .i64 0, .int .i64 0, .slice none 0 0, .slice none 0 0]) ?_ 1 _ rfl; (with_reducible repeat (first | refine blk_drewN ?_ _ | refine blk_drew ?_ | refine blk_alloc ?_ _)); refine blk_put (cs := #[.int .i64 0, .int .i64 0, .int .i64 0, .slice none 0 0, .slice none 0 0]) ?_ 0 _ rfl; (with_reducible repeat (first | refine blk_drewN ?_ _ | refine blk_drew ?_ | refine blk_alloc ?_ _)); exact BK441.out) Try.underlying27 rfl (by kernel_rfl) (.tmp (.tmp (.tmp (.tmp .nil)))))) rfl ?_
     exact ⟨_, _, by first | rfl | (simp [errW_none, errW_some] <;> rfl) | (simp [*, errW_none, errW_some] <;> rfl), by first | exact Kd.R_nil _ _ _ _ _ | exact Kd.N_nil _ _ _ _ _ | exact Kd.V_nil _ _ _ _ _ | exact Kd.Q_nil _ _ _ _ _ | exact Kd.S_nil _ _ _ _ _, by first | exact Kd.R_nil _ _ _ _ _ | exact Kd.N_nil _ _ _ _ _ | exact Kd.V_nil _ _ _ _ _ | exact Kd.Q_nil _ _ _ _ _ | exact Kd.S_nil _ _ _ _ _, zB HB⟩
    ·
     replace c18 := Bool.eq_false_iff.mpr c18
     subst c18
     have H1 : ((leap_copied.f a1_0 a1_1 a1_2 l1_3 l1_4).bind fun bt443 => (leap_Leaps.l0 kj15 a2 0 a2 0 a0_0 a0_1 l0_2 bt443.1 bt443.2.1 bt443.2.2.1 bt443.2.2.2.1 bt443.2.2.2.2)) = some (r1, r2, r3, r4, r5, r6, r7, r8, r9) := by rw [if_neg (show ¬ (false = true) by decide)] at H; exact H
     clear H
     have H := H1
     clear H1
     replace H := Option.bind_eq_some_iff.mp H
     obtain ⟨⟨t443, t444, t445, t446, t449⟩, A220, H⟩ := H
     replace H : (leap_Leaps.l0 kj15 a2 0 a2 0 a0_0 a0_1 l0_2 t443 t444 t445 t446 t449) = some (r1, r2, r3, r4, r5, r6, r7, r8, r9) := H
     have A22 := Aside0.mk A220
     clear A220
     have H' := Aside0.mk H
     clear H
     have hnb23 := NB440_439.out
     have hnc23 := NB439_440.out
     have hnb24 := NB440_441.out
     have hnc24 := NB441_440.out
     have hz25 := zc5 BK440
     go_wp2_with (first | ((with_reducible refine gate_callee (f := 25) rfl ?_); refine goesL_ (some 29) rfl rfl Try.func25 (by kernel_rfl) rfl #[.agg #[.int .i64 a1_0, .int .i64 a1_1, .int .i64 a1_2, .slice A1_3 l1_3.length c1_3, .slice A1_4 l1_4.length c1_4]] rfl (zm) ?_; (with_reducible refine (leap_copied.calls a1_0 a1_1 a1_2 _ _ l1_3 _ _ l1_4 t443 t444 t445 t446 t449 _ ?side1 ?side2 ?side3 ?side4 A22.out).mono ?_); (case side1 => exact zC ((Kd.C_below HR1_3.out HB.out))); (case side2 => exact HC1_3.out); (case side3 => exact zC ((Kd.C_below HR1_4.out HB.out))); (case side4 => exact HC1_4.out); rintro e w26 ⟨v447, v450, rfl, ho0, ho1, hb⟩; refine ⟨_, rfl, ?_⟩; have HO448 := Aside0.mk (Kd.R_lower (Kd.R_newM (M := fun k_ => (w.heap.size ≤ k_)) ho0 (below_size (zB HB)) (fun k_ h_ => h_)) (below_size (zB HB))); have HO451 := Aside0.mk (Kd.R_lower (Kd.R_newM (M := fun k_ => (w.heap.size ≤ k_)) ho1 (below_size (zB HB)) (fun k_ h_ => h_)) (below_size (zB HB))); replace BK439 := Aside0.mk (zb BK439 hb); replace BK440 := Aside0.mk (zb BK440 hb); replace BK441 := Aside0.mk (zb BK441 hb); replace HB := Aside0.mk (below_step (zB HB) hb); (try clear hb); (try clear hb2); (try clear hk); (try clear hi); (try clear ho0); (try clear ho1); have hz27 := zc5 BK440; obtain ⟨Ao28, co28, eo28⟩ := Kd.R_slice HO448.out; subst eo28; obtain ⟨Ao29, co29, eo29⟩ := Kd.R_slice HO451.out; subst eo29))
     go_loopg [11, 31] kj15 (fun kq v11 v31 w' => ∃ (x11_2 : Int) (x31_2 : Int) (x441000_2 : Int) (x441001_2 : Int) (x441002_2 : Int) (x441003_2 : List (S62)) (x441004_2 : List (S62)) (x442000_2 : Int) (x442001_2 : Int) (x442002_2 : Int) (u441003 : Value) (u441004 : Value), v11 = .int .i64 x11_2 ∧ v31 = .int .i64 x31_2 ∧ Aside0 (leap_Leaps.l0 kq a2 x11_2 a2 x31_2 a0_0 a0_1 l0_2 x441000_2 x441001_2 x441002_2 x441003_2 x441004_2 = some (r1, r2, r3, r4, r5, r6, r7, r8, r9)) ∧ Aside0 (kq ≤ kj15) ∧ Aside0 (Kd.V k62 62 w' w.heap.size (fun k_ => (w.heap.size ≤ k_) ∧ k_ ≠ gb439 ∧ k_ ≠ gb440 ∧ k_ ≠ gb441) u441003 x441003_2) ∧ Aside0 (Kd.V k62 62 w' w.heap.size (fun k_ => (w.heap.size ≤ k_) ∧ k_ ≠ gb439 ∧ k_ ≠ gb440 ∧ k_ ≠ gb441) u441004 x441004_2) ∧ Aside0 (w'.heap[gb439]? = some (.cells #[.int .i64 a0_0, .int .i64 a0_1, (.slice A0_2 l0_2.length c0_2)] 24 (0, 0))) ∧ Aside0 (w'.heap[gb440]? = some (.cells #[.int .i64 x441000_2, .int .i64 x441001_2, .int .i64 x441002_2, u441003, u441004] 27 (0, 0))) ∧ Aside0 (w'.heap[gb441]? = some (.cells #[.int .i64 x442000_2, .int .i64 x442001_2, .int .i64 x442002_2, (.slice none 0 0), (.slice none 0 0)] 27 (0, 0))) ∧ Aside0 (Below w.heap.size w w'))
     case atStart => exact ⟨(0), (0), (t443), (t444), (t445), (t446), (t449), (0), (0), (0), (.slice Ao28 t446.length co28), (.slice Ao29 t449.length co29), (by first | rfl | (simp; done) | (simp [*]; done)), (by first | rfl | (simp; done) | (simp [*]; done)), H', ⟨Nat.le_refl _⟩, ⟨Kd.R_V (by (with_reducible repeat (first | apply Kd.R_alloc | apply Kd.R_drewN | apply Kd.R_drew)); exact Kd.R_mono (zRf5 (g := gb440) (Kd.R_types (Kd.R_types (Kd.R_types (Kd.R_types HO448.out BK439.out (by decide)) BK440.out (by decide)) BK441.out (by decide)) BK440.out (by decide))) (fun _ hk => ⟨hk.1.1.1.1.1, ⟨hk.1.1.1.2, ⟨hk.1.1.2, hk.1.2⟩⟩⟩))⟩, ⟨Kd.R_V (by (with_reducible repeat (first | apply Kd.R_alloc | apply Kd.R_drewN | apply Kd.R_drew)); exact Kd.R_mono (zRf5 (g := gb440) (Kd.R_types (Kd.R_types (Kd.R_types (Kd.R_types HO451.out BK439.out (by decide)) BK440.out (by decide)) BK441.out (by decide)) BK440.out (by decide))) (fun _ hk => ⟨hk.1.1.1.1.1, ⟨hk.1.1.1.2, ⟨hk.1.1.2, hk.1.2⟩⟩⟩))⟩, ⟨zK BK439⟩, ⟨by (with_reducible repeat (first | refine blk_drewN ?_ _ | refine blk_drew ?_ | refine blk_alloc ?_ _)); refine blk_put (cs := #[.int .i64 t443, .int .i64 t444, .int .i64 t445, .slice Ao28 t446.length co28, .slice A1_4 l1_4.length c1_4]) ?_ 4 _ rfl; (with_reducible repeat (first | refine blk_drewN ?_ _ | refine blk_drew ?_ | refine blk_alloc ?_ _)); refine blk_put (cs := #[.int .i64 t443, .int .i64 t444, .int .i64 t445, .slice A1_3 l1_3.length c1_3, .slice A1_4 l1_4.length c1_4]) ?_ 3 _ rfl; (with_reducible repeat (first | refine blk_drewN ?_ _ | refine blk_drew ?_ | refine blk_alloc ?_ _)); refine blk_put (cs := #[.int .i64 t443, .int .i64 t444, .int .i64 a1_2, .slice A1_3 l1_3.length c1_3, .slice A1_4 l1_4.length c1_4]) ?_ 2 _ rfl; (with_reducible repeat (first | refine blk_drewN ?_ _ | refine blk_drew ?_ | refine blk_alloc ?_ _)); refine blk_put (cs := #[.int .i64 t443, .int .i64 a1_1, .int .i64 a1_2, .slice A1_3 l1_3.length c1_3, .slice A1_4 l1_4.length c1_4]) ?_ 1 _ rfl; (with_reducible repeat (first | refine blk_drewN ?_ _ | refine blk_drew ?_ | refine blk_alloc ?_ _)); refine blk_put (cs := #[.int .i64 a1_0, .int .i64 a1_1, .int .i64 a1_2, .slice A1_3 l1_3.length c1_3, .slice A1_4 l1_4.length c1_4]) ?_ 0 _ rfl; (with_reducible repeat (first | refine blk_drewN ?_ _ | refine blk_drew ?_ | refine blk_alloc ?_ _)); exact BK440.out⟩, ⟨zK BK441⟩, ⟨zB HB⟩⟩
     case round =>
      clear H'
      try clear c1
      try clear c2
      try clear p2
      try clear c9
      try clear c10
      try clear c12
      try clear c14
      try clear c15
      try clear c17
      try clear c17b0
      try clear c17b1
      try clear c18
      try clear c19
      try clear c20
      try clear c23
      try clear c24
      try clear c25
      try clear hz11
      try clear hz13
      try clear hz21
      try clear hz25
      try clear hz27
      try clear p2
      obtain ⟨x11_2, x31_2, x441000_2, x441001_2, x441002_2, x441003_2, x441004_2, x442000_2, x442001_2, x442002_2, u441003, u441004, rfl, rfl, HA, HK2, HO_441003, HO_441004, BK439, BK440, BK441, HB⟩ := hrel
      cases gk with
      | zero => exact absurd HA.out (by simp [leap_Leaps.l0])
      | succ k2 =>
       have H := HA.out
       clear HA
       simp only [leap_Leaps.l0] at H
       by_cases c30 : x31_2 < a2
       ·
        rw [if_pos c30] at H
        have c30b0 : decide (x31_2 < a2) = true := decide_eq_true c30
        clear c30
        by_cases c31 : x441000_2 = (-1)
        ·
         rw [if_pos c31] at H
         have c31b0 : (x441000_2 == (-1)) = true := beq_iff_eq.mpr c31
         have c31b1 : (x441000_2 != (-1)) = false := bne_eq_false_iff_eq.mpr c31
         clear c31
         simp only [Option.some.injEq, Prod.mk.injEq] at H
         obtain ⟨rfl, rfl, rfl, rfl, rfl, rfl, rfl, rfl, rfl⟩ := H
         have hnb32 := NB440_439.out
         have hnc32 := NB439_440.out
         have hnb33 := NB440_441.out
         have hnc33 := NB441_440.out
         have hz34 := zc5 BK440
         have hnb35 := NB441_439.out
         have hnc35 := NB439_441.out
         have hz36 := zc5 BK441
         obtain ⟨Ao37, co37, eo37⟩ := Kd.V_slice HO_441003.out
         subst eo37
         obtain ⟨Ao38, co38, eo38⟩ := Kd.V_slice HO_441004.out
         subst eo38
         go_wp2
         refine bodyPost_ret (results_list (rs := [.cell 6 27, .tmp 7, .tmp 8, .tmp 9, .tmp 10]) rfl (by simp) (.cell gb441 27 #[.int .i64 x441000_2, .int .i64 x441001_2, .int .i64 x441002_2, .slice Ao37 x441003_2.length co37, .slice Ao38 x441004_2.length co38] (0, 0) _ rfl (by (with_reducible repeat (first | refine blk_drewN ?_ _ | refine blk_drew ?_ | refine blk_alloc ?_ _)); refine blk_put (cs := #[.int .i64 x441000_2, .int .i64 x441001_2, .int .i64 x441002_2, .slice Ao37 x441003_2.length co37, .slice none 0 0]) ?_ 4 _ rfl; (with_reducible repeat (first | refine blk_drewN ?_ _ | refine blk_drew ?_ | refine blk_alloc ?_ _)); refine blk_put (cs := #[.int .i64 x441000_2, .int .i64 x441001_2, .int .i64 x441002_2, .slice none 0 0, .slice none 0 0]) ?_ 3 _ rfl; (with_reducible repeat (first | refine blk_drewN ?_ _ | refine blk_drew ?_ | refine blk_alloc ?_ _)); refine blk_put (cs := #[.int .i64 x441000_2, .int .i64 x441001_2, .int .i64 x442002_2, .slice none 0 0, .slice none 0 0]) ?_ 2 _ rfl; (with_reducible repeat (first | refine blk_drewN ?_ _ | refine blk_drew ?_ | refine blk_alloc ?_ _)); refine blk_put (cs := #[.int .i64 x441000_2, .int .i64 x442001_2, .int .i64 x442002_2, .slice none 0 0, .slice none 0 0]) ?_ 1 _ rfl; (with_reducible repeat (first | refine blk_drewN ?_ _ | refine blk_drew ?_ | refine blk_alloc ?_ _)); refine blk_put (cs := #[.int .i64 x442000_2, .int .i64 x442001_2, .int .i64 x442002_2, .slice none 0 0, .slice none 0 0]) ?_ 0 _ rfl; (with_reducible repeat (first | refine blk_drewN ?_ _ | refine blk_drew ?_ | refine blk_alloc ?_ _)); exact BK441.out) Try.underlying27 rfl (by kernel_rfl) (.tmp (.tmp (.tmp (.tmp .nil)))))) rfl ?_
         exact ⟨_, _, by first | rfl | (simp [errW_none, errW_some] <;> rfl) | (simp [*, errW_none, errW_some] <;> rfl), by (with_reducible repeat (first | apply Kd.V_alloc | apply Kd.V_drewN | apply Kd.V_drew)); exact Kd.V_mono (zVf5 (g := gb441) (Kd.V_mono HO_441003.out (fun k_ hk => (⟨hk, hk.2.2.2⟩ : _ ∧ k_ ≠ gb441)))) (fun _ hk => hk.1.1), by (with_reducible repeat (first | apply Kd.V_alloc | apply Kd.V_drewN | apply Kd.V_drew)); exact Kd.V_mono (zVf5 (g := gb441) (Kd.V_mono HO_441004.out (fun k_ hk => (⟨hk, hk.2.2.2⟩ : _ ∧ k_ ≠ gb441)))) (fun _ hk => hk.1.1), zB HB⟩
        ·
         rw [if_neg c31] at H
         have c31b0 : (x441000_2 == (-1)) = false := beq_eq_false_iff_ne.mpr c31
         have c31b1 : (x441000_2 != (-1)) = true := bne_iff_ne.mpr c31
         replace H := Option.bind_eq_some_iff.mp H
         obtain ⟨⟨t452, t453, t454, t455, t458, t461, t462⟩, A390, H⟩ := H
         replace H : (if t462 = true then (some (x441000_2, x441001_2, x441002_2, x441003_2, x441004_2, x31_2, x11_2, true, 0)) else ((leap_fits.f k2 a0_0 a0_1 t452 t453 t454 t455 t458).bind fun t464 => (if t464 = true then (if (wrap64 (x11_2 + t461)) > 1152921504606846976 then (some (0, 0, 0, ([] : List (S62)), ([] : List (S62)), 0, 0, false, 4)) else (leap_Leaps.l0 k2 a2 (wrap64 (x11_2 + t461)) a2 (wrap64 (x31_2 + 1)) a0_0 a0_1 l0_2 t452 t453 t454 t455 t458)) else (some (0, 0, 0, ([] : List (S62)), ([] : List (S62)), 0, 0, false, 4))))) = some (r1, r2, r3, r4, r5, r6, r7, r8, r9) := H
         have A39 := Aside0.mk A390
         clear A390
         have HC40 := Aside0.mk H
         clear H
         have hnb41 := NB440_439.out
         have hnc41 := NB439_440.out
         have hnb42 := NB440_441.out
         have hnc42 := NB441_440.out
         have hz43 := zc5 BK440
         have hnb44 := NB439_441.out
         have hnc44 := NB441_439.out
         have hz45 := zc3 BK439
         obtain ⟨Ao46, co46, eo46⟩ := Kd.V_slice HO_441003.out
         subst eo46
         obtain ⟨Ao47, co47, eo47⟩ := Kd.V_slice HO_441004.out
         subst eo47
         go_upto_if 47 with (first | ((with_reducible refine gate_callee (f := 24) rfl ?_); refine goesL_ (some 43) rfl rfl Try.func24 (by kernel_rfl) rfl #[.agg #[.int .i64 a0_0, .int .i64 a0_1, .slice A0_2 l0_2.length c0_2], .agg #[.int .i64 x441000_2, .int .i64 x441001_2, .int .i64 x441002_2, .slice Ao46 x441003_2.length co46, .slice Ao47 x441004_2.length co47]] rfl (zm) ?_; (with_reducible refine (leap_leap.calls k2 a0_0 a0_1 _ _ l0_2 x441000_2 x441001_2 x441002_2 (fun k_ => ((w.heap.size ≤ k_) ∧ (k_ ≠ gb439 ∧ (k_ ≠ gb440 ∧ k_ ≠ gb441)))) _ _ x441003_2 (fun k_ => ((w.heap.size ≤ k_) ∧ (k_ ≠ gb439 ∧ (k_ ≠ gb440 ∧ k_ ≠ gb441)))) _ _ x441004_2 t452 t453 t454 t455 t458 t461 t462 _ ?side1 ?side2 ?side3 ?side4 A39.out).mono ?_); (case side1 => exact zC ((Kd.C_below HR0_2.out HB.out))); (case side2 => exact HC0_2.out); (case side3 => exact HO_441003.out); (case side4 => exact HO_441004.out); rintro e w48 ⟨v456, v459, rfl, ho0, ho1, hb⟩; refine ⟨_, rfl, ?_⟩; have HO457 := Aside0.mk (Kd.V_lower (Kd.V_mono (ok' := fun k_ => (w.heap.size ≤ k_) ∧ k_ ≠ gb439 ∧ k_ ≠ gb440 ∧ k_ ≠ gb441) ho0 (fun k_ hk_ => ⟨Or.elim hk_ (fun hs_ => Or.elim hs_ (fun hs_ => hs_.1) (fun hs_ => hs_.1)) (fun hn_ => (Nat.le_trans (below_size (zB HB)) hn_)), Or.elim hk_ (fun hs_ => Or.elim hs_ (fun hs_ => hs_.2.1) (fun hs_ => hs_.2.1)) (fun hn_ => zf BK439 hn_), Or.elim hk_ (fun hs_ => Or.elim hs_ (fun hs_ => hs_.2.2.1) (fun hs_ => hs_.2.2.1)) (fun hn_ => zf BK440 hn_), Or.elim hk_ (fun hs_ => Or.elim hs_ (fun hs_ => hs_.2.2.2) (fun hs_ => hs_.2.2.2)) (fun hn_ => zf BK441 hn_)⟩)) (below_size (zB HB))); have HO460 := Aside0.mk (Kd.V_lower (Kd.V_mono (ok' := fun k_ => (w.heap.size ≤ k_) ∧ k_ ≠ gb439 ∧ k_ ≠ gb440 ∧ k_ ≠ gb441) ho1 (fun k_ hk_ => ⟨Or.elim hk_ (fun hs_ => Or.elim hs_ (fun hs_ => hs_.1) (fun hs_ => hs_.1)) (fun hn_ => (Nat.le_trans (below_size (zB HB)) hn_)), Or.elim hk_ (fun hs_ => Or.elim hs_ (fun hs_ => hs_.2.1) (fun hs_ => hs_.2.1)) (fun hn_ => zf BK439 hn_), Or.elim hk_ (fun hs_ => Or.elim hs_ (fun hs_ => hs_.2.2.1) (fun hs_ => hs_.2.2.1)) (fun hn_ => zf BK440 hn_), Or.elim hk_ (fun hs_ => Or.elim hs_ (fun hs_ => hs_.2.2.2) (fun hs_ => hs_.2.2.2)) (fun hn_ => zf BK441 hn_)⟩)) (below_size (zB HB))); replace HO_441003 := Aside0.mk (zVb HO_441003 hb); replace HO_441004 := Aside0.mk (zVb HO_441004 hb); replace BK439 := Aside0.mk (zb BK439 hb); replace BK440 := Aside0.mk (zb BK440 hb); replace BK441 := Aside0.mk (zb BK441 hb); replace HB := Aside0.mk (below_step (zB HB) hb); (try clear hb); (try clear hb2); (try clear hk); (try clear hi); (try clear ho0); (try clear ho1)) | ((with_reducible refine gate_dst (N := 13) rfl ?_); refine box_event ?hg (N := 13) ?hd (cs := #[.int .i64 0, .int .i64 0, .int .i64 0, .slice none 0 0, .slice none 0 0]) (t := 27) ?hr ?_; (case hd => rfl); (case hg => rfl); (case hr => first | (go_simp; done) | (go_simp; rfl)); intro gb463 hg w49 hbox hb; have BK463 := Aside0.mk (hbox); have GW463 := Aside0.mk ((by rw [hg]; exact (below_size (zB HB)) : w.heap.size ≤ gb463)); have GE463 := Aside0.mk ((by rw [hg]; exact (below_size (zB HB)) : w.heap.size ≤ gb463)); have NB439_463 := Aside0.mk ((by rw [hg]; exact Nat.ne_of_lt (zL BK439) : gb439 ≠ gb463)); have NB463_439 := Aside0.mk ((by rw [hg]; exact Nat.ne_of_gt (zL BK439) : gb463 ≠ gb439)); have NB440_463 := Aside0.mk ((by rw [hg]; exact Nat.ne_of_lt (zL BK440) : gb440 ≠ gb463)); have NB463_440 := Aside0.mk ((by rw [hg]; exact Nat.ne_of_gt (zL BK440) : gb463 ≠ gb440)); have NB441_463 := Aside0.mk ((by rw [hg]; exact Nat.ne_of_lt (zL BK441) : gb441 ≠ gb463)); have NB463_441 := Aside0.mk ((by rw [hg]; exact Nat.ne_of_gt (zL BK441) : gb463 ≠ gb441)); replace HO_441003 := Aside0.mk (Kd.V_below (Kd.V_elderB (zV HO_441003) gb463 (Nat.le_of_eq hg.symm)) hb); replace HO_441004 := Aside0.mk (Kd.V_below (Kd.V_elderB (zV HO_441004) gb463 (Nat.le_of_eq hg.symm)) hb); replace HO457 := Aside0.mk (Kd.V_below (Kd.V_elderB (zV HO457) gb463 (Nat.le_of_eq hg.symm)) hb); replace HO460 := Aside0.mk (Kd.V_below (Kd.V_elderB (zV HO460) gb463 (Nat.le_of_eq hg.symm)) hb); replace BK439 := Aside0.mk (zb BK439 hb); replace BK440 := Aside0.mk (zb BK440 hb); replace BK441 := Aside0.mk (zb BK441 hb); replace HB := Aside0.mk (below_step (zB HB) hb); clear hb hbox hg; have hnb50 := NB463_439.out; have hnc50 := NB439_463.out; have hnb51 := NB463_440.out; have hnc51 := NB440_463.out; have hnb52 := NB463_441.out; have hnc52 := NB441_463.out; have hz53 := zc5 BK463; obtain ⟨Ao54, co54, eo54⟩ := Kd.V_slice HO457.out; subst eo54; obtain ⟨Ao55, co55, eo55⟩ := Kd.V_slice HO460.out; subst eo55) | ((with_reducible refine gate_store (t := 27) (p := 13) rfl ?_); refine store_event (t := 27) (p := 13) (v := ?vo_w56) (w1 := (((((w49.setCell ⟨gb463, 0, none⟩ (.int .i64 t452)).setCell ⟨gb463, 1, none⟩ (.int .i64 t453)).setCell ⟨gb463, 2, none⟩ (.int .i64 t454)).setCell ⟨gb463, 3, none⟩ (.slice Ao54 t455.length co54)).setCell ⟨gb463, 4, none⟩ (.slice Ao55 t458.length co55))) ?hg ?ho ?hn ?hr ?_; (case ho => rfl); (case hg => rfl); (case hn => rfl); (case hr => first | (go_simp; done) | (go_simp; rfl)); intro w56 hw; have n0_ : Aside0 (Kd.V k62 62 w56 w.heap.size (fun k_ => (w.heap.size ≤ k_) ∧ k_ ≠ gb439 ∧ k_ ≠ gb440 ∧ k_ ≠ gb441 ∧ k_ ≠ gb463) (.slice Ao46 x441003_2.length co46) x441003_2) := ⟨(by rw [hw]; exact (by (with_reducible repeat (first | apply Kd.V_alloc | apply Kd.V_drewN | apply Kd.V_drew)); exact Kd.V_mono (zVf5 (g := gb463) (Kd.V_mono HO_441003.out (fun k_ hk => (⟨hk, hk.2⟩ : _ ∧ k_ ≠ gb463)))) (fun _ hk => ⟨hk.1.1.1, ⟨hk.1.1.2.1, ⟨hk.1.1.2.2.1, ⟨hk.1.1.2.2.2, hk.1.2⟩⟩⟩⟩)))⟩; have n1_ : Aside0 (Kd.V k62 62 w56 w.heap.size (fun k_ => (w.heap.size ≤ k_) ∧ k_ ≠ gb439 ∧ k_ ≠ gb440 ∧ k_ ≠ gb441 ∧ k_ ≠ gb463) (.slice Ao47 x441004_2.length co47) x441004_2) := ⟨(by rw [hw]; exact (by (with_reducible repeat (first | apply Kd.V_alloc | apply Kd.V_drewN | apply Kd.V_drew)); exact Kd.V_mono (zVf5 (g := gb463) (Kd.V_mono HO_441004.out (fun k_ hk => (⟨hk, hk.2⟩ : _ ∧ k_ ≠ gb463)))) (fun _ hk => ⟨hk.1.1.1, ⟨hk.1.1.2.1, ⟨hk.1.1.2.2.1, ⟨hk.1.1.2.2.2, hk.1.2⟩⟩⟩⟩)))⟩; have n2_ : Aside0 (Kd.V k62 62 w56 w.heap.size (fun k_ => (w.heap.size ≤ k_) ∧ k_ ≠ gb439 ∧ k_ ≠ gb440 ∧ k_ ≠ gb441 ∧ k_ ≠ gb463) (.slice Ao54 t455.length co54) t455) := ⟨(by rw [hw]; exact (by (with_reducible repeat (first | apply Kd.V_alloc | apply Kd.V_drewN | apply Kd.V_drew)); exact Kd.V_mono (zVf5 (g := gb463) (Kd.V_mono HO457.out (fun k_ hk => (⟨hk, hk.2⟩ : _ ∧ k_ ≠ gb463)))) (fun _ hk => ⟨hk.1.1.1, ⟨hk.1.1.2.1, ⟨hk.1.1.2.2.1, ⟨hk.1.1.2.2.2, hk.1.2⟩⟩⟩⟩)))⟩; have n3_ : Aside0 (Kd.V k62 62 w56 w.heap.size (fun k_ => (w.heap.size ≤ k_) ∧ k_ ≠ gb439 ∧ k_ ≠ gb440 ∧ k_ ≠ gb441 ∧ k_ ≠ gb463) (.slice Ao55 t458.length co55) t458) := ⟨(by rw [hw]; exact (by (with_reducible repeat (first | apply Kd.V_alloc | apply Kd.V_drewN | apply Kd.V_drew)); exact Kd.V_mono (zVf5 (g := gb463) (Kd.V_mono HO460.out (fun k_ hk => (⟨hk, hk.2⟩ : _ ∧ k_ ≠ gb463)))) (fun _ hk => ⟨hk.1.1.1, ⟨hk.1.1.2.1, ⟨hk.1.1.2.2.1, ⟨hk.1.1.2.2.2, hk.1.2⟩⟩⟩⟩)))⟩; have n4_ : Aside0 (w56.heap[gb439]? = some (.cells #[.int .i64 a0_0, .int .i64 a0_1, .slice A0_2 l0_2.length c0_2] 24 (0, 0))) := ⟨(by rw [hw]; exact (zK BK439))⟩; have n5_ : Aside0 (w56.heap[gb440]? = some (.cells #[.int .i64 x441000_2, .int .i64 x441001_2, .int .i64 x441002_2, .slice Ao46 x441003_2.length co46, .slice Ao47 x441004_2.length co47] 27 (0, 0))) := ⟨(by rw [hw]; exact (zK BK440))⟩; have n6_ : Aside0 (w56.heap[gb441]? = some (.cells #[.int .i64 x442000_2, .int .i64 x442001_2, .int .i64 x442002_2, .slice none 0 0, .slice none 0 0] 27 (0, 0))) := ⟨(by rw [hw]; exact (zK BK441))⟩; have n7_ : Aside0 (w56.heap[gb463]? = some (.cells #[.int .i64 t452, .int .i64 t453, .int .i64 t454, .slice Ao54 t455.length co54, .slice Ao55 t458.length co55] 27 (0, 0))) := ⟨(by rw [hw]; exact (by (with_reducible repeat (first | refine blk_drewN ?_ _ | refine blk_drew ?_ | refine blk_alloc ?_ _)); refine blk_put (cs := #[.int .i64 t452, .int .i64 t453, .int .i64 t454, .slice Ao54 t455.length co54, .slice none 0 0]) ?_ 4 _ rfl; (with_reducible repeat (first | refine blk_drewN ?_ _ | refine blk_drew ?_ | refine blk_alloc ?_ _)); refine blk_put (cs := #[.int .i64 t452, .int .i64 t453, .int .i64 t454, .slice none 0 0, .slice none 0 0]) ?_ 3 _ rfl; (with_reducible repeat (first | refine blk_drewN ?_ _ | refine blk_drew ?_ | refine blk_alloc ?_ _)); refine blk_put (cs := #[.int .i64 t452, .int .i64 t453, .int .i64 0, .slice none 0 0, .slice none 0 0]) ?_ 2 _ rfl; (with_reducible repeat (first | refine blk_drewN ?_ _ | refine blk_drew ?_ | refine blk_alloc ?_ _)); refine blk_put (cs := #[.int .i64 t452, .int .i64 0, .int .i64 0, .slice none 0 0, .slice none 0 0]) ?_ 1 _ rfl; (with_reducible repeat (first | refine blk_drewN ?_ _ | refine blk_drew ?_ | refine blk_alloc ?_ _)); refine blk_put (cs := #[.int .i64 0, .int .i64 0, .int .i64 0, .slice none 0 0, .slice none 0 0]) ?_ 0 _ rfl; (with_reducible repeat (first | refine blk_drewN ?_ _ | refine blk_drew ?_ | refine blk_alloc ?_ _)); exact BK463.out))⟩; have n8_ : Aside0 (Below w.heap.size w w56) := ⟨(by rw [hw]; exact (zB HB))⟩; clear hw; clear HO_441003; clear HO_441004; clear HO457; clear HO460; clear BK439; clear BK440; clear BK441; clear BK463; clear HB; have HO_441003 := n0_; have HO_441004 := n1_; have HO457 := n2_; have HO460 := n3_; have BK439 := n4_; have BK440 := n5_; have BK441 := n6_; have BK463 := n7_; have HB := n8_; clear n0_ n1_ n2_ n3_ n4_ n5_ n6_ n7_ n8_))
         (try simp only [Act.put, zs, zs0, zs1])
         have H := HC40.out
         clear HC40
         by_cases c57 : t462 = true
         ·
          subst c57
          have H1 : (some (x441000_2, x441001_2, x441002_2, x441003_2, x441004_2, x31_2, x11_2, true, 0)) = some (r1, r2, r3, r4, r5, r6, r7, r8, r9) := by rw [if_pos rfl] at H; exact H
          clear H
          have H := H1
          clear H1
          simp only [Option.some.injEq, Prod.mk.injEq] at H
          obtain ⟨rfl, rfl, rfl, rfl, rfl, rfl, rfl, rfl, rfl⟩ := H
          have hnb58 := NB440_439.out
          have hnc58 := NB439_440.out
          have hnb59 := NB440_441.out
          have hnc59 := NB441_440.out
          have hnb60 := NB440_463.out
          have hnc60 := NB463_440.out
          have hz61 := zc5 BK440
          have hnb62 := NB441_439.out
          have hnc62 := NB439_441.out
          have hnb63 := NB441_463.out
          have hnc63 := NB463_441.out
          have hz64 := zc5 BK441
          go_wp2
          refine bodyPost_ret (results_list (rs := [.cell 6 27, .tmp 7, .tmp 8, .tmp 9, .tmp 10]) rfl (by simp) (.cell gb441 27 #[.int .i64 x441000_2, .int .i64 x441001_2, .int .i64 x441002_2, .slice Ao46 x441003_2.length co46, .slice Ao47 x441004_2.length co47] (0, 0) _ rfl (by (with_reducible repeat (first | refine blk_drewN ?_ _ | refine blk_drew ?_ | refine blk_alloc ?_ _)); refine blk_put (cs := #[.int .i64 x441000_2, .int .i64 x441001_2, .int .i64 x441002_2, .slice Ao46 x441003_2.length co46, .slice none 0 0]) ?_ 4 _ rfl; (with_reducible repeat (first | refine blk_drewN ?_ _ | refine blk_drew ?_ | refine blk_alloc ?_ _)); refine blk_put (cs := #[.int .i64 x441000_2, .int .i64 x441001_2, .int .i64 x441002_2, .slice none 0 0, .slice none 0 0]) ?_ 3 _ rfl; (with_reducible repeat (first | refine blk_drewN ?_ _ | refine blk_drew ?_ | refine blk_alloc ?_ _)); refine blk_put (cs := #[.int .i64 x441000_2, .int .i64 x441001_2, .int .i64 x442002_2, .slice none 0 0, .slice none 0 0]) ?_ 2 _ rfl; (with_reducible repeat (first | refine blk_drewN ?_ _ | refine blk_drew ?_ | refine blk_alloc ?_ _)); refine blk_put (cs := #[.int .i64 x441000_2, .int .i64 x442001_2, .int .i64 x442002_2, .slice none 0 0, .slice none 0 0]) ?_ 1 _ rfl; (with_reducible repeat (first | refine blk_drewN ?_ _ | refine blk_drew ?_ | refine blk_alloc ?_ _)); refine blk_put (cs := #[.int .i64 x442000_2, .int .i64 x442001_2, .int .i64 x442002_2, .slice none 0 0, .slice none 0 0]) ?_ 0 _ rfl; (with_reducible repeat (first | refine blk_drewN ?_ _ | refine blk_drew ?_ | refine blk_alloc ?_ _)); exact BK441.out) Try.underlying27 rfl (by kernel_rfl) (.tmp (.tmp (.tmp (.tmp .nil)))))) rfl ?_
          exact ⟨_, _, by first | rfl | (simp [errW_none, errW_some] <;> rfl) | (simp [*, errW_none, errW_some] <;> rfl), by (with_reducible repeat (first | apply Kd.V_alloc | apply Kd.V_drewN | apply Kd.V_drew)); exact Kd.V_mono (zVf5 (g := gb441) (Kd.V_mono HO_441003.out (fun k_ hk => (⟨hk, hk.2.2.2.1⟩ : _ ∧ k_ ≠ gb441)))) (fun _ hk => hk.1.1), by (with_reducible repeat (first | apply Kd.V_alloc | apply Kd.V_drewN | apply Kd.V_drew)); exact Kd.V_mono (zVf5 (g := gb441) (Kd.V_mono HO_441004.out (fun k_ hk => (⟨hk, hk.2.2.2.1⟩ : _ ∧ k_ ≠ gb441)))) (fun _ hk => hk.1.1), zB HB⟩
         ·
          replace c57 := Bool.eq_false_iff.mpr c57
          subst c57
          have H1 : ((leap_fits.f k2 a0_0 a0_1 t452 t453 t454 t455 t458).bind fun t464 => (if t464 = true then (if (wrap64 (x11_2 + t461)) > 1152921504606846976 then (some (0, 0, 0, ([] : List (S62)), ([] : List (S62)), 0, 0, false, 4)) else (leap_Leaps.l0 k2 a2 (wrap64 (x11_2 + t461)) a2 (wrap64 (x31_2 + 1)) a0_0 a0_1 l0_2 t452 t453 t454 t455 t458)) else (some (0, 0, 0, ([] : List (S62)), ([] : List (S62)), 0, 0, false, 4)))) = some (r1, r2, r3, r4, r5, r6, r7, r8, r9) := by rw [if_neg (show ¬ (false = true) by decide)] at H; exact H
          clear H
          have H := H1
          clear H1
          replace H := Option.bind_eq_some_iff.mp H
          obtain ⟨t464, A650, H⟩ := H
          replace H : (if t464 = true then (if (wrap64 (x11_2 + t461)) > 1152921504606846976 then (some (0, 0, 0, ([] : List (S62)), ([] : List (S62)), 0, 0, false, 4)) else (leap_Leaps.l0 k2 a2 (wrap64 (x11_2 + t461)) a2 (wrap64 (x31_2 + 1)) a0_0 a0_1 l0_2 t452 t453 t454 t455 t458)) else (some (0, 0, 0, ([] : List (S62)), ([] : List (S62)), 0, 0, false, 4))) = some (r1, r2, r3, r4, r5, r6, r7, r8, r9) := H
          have A65 := Aside0.mk A650
          clear A650
          by_cases c66 : t464 = true
          ·
           subst c66
           have H1 : (if (wrap64 (x11_2 + t461)) > 1152921504606846976 then (some (0, 0, 0, ([] : List (S62)), ([] : List (S62)), 0, 0, false, 4)) else (leap_Leaps.l0 k2 a2 (wrap64 (x11_2 + t461)) a2 (wrap64 (x31_2 + 1)) a0_0 a0_1 l0_2 t452 t453 t454 t455 t458)) = some (r1, r2, r3, r4, r5, r6, r7, r8, r9) := by rw [if_pos rfl] at H; exact H
           clear H
           have H := H1
           clear H1
           have HC67 := Aside0.mk H
           clear H
           have hnb68 := NB439_440.out
           have hnc68 := NB440_439.out
           have hnb69 := NB439_441.out
           have hnc69 := NB441_439.out
           have hnb70 := NB439_463.out
           have hnc70 := NB463_439.out
           have hz71 := zc3 BK439
           have hnb72 := NB463_440.out
           have hnc72 := NB440_463.out
           have hnb73 := NB463_441.out
           have hnc73 := NB441_463.out
           have hz74 := zc5 BK463
           go_upto_if 63 with (first | ((with_reducible refine gate_callee (f := 26) rfl ?_); refine goesL_ (some 56) rfl rfl Try.func26 (by kernel_rfl) rfl #[.int .i64 a0_0, .int .i64 a0_1, .agg #[.int .i64 t452, .int .i64 t453, .int .i64 t454, .slice Ao54 t455.length co54, .slice Ao55 t458.length co55]] rfl (zm) ?_; (with_reducible refine (leap_fits.calls k2 a0_0 a0_1 t452 t453 t454 _ _ t455 _ _ t458 true _ ?side1 ?side2 ?side3 ?side4 A65.out).mono ?_); (case side1 => exact zC ((Kd.V_reads' HO457.out).2.2)); (case side2 => exact (Kd.V_reads' HO457.out).2.1); (case side3 => exact zC ((Kd.V_reads' HO460.out).2.2)); (case side4 => exact (Kd.V_reads' HO460.out).2.1); rintro e w75 ⟨rfl, hb⟩; refine ⟨_, rfl, ?_⟩; replace HO_441003 := Aside0.mk (zVb HO_441003 hb); replace HO_441004 := Aside0.mk (zVb HO_441004 hb); replace HO457 := Aside0.mk (zVb HO457 hb); replace HO460 := Aside0.mk (zVb HO460 hb); replace BK439 := Aside0.mk (zb BK439 hb); replace BK440 := Aside0.mk (zb BK440 hb); replace BK441 := Aside0.mk (zb BK441 hb); replace BK463 := Aside0.mk (zb BK463 hb); replace HB := Aside0.mk (below_step (zB HB) hb); (try clear hb); (try clear hb2); (try clear hk); (try clear hi)))
           (try simp only [Act.put, zs, zs0, zs1])
           have H := HC67.out
           clear HC67
           by_cases c76 : (wrap64 (x11_2 + t461)) > 1152921504606846976
           ·
            rw [if_pos c76] at H
            have c76b0 : decide (1152921504606846976 < (wrap64 (x11_2 + t461))) = true := decide_eq_true c76
            clear c76
            (first | rw [c76b0] | (simp only [i64_w, i32_w]; rw [c76b0]) | skip)
            (try rw [c76b1])
            simp only [Option.some.injEq, Prod.mk.injEq] at H
            obtain ⟨rfl, rfl, rfl, rfl, rfl, rfl, rfl, rfl, rfl⟩ := H
            have hnb77 := NB441_439.out
            have hnc77 := NB439_441.out
            have hnb78 := NB441_440.out
            have hnc78 := NB440_441.out
            have hnb79 := NB441_463.out
            have hnc79 := NB463_441.out
            have hz80 := zc5 BK441
            go_wp2
            refine bodyPost_ret (results_list (rs := [.cell 6 27, .tmp 7, .tmp 8, .tmp 9, .tmp 10]) rfl (by simp) (.cell gb441 27 #[.int .i64 0, .int .i64 0, .int .i64 0, .slice none 0 0, .slice none 0 0] (0, 0) _ rfl (by (with_reducible repeat (first | refine blk_drewN ?_ _ | refine blk_drew ?_ | refine blk_alloc ?_ _)); refine blk_put (cs := #[.int .i64 0, .int .i64 0, .int .i64 0, .slice none 0 0, .slice none 0 0]) ?_ 4 _ rfl; (with_reducible repeat (first | refine blk_drewN ?_ _ | refine blk_drew ?_ | refine blk_alloc ?_ _)); refine blk_put (cs := #[.int .i64 0, .int .i64 0, .int .i64 0, .slice none 0 0, .slice none 0 0]) ?_ 3 _ rfl; (with_reducible repeat (first | refine blk_drewN ?_ _ | refine blk_drew ?_ | refine blk_alloc ?_ _)); refine blk_put (cs := #[.int .i64 0, .int .i64 0, .int .i64 x442002_2, .slice none 0 0, .slice none 0 0]) ?_ 2 _ rfl; (with_reducible repeat (first | refine blk_drewN ?_ _ | refine blk_drew ?_ | refine blk_alloc ?_ _)); refine blk_put (cs := #[.int .i64 0, .int .i64 x442001_2, .int .i64 x442002_2, .slice none 0 0, .slice none 0 0]) ?_ 1 _ rfl; (with_reducible repeat (first | refine blk_drewN ?_ _ | refine blk_drew ?_ | refine blk_alloc ?_ _)); refine blk_put (cs := #[.int .i64 x442000_2, .int .i64 x442001_2, .int .i64 x442002_2, .slice none 0 0, .slice none 0 0]) ?_ 0 _ rfl; (with_reducible repeat (first | refine blk_drewN ?_ _ | refine blk_drew ?_ | refine blk_alloc ?_ _)); exact BK441.out) Try.underlying27 rfl (by kernel_rfl) (.tmp (.tmp (.tmp (.tmp .nil)))))) rfl ?_
            exact ⟨_, _, by first | rfl | (simp [errW_none, errW_some] <;> rfl) | (simp [*, errW_none, errW_some] <;> rfl), by first | exact Kd.R_nil _ _ _ _ _ | exact Kd.N_nil _ _ _ _ _ | exact Kd.V_nil _ _ _ _ _ | exact Kd.Q_nil _ _ _ _ _ | exact Kd.S_nil _ _ _ _ _, by first | exact Kd.R_nil _ _ _ _ _ | exact Kd.N_nil _ _ _ _ _ | exact Kd.V_nil _ _ _ _ _ | exact Kd.Q_nil _ _ _ _ _ | exact Kd.S_nil _ _ _ _ _, zB HB⟩
           ·
            rw [if_neg c76] at H
            have c76b0 : decide (1152921504606846976 < (wrap64 (x11_2 + t461))) = false := decide_eq_false c76
            clear c76
            (first | rw [c76b0] | (simp only [i64_w, i32_w]; rw [c76b0]) | skip)
            (try rw [c76b1])
            have H' := Aside0.mk H
            clear H
            have hnb81 := NB463_439.out
            have hnc81 := NB439_463.out
            have hnb82 := NB463_440.out
            have hnc82 := NB440_463.out
            have hnb83 := NB463_441.out
            have hnc83 := NB441_463.out
            have hz84 := zc5 BK463
            have hnb85 := NB440_439.out
            have hnc85 := NB439_440.out
            have hnb86 := NB440_441.out
            have hnc86 := NB441_440.out
            have hz87 := zc5 BK440
            go_wp2
            go_roundg k2
            case measure => have := HJ15.out; have := HK2.out; omega
            case rel => exact ⟨(wrap64 (x11_2 + t461)), (wrap64 (x31_2 + 1)), (t452), (t453), (t454), (t455), (t458), (x442000_2), (x442001_2), (x442002_2), (.slice Ao54 t455.length co54), (.slice Ao55 t458.length co55), (by first | rfl | (simp; done) | (simp [*]; done)), (by first | rfl | (simp; done) | (simp [*]; done)), H', ⟨by have := HJ15.out; have := HK2.out; omega⟩, ⟨by (with_reducible repeat (first | apply Kd.V_alloc | apply Kd.V_drewN | apply Kd.V_drew)); exact Kd.V_mono (zVf5 (g := gb440) (Kd.V_mono HO457.out (fun k_ hk => (⟨hk, hk.2.2.1⟩ : _ ∧ k_ ≠ gb440)))) (fun _ hk => ⟨hk.1.1, ⟨hk.1.2.1, ⟨hk.1.2.2.1, hk.1.2.2.2.1⟩⟩⟩)⟩, ⟨by (with_reducible repeat (first | apply Kd.V_alloc | apply Kd.V_drewN | apply Kd.V_drew)); exact Kd.V_mono (zVf5 (g := gb440) (Kd.V_mono HO460.out (fun k_ hk => (⟨hk, hk.2.2.1⟩ : _ ∧ k_ ≠ gb440)))) (fun _ hk => ⟨hk.1.1, ⟨hk.1.2.1, ⟨hk.1.2.2.1, hk.1.2.2.2.1⟩⟩⟩)⟩, ⟨zK BK439⟩, ⟨by (with_reducible repeat (first | refine blk_drewN ?_ _ | refine blk_drew ?_ | refine blk_alloc ?_ _)); refine blk_put (cs := #[.int .i64 t452, .int .i64 t453, .int .i64 t454, .slice Ao54 t455.length co54, .slice Ao47 x441004_2.length co47]) ?_ 4 _ rfl; (with_reducible repeat (first | refine blk_drewN ?_ _ | refine blk_drew ?_ | refine blk_alloc ?_ _)); refine blk_put (cs := #[.int .i64 t452, .int .i64 t453, .int .i64 t454, .slice Ao46 x441003_2.length co46, .slice Ao47 x441004_2.length co47]) ?_ 3 _ rfl; (with_reducible repeat (first | refine blk_drewN ?_ _ | refine blk_drew ?_ | refine blk_alloc ?_ _)); refine blk_put (cs := #[.int .i64 t452, .int .i64 t453, .int .i64 x441002_2, .slice Ao46 x441003_2.length co46, .slice Ao47 x441004_2.length co47]) ?_ 2 _ rfl; (with_reducible repeat (first | refine blk_drewN ?_ _ | refine blk_drew ?_ | refine blk_alloc ?_ _)); refine blk_put (cs := #[.int .i64 t452, .int .i64 x441001_2, .int .i64 x441002_2, .slice Ao46 x441003_2.length co46, .slice Ao47 x441004_2.length co47]) ?_ 1 _ rfl; (with_reducible repeat (first | refine blk_drewN ?_ _ | refine blk_drew ?_ | refine blk_alloc ?_ _)); refine blk_put (cs := #[.int .i64 x441000_2, .int .i64 x441001_2, .int .i64 x441002_2, .slice Ao46 x441003_2.length co46, .slice Ao47 x441004_2.length co47]) ?_ 0 _ rfl; (with_reducible repeat (first | refine blk_drewN ?_ _ | refine blk_drew ?_ | refine blk_alloc ?_ _)); exact BK440.out⟩, ⟨zK BK441⟩, ⟨zB HB⟩⟩
          ·
           replace c66 := Bool.eq_false_iff.mpr c66
           subst c66
           have H1 : (some (0, 0, 0, ([] : List (S62)), ([] : List (S62)), 0, 0, false, 4)) = some (r1, r2, r3, r4, r5, r6, r7, r8, r9) := by rw [if_neg (show ¬ (false = true) by decide)] at H; exact H
           clear H
           have H := H1
           clear H1
           simp only [Option.some.injEq, Prod.mk.injEq] at H
           obtain ⟨rfl, rfl, rfl, rfl, rfl, rfl, rfl, rfl, rfl⟩ := H
           have hnb88 := NB439_440.out
           have hnc88 := NB440_439.out
           have hnb89 := NB439_441.out
           have hnc89 := NB441_439.out
           have hnb90 := NB439_463.out
           have hnc90 := NB463_439.out
           have hz91 := zc3 BK439
           have hnb92 := NB463_440.out
           have hnc92 := NB440_463.out
           have hnb93 := NB463_441.out
           have hnc93 := NB441_463.out
           have hz94 := zc5 BK463
           go_wp2_with (first | ((with_reducible refine gate_callee (f := 26) rfl ?_); refine goesL_ (some 56) rfl rfl Try.func26 (by kernel_rfl) rfl #[.int .i64 a0_0, .int .i64 a0_1, .agg #[.int .i64 t452, .int .i64 t453, .int .i64 t454, .slice Ao54 t455.length co54, .slice Ao55 t458.length co55]] rfl (zm) ?_; (with_reducible refine (leap_fits.calls k2 a0_0 a0_1 t452 t453 t454 _ _ t455 _ _ t458 false _ ?side1 ?side2 ?side3 ?side4 A65.out).mono ?_); (case side1 => exact zC ((Kd.V_reads' HO457.out).2.2)); (case side2 => exact (Kd.V_reads' HO457.out).2.1); (case side3 => exact zC ((Kd.V_reads' HO460.out).2.2)); (case side4 => exact (Kd.V_reads' HO460.out).2.1); rintro e w95 ⟨rfl, hb⟩; refine ⟨_, rfl, ?_⟩; replace HO_441003 := Aside0.mk (zVb HO_441003 hb); replace HO_441004 := Aside0.mk (zVb HO_441004 hb); replace HO457 := Aside0.mk (zVb HO457 hb); replace HO460 := Aside0.mk (zVb HO460 hb); replace BK439 := Aside0.mk (zb BK439 hb); replace BK440 := Aside0.mk (zb BK440 hb); replace BK441 := Aside0.mk (zb BK441 hb); replace BK463 := Aside0.mk (zb BK463 hb); replace HB := Aside0.mk (below_step (zB HB) hb); (try clear hb); (try clear hb2); (try clear hk); (try clear hi); have hnb96 := NB441_440.out; have hnc96 := NB440_441.out; have hz97 := zc5 BK441))
           refine bodyPost_ret (results_list (rs := [.cell 6 27, .tmp 7, .tmp 8, .tmp 9, .tmp 10]) rfl (by simp) (.cell gb441 27 #[.int .i64 0, .int .i64 0, .int .i64 0, .slice none 0 0, .slice none 0 0] (0, 0) _ rfl (by (with_reducible repeat (first | refine blk_drewN ?_ _ | refine blk_drew ?_ | refine blk_alloc ?_ _)); refine blk_put (cs := #[.int .i64 0, .int .i64 0, .int .i64 0, .slice none 0 0, .slice none 0 0]) ?_ 4 _ rfl; (with_reducible repeat (first | refine blk_drewN ?_ _ | refine blk_drew ?_ | refine blk_alloc ?_ _)); refine blk_put (cs := #[.int .i64 0, .int .i64 0, .int .i64 0, .slice none 0 0, .slice none 0 0]) ?_ 3 _ rfl; (with_reducible repeat (first | refine blk_drewN ?_ _ | refine blk_drew ?_ | refine blk_alloc ?_ _)); refine blk_put (cs := #[.int .i64 0, .int .i64 0, .int .i64 x442002_2, .slice none 0 0, .slice none 0 0]) ?_ 2 _ rfl; (with_reducible repeat (first | refine blk_drewN ?_ _ | refine blk_drew ?_ | refine blk_alloc ?_ _)); refine blk_put (cs := #[.int .i64 0, .int .i64 x442001_2, .int .i64 x442002_2, .slice none 0 0, .slice none 0 0]) ?_ 1 _ rfl; (with_reducible repeat (first | refine blk_drewN ?_ _ | refine blk_drew ?_ | refine blk_alloc ?_ _)); refine blk_put (cs := #[.int .i64 x442000_2, .int .i64 x442001_2, .int .i64 x442002_2, .slice none 0 0, .slice none 0 0]) ?_ 0 _ rfl; (with_reducible repeat (first | refine blk_drewN ?_ _ | refine blk_drew ?_ | refine blk_alloc ?_ _)); exact BK441.out) Try.underlying27 rfl (by kernel_rfl) (.tmp (.tmp (.tmp (.tmp .nil)))))) rfl ?_
           exact ⟨_, _, by first | rfl | (simp [errW_none, errW_some] <;> rfl) | (simp [*, errW_none, errW_some] <;> rfl), by first | exact Kd.R_nil _ _ _ _ _ | exact Kd.N_nil _ _ _ _ _ | exact Kd.V_nil _ _ _ _ _ | exact Kd.Q_nil _ _ _ _ _ | exact Kd.S_nil _ _ _ _ _, by first | exact Kd.R_nil _ _ _ _ _ | exact Kd.N_nil _ _ _ _ _ | exact Kd.V_nil _ _ _ _ _ | exact Kd.Q_nil _ _ _ _ _ | exact Kd.S_nil _ _ _ _ _, zB HB⟩
       ·
        rw [if_neg c30] at H
        have c30b0 : decide (x31_2 < a2) = false := decide_eq_false c30
        clear c30
        simp only [Option.some.injEq, Prod.mk.injEq] at H
        obtain ⟨rfl, rfl, rfl, rfl, rfl, rfl, rfl, rfl, rfl⟩ := H
        have hnb98 := NB440_439.out
        have hnc98 := NB439_440.out
        have hnb99 := NB440_441.out
        have hnc99 := NB441_440.out
        have hz100 := zc5 BK440
        have hnb101 := NB441_439.out
        have hnc101 := NB439_441.out
        have hz102 := zc5 BK441
        obtain ⟨Ao103, co103, eo103⟩ := Kd.V_slice HO_441003.out
        subst eo103
        obtain ⟨Ao104, co104, eo104⟩ := Kd.V_slice HO_441004.out
        subst eo104
        go_wp2
        refine bodyPost_ret (results_list (rs := [.cell 6 27, .tmp 7, .tmp 8, .tmp 9, .tmp 10]) rfl (by simp) (.cell gb441 27 #[.int .i64 x441000_2, .int .i64 x441001_2, .int .i64 x441002_2, .slice Ao103 x441003_2.length co103, .slice Ao104 x441004_2.length co104] (0, 0) _ rfl (by (with_reducible repeat (first | refine blk_drewN ?_ _ | refine blk_drew ?_ | refine blk_alloc ?_ _)); refine blk_put (cs := #[.int .i64 x441000_2, .int .i64 x441001_2, .int .i64 x441002_2, .slice Ao103 x441003_2.length co103, .slice none 0 0]) ?_ 4 _ rfl; (with_reducible repeat (first | refine blk_drewN ?_ _ | refine blk_drew ?_ | refine blk_alloc ?_ _)); refine blk_put (cs := #[.int .i64 x441000_2, .int .i64 x441001_2, .int .i64 x441002_2, .slice none 0 0, .slice none 0 0]) ?_ 3 _ rfl; (with_reducible repeat (first | refine blk_drewN ?_ _ | refine blk_drew ?_ | refine blk_alloc ?_ _)); refine blk_put (cs := #[.int .i64 x441000_2, .int .i64 x441001_2, .int .i64 x442002_2, .slice none 0 0, .slice none 0 0]) ?_ 2 _ rfl; (with_reducible repeat (first | refine blk_drewN ?_ _ | refine blk_drew ?_ | refine blk_alloc ?_ _)); refine blk_put (cs := #[.int .i64 x441000_2, .int .i64 x442001_2, .int .i64 x442002_2, .slice none 0 0, .slice none 0 0]) ?_ 1 _ rfl; (with_reducible repeat (first | refine blk_drewN ?_ _ | refine blk_drew ?_ | refine blk_alloc ?_ _)); refine blk_put (cs := #[.int .i64 x442000_2, .int .i64 x442001_2, .int .i64 x442002_2, .slice none 0 0, .slice none 0 0]) ?_ 0 _ rfl; (with_reducible repeat (first | refine blk_drewN ?_ _ | refine blk_drew ?_ | refine blk_alloc ?_ _)); exact BK441.out) Try.underlying27 rfl (by kernel_rfl) (.tmp (.tmp (.tmp (.tmp .nil)))))) rfl ?_
        exact ⟨_, _, by first | rfl | (simp [errW_none, errW_some] <;> rfl) | (simp [*, errW_none, errW_some] <;> rfl), by (with_reducible repeat (first | apply Kd.V_alloc | apply Kd.V_drewN | apply Kd.V_drew)); exact Kd.V_mono (zVf5 (g := gb441) (Kd.V_mono HO_441003.out (fun k_ hk => (⟨hk, hk.2.2.2⟩ : _ ∧ k_ ≠ gb441)))) (fun _ hk => hk.1.1), by (with_reducible repeat (first | apply Kd.V_alloc | apply Kd.V_drewN | apply Kd.V_drew)); exact Kd.V_mono (zVf5 (g := gb441) (Kd.V_mono HO_441004.out (fun k_ hk => (⟨hk, hk.2.2.2⟩ : _ ∧ k_ ≠ gb441)))) (fun _ hk => hk.1.1), zB HB⟩
 ·
  replace c15 := Bool.eq_false_iff.mpr c15
  subst c15
  have H1 : (some (0, 0, 0, ([] : List (S62)), ([] : List (S62)), 0, 0, false, 1)) = some (r1, r2, r3, r4, r5, r6, r7, r8, r9) := by rw [if_neg (show ¬ (false = true) by decide)] at H; exact H
  clear H
  have H := H1
  clear H1
  simp only [Option.some.injEq, Prod.mk.injEq] at H
  obtain ⟨rfl, rfl, rfl, rfl, rfl, rfl, rfl, rfl, rfl⟩ := H
  have hnb105 := NB441_439.out
  have hnc105 := NB439_441.out
  have hnb106 := NB441_440.out
  have hnc106 := NB440_441.out
  have hz107 := zc5 BK441
  go_wp2
  refine bodyPost_ret (results_list (rs := [.cell 6 27, .tmp 7, .tmp 8, .tmp 9, .tmp 10]) rfl (by simp) (.cell gb441 27 #[.int .i64 0, .int .i64 0, .int .i64 0, .slice none 0 0, .slice none 0 0] (0, 0) _ rfl (by (with_reducible repeat (first | refine blk_drewN ?_ _ | refine blk_drew ?_ | refine blk_alloc ?_ _)); refine blk_put (cs := #[.int .i64 0, .int .i64 0, .int .i64 0, .slice none 0 0, .slice none 0 0]) ?_ 4 _ rfl; (with_reducible repeat (first | refine blk_drewN ?_ _ | refine blk_drew ?_ | refine blk_alloc ?_ _)); refine blk_put (cs := #[.int .i64 0, .int .i64 0, .int .i64 0, .slice none 0 0, .slice none 0 0]) ?_ 3 _ rfl; (with_reducible repeat (first | refine blk_drewN ?_ _ | refine blk_drew ?_ | refine blk_alloc ?_ _)); refine blk_put (cs := #[.int .i64 0, .int .i64 0, .int .i64 0, .slice none 0 0, .slice none 0 0]) ?_ 2 _ rfl; (with_reducible repeat (first | refine blk_drewN ?_ _ | refine blk_drew ?_ | refine blk_alloc ?_ _)); refine blk_put (cs := #[.int .i64 0, .int .i64 0, .int .i64 0, .slice none 0 0, .slice none 0 0]) ?_ 1 _ rfl; (with_reducible repeat (first | refine blk_drewN ?_ _ | refine blk_drew ?_ | refine blk_alloc ?_ _)); refine blk_put (cs := #[.int .i64 0, .int .i64 0, .int .i64 0, .slice none 0 0, .slice none 0 0]) ?_ 0 _ rfl; (with_reducible repeat (first | refine blk_drewN ?_ _ | refine blk_drew ?_ | refine blk_alloc ?_ _)); exact BK441.out) Try.underlying27 rfl (by kernel_rfl) (.tmp (.tmp (.tmp (.tmp .nil)))))) rfl ?_
  exact ⟨_, _, by first | rfl | (simp [errW_none, errW_some] <;> rfl) | (simp [*, errW_none, errW_some] <;> rfl), by first | exact Kd.R_nil _ _ _ _ _ | exact Kd.N_nil _ _ _ _ _ | exact Kd.V_nil _ _ _ _ _ | exact Kd.Q_nil _ _ _ _ _ | exact Kd.S_nil _ _ _ _ _, by first | exact Kd.R_nil _ _ _ _ _ | exact Kd.N_nil _ _ _ _ _ | exact Kd.V_nil _ _ _ _ _ | exact Kd.Q_nil _ _ _ _ _ | exact Kd.S_nil _ _ _ _ _, zB HB⟩

/-! ### standstillref04_side: function 28 -/
def standstillref04_side.f (a0_0 : Int) (a0_1 : Int) (a0_2 : Int) (l0_3 : List (S62)) (l0_4 : List (S62)) (a1 : Int) : Option ((List (S62)) × (List (S62))) := if a1 < 0 then (some (l0_3, l0_4)) else (some (l0_4, l0_3))
set_option maxHeartbeats 8000000 in
set_option maxRecDepth 100000 in
theorem standstillref04_side.calls (a0_0 : Int) (a0_1 : Int) (a0_2 : Int) (P0_3_ : Nat → Prop) (A0_3 : Option Addr) (c0_3 : Nat) (l0_3 : List (S62)) (P0_4_ : Nat → Prop) (A0_4 : Option Addr) (c0_4 : Nat) (l0_4 : List (S62)) (a1 : Int) (r1 : List (S62)) (r2 : List (S62)) (w : World) (hs0_3 : Kd.V k62 62 w w.heap.size (fun k_ => P0_3_ k_) (.slice A0_3 l0_3.length c0_3) l0_3) (hs0_4 : Kd.V k62 62 w w.heap.size (fun k_ => P0_4_ k_) (.slice A0_4 l0_4.length c0_4) l0_4) (h : standstillref04_side.f a0_0 a0_1 a0_2 l0_3 l0_4 a1 = some (r1, r2)) :
  Calls Try.prog 28 #[.agg #[.int .i64 a0_0, .int .i64 a0_1, .int .i64 a0_2, .slice A0_3 l0_3.length c0_3, .slice A0_4 l0_4.length c0_4], .int .i64 a1] w fun e w' => ∃ v0_ v1_ : Value, e = .returned (.tuple #[v0_, v1_]) ∧ Kd.V k62 62 w' w.heap.size (fun k_ => ((P0_3_ k_ ∨ P0_4_ k_) ∨ w.heap.size ≤ k_)) v0_ r1 ∧ Kd.V k62 62 w' w.heap.size (fun k_ => ((P0_3_ k_ ∨ P0_4_ k_) ∨ w.heap.size ≤ k_)) v1_ r2 ∧ Below w.heap.size w w' := by
 have hu27 := Try.underlying27
 have HO0_3 := Aside0.mk (show Kd.V k62 62 w w.heap.size (fun k_ => ((P0_3_ k_ ∨ P0_4_ k_) ∨ w.heap.size ≤ k_)) (.slice A0_3 l0_3.length c0_3) l0_3 from Kd.V_mono hs0_3 (fun k_ hk => .inl (.inl hk)))
 have HO0_4 := Aside0.mk (show Kd.V k62 62 w w.heap.size (fun k_ => ((P0_3_ k_ ∨ P0_4_ k_) ∨ w.heap.size ≤ k_)) (.slice A0_4 l0_4.length c0_4) l0_4 from Kd.V_mono hs0_4 (fun k_ hk => .inl (.inr hk)))
 have HB := Aside0.mk (Below.refl w.heap.size w)
 have H : (if a1 < 0 then (some (l0_3, l0_4)) else (some (l0_4, l0_3))) = some (r1, r2) := h
 clear h
 by_cases c3 : a1 < 0
 ·
  rw [if_pos c3] at H
  have c3b0 : decide (a1 < 0) = true := decide_eq_true c3
  clear c3
  simp only [Option.some.injEq, Prod.mk.injEq] at H
  obtain ⟨rfl, rfl⟩ := H
  go_enter Try.func28, Try.ntmps28
  go_wp2_with (first | ((with_reducible refine gate_dst (N := 2) rfl ?_); refine box_event ?hg (N := 2) ?hd (cs := #[.int .i64 a0_0, .int .i64 a0_1, .int .i64 a0_2, .slice A0_3 l0_3.length c0_3, .slice A0_4 l0_4.length c0_4]) (t := 27) ?hr ?_; (case hd => rfl); (case hg => rfl); (case hr => first | (go_simp; done) | (go_simp; rfl)); intro gb465 hg w4 hbox hb; have BK465 := Aside0.mk (hbox); have GW465 := Aside0.mk ((by rw [hg]; exact (below_size (zB HB)) : w.heap.size ≤ gb465)); have GE465 := Aside0.mk ((by rw [hg]; exact (below_size (zB HB)) : w.heap.size ≤ gb465)); replace HO0_3 := Aside0.mk (Kd.V_below (Kd.V_elderB (zV HO0_3) gb465 (Nat.le_of_eq hg.symm)) hb); replace HO0_4 := Aside0.mk (Kd.V_below (Kd.V_elderB (zV HO0_4) gb465 (Nat.le_of_eq hg.symm)) hb); replace HB := Aside0.mk (below_step (zB HB) hb); clear hb hbox hg; have hz5 := zc5 BK465))
  repeat (go_quiet (first | ((with_reducible refine gate_dst (N := 2) rfl ?_); refine box_event ?hg (N := 2) ?hd (cs := #[.int .i64 a0_0, .int .i64 a0_1, .int .i64 a0_2, .slice A0_3 l0_3.length c0_3, .slice A0_4 l0_4.length c0_4]) (t := 27) ?hr ?_; (case hd => rfl); (case hg => rfl); (case hr => first | (go_simp; done) | (go_simp; rfl)); intro gb465 hg w4 hbox hb; have BK465 := Aside0.mk (hbox); have GW465 := Aside0.mk ((by rw [hg]; exact (below_size (zB HB)) : w.heap.size ≤ gb465)); have GE465 := Aside0.mk ((by rw [hg]; exact (below_size (zB HB)) : w.heap.size ≤ gb465)); replace HO0_3 := Aside0.mk (Kd.V_below (Kd.V_elderB (zV HO0_3) gb465 (Nat.le_of_eq hg.symm)) hb); replace HO0_4 := Aside0.mk (Kd.V_below (Kd.V_elderB (zV HO0_4) gb465 (Nat.le_of_eq hg.symm)) hb); replace HB := Aside0.mk (below_step (zB HB) hb); clear hb hbox hg; have hz5 := zc5 BK465)); try go_wp2_with (first | ((with_reducible refine gate_dst (N := 2) rfl ?_); refine box_event ?hg (N := 2) ?hd (cs := #[.int .i64 a0_0, .int .i64 a0_1, .int .i64 a0_2, .slice A0_3 l0_3.length c0_3, .slice A0_4 l0_4.length c0_4]) (t := 27) ?hr ?_; (case hd => rfl); (case hg => rfl); (case hr => first | (go_simp; done) | (go_simp; rfl)); intro gb465 hg w4 hbox hb; have BK465 := Aside0.mk (hbox); have GW465 := Aside0.mk ((by rw [hg]; exact (below_size (zB HB)) : w.heap.size ≤ gb465)); have GE465 := Aside0.mk ((by rw [hg]; exact (below_size (zB HB)) : w.heap.size ≤ gb465)); replace HO0_3 := Aside0.mk (Kd.V_below (Kd.V_elderB (zV HO0_3) gb465 (Nat.le_of_eq hg.symm)) hb); replace HO0_4 := Aside0.mk (Kd.V_below (Kd.V_elderB (zV HO0_4) gb465 (Nat.le_of_eq hg.symm)) hb); replace HB := Aside0.mk (below_step (zB HB) hb); clear hb hbox hg; have hz5 := zc5 BK465)))
  go_ret2
  exact ⟨_, _, by first | rfl | (simp [errW_none, errW_some] <;> rfl) | (simp [*, errW_none, errW_some] <;> rfl), by (with_reducible repeat (first | apply Kd.V_alloc | apply Kd.V_drewN | apply Kd.V_drew)); exact Kd.V_mono HO0_3.out (fun _ hk => hk.1), by (with_reducible repeat (first | apply Kd.V_alloc | apply Kd.V_drewN | apply Kd.V_drew)); exact Kd.V_mono HO0_4.out (fun _ hk => hk.1), zB HB⟩
 ·
  rw [if_neg c3] at H
  have c3b0 : decide (a1 < 0) = false := decide_eq_false c3
  clear c3
  simp only [Option.some.injEq, Prod.mk.injEq] at H
  obtain ⟨rfl, rfl⟩ := H
  go_enter Try.func28, Try.ntmps28
  go_wp2_with (first | ((with_reducible refine gate_dst (N := 2) rfl ?_); refine box_event ?hg (N := 2) ?hd (cs := #[.int .i64 a0_0, .int .i64 a0_1, .int .i64 a0_2, .slice A0_3 l0_3.length c0_3, .slice A0_4 l0_4.length c0_4]) (t := 27) ?hr ?_; (case hd => rfl); (case hg => rfl); (case hr => first | (go_simp; done) | (go_simp; rfl)); intro gb465 hg w6 hbox hb; have BK465 := Aside0.mk (hbox); have GW465 := Aside0.mk ((by rw [hg]; exact (below_size (zB HB)) : w.heap.size ≤ gb465)); have GE465 := Aside0.mk ((by rw [hg]; exact (below_size (zB HB)) : w.heap.size ≤ gb465)); replace HO0_3 := Aside0.mk (Kd.V_below (Kd.V_elderB (zV HO0_3) gb465 (Nat.le_of_eq hg.symm)) hb); replace HO0_4 := Aside0.mk (Kd.V_below (Kd.V_elderB (zV HO0_4) gb465 (Nat.le_of_eq hg.symm)) hb); replace HB := Aside0.mk (below_step (zB HB) hb); clear hb hbox hg; have hz7 := zc5 BK465))
  repeat (go_quiet (first | ((with_reducible refine gate_dst (N := 2) rfl ?_); refine box_event ?hg (N := 2) ?hd (cs := #[.int .i64 a0_0, .int .i64 a0_1, .int .i64 a0_2, .slice A0_3 l0_3.length c0_3, .slice A0_4 l0_4.length c0_4]) (t := 27) ?hr ?_; (case hd => rfl); (case hg => rfl); (case hr => first | (go_simp; done) | (go_simp; rfl)); intro gb465 hg w6 hbox hb; have BK465 := Aside0.mk (hbox); have GW465 := Aside0.mk ((by rw [hg]; exact (below_size (zB HB)) : w.heap.size ≤ gb465)); have GE465 := Aside0.mk ((by rw [hg]; exact (below_size (zB HB)) : w.heap.size ≤ gb465)); replace HO0_3 := Aside0.mk (Kd.V_below (Kd.V_elderB (zV HO0_3) gb465 (Nat.le_of_eq hg.symm)) hb); replace HO0_4 := Aside0.mk (Kd.V_below (Kd.V_elderB (zV HO0_4) gb465 (Nat.le_of_eq hg.symm)) hb); replace HB := Aside0.mk (below_step (zB HB) hb); clear hb hbox hg; have hz7 := zc5 BK465)); try go_wp2_with (first | ((with_reducible refine gate_dst (N := 2) rfl ?_); refine box_event ?hg (N := 2) ?hd (cs := #[.int .i64 a0_0, .int .i64 a0_1, .int .i64 a0_2, .slice A0_3 l0_3.length c0_3, .slice A0_4 l0_4.length c0_4]) (t := 27) ?hr ?_; (case hd => rfl); (case hg => rfl); (case hr => first | (go_simp; done) | (go_simp; rfl)); intro gb465 hg w6 hbox hb; have BK465 := Aside0.mk (hbox); have GW465 := Aside0.mk ((by rw [hg]; exact (below_size (zB HB)) : w.heap.size ≤ gb465)); have GE465 := Aside0.mk ((by rw [hg]; exact (below_size (zB HB)) : w.heap.size ≤ gb465)); replace HO0_3 := Aside0.mk (Kd.V_below (Kd.V_elderB (zV HO0_3) gb465 (Nat.le_of_eq hg.symm)) hb); replace HO0_4 := Aside0.mk (Kd.V_below (Kd.V_elderB (zV HO0_4) gb465 (Nat.le_of_eq hg.symm)) hb); replace HB := Aside0.mk (below_step (zB HB) hb); clear hb hbox hg; have hz7 := zc5 BK465)))
  go_ret2
  exact ⟨_, _, by first | rfl | (simp [errW_none, errW_some] <;> rfl) | (simp [*, errW_none, errW_some] <;> rfl), by (with_reducible repeat (first | apply Kd.V_alloc | apply Kd.V_drewN | apply Kd.V_drew)); exact Kd.V_mono HO0_4.out (fun _ hk => hk.1), by (with_reducible repeat (first | apply Kd.V_alloc | apply Kd.V_drewN | apply Kd.V_drew)); exact Kd.V_mono HO0_3.out (fun _ hk => hk.1), zB HB⟩

/-! ### standstillref04_Pop: function 29 -/
def standstillref04_Pop.f (l0 : List (S62)) : Option (Int × (List (S62))) := if (l0.length : Int) = 0 then (some (0, ([] : List (S62)))) else ((some (([] : List (S62)) : List (S62))).bind fun y466 => (if y466.length + l0.length < 8796093022208 then ((some (y466 ++ l0 : List (S62))).bind fun y469 => (if 0 < (y469.length : Int) then ((some (y469.set (0 : Int).toNat (⟨(rd_T62 y469 0).f0, wrap64 (((rd_T62 y469 0).f1) - 1)⟩ : S62) : List (S62))).bind fun y473 => (if ((rd_T62 y473 0).f1) = 0 then (if 1 ≤ (y469.length : Int) then (if 0 < (l0.length : Int) then (some ((rd_T62 l0 0).f0, (y473.drop (1 : Int).toNat))) else (none)) else (none)) else (if 0 < (l0.length : Int) then (some ((rd_T62 l0 0).f0, y473)) else (none)))) else (none))) else (none)))
set_option maxHeartbeats 8000000 in
set_option maxRecDepth 100000 in
theorem standstillref04_Pop.calls (A0 : Option Addr) (c0 : Nat) (l0 : List (S62)) (r1 : Int) (r2 : List (S62)) (w : World) (hr0 : Kd.C k62 w A0 l0.length l0) (hc0 : l0.length ≤ c0) (h : standstillref04_Pop.f l0 = some (r1, r2)) :
  Calls Try.prog 29 #[.slice A0 l0.length c0] w fun e w' => ∃ v1_ : Value, e = .returned (.tuple #[.int .i64 r1, v1_]) ∧ Kd.Q k62 62 w' w.heap.size (fun _ => True) v1_ r2 ∧ Below w.heap.size w w' := by
 have HR0 := Aside0.mk hr0
 have HC0 := Aside0.mk hc0
 clear hr0 hc0
 have HB := Aside0.mk (Below.refl w.heap.size w)
 have H : (if (l0.length : Int) = 0 then (some (0, ([] : List (S62)))) else ((some (([] : List (S62)) : List (S62))).bind fun y466 => (if y466.length + l0.length < 8796093022208 then ((some (y466 ++ l0 : List (S62))).bind fun y469 => (if 0 < (y469.length : Int) then ((some (y469.set (0 : Int).toNat (⟨(rd_T62 y469 0).f0, wrap64 (((rd_T62 y469 0).f1) - 1)⟩ : S62) : List (S62))).bind fun y473 => (if ((rd_T62 y473 0).f1) = 0 then (if 1 ≤ (y469.length : Int) then (if 0 < (l0.length : Int) then (some ((rd_T62 l0 0).f0, (y473.drop (1 : Int).toNat))) else (none)) else (none)) else (if 0 < (l0.length : Int) then (some ((rd_T62 l0 0).f0, y473)) else (none)))) else (none))) else (none)))) = some (r1, r2) := h
 clear h
 by_cases c2 : (l0.length : Int) = 0
 ·
  rw [if_pos c2] at H
  have c2b0 : ((l0.length : Int) == 0) = true := beq_iff_eq.mpr c2
  have c2b1 : ((l0.length : Int) != 0) = false := bne_eq_false_iff_eq.mpr c2
  clear c2
  simp only [Option.some.injEq, Prod.mk.injEq] at H
  obtain ⟨rfl, rfl⟩ := H
  go_enter Try.func29, Try.ntmps29
  go_wp2
  go_ret2
  exact ⟨_, by first | rfl | (simp [errW_none, errW_some] <;> rfl) | (simp [*, errW_none, errW_some] <;> rfl), Kd.Q_of_R (by first | exact Kd.R_nil _ _ _ _ _ | exact Kd.N_nil _ _ _ _ _ | exact Kd.V_nil _ _ _ _ _ | exact Kd.Q_nil _ _ _ _ _ | exact Kd.S_nil _ _ _ _ _), zB HB⟩
 ·
  rw [if_neg c2] at H
  have c2b0 : ((l0.length : Int) == 0) = false := beq_eq_false_iff_ne.mpr c2
  have c2b1 : ((l0.length : Int) != 0) = true := bne_iff_ne.mpr c2
  have c2b2 : ¬ (l0 = []) := fun h_ => c2 (by rw [h_]; rfl)
  obtain ⟨y466, hy466⟩ : ∃ y_ : List (S62), y_ = (([] : List (S62))) := ⟨_, rfl⟩
  replace H : (if y466.length + l0.length < 8796093022208 then ((some (y466 ++ l0 : List (S62))).bind fun y469 => (if 0 < (y469.length : Int) then ((some (y469.set (0 : Int).toNat (⟨(rd_T62 y469 0).f0, wrap64 (((rd_T62 y469 0).f1) - 1)⟩ : S62) : List (S62))).bind fun y473 => (if ((rd_T62 y473 0).f1) = 0 then (if 1 ≤ (y469.length : Int) then (if 0 < (l0.length : Int) then (some ((rd_T62 l0 0).f0, (y473.drop (1 : Int).toNat))) else (none)) else (none)) else (if 0 < (l0.length : Int) then (some ((rd_T62 l0 0).f0, y473)) else (none)))) else (none))) else (none)) = some (r1, r2) := by first | (rw [hy466]; with_reducible exact H) | (have H2_ := (Option.bind_some _ _).symm.trans H; rw [hy466]; with_reducible exact H2_) | (have H2_ := (Option.bind_some _ _).symm.trans H; with_reducible exact H2_) | with_reducible exact H | (rw [hy466]; exact H) | exact H
  have Ny466 := Aside0.mk hy466
  clear hy466
  by_cases c3 : y466.length + l0.length < 8796093022208
  ·
   rw [if_pos c3] at H
   have LMc3 := Aside0.mk c3
   clear c3
   obtain ⟨y469, hy469⟩ : ∃ y_ : List (S62), y_ = (y466 ++ l0) := ⟨_, rfl⟩
   replace H : (if 0 < (y469.length : Int) then ((some (y469.set (0 : Int).toNat (⟨(rd_T62 y469 0).f0, wrap64 (((rd_T62 y469 0).f1) - 1)⟩ : S62) : List (S62))).bind fun y473 => (if ((rd_T62 y473 0).f1) = 0 then (if 1 ≤ (y469.length : Int) then (if 0 < (l0.length : Int) then (some ((rd_T62 l0 0).f0, (y473.drop (1 : Int).toNat))) else (none)) else (none)) else (if 0 < (l0.length : Int) then (some ((rd_T62 l0 0).f0, y473)) else (none)))) else (none)) = some (r1, r2) := by first | (rw [hy469]; with_reducible exact H) | (have H2_ := (Option.bind_some _ _).symm.trans H; rw [hy469]; with_reducible exact H2_) | (have H2_ := (Option.bind_some _ _).symm.trans H; with_reducible exact H2_) | with_reducible exact H | (rw [hy469]; exact H) | exact H
   have Ny469 := Aside0.mk hy469
   clear hy469
   by_cases c4 : 0 < (y469.length : Int)
   ·
    rw [if_pos c4] at H
    have c4b0 : decide (0 < (y469.length : Int)) = true := decide_eq_true c4
    have c4b1 : decide (0 < y469.length) = true := decide_eq_true (by omega)
    clear c4
    obtain ⟨y473, hy473⟩ : ∃ y_ : List (S62), y_ = (y469.set (0 : Int).toNat (⟨(rd_T62 y469 0).f0, wrap64 (((rd_T62 y469 0).f1) - 1)⟩ : S62)) := ⟨_, rfl⟩
    replace H : (if ((rd_T62 y473 0).f1) = 0 then (if 1 ≤ (y469.length : Int) then (if 0 < (l0.length : Int) then (some ((rd_T62 l0 0).f0, (y473.drop (1 : Int).toNat))) else (none)) else (none)) else (if 0 < (l0.length : Int) then (some ((rd_T62 l0 0).f0, y473)) else (none))) = some (r1, r2) := by first | (rw [hy473]; with_reducible exact H) | (have H2_ := (Option.bind_some _ _).symm.trans H; rw [hy473]; with_reducible exact H2_) | (have H2_ := (Option.bind_some _ _).symm.trans H; with_reducible exact H2_) | with_reducible exact H | (rw [hy473]; exact H) | exact H
    have Ny473 := Aside0.mk hy473
    clear hy473
    have HC6 := Aside0.mk H
    clear H
    go_enter Try.func29, Try.ntmps29
    go_upto_if 22 with (first | ((with_reducible refine gate_dst (N := 8) rfl ?_); refine Kd.R_lit k62 _ 62 ?hg (N := 8) ?hd (xs := ([] : List (S62))) (inner := []) (ok := fun _ => True) (okp := fun _ => True) ?hr ?hp (fun _ hk => hk) trivial (Below.refl _ _) (Nat.le_refl _) (by simp) ?_; (case hd => rfl); (case hg => rfl); (case hr => first | (go_simp; done) | (go_simp; rfl)); (case hp => exact (Reps.none _ _)); intro v467 w7 ho8 hb hg_ hnew_; clear hg_ hnew_; (first | rw [← Ny466.out] at ho8 | (simp only [Int.reduceToNat] at ho8; rw [← Ny466.out] at ho8)); have HO468 := Aside0.mk (Kd.R_lower ho8 (below_size (zB HB))); replace HB := Aside0.mk (below_step (zB HB) hb); clear hb ho8) | ((with_reducible refine gate_builtin (b := .append) (xs := #[.tmp 8, .tmp 9]) rfl ?_); at_builtin; refine Kd.R_append_rows k62 (w0 := w) w.heap.size rfl (.tmp 8) (.tmp 9) 25 62 (.agg #[(.int .i64 0), (.int .i64 0)]) 16 rfl Try.underlying25 info62 rfl (by decide) (by omega) v467 y466 l0 _ _ _ (fun _ => True) (fun _ => False) rfl rfl ?aO ?aR (fun _ _ h => h) (fun _ h => h.elim) ?aF ?aB ?aS ?aL ?_; (case aR => exact zC ((Kd.C_below HR0.out HB.out))); (case aB => exact (zB HB)); (case aF => exact (fun _ _ => trivial)); (case aO => exact (zR HO468)); (case aS => exact (below_size (zB HB))); (case aL => have := LMc3.out; omega); intro v470 w9 ho hb hg hat; rw [← Ny469.out] at ho; have n0_ := Aside0.mk (hb); have n1_ := Aside0.mk (ho); clear HB; clear HO468; have HB := n0_; have HO471 := n1_; clear n0_ n1_; clear ho hb hg hat; obtain ⟨Ao10, co10, eo10⟩ := Kd.R_slice HO471.out; subst eo10; have p472 : 0 ≤ (0 : Int) := (by omega); have q472 : 0 < (y469.length : Int) := of_decide_eq_true (by first | (with_reducible assumption) | assumption); obtain ⟨ad472, e472, hx472_0, hx472_1⟩ := at_T62 (Kd.R_reads' HO471.out).2.2 0 p472 q472; cases e472; have qi472 : (0 < y469.length) = True := eq_true (by omega); (try rw [show ((0 : Int)).toNat = 0 from rfl] at hx472_0); (try rw [show 0 * 2 = 0 from rfl] at hx472_0); (try rw [Addr.add_zero'] at hx472_0); (try rw [show ((0 : Int)).toNat = 0 from rfl] at hx472_1); (try rw [show 0 * 2 = 0 from rfl] at hx472_1); (try rw [Addr.add_zero'] at hx472_1); replace p472 := eq_true p472; replace q472 := eq_true q472; have p5 : 0 ≤ (0 : Int) := (by omega); have q5 : (0 : Int) < ((y469.length : Int) : Int) := of_decide_eq_true (by first | (with_reducible assumption) | assumption); have qi5 : (0 < y469.length) = True := eq_true (by omega); obtain ⟨go5, co5, eo5, gb5, gl5, cl5, HG5⟩ := Kd.R_form HO471.out (by omega); (first | cases eo5 | (injection eo5 with ea_ en_ ec_; (first | subst ea_ | (injection ea_ with ea_; subst ea_)); subst ec_; clear en_)); have GB5 := Aside0.mk gb5; have GG5 := Aside0.mk HG5; clear gb5 gl5 HG5; (first | simp only [add_plain] at hx472_0 | skip); (first | simp only [add_plain] at hx472_1 | skip); obtain ⟨ce5, hcl5, hM5, hcc5, hfr5⟩ := Kd.R_elem HO471.out z62 (0 : Int) p5 q5; obtain rfl := k62_openM hM5; have hx5_0 : w9.cell? ⟨go5, (0 : Int).toNat * 2, none⟩ = some (.int .i64 ((rd_T62 y469 0).f0)) := hcc5 0 _ rfl; have hx5_1 : w9.cell? ⟨go5, (0 : Int).toNat * 2 + 1, none⟩ = some (.int .i64 ((rd_T62 y469 0).f1)) := hcc5 1 _ rfl; have hf5_0 : w9.frozen? ⟨go5, (0 : Int).toNat * 2, none⟩ = false := hfr5 0; have hf5_1 : w9.frozen? ⟨go5, (0 : Int).toNat * 2 + 1, none⟩ = false := hfr5 1; clear hcl5 hcc5 hfr5 hM5; (try rw [show ((0 : Int)).toNat = 0 from rfl] at hx5_0); (try simp only [Nat.reduceMul, Nat.zero_mul, Nat.zero_add, Nat.reduceAdd] at hx5_0); (try rw [show ((0 : Int)).toNat = 0 from rfl] at hf5_0); (try simp only [Nat.reduceMul, Nat.zero_mul, Nat.zero_add, Nat.reduceAdd] at hf5_0); (try rw [show ((0 : Int)).toNat = 0 from rfl] at hx5_1); (try simp only [Nat.reduceMul, Nat.zero_mul, Nat.zero_add, Nat.reduceAdd] at hx5_1); (try rw [show ((0 : Int)).toNat = 0 from rfl] at hf5_1); (try simp only [Nat.reduceMul, Nat.zero_mul, Nat.zero_add, Nat.reduceAdd] at hf5_1); replace p5 := eq_true p5; replace q5 := eq_true q5; have HX11 := Aside0.mk (show Kd.R k62 62 w9 w.heap.size (fun _ => True) (.slice (some ⟨go5, 0, none⟩) y469.length co10) y469 from (zR HO471)); obtain ⟨ce11, hcl11, hM11, hcc11, hfr11⟩ := Kd.R_elem HX11.out z62 (0 : Int) (by omega) (by have h_ : (0 : Int) < ((y469.length : Int) : Int) := of_decide_eq_true (by first | (with_reducible assumption) | assumption); first | exact h_ | (have e_ := (Kd.R_reads' HO471.out).1; omega) | simpa using h_); obtain rfl := k62_openM hM11; have HP11 := Kd.R_seg HX11.out (0 : Int) (by omega) (by have h_ : (0 : Int) < ((y469.length : Int) : Int) := of_decide_eq_true (by first | (with_reducible assumption) | assumption); first | exact h_ | (have e_ := (Kd.R_reads' HO471.out).1; omega) | simpa using h_) (seg := [.int .i64 (wrap64 (((rd_T62 y469 0).f1) - 1))]) (j := 1) hcl11 hcc11 (show 2 ≤ 2 from by decide) (x' := (⟨(rd_T62 y469 0).f0, wrap64 (((rd_T62 y469 0).f1) - 1)⟩ : S62)) (k62_mkM _ _ _ (⟨(rd_T62 y469 0).f0, wrap64 (((rd_T62 y469 0).f1) - 1)⟩ : S62) ) (fun _ hk => hk); have hx11_1 := hcc11 1 _ rfl; (try simp only [show (k62).sz = 2 from rfl, Nat.mul_one, Nat.add_zero] at hx11_1); (try rw [show ((0 : Int)).toNat = 0 from rfl] at hx11_1); (try simp only [Nat.reduceMul, Nat.zero_mul, Nat.zero_add, Nat.reduceAdd] at hx11_1); have hf11_1 := hfr11 1; (try simp only [show (k62).sz = 2 from rfl, Nat.mul_one, Nat.add_zero] at hf11_1); (try rw [show ((0 : Int)).toNat = 0 from rfl] at hf11_1); (try simp only [Nat.reduceMul, Nat.zero_mul, Nat.zero_add, Nat.reduceAdd] at hf11_1); clear hcl11 hcc11 hfr11 hM11) | ((with_reducible refine gate_store (t := 3) (p := 17) rfl ?_); refine store_event (t := 3) (p := 17) (v := ?vo_w12) (w1 := (w9.setCell ⟨go5, 1, none⟩ (.int .i64 (wrap64 (((rd_T62 y469 0).f1) - 1))))) ?hg ?ho ?hn ?hr ?_; (case ho => rfl); (case hg => rfl); (case hn => rfl); (case hr => first | (go_simp; done) | (go_simp; rfl)); intro w12 hw; have hg : w9.grownBy w12 (some go5) := (by rw [hw]; exact HP11.2); have hp_ : Kd.R k62 62 w12 w.heap.size (fun _ => True) (.slice (some ⟨go5, 0, none⟩) y469.length co10) y473 := (by rw [hw, Ny473.out]; exact HP11.1); clear HP11; replace HO471 := Aside0.mk (hp_); replace HB := Aside0.mk ((by rw [hw]; exact below_set (HB.out) GB5.out : Below w.heap.size w w12)); clear hg hw hp_; have p474 : 0 ≤ (0 : Int) := (by omega); have q474 : 0 < (y473.length : Int) := (by have h_ : (0 : Int) < ((y469.length : Int) : Int) := of_decide_eq_true (by first | (with_reducible assumption) | assumption); first | (have e_ := (Kd.R_reads' HO471.out).1; omega) | simpa only [Ny473.out, List.length_set] using h_); have ql474 : ((0 : Int) < ((y469.length : Int) : Int)) = True := eq_true (of_decide_eq_true (by first | (with_reducible assumption) | assumption)); (try have qn474 : (0 < y469.length) = True := eq_true (by have h_ : (0 : Int) < ((y469.length : Int) : Int) := of_decide_eq_true (by first | (with_reducible assumption) | assumption); omega)); obtain ⟨ad474, e474, hx474_0, hx474_1⟩ := at_T62 (Kd.R_reads' HO471.out).2.2 0 p474 q474; obtain rfl : (⟨go5, 0, none⟩ : Addr) = ad474 := (by injection e474); (first | simp only [add_plain] at hx474_0 | simp only [add_at] at hx474_0 | simp only [Addr.add, Nat.zero_add] at hx474_0 | skip); (first | simp only [add_plain] at hx474_1 | simp only [add_at] at hx474_1 | simp only [Addr.add, Nat.zero_add] at hx474_1 | skip); have qi474 : (0 < y473.length) = True := eq_true (by omega); (try rw [show ((0 : Int)).toNat = 0 from rfl] at hx474_0); (try rw [show 0 * 2 = 0 from rfl] at hx474_0); (try rw [Addr.add_zero'] at hx474_0); (try rw [show ((0 : Int)).toNat = 0 from rfl] at hx474_1); (try rw [show 0 * 2 = 0 from rfl] at hx474_1); (try rw [Addr.add_zero'] at hx474_1); replace p474 := eq_true p474; replace q474 := eq_true q474))
    (try simp only [Act.put, zs, zs0, zs1])
    have H := HC6.out
    clear HC6
    by_cases c13 : ((rd_T62 y473 0).f1) = 0
    ·
     rw [if_pos c13] at H
     have c13b0 : (((rd_T62 y473 0).f1) == 0) = true := beq_iff_eq.mpr c13
     have c13b1 : (((rd_T62 y473 0).f1) != 0) = false := bne_eq_false_iff_eq.mpr c13
     clear c13
     (first | rw [c13b0] | (simp only [i64_w, i32_w]; rw [c13b0]) | skip)
     (try rw [c13b1])
     by_cases c14 : 1 ≤ (y469.length : Int)
     ·
      rw [if_pos c14] at H
      have c14b0 := eq_true c14
      have c14b1 : decide (1 ≤ (y469.length : Int)) = true := decide_eq_true c14
      clear c14
      obtain ⟨y475, hy475⟩ : ∃ y_ : List (S62), y_ = (y473.drop (1 : Int).toNat) := ⟨_, rfl⟩
      replace H : (if 0 < (l0.length : Int) then (some ((rd_T62 l0 0).f0, y475)) else (none)) = some (r1, r2) := by first | (rw [hy475]; with_reducible exact H) | (have H2_ := (Option.bind_some _ _).symm.trans H; rw [hy475]; with_reducible exact H2_) | (have H2_ := (Option.bind_some _ _).symm.trans H; with_reducible exact H2_) | with_reducible exact H | (rw [hy475]; exact H) | exact H
      have Ny475 := Aside0.mk hy475
      clear hy475
      by_cases c15 : 0 < (l0.length : Int)
      ·
       rw [if_pos c15] at H
       have c15b0 : decide (0 < (l0.length : Int)) = true := decide_eq_true c15
       have c15b1 : decide (0 < l0.length) = true := decide_eq_true (by omega)
       clear c15
       simp only [Option.some.injEq, Prod.mk.injEq] at H
       obtain ⟨rfl, rfl⟩ := H
       have q16 : (1 : Int) ≤ ((y469.length : Int) : Int) := of_decide_eq_true (by first | (with_reducible assumption) | assumption)
       obtain ⟨i016, hi016, _, hsz16, _⟩ := info_parts info62
       have hcut16 := cut_from (P := Try.prog) 25 62 .i64 Try.underlying25 hi016 2 hsz16 (some ⟨go5, 0, none⟩) y469.length co10 1 (by omega) q16
       have hl_ : y473.length = y469.length := by rw [Ny473.out, List.length_set]
       have hr16 := Kd.Q_drop (k := (1 : Int).toNat) (Kd.Q_of_R HO471.out) (by omega)
       obtain ⟨A16, hA16⟩ : ∃ A1, A1 = (if co10 = (1 : Int).toNat then (some ⟨go5, 0, none⟩) else ((some ⟨go5, 0, none⟩) : Option Addr).map (·.add ((1 : Int).toNat * 2))) := ⟨_, rfl⟩
       obtain ⟨c16, hc16⟩ : ∃ c1, c1 = co10 - (1 : Int).toNat := ⟨_, rfl⟩
       have hy16 : y475.length = y469.length - (1 : Int).toNat := (by rw [Ny475.out, List.length_drop, hl_])
       clear hl_
       rw [← Ny475.out] at hr16
       rw [← hy16, ← hA16, ← hc16] at hcut16
       replace hr16 : Kd.Q k62 62 w12 w.heap.size (fun _ => True) (.slice A16 y475.length c16) y475 := (by rw [hA16, hc16, hy16]; exact hr16)
       have HE16 : Aside0 ((Value.slice A16 y475.length c16).ownBlock = (.slice (some ⟨go5, 0, none⟩) y469.length co10 : Value).ownBlock) := ⟨by rw [hA16]; split <;> (cases ((some ⟨go5, 0, none⟩) : Option Addr) <;> rfl)⟩
       clear hy16 hi016 hsz16 HO471 hA16 hc16
       have HO477 := Aside0.mk hr16
       clear hr16
       replace q16 := eq_true q16
       have p478 : 0 ≤ (0 : Int) := (by omega)
       have q478 : 0 < (l0.length : Int) := of_decide_eq_true (by first | (with_reducible assumption) | assumption)
       obtain ⟨ad478, e478, hx478_0, hx478_1⟩ := at_T62 HR0.out 0 p478 q478
       cases e478
       have qi478 : (0 < l0.length) = True := eq_true (by omega)
       (try rw [show ((0 : Int)).toNat = 0 from rfl] at hx478_0)
       (try rw [show 0 * 2 = 0 from rfl] at hx478_0)
       (try rw [Addr.add_zero'] at hx478_0)
       (try rw [show ((0 : Int)).toNat = 0 from rfl] at hx478_1)
       (try rw [show 0 * 2 = 0 from rfl] at hx478_1)
       (try rw [Addr.add_zero'] at hx478_1)
       replace hx478_0 := (HB.out.cell (World.block_lt_of_cell? w _ hx478_0)).trans hx478_0
       replace hx478_1 := (HB.out.cell (World.block_lt_of_cell? w _ hx478_1)).trans hx478_1
       replace p478 := eq_true p478
       replace q478 := eq_true q478
       go_wp2
       go_ret2
       exact ⟨_, by first | rfl | (simp [errW_none, errW_some] <;> rfl) | (simp [*, errW_none, errW_some] <;> rfl), zQ HO477, zB HB⟩
      ·
       rw [if_neg c15] at H
       exact absurd H (by simp)
     ·
      rw [if_neg c14] at H
      exact absurd H (by simp)
    ·
     rw [if_neg c13] at H
     have c13b0 : (((rd_T62 y473 0).f1) == 0) = false := beq_eq_false_iff_ne.mpr c13
     have c13b1 : (((rd_T62 y473 0).f1) != 0) = true := bne_iff_ne.mpr c13
     (first | rw [c13b0] | (simp only [i64_w, i32_w]; rw [c13b0]) | skip)
     (try rw [c13b1])
     by_cases c17 : 0 < (l0.length : Int)
     ·
      rw [if_pos c17] at H
      have c17b0 : decide (0 < (l0.length : Int)) = true := decide_eq_true c17
      have c17b1 : decide (0 < l0.length) = true := decide_eq_true (by omega)
      clear c17
      simp only [Option.some.injEq, Prod.mk.injEq] at H
      obtain ⟨rfl, rfl⟩ := H
      have p479 : 0 ≤ (0 : Int) := (by omega)
      have q479 : 0 < (l0.length : Int) := of_decide_eq_true (by first | (with_reducible assumption) | assumption)
      obtain ⟨ad479, e479, hx479_0, hx479_1⟩ := at_T62 HR0.out 0 p479 q479
      cases e479
      have qi479 : (0 < l0.length) = True := eq_true (by omega)
      (try rw [show ((0 : Int)).toNat = 0 from rfl] at hx479_0)
      (try rw [show 0 * 2 = 0 from rfl] at hx479_0)
      (try rw [Addr.add_zero'] at hx479_0)
      (try rw [show ((0 : Int)).toNat = 0 from rfl] at hx479_1)
      (try rw [show 0 * 2 = 0 from rfl] at hx479_1)
      (try rw [Addr.add_zero'] at hx479_1)
      replace hx479_0 := (HB.out.cell (World.block_lt_of_cell? w _ hx479_0)).trans hx479_0
      replace hx479_1 := (HB.out.cell (World.block_lt_of_cell? w _ hx479_1)).trans hx479_1
      replace p479 := eq_true p479
      replace q479 := eq_true q479
      go_wp2
      go_ret2
      exact ⟨_, by first | rfl | (simp [errW_none, errW_some] <;> rfl) | (simp [*, errW_none, errW_some] <;> rfl), Kd.Q_of_R (zR HO471), zB HB⟩
     ·
      rw [if_neg c17] at H
      exact absurd H (by simp)
   ·
    rw [if_neg c4] at H
    exact absurd H (by simp)
  ·
   rw [if_neg c3] at H
   exact absurd H (by simp)

end Go.Proofs.Ytpemcbjdlpajlaa.G1
