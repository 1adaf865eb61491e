/- The functions of one seat as Lean functions, each with its contract: the call of the Go function returns what the Lean function answers. Written by a program of this session out of the translation; contracts made by hand are laid between. -/
import Derived.Test.YtpemcbjdlpajlaaG1x0
import Derived.Test.YtpemcbjdlpajlaaG1x4
namespace Go.Proofs.Ytpemcbjdlpajlaa.G1
open Go.RowKit Go.Proofs.YtpemcbjdlpajlaaW.PrintWords Go.Proofs.YtpemcbjdlpajlaaW.PrintLast Go.Proofs.YtpemcbjdlpajlaaW.PrintMore
attribute [local go_sem] max2_int min2_int max_two min_two max_three min_three max_four min_four   -- for this text's walks alone
set_option linter.unusedVariables false
set_option linter.unusedSimpArgs false

/-! ### leap_fits: function 26 -/
def leap_fits.j0 : Nat → Int → Bool → Int → Int → Int → List (S62) → List (S62) → Option (Bool)
 | 0, _, _, _, _, _, _, _ => none
 | k + 1, x1, x36, x140000, x140001, x140002, x140003, x140004 => if x36 = true then (some false) else ((leap_side.f k x1 x140003).bind fun t140 => (if t140 = true then ((leap_side.f k x1 x140004).bind fun t141 => (some t141)) else (some false)))
def leap_fits.f (k : Nat) (a0 : Int) (a1 : Int) (a2_0 : Int) (a2_1 : Int) (a2_2 : Int) (l2_3 : List (S62)) (l2_4 : List (S62)) : Option (Bool) := if a2_0 < (-1) then (leap_fits.j0 k a1 true a2_0 a2_1 a2_2 l2_3 l2_4) else (if a2_0 ≥ a0 then (leap_fits.j0 k a1 true a2_0 a2_1 a2_2 l2_3 l2_4) else (if a2_2 < 0 then (leap_fits.j0 k a1 true a2_0 a2_1 a2_2 l2_3 l2_4) else (if a2_2 ≥ a1 then (leap_fits.j0 k a1 true a2_0 a2_1 a2_2 l2_3 l2_4) else (if a2_1 < (-1152921504606846976) then (leap_fits.j0 k a1 true a2_0 a2_1 a2_2 l2_3 l2_4) else (leap_fits.j0 k a1 (decide (a2_1 > 1152921504606846976)) a2_0 a2_1 a2_2 l2_3 l2_4)))))
theorem leap_fits.mono_l : ∀ k, (∀ y0 y1 y2 y3 y4 y5 y6, LeO (leap_fits.j0 k y0 y1 y2 y3 y4 y5 y6) (leap_fits.j0 (k + 1) y0 y1 y2 y3 y4 y5 y6))
 | 0 => fun _ _ _ _ _ _ _ r h => by simp [leap_fits.j0] at h
 | k + 1 => by
  have ih0 := leap_fits.mono_l k
  ·
   intro y0 y1 y2 y3 y4 y5 y6
   unfold leap_fits.j0
   repeat' first
   | (with_reducible exact ih0 _ _ _ _ _ _ _)
   | (with_reducible exact leap_side.mono _ _ _)
   | (with_reducible exact LeO.refl _)
   | (with_reducible exact LeO.none _)
   | (with_reducible refine LeO.ite ?_ ?_)
   | (with_reducible refine LeO.bind ?_ (fun _ => ?_))
   | exact ih0 _ _ _ _ _ _ _
   | exact leap_side.mono _ _ _
   | exact LeO.none _
   | refine LeO.ite ?_ ?_
   | refine LeO.bind ?_ (fun _ => ?_)
theorem leap_fits.mono : ∀ a0 a1 a2 a3 a4 a5 a6 k, LeO (leap_fits.f k a0 a1 a2 a3 a4 a5 a6) (leap_fits.f (k + 1) a0 a1 a2 a3 a4 a5 a6) := by
 intro a0 a1 a2 a3 a4 a5 a6 k
 have ih0 := leap_fits.mono_l k
 unfold leap_fits.f
 repeat' first
   | (with_reducible exact ih0 _ _ _ _ _ _ _)
   | (with_reducible exact leap_side.mono _ _ _)
   | (with_reducible exact LeO.refl _)
   | (with_reducible exact LeO.none _)
   | (with_reducible refine LeO.ite ?_ ?_)
   | (with_reducible refine LeO.bind ?_ (fun _ => ?_))
   | exact ih0 _ _ _ _ _ _ _
   | exact leap_side.mono _ _ _
   | exact LeO.none _
   | refine LeO.ite ?_ ?_
   | refine LeO.bind ?_ (fun _ => ?_)
set_option maxHeartbeats 8000000 in
set_option maxRecDepth 100000 in
theorem leap_fits.calls (k : Nat) (a0 : Int) (a1 : Int) (a2_0 : Int) (a2_1 : Int) (a2_2 : Int) (A2_3 : Option Addr) (c2_3 : Nat) (l2_3 : List (S62)) (A2_4 : Option Addr) (c2_4 : Nat) (l2_4 : List (S62)) (r : Bool) (w : World) (hr2_3 : Kd.C k62 w A2_3 l2_3.length l2_3) (hc2_3 : l2_3.length ≤ c2_3) (hr2_4 : Kd.C k62 w A2_4 l2_4.length l2_4) (hc2_4 : l2_4.length ≤ c2_4) (h : leap_fits.f k a0 a1 a2_0 a2_1 a2_2 l2_3 l2_4 = some r) :
  Calls Try.prog 26 #[.int .i64 a0, .int .i64 a1, .agg #[.int .i64 a2_0, .int .i64 a2_1, .int .i64 a2_2, .slice A2_3 l2_3.length c2_3, .slice A2_4 l2_4.length c2_4]] w fun e w' => e = .returned (.bool r) ∧ Below w.heap.size w w' := by
 have hu27 := Try.underlying27
 have HR2_3 := Aside0.mk hr2_3
 have HC2_3 := Aside0.mk hc2_3
 clear hr2_3 hc2_3
 have HR2_4 := Aside0.mk hr2_4
 have HC2_4 := Aside0.mk hc2_4
 clear hr2_4 hc2_4
 have HB := Aside0.mk (Below.refl w.heap.size w)
 have H : (if a2_0 < (-1) then (leap_fits.j0 k a1 true a2_0 a2_1 a2_2 l2_3 l2_4) else (if a2_0 ≥ a0 then (leap_fits.j0 k a1 true a2_0 a2_1 a2_2 l2_3 l2_4) else (if a2_2 < 0 then (leap_fits.j0 k a1 true a2_0 a2_1 a2_2 l2_3 l2_4) else (if a2_2 ≥ a1 then (leap_fits.j0 k a1 true a2_0 a2_1 a2_2 l2_3 l2_4) else (if a2_1 < (-1152921504606846976) then (leap_fits.j0 k a1 true a2_0 a2_1 a2_2 l2_3 l2_4) else (leap_fits.j0 k a1 (decide (a2_1 > 1152921504606846976)) a2_0 a2_1 a2_2 l2_3 l2_4)))))) = some r := h
 clear h
 have HC4 := Aside0.mk H
 clear H
 go_enter Try.func26, Try.ntmps26
 go_upto_region 1 with (first | ((with_reducible refine gate_dst (N := 5) rfl ?_); refine box_event ?hg (N := 5) ?hd (cs := #[.int .i64 a2_0, .int .i64 a2_1, .int .i64 a2_2, .slice A2_3 l2_3.length c2_3, .slice A2_4 l2_4.length c2_4]) (t := 27) ?hr ?_; (case hd => rfl); (case hg => rfl); (case hr => first | (go_simp; done) | (go_simp; rfl)); intro gb139 hg w5 hbox hb; have BK139 := Aside0.mk (hbox); have GW139 := Aside0.mk ((by rw [hg]; exact (below_size (zB HB)) : w.heap.size ≤ gb139)); have GE139 := Aside0.mk ((by rw [hg]; exact (below_size (zB HB)) : w.heap.size ≤ gb139)); replace HB := Aside0.mk (below_step (zB HB) hb); clear hb hbox hg))
 (try simp only [Act.put, zs, zs0, zs1])
 go_cut [36] (fun v36 wc => ∃ (kq : Nat) (x36_3 : Bool), v36 = .bool x36_3 ∧ Aside0 (leap_fits.j0 kq a1 x36_3 a2_0 a2_1 a2_2 l2_3 l2_4 = some r) ∧ Aside0 (kq ≤ k) ∧ Aside0 (wc.heap[gb139]? = some (.cells #[.int .i64 a2_0, .int .i64 a2_1, .int .i64 a2_2, (.slice A2_3 l2_3.length c2_3), (.slice A2_4 l2_4.length c2_4)] 27 (0, 0))) ∧ Aside0 (Below w.heap.size w wc))
 case first =>
  have H := HC4.out
  clear HC4
  by_cases c6 : a2_0 < (-1)
  ·
   rw [if_pos c6] at H
   have c6b0 : decide (a2_0 < (-1)) = true := decide_eq_true c6
   clear c6
   (first | rw [c6b0] | (simp only [i64_w, i32_w]; rw [c6b0]) | skip)
   (try rw [c6b1])
   have H' := Aside0.mk H
   clear H
   have hz7 := zc5 BK139
   go_wp2
   go_meet
   case rel => exact ⟨_, (true), (by first | rfl | (simp; done) | (simp [*]; done)), H', ⟨by first | omega | exact Nat.le_refl _⟩, ⟨zk BK139⟩, ⟨zB HB⟩⟩
  ·
   rw [if_neg c6] at H
   have c6b0 : decide (a2_0 < (-1)) = false := decide_eq_false c6
   clear c6
   (first | rw [c6b0] | (simp only [i64_w, i32_w]; rw [c6b0]) | skip)
   (try rw [c6b1])
   by_cases c8 : a2_0 ≥ a0
   ·
    rw [if_pos c8] at H
    have c8b0 : decide (a0 ≤ a2_0) = true := decide_eq_true c8
    clear c8
    have H' := Aside0.mk H
    clear H
    have hz9 := zc5 BK139
    go_wp2
    go_meet
    case rel => exact ⟨_, (true), (by first | rfl | (simp; done) | (simp [*]; done)), H', ⟨by first | omega | exact Nat.le_refl _⟩, ⟨zk BK139⟩, ⟨zB HB⟩⟩
   ·
    rw [if_neg c8] at H
    have c8b0 : decide (a0 ≤ a2_0) = false := decide_eq_false c8
    clear c8
    by_cases c10 : a2_2 < 0
    ·
     rw [if_pos c10] at H
     have c10b0 : decide (a2_2 < 0) = true := decide_eq_true c10
     clear c10
     have H' := Aside0.mk H
     clear H
     have hz11 := zc5 BK139
     go_wp2
     go_meet
     case rel => exact ⟨_, (true), (by first | rfl | (simp; done) | (simp [*]; done)), H', ⟨by first | omega | exact Nat.le_refl _⟩, ⟨zk BK139⟩, ⟨zB HB⟩⟩
    ·
     rw [if_neg c10] at H
     have c10b0 : decide (a2_2 < 0) = false := decide_eq_false c10
     clear c10
     by_cases c12 : a2_2 ≥ a1
     ·
      rw [if_pos c12] at H
      have c12b0 : decide (a1 ≤ a2_2) = true := decide_eq_true c12
      clear c12
      have H' := Aside0.mk H
      clear H
      have hz13 := zc5 BK139
      go_wp2
      go_meet
      case rel => exact ⟨_, (true), (by first | rfl | (simp; done) | (simp [*]; done)), H', ⟨by first | omega | exact Nat.le_refl _⟩, ⟨zk BK139⟩, ⟨zB HB⟩⟩
     ·
      rw [if_neg c12] at H
      have c12b0 : decide (a1 ≤ a2_2) = false := decide_eq_false c12
      clear c12
      by_cases c14 : a2_1 < (-1152921504606846976)
      ·
       rw [if_pos c14] at H
       have c14b0 : decide (a2_1 < (-1152921504606846976)) = true := decide_eq_true c14
       clear c14
       have H' := Aside0.mk H
       clear H
       have hz15 := zc5 BK139
       go_wp2
       go_meet
       case rel => exact ⟨_, (true), (by first | rfl | (simp; done) | (simp [*]; done)), H', ⟨by first | omega | exact Nat.le_refl _⟩, ⟨zk BK139⟩, ⟨zB HB⟩⟩
      ·
       rw [if_neg c14] at H
       have c14b0 : decide (a2_1 < (-1152921504606846976)) = false := decide_eq_false c14
       clear c14
       have H' := Aside0.mk H
       clear H
       have hz16 := zc5 BK139
       go_wp2
       go_meet
       case rel => exact ⟨_, (decide (a2_1 > 1152921504606846976)), (by first | rfl | (simp; done) | (simp [*]; done)), H', ⟨by first | omega | exact Nat.le_refl _⟩, ⟨zk BK139⟩, ⟨zB HB⟩⟩
 case rest =>
  clear HC4
  try clear c1
  try clear c2
  try clear p2
  try clear c6
  try clear c6b0
  try clear c6b1
  try clear c8
  try clear c8b0
  try clear c10
  try clear c10b0
  try clear c12
  try clear c12b0
  try clear c14
  try clear c14b0
  try clear hz11
  try clear hz13
  try clear hz15
  try clear hz16
  try clear hz7
  try clear hz9
  obtain ⟨kq, x36_3, rfl, HA, HJ3, BK139, HB⟩ := hcut
  cases kq with
  | zero => exact absurd HA.out (by simp [leap_fits.j0])
  | succ kj3 =>
   have H := HA.out
   clear HA
   simp only [leap_fits.j0] at H
   by_cases c17 : x36_3 = true
   ·
    subst c17
    have H1 : (some false) = some r := by rw [if_pos rfl] at H; exact H
    clear H
    have H := H1
    clear H1
    obtain rfl := Option.some.inj H
    go_wp2
    go_ret
    exact ⟨by first | rfl | (simp [errW_none, errW_some] <;> rfl) | (simp [*, errW_none, errW_some] <;> rfl), zB HB⟩
   ·
    replace c17 := Bool.eq_false_iff.mpr c17
    subst c17
    have H1 : ((leap_side.f kj3 a1 l2_3).bind fun t140 => (if t140 = true then ((leap_side.f kj3 a1 l2_4).bind fun t141 => (some t141)) else (some false))) = some r := by rw [if_neg (show ¬ (false = true) by decide)] at H; exact H
    clear H
    have H := H1
    clear H1
    replace H := Option.bind_eq_some_iff.mp H
    obtain ⟨t140, A180, H⟩ := H
    replace H : (if t140 = true then ((leap_side.f kj3 a1 l2_4).bind fun t141 => (some t141)) else (some false)) = some r := H
    have A18 := Aside0.mk A180
    clear A180
    by_cases c19 : t140 = true
    ·
     subst c19
     have H1 : ((leap_side.f kj3 a1 l2_4).bind fun t141 => (some t141)) = some r := by rw [if_pos rfl] at H; exact H
     clear H
     have H := H1
     clear H1
     replace H := Option.bind_eq_some_iff.mp H
     obtain ⟨t141, A200, H⟩ := H
     replace H : (some t141) = some r := H
     have A20 := Aside0.mk A200
     clear A200
     obtain rfl := Option.some.inj H
     have hz21 := zc5 BK139
     go_wp2_with (first | ((with_reducible refine gate_callee (f := 37) rfl ?_); refine goesL_ (some 40) rfl rfl Try.func37 (by kernel_rfl) rfl #[.int .i64 a1, .slice A2_3 l2_3.length c2_3] rfl (zm) ?_; (with_reducible refine (leap_side.calls kj3 a1 _ _ l2_3 true _ ?side1 ?side2 A18.out).mono ?_); (case side1 => exact zC ((Kd.C_below HR2_3.out HB.out))); (case side2 => exact HC2_3.out); rintro e w22 ⟨rfl, hb⟩; refine ⟨_, rfl, ?_⟩; replace BK139 := Aside0.mk (zb BK139 hb); replace HB := Aside0.mk (below_step (zB HB) hb); (try clear hb); (try clear hb2); (try clear hk); (try clear hi); have hz23 := zc5 BK139) | (go_at_call 37; (with_reducible refine (leap_side.calls kj3 a1 _ _ l2_4 t141 _ ?side1 ?side2 A20.out).mono ?_); (case side1 => exact zC ((Kd.C_below HR2_4.out HB.out))); (case side2 => exact HC2_4.out); rintro e w24 ⟨rfl, hb⟩; replace BK139 := Aside0.mk (zb BK139 hb); replace HB := Aside0.mk (below_step (zB HB) hb); (try clear hb); (try clear hb2); (try clear hk); (try clear hi)))
     go_ret
     exact ⟨by first | rfl | (simp [errW_none, errW_some] <;> rfl) | (simp [*, errW_none, errW_some] <;> rfl), zB HB⟩
    ·
     replace c19 := Bool.eq_false_iff.mpr c19
     subst c19
     have H1 : (some false) = some r := by rw [if_neg (show ¬ (false = true) by decide)] at H; exact H
     clear H
     have H := H1
     clear H1
     obtain rfl := Option.some.inj H
     have hz25 := zc5 BK139
     go_wp2_with (first | ((with_reducible refine gate_callee (f := 37) rfl ?_); refine goesL_ (some 40) rfl rfl Try.func37 (by kernel_rfl) rfl #[.int .i64 a1, .slice A2_3 l2_3.length c2_3] rfl (zm) ?_; (with_reducible refine (leap_side.calls kj3 a1 _ _ l2_3 false _ ?side1 ?side2 A18.out).mono ?_); (case side1 => exact zC ((Kd.C_below HR2_3.out HB.out))); (case side2 => exact HC2_3.out); rintro e w26 ⟨rfl, hb⟩; refine ⟨_, rfl, ?_⟩; replace BK139 := Aside0.mk (zb BK139 hb); replace HB := Aside0.mk (below_step (zB HB) hb); (try clear hb); (try clear hb2); (try clear hk); (try clear hi)))
     go_ret
     exact ⟨by first | rfl | (simp [errW_none, errW_some] <;> rfl) | (simp [*, errW_none, errW_some] <;> rfl), zB HB⟩

/-! ### tape_Valid: function 30 -/
mutual
def tape_Valid.j0 : Nat → Bool → Int → Int → List (List (S37)) → Option (Bool)
 | 0, _, _, _, _ => none
 | k + 1, x32, x143000, x143001, x143002 => if x32 = true then (some false) else (tape_Valid.l0 k x143002 (x143002.length : Int) 0 x143000 x143001 x143002)
def tape_Valid.l0 : Nat → List (List (S37)) → Int → Int → Int → Int → List (List (S37)) → Option (Bool)
 | 0, _, _, _, _, _, _ => none
 | k + 1, x34, x35, x36, x143000, x143001, x143002 => if x36 < x35 then (if 0 ≤ x36 then (if x36 < (x34.length : Int) then (if ((rd_L2 x34 x36).length : Int) = x143001 then (tape_Valid.l1 k x34 x35 x36 (rd_L2 x34 x36) ((rd_L2 x34 x36).length : Int) 0 x143000 x143001 x143002) else (some false)) else (none)) else (none)) else (some true)
def tape_Valid.l1 : Nat → List (List (S37)) → Int → Int → List (S37) → Int → Int → Int → Int → List (List (S37)) → Option (Bool)
 | 0, _, _, _, _, _, _, _, _, _ => none
 | k + 1, x34, x35, x36, x45, x46, x47, x143000, x143001, x143002 => if x47 < x46 then (if 0 ≤ x47 then (if x47 < (x45.length : Int) then (if ((rd_T37 x45 x47).f0) < 0 then (some false) else (if ((rd_T37 x45 x47).f0) ≥ x143001 then (some false) else (if ((rd_T37 x45 x47).f1) = (-1) then (if ((rd_T37 x45 x47).f2) < (-1) then (some false) else (if ((rd_T37 x45 x47).f2) ≥ x143000 then (some false) else (tape_Valid.l1 k x34 x35 x36 x45 x46 (wrap64 (x47 + 1)) x143000 x143001 x143002))) else (if ((rd_T37 x45 x47).f1) = 1 then (if ((rd_T37 x45 x47).f2) < (-1) then (some false) else (if ((rd_T37 x45 x47).f2) ≥ x143000 then (some false) else (tape_Valid.l1 k x34 x35 x36 x45 x46 (wrap64 (x47 + 1)) x143000 x143001 x143002))) else (some false))))) else (none)) else (none)) else (tape_Valid.l0 k x34 x35 (wrap64 (x36 + 1)) x143000 x143001 x143002)
end
def tape_Valid.f (k : Nat) (a0_0 : Int) (a0_1 : Int) (l0_2 : List (List (S37))) : Option (Bool) := if a0_0 < 1 then (tape_Valid.j0 k true a0_0 a0_1 l0_2) else (if a0_0 > 6 then (tape_Valid.j0 k true a0_0 a0_1 l0_2) else (if a0_1 < 2 then (tape_Valid.j0 k true a0_0 a0_1 l0_2) else (if a0_1 > 4 then (tape_Valid.j0 k true a0_0 a0_1 l0_2) else (tape_Valid.j0 k ((l0_2.length : Int) != a0_0) a0_0 a0_1 l0_2))))
theorem tape_Valid.mono_l : ∀ k, (∀ y0 y1 y2 y3, LeO (tape_Valid.j0 k y0 y1 y2 y3) (tape_Valid.j0 (k + 1) y0 y1 y2 y3)) ∧ (∀ y0 y1 y2 y3 y4 y5, LeO (tape_Valid.l0 k y0 y1 y2 y3 y4 y5) (tape_Valid.l0 (k + 1) y0 y1 y2 y3 y4 y5)) ∧ (∀ y0 y1 y2 y3 y4 y5 y6 y7 y8, LeO (tape_Valid.l1 k y0 y1 y2 y3 y4 y5 y6 y7 y8) (tape_Valid.l1 (k + 1) y0 y1 y2 y3 y4 y5 y6 y7 y8))
 | 0 => ⟨fun _ _ _ _ r h => by simp [tape_Valid.j0] at h, fun _ _ _ _ _ _ r h => by simp [tape_Valid.l0] at h, fun _ _ _ _ _ _ _ _ _ r h => by simp [tape_Valid.l1] at h⟩
 | k + 1 => by
  obtain ⟨ih0, ih1, ih2⟩ := tape_Valid.mono_l k
  refine ⟨?_, ?_, ?_⟩
  ·
   intro y0 y1 y2 y3
   unfold tape_Valid.j0
   repeat' first
   | (with_reducible exact ih0 _ _ _ _)
   | (with_reducible exact ih1 _ _ _ _ _ _)
   | (with_reducible exact ih2 _ _ _ _ _ _ _ _ _)
   | (with_reducible exact LeO.refl _)
   | (with_reducible exact LeO.none _)
   | (with_reducible refine LeO.ite ?_ ?_)
   | (with_reducible refine LeO.bind ?_ (fun _ => ?_))
   | exact ih0 _ _ _ _
   | exact ih1 _ _ _ _ _ _
   | exact ih2 _ _ _ _ _ _ _ _ _
   | exact LeO.none _
   | refine LeO.ite ?_ ?_
   | refine LeO.bind ?_ (fun _ => ?_)
  ·
   intro y0 y1 y2 y3 y4 y5
   unfold tape_Valid.l0
   repeat' first
   | (with_reducible exact ih0 _ _ _ _)
   | (with_reducible exact ih1 _ _ _ _ _ _)
   | (with_reducible exact ih2 _ _ _ _ _ _ _ _ _)
   | (with_reducible exact LeO.refl _)
   | (with_reducible exact LeO.none _)
   | (with_reducible refine LeO.ite ?_ ?_)
   | (with_reducible refine LeO.bind ?_ (fun _ => ?_))
   | exact ih0 _ _ _ _
   | exact ih1 _ _ _ _ _ _
   | exact ih2 _ _ _ _ _ _ _ _ _
   | exact LeO.none _
   | refine LeO.ite ?_ ?_
   | refine LeO.bind ?_ (fun _ => ?_)
  ·
   intro y0 y1 y2 y3 y4 y5 y6 y7 y8
   unfold tape_Valid.l1
   repeat' first
   | (with_reducible exact ih0 _ _ _ _)
   | (with_reducible exact ih1 _ _ _ _ _ _)
   | (with_reducible exact ih2 _ _ _ _ _ _ _ _ _)
   | (with_reducible exact LeO.refl _)
   | (with_reducible exact LeO.none _)
   | (with_reducible refine LeO.ite ?_ ?_)
   | (with_reducible refine LeO.bind ?_ (fun _ => ?_))
   | exact ih0 _ _ _ _
   | exact ih1 _ _ _ _ _ _
   | exact ih2 _ _ _ _ _ _ _ _ _
   | exact LeO.none _
   | refine LeO.ite ?_ ?_
   | refine LeO.bind ?_ (fun _ => ?_)
theorem tape_Valid.mono : ∀ a0 a1 a2 k, LeO (tape_Valid.f k a0 a1 a2) (tape_Valid.f (k + 1) a0 a1 a2) := by
 intro a0 a1 a2 k
 obtain ⟨ih0, ih1, ih2⟩ := tape_Valid.mono_l k
 unfold tape_Valid.f
 repeat' first
   | (with_reducible exact ih0 _ _ _ _)
   | (with_reducible exact ih1 _ _ _ _ _ _)
   | (with_reducible exact ih2 _ _ _ _ _ _ _ _ _)
   | (with_reducible exact LeO.refl _)
   | (with_reducible exact LeO.none _)
   | (with_reducible refine LeO.ite ?_ ?_)
   | (with_reducible refine LeO.bind ?_ (fun _ => ?_))
   | exact ih0 _ _ _ _
   | exact ih1 _ _ _ _ _ _
   | exact ih2 _ _ _ _ _ _ _ _ _
   | exact LeO.none _
   | refine LeO.ite ?_ ?_
   | refine LeO.bind ?_ (fun _ => ?_)
set_option maxHeartbeats 8000000 in
set_option maxRecDepth 100000 in
theorem tape_Valid.calls (k : Nat) (a0_0 : Int) (a0_1 : Int) (A0_2 : Option Addr) (c0_2 : Nat) (l0_2 : List (List (S37))) (r : Bool) (w : World) (hr0_2 : Kd.C (Kd.slice 37 k37) w A0_2 l0_2.length l0_2) (hc0_2 : l0_2.length ≤ c0_2) (h : tape_Valid.f k a0_0 a0_1 l0_2 = some r) :
  Calls Try.prog 30 #[.agg #[.int .i64 a0_0, .int .i64 a0_1, .slice A0_2 l0_2.length c0_2]] w fun e w' => e = .returned (.bool r) ∧ Below w.heap.size w w' := by
 have hu24 := Try.underlying24
 have hu37 := Try.underlying37
 have HR0_2 := Aside0.mk hr0_2
 have HC0_2 := Aside0.mk hc0_2
 clear hr0_2 hc0_2
 have HB := Aside0.mk (Below.refl w.heap.size w)
 have H : (if a0_0 < 1 then (tape_Valid.j0 k true a0_0 a0_1 l0_2) else (if a0_0 > 6 then (tape_Valid.j0 k true a0_0 a0_1 l0_2) else (if a0_1 < 2 then (tape_Valid.j0 k true a0_0 a0_1 l0_2) else (if a0_1 > 4 then (tape_Valid.j0 k true a0_0 a0_1 l0_2) else (tape_Valid.j0 k ((l0_2.length : Int) != a0_0) a0_0 a0_1 l0_2))))) = some r := h
 clear h
 have HC2 := Aside0.mk H
 clear H
 go_enter Try.func30, Try.ntmps30
 go_upto_region 1 with (first | ((with_reducible refine gate_dst (N := 1) rfl ?_); (try (refine gate_guard (by rfl) ?_; dsimp only)); refine box_event ?hg (N := 1) ?hd (cs := #[.int .i64 a0_0, .int .i64 a0_1, .slice A0_2 l0_2.length c0_2]) (t := 24) ?hr ?_; (case hd => rfl); (case hg => rfl); (case hr => first | (go_simp; done) | (go_simp; rfl)); intro gb142 hg w3 hbox hb; have BK142 := Aside0.mk (hbox); have GW142 := Aside0.mk ((by rw [hg]; exact (below_size (zB HB)) : w.heap.size ≤ gb142)); have GE142 := Aside0.mk ((by rw [hg]; exact (below_size (zB HB)) : w.heap.size ≤ gb142)); replace HB := Aside0.mk (below_step (zB HB) hb); clear hb hbox hg))
 (try simp only [Act.put, zs, zs0, zs1])
 go_cut [32] (fun v32 wc => ∃ (kq : Nat) (x32_1 : Bool), v32 = .bool x32_1 ∧ Aside0 (tape_Valid.j0 kq x32_1 a0_0 a0_1 l0_2 = some r) ∧ Aside0 (kq ≤ k) ∧ Aside0 (wc.heap[gb142]? = some (.cells #[.int .i64 a0_0, .int .i64 a0_1, (.slice A0_2 l0_2.length c0_2)] 24 (0, 0))) ∧ Aside0 (Below w.heap.size w wc))
 case first =>
  have H := HC2.out
  clear HC2
  by_cases c4 : a0_0 < 1
  ·
   rw [if_pos c4] at H
   have c4b0 : decide (a0_0 < 1) = true := decide_eq_true c4
   clear c4
   (first | rw [c4b0] | (simp only [i64_w, i32_w]; rw [c4b0]) | skip)
   (try rw [c4b1])
   have H' := Aside0.mk H
   clear H
   have hz5 := zc3 BK142
   go_wp2
   go_meet
   case rel => exact ⟨_, (true), (by first | rfl | (simp; done) | (simp [*]; done)), H', ⟨by first | omega | exact Nat.le_refl _⟩, ⟨zk BK142⟩, ⟨zB HB⟩⟩
  ·
   rw [if_neg c4] at H
   have c4b0 : decide (a0_0 < 1) = false := decide_eq_false c4
   clear c4
   (first | rw [c4b0] | (simp only [i64_w, i32_w]; rw [c4b0]) | skip)
   (try rw [c4b1])
   by_cases c6 : a0_0 > 6
   ·
    rw [if_pos c6] at H
    have c6b0 : decide (6 < a0_0) = true := decide_eq_true c6
    clear c6
    have H' := Aside0.mk H
    clear H
    have hz7 := zc3 BK142
    go_wp2
    go_meet
    case rel => exact ⟨_, (true), (by first | rfl | (simp; done) | (simp [*]; done)), H', ⟨by first | omega | exact Nat.le_refl _⟩, ⟨zk BK142⟩, ⟨zB HB⟩⟩
   ·
    rw [if_neg c6] at H
    have c6b0 : decide (6 < a0_0) = false := decide_eq_false c6
    clear c6
    by_cases c8 : a0_1 < 2
    ·
     rw [if_pos c8] at H
     have c8b0 : decide (a0_1 < 2) = true := decide_eq_true c8
     clear c8
     have H' := Aside0.mk H
     clear H
     have hz9 := zc3 BK142
     go_wp2
     go_meet
     case rel => exact ⟨_, (true), (by first | rfl | (simp; done) | (simp [*]; done)), H', ⟨by first | omega | exact Nat.le_refl _⟩, ⟨zk BK142⟩, ⟨zB HB⟩⟩
    ·
     rw [if_neg c8] at H
     have c8b0 : decide (a0_1 < 2) = false := decide_eq_false c8
     clear c8
     by_cases c10 : a0_1 > 4
     ·
      rw [if_pos c10] at H
      have c10b0 : decide (4 < a0_1) = true := decide_eq_true c10
      clear c10
      have H' := Aside0.mk H
      clear H
      have hz11 := zc3 BK142
      go_wp2
      go_meet
      case rel => exact ⟨_, (true), (by first | rfl | (simp; done) | (simp [*]; done)), H', ⟨by first | omega | exact Nat.le_refl _⟩, ⟨zk BK142⟩, ⟨zB HB⟩⟩
     ·
      rw [if_neg c10] at H
      have c10b0 : decide (4 < a0_1) = false := decide_eq_false c10
      clear c10
      have H' := Aside0.mk H
      clear H
      have hz12 := zc3 BK142
      go_wp2
      go_meet
      case rel => exact ⟨_, (((l0_2.length : Int) != a0_0)), (by first | rfl | (simp; done) | (simp [*]; done)), H', ⟨by first | omega | exact Nat.le_refl _⟩, ⟨zk BK142⟩, ⟨zB HB⟩⟩
 case rest =>
  clear HC2
  try clear c1
  try clear p2
  try clear c3
  try clear c4
  try clear c4b0
  try clear c4b1
  try clear c6
  try clear c6b0
  try clear c8
  try clear c8b0
  try clear c10
  try clear c10b0
  try clear hz11
  try clear hz12
  try clear hz5
  try clear hz7
  try clear hz9
  obtain ⟨kq, x32_1, rfl, HA, HJ1, BK142, HB⟩ := hcut
  cases kq with
  | zero => exact absurd HA.out (by simp [tape_Valid.j0])
  | succ kj1 =>
   have H := HA.out
   clear HA
   simp only [tape_Valid.j0] at H
   by_cases c13 : x32_1 = true
   ·
    subst c13
    have H1 : (some false) = some r := by rw [if_pos rfl] at H; exact H
    clear H
    have H := H1
    clear H1
    obtain rfl := Option.some.inj H
    go_wp2
    go_ret
    exact ⟨by first | rfl | (simp [errW_none, errW_some] <;> rfl) | (simp [*, errW_none, errW_some] <;> rfl), zB HB⟩
   ·
    replace c13 := Bool.eq_false_iff.mpr c13
    subst c13
    have H1 : (tape_Valid.l0 kj1 l0_2 (l0_2.length : Int) 0 a0_0 a0_1 l0_2) = some r := by rw [if_neg (show ¬ (false = true) by decide)] at H; exact H
    clear H
    have H := H1
    clear H1
    have H' := Aside0.mk H
    clear H
    have hz14 := zc3 BK142
    go_wp2
    go_loopg [36] kj1 (fun kq v36 w' => ∃ (x36_2 : Int), v36 = .int .i64 x36_2 ∧ Aside0 (tape_Valid.l0 kq l0_2 (l0_2.length : Int) x36_2 a0_0 a0_1 l0_2 = some r) ∧ Aside0 (kq ≤ kj1) ∧ Aside0 (w'.heap[gb142]? = some (.cells #[.int .i64 a0_0, .int .i64 a0_1, (.slice A0_2 l0_2.length c0_2)] 24 (0, 0))) ∧ Aside0 (Below w.heap.size w w'))
    case atStart => exact ⟨(0), (by first | rfl | (simp; done) | (simp [*]; done)), H', ⟨Nat.le_refl _⟩, ⟨zk BK142⟩, ⟨zB HB⟩⟩
    case round =>
     clear H'
     try clear c1
     try clear p2
     try clear c3
     try clear c4
     try clear c4b0
     try clear c4b1
     try clear c6
     try clear c6b0
     try clear c8
     try clear c8b0
     try clear c10
     try clear c10b0
     try clear c13
     try clear hz11
     try clear hz12
     try clear hz14
     try clear hz5
     try clear hz7
     try clear hz9
     try clear p2
     obtain ⟨x36_2, rfl, HA, HK2, BK142, HB⟩ := hrel
     cases gk with
     | zero => exact absurd HA.out (by simp [tape_Valid.l0])
     | succ k2 =>
      have H := HA.out
      clear HA
      simp only [tape_Valid.l0] at H
      by_cases c15 : x36_2 < (l0_2.length : Int)
      ·
       rw [if_pos c15] at H
       have c15b0 : decide (x36_2 < (l0_2.length : Int)) = true := decide_eq_true c15
       clear c15
       by_cases c16 : 0 ≤ x36_2
       ·
        rw [if_pos c16] at H
        have c16b0 : decide (0 ≤ x36_2) = true := decide_eq_true c16
        clear c16
        by_cases c17 : x36_2 < (l0_2.length : Int)
        ·
         rw [if_pos c17] at H
         have c17b0 : decide (x36_2 < (l0_2.length : Int)) = true := decide_eq_true c17
         clear c17
         by_cases c18 : ((rd_L2 l0_2 x36_2).length : Int) = a0_1
         ·
          rw [if_pos c18] at H
          have c18b0 : (((rd_L2 l0_2 x36_2).length : Int) == a0_1) = true := beq_iff_eq.mpr c18
          have c18b1 : (((rd_L2 l0_2 x36_2).length : Int) != a0_1) = false := bne_eq_false_iff_eq.mpr c18
          clear c18
          have H' := Aside0.mk H
          clear H
          have p143 : 0 ≤ (x36_2 : Int) := of_decide_eq_true (by first | (with_reducible assumption) | assumption)
          have q143 : x36_2 < (l0_2.length : Int) := of_decide_eq_true (by first | (with_reducible assumption) | assumption)
          obtain ⟨ad143, A143_0, c143_0, e143, hx143_0, hl143_0, hi143_0⟩ := at_L2 HR0_2.out x36_2 p143 q143
          cases e143
          replace hx143_0 := (HB.out.cell (World.block_lt_of_cell? w _ hx143_0)).trans hx143_0
          have HR143_0 := Aside0.mk hi143_0
          have HC143_0 := Aside0.mk hl143_0
          clear hi143_0 hl143_0
          replace p143 := eq_true p143
          replace q143 := eq_true q143
          have hz19 := zc3 BK142
          go_wp2
          go_loopg [47] k2 (fun kq v47 w' => ∃ (x47_3 : Int), v47 = .int .i64 x47_3 ∧ Aside0 (tape_Valid.l1 kq l0_2 (l0_2.length : Int) x36_2 (rd_L2 l0_2 x36_2) ((rd_L2 l0_2 x36_2).length : Int) x47_3 a0_0 a0_1 l0_2 = some r) ∧ Aside0 (kq ≤ k2) ∧ Aside0 (w'.heap[gb142]? = some (.cells #[.int .i64 a0_0, .int .i64 a0_1, (.slice (some ad143) l0_2.length c0_2)] 24 (0, 0))) ∧ Aside0 (Below w.heap.size w w'))
          case atStart => exact ⟨(0), (by first | rfl | (simp; done) | (simp [*]; done)), H', ⟨Nat.le_refl _⟩, ⟨zk BK142⟩, ⟨zB HB⟩⟩
          case round =>
           clear H'
           try clear c1
           try clear p1
           try clear q1
           try clear hx1
           try clear p2
           try clear c3
           try clear c4
           try clear c4b0
           try clear c4b1
           try clear c6
           try clear c6b0
           try clear c8
           try clear c8b0
           try clear c10
           try clear c10b0
           try clear c13
           try clear c14
           try clear p14
           try clear q14
           try clear hx14
           try clear c15
           try clear c15b0
           try clear c16
           try clear c16b0
           try clear c17
           try clear c17b0
           try clear c18
           try clear c18b0
           try clear c18b1
           try clear hz11
           try clear hz12
           try clear hz14
           try clear hz19
           try clear hz5
           try clear hz7
           try clear hz9
           try clear hx143_0
           try clear p143
           try clear p2
           try clear q143
           obtain ⟨x47_3, rfl, HA, HK3, BK142, HB⟩ := hrel
           cases gk with
           | zero => exact absurd HA.out (by simp [tape_Valid.l1])
           | succ k3 =>
            have H := HA.out
            clear HA
            simp only [tape_Valid.l1] at H
            by_cases c20 : x47_3 < ((rd_L2 l0_2 x36_2).length : Int)
            ·
             rw [if_pos c20] at H
             have c20b0 : decide (x47_3 < ((rd_L2 l0_2 x36_2).length : Int)) = true := decide_eq_true c20
             clear c20
             by_cases c21 : 0 ≤ x47_3
             ·
              rw [if_pos c21] at H
              have c21b0 : decide (0 ≤ x47_3) = true := decide_eq_true c21
              clear c21
              by_cases c22 : x47_3 < ((rd_L2 l0_2 x36_2).length : Int)
              ·
               rw [if_pos c22] at H
               have c22b0 : decide (x47_3 < ((rd_L2 l0_2 x36_2).length : Int)) = true := decide_eq_true c22
               clear c22
               have HC23 := Aside0.mk H
               clear H
               have p144 : 0 ≤ (x47_3 : Int) := of_decide_eq_true (by first | (with_reducible assumption) | assumption)
               have q144 : x47_3 < ((rd_L2 l0_2 x36_2).length : Int) := of_decide_eq_true (by first | (with_reducible assumption) | assumption)
               obtain ⟨ad144, e144, hx144_0, hx144_1, hx144_2⟩ := at_T37 HR143_0.out x47_3 p144 q144
               cases e144
               replace hx144_0 := (HB.out.cell (World.block_lt_of_cell? w _ hx144_0)).trans hx144_0
               replace hx144_1 := (HB.out.cell (World.block_lt_of_cell? w _ hx144_1)).trans hx144_1
               replace hx144_2 := (HB.out.cell (World.block_lt_of_cell? w _ hx144_2)).trans hx144_2
               replace p144 := eq_true p144
               replace q144 := eq_true q144
               go_upto_region 11 with (first | ((with_reducible refine gate_dst (N := 6) rfl ?_); (try (refine gate_guard (by rfl) ?_; dsimp only)); refine box_event ?hg (N := 6) ?hd (cs := #[.int .i64 0, .int .i64 0, .int .i64 0]) (t := 37) ?hr ?_; (case hd => rfl); (case hg => rfl); (case hr => first | (go_simp; done) | (go_simp; rfl)); intro gb145 hg w24 hbox hb; have BK145 := Aside0.mk (hbox); have GW145 := Aside0.mk ((by rw [hg]; exact (below_size (zB HB)) : w.heap.size ≤ gb145)); have GE145 := Aside0.mk ((by rw [hg]; exact (below_size (zB HB)) : w.heap.size ≤ gb145)); have NB142_145 := Aside0.mk ((by rw [hg]; exact Nat.ne_of_lt (zL BK142) : gb142 ≠ gb145)); have NB145_142 := Aside0.mk ((by rw [hg]; exact Nat.ne_of_gt (zL BK142) : gb145 ≠ gb142)); replace BK142 := Aside0.mk (zb BK142 hb); replace HB := Aside0.mk (below_step (zB HB) hb); clear hb hbox hg; have hnb25 := NB145_142.out; have hnc25 := NB142_145.out; have hz26 := zc3 BK145) | ((with_reducible refine gate_store (t := 37) (p := 6) rfl ?_); refine store_event (t := 37) (p := 6) (v := ?vo_w27) (w1 := (((w24.setCell ⟨gb145, 0, none⟩ (.int .i64 ((rd_T37 (rd_L2 l0_2 x36_2) x47_3).f0))).setCell ⟨gb145, 1, none⟩ (.int .i64 ((rd_T37 (rd_L2 l0_2 x36_2) x47_3).f1))).setCell ⟨gb145, 2, none⟩ (.int .i64 ((rd_T37 (rd_L2 l0_2 x36_2) x47_3).f2)))) ?hg ?ho ?hn ?hr ?_; (case ho => rfl); (case hg => rfl); (case hn => rfl); (case hr => first | (go_simp; done) | (go_simp; rfl)); intro w27 hw; have n0_ : Aside0 (w27.heap[gb142]? = some (.cells #[.int .i64 a0_0, .int .i64 a0_1, .slice (some ad143) l0_2.length c0_2] 24 (0, 0))) := ⟨(by rw [hw]; exact (zK BK142))⟩; have n1_ : Aside0 (w27.heap[gb145]? = some (.cells #[.int .i64 ((rd_T37 (rd_L2 l0_2 x36_2) x47_3).f0), .int .i64 ((rd_T37 (rd_L2 l0_2 x36_2) x47_3).f1), .int .i64 ((rd_T37 (rd_L2 l0_2 x36_2) x47_3).f2)] 37 (0, 0))) := ⟨(by rw [hw]; exact (by (with_reducible repeat (first | refine blk_drewN ?_ _ | refine blk_drew ?_ | refine blk_alloc ?_ _)); refine blk_put (cs := #[.int .i64 ((rd_T37 (rd_L2 l0_2 x36_2) x47_3).f0), .int .i64 ((rd_T37 (rd_L2 l0_2 x36_2) x47_3).f1), .int .i64 0]) ?_ 2 _ rfl; (with_reducible repeat (first | refine blk_drewN ?_ _ | refine blk_drew ?_ | refine blk_alloc ?_ _)); refine blk_put (cs := #[.int .i64 ((rd_T37 (rd_L2 l0_2 x36_2) x47_3).f0), .int .i64 0, .int .i64 0]) ?_ 1 _ rfl; (with_reducible repeat (first | refine blk_drewN ?_ _ | refine blk_drew ?_ | refine blk_alloc ?_ _)); refine blk_put (cs := #[.int .i64 0, .int .i64 0, .int .i64 0]) ?_ 0 _ rfl; (with_reducible repeat (first | refine blk_drewN ?_ _ | refine blk_drew ?_ | refine blk_alloc ?_ _)); exact BK145.out))⟩; have n2_ : Aside0 (Below w.heap.size w w27) := ⟨(by rw [hw]; exact (zB HB))⟩; clear hw; clear BK142; clear BK145; clear HB; have BK142 := n0_; have BK145 := n1_; have HB := n2_; clear n0_ n1_ n2_))
               (try simp only [Act.put, zs, zs0, zs1])
               have H := HC23.out
               clear HC23
               by_cases c28 : ((rd_T37 (rd_L2 l0_2 x36_2) x47_3).f0) < 0
               ·
                rw [if_pos c28] at H
                have c28b0 : decide (((rd_T37 (rd_L2 l0_2 x36_2) x47_3).f0) < 0) = true := decide_eq_true c28
                clear c28
                (first | rw [c28b0] | (simp only [i64_w, i32_w]; rw [c28b0]) | skip)
                (try rw [c28b1])
                obtain rfl := Option.some.inj H
                have hnb29 := NB145_142.out
                have hnc29 := NB142_145.out
                have hz30 := zc3 BK145
                go_wp2
                go_ret
                exact ⟨by first | rfl | (simp [errW_none, errW_some] <;> rfl) | (simp [*, errW_none, errW_some] <;> rfl), zB HB⟩
               ·
                rw [if_neg c28] at H
                have c28b0 : decide (((rd_T37 (rd_L2 l0_2 x36_2) x47_3).f0) < 0) = false := decide_eq_false c28
                clear c28
                (first | rw [c28b0] | (simp only [i64_w, i32_w]; rw [c28b0]) | skip)
                (try rw [c28b1])
                by_cases c31 : ((rd_T37 (rd_L2 l0_2 x36_2) x47_3).f0) ≥ a0_1
                ·
                 rw [if_pos c31] at H
                 have c31b0 : decide (a0_1 ≤ ((rd_T37 (rd_L2 l0_2 x36_2) x47_3).f0)) = true := decide_eq_true c31
                 clear c31
                 obtain rfl := Option.some.inj H
                 have hnb32 := NB145_142.out
                 have hnc32 := NB142_145.out
                 have hz33 := zc3 BK145
                 have hz34 := zc3 BK142
                 go_wp2
                 go_ret
                 exact ⟨by first | rfl | (simp [errW_none, errW_some] <;> rfl) | (simp [*, errW_none, errW_some] <;> rfl), zB HB⟩
                ·
                 rw [if_neg c31] at H
                 have c31b0 : decide (a0_1 ≤ ((rd_T37 (rd_L2 l0_2 x36_2) x47_3).f0)) = false := decide_eq_false c31
                 clear c31
                 by_cases c35 : ((rd_T37 (rd_L2 l0_2 x36_2) x47_3).f1) = (-1)
                 ·
                  rw [if_pos c35] at H
                  have c35b0 : (((rd_T37 (rd_L2 l0_2 x36_2) x47_3).f1) == (-1)) = true := beq_iff_eq.mpr c35
                  have c35b1 : (((rd_T37 (rd_L2 l0_2 x36_2) x47_3).f1) != (-1)) = false := bne_eq_false_iff_eq.mpr c35
                  clear c35
                  by_cases c36 : ((rd_T37 (rd_L2 l0_2 x36_2) x47_3).f2) < (-1)
                  ·
                   rw [if_pos c36] at H
                   have c36b0 : decide (((rd_T37 (rd_L2 l0_2 x36_2) x47_3).f2) < (-1)) = true := decide_eq_true c36
                   clear c36
                   obtain rfl := Option.some.inj H
                   have hnb37 := NB145_142.out
                   have hnc37 := NB142_145.out
                   have hz38 := zc3 BK145
                   have hz39 := zc3 BK142
                   go_wp2
                   go_ret
                   exact ⟨by first | rfl | (simp [errW_none, errW_some] <;> rfl) | (simp [*, errW_none, errW_some] <;> rfl), zB HB⟩
                  ·
                   rw [if_neg c36] at H
                   have c36b0 : decide (((rd_T37 (rd_L2 l0_2 x36_2) x47_3).f2) < (-1)) = false := decide_eq_false c36
                   clear c36
                   by_cases c40 : ((rd_T37 (rd_L2 l0_2 x36_2) x47_3).f2) ≥ a0_0
                   ·
                    rw [if_pos c40] at H
                    have c40b0 : decide (a0_0 ≤ ((rd_T37 (rd_L2 l0_2 x36_2) x47_3).f2)) = true := decide_eq_true c40
                    clear c40
                    obtain rfl := Option.some.inj H
                    have hnb41 := NB145_142.out
                    have hnc41 := NB142_145.out
                    have hz42 := zc3 BK145
                    have hz43 := zc3 BK142
                    go_wp2
                    go_ret
                    exact ⟨by first | rfl | (simp [errW_none, errW_some] <;> rfl) | (simp [*, errW_none, errW_some] <;> rfl), zB HB⟩
                   ·
                    rw [if_neg c40] at H
                    have c40b0 : decide (a0_0 ≤ ((rd_T37 (rd_L2 l0_2 x36_2) x47_3).f2)) = false := decide_eq_false c40
                    clear c40
                    have H' := Aside0.mk H
                    clear H
                    have hnb44 := NB145_142.out
                    have hnc44 := NB142_145.out
                    have hz45 := zc3 BK145
                    have hz46 := zc3 BK142
                    go_wp2
                    go_roundg k3
                    case measure => have := HJ1.out; have := HK2.out; have := HK3.out; omega
                    case rel => exact ⟨(wrap64 (x47_3 + 1)), (by first | rfl | (simp; done) | (simp [*]; done)), H', ⟨by have := HJ1.out; have := HK2.out; have := HK3.out; omega⟩, ⟨zk BK142⟩, ⟨zB HB⟩⟩
                 ·
                  rw [if_neg c35] at H
                  have c35b0 : (((rd_T37 (rd_L2 l0_2 x36_2) x47_3).f1) == (-1)) = false := beq_eq_false_iff_ne.mpr c35
                  have c35b1 : (((rd_T37 (rd_L2 l0_2 x36_2) x47_3).f1) != (-1)) = true := bne_iff_ne.mpr c35
                  by_cases c47 : ((rd_T37 (rd_L2 l0_2 x36_2) x47_3).f1) = 1
                  ·
                   rw [if_pos c47] at H
                   have c47b0 : (((rd_T37 (rd_L2 l0_2 x36_2) x47_3).f1) == 1) = true := beq_iff_eq.mpr c47
                   have c47b1 : (((rd_T37 (rd_L2 l0_2 x36_2) x47_3).f1) != 1) = false := bne_eq_false_iff_eq.mpr c47
                   clear c47
                   by_cases c48 : ((rd_T37 (rd_L2 l0_2 x36_2) x47_3).f2) < (-1)
                   ·
                    rw [if_pos c48] at H
                    have c48b0 : decide (((rd_T37 (rd_L2 l0_2 x36_2) x47_3).f2) < (-1)) = true := decide_eq_true c48
                    clear c48
                    obtain rfl := Option.some.inj H
                    have hnb49 := NB145_142.out
                    have hnc49 := NB142_145.out
                    have hz50 := zc3 BK145
                    have hz51 := zc3 BK142
                    go_wp2
                    go_ret
                    exact ⟨by first | rfl | (simp [errW_none, errW_some] <;> rfl) | (simp [*, errW_none, errW_some] <;> rfl), zB HB⟩
                   ·
                    rw [if_neg c48] at H
                    have c48b0 : decide (((rd_T37 (rd_L2 l0_2 x36_2) x47_3).f2) < (-1)) = false := decide_eq_false c48
                    clear c48
                    by_cases c52 : ((rd_T37 (rd_L2 l0_2 x36_2) x47_3).f2) ≥ a0_0
                    ·
                     rw [if_pos c52] at H
                     have c52b0 : decide (a0_0 ≤ ((rd_T37 (rd_L2 l0_2 x36_2) x47_3).f2)) = true := decide_eq_true c52
                     clear c52
                     obtain rfl := Option.some.inj H
                     have hnb53 := NB145_142.out
                     have hnc53 := NB142_145.out
                     have hz54 := zc3 BK145
                     have hz55 := zc3 BK142
                     go_wp2
                     go_ret
                     exact ⟨by first | rfl | (simp [errW_none, errW_some] <;> rfl) | (simp [*, errW_none, errW_some] <;> rfl), zB HB⟩
                    ·
                     rw [if_neg c52] at H
                     have c52b0 : decide (a0_0 ≤ ((rd_T37 (rd_L2 l0_2 x36_2) x47_3).f2)) = false := decide_eq_false c52
                     clear c52
                     have H' := Aside0.mk H
                     clear H
                     have hnb56 := NB145_142.out
                     have hnc56 := NB142_145.out
                     have hz57 := zc3 BK145
                     have hz58 := zc3 BK142
                     go_wp2
                     go_roundg k3
                     case measure => have := HJ1.out; have := HK2.out; have := HK3.out; omega
                     case rel => exact ⟨(wrap64 (x47_3 + 1)), (by first | rfl | (simp; done) | (simp [*]; done)), H', ⟨by have := HJ1.out; have := HK2.out; have := HK3.out; omega⟩, ⟨zk BK142⟩, ⟨zB HB⟩⟩
                  ·
                   rw [if_neg c47] at H
                   have c47b0 : (((rd_T37 (rd_L2 l0_2 x36_2) x47_3).f1) == 1) = false := beq_eq_false_iff_ne.mpr c47
                   have c47b1 : (((rd_T37 (rd_L2 l0_2 x36_2) x47_3).f1) != 1) = true := bne_iff_ne.mpr c47
                   obtain rfl := Option.some.inj H
                   have hnb59 := NB145_142.out
                   have hnc59 := NB142_145.out
                   have hz60 := zc3 BK145
                   have hz61 := zc3 BK142
                   go_wp2
                   go_ret
                   exact ⟨by first | rfl | (simp [errW_none, errW_some] <;> rfl) | (simp [*, errW_none, errW_some] <;> rfl), zB HB⟩
              ·
               rw [if_neg c22] at H
               exact absurd H (by simp)
             ·
              rw [if_neg c21] at H
              exact absurd H (by simp)
            ·
             rw [if_neg c20] at H
             have c20b0 : decide (x47_3 < ((rd_L2 l0_2 x36_2).length : Int)) = false := decide_eq_false c20
             clear c20
             have H' := Aside0.mk H
             clear H
             go_wp2
             go_roundg k3
             case measure => have := HJ1.out; have := HK2.out; have := HK3.out; omega
             case rel => exact ⟨(wrap64 (x36_2 + 1)), (by first | rfl | (simp; done) | (simp [*]; done)), H', ⟨by have := HJ1.out; have := HK2.out; have := HK3.out; omega⟩, ⟨zk BK142⟩, ⟨zB HB⟩⟩
         ·
          rw [if_neg c18] at H
          have c18b0 : (((rd_L2 l0_2 x36_2).length : Int) == a0_1) = false := beq_eq_false_iff_ne.mpr c18
          have c18b1 : (((rd_L2 l0_2 x36_2).length : Int) != a0_1) = true := bne_iff_ne.mpr c18
          obtain rfl := Option.some.inj H
          have p143 : 0 ≤ (x36_2 : Int) := of_decide_eq_true (by first | (with_reducible assumption) | assumption)
          have q143 : x36_2 < (l0_2.length : Int) := of_decide_eq_true (by first | (with_reducible assumption) | assumption)
          obtain ⟨ad143, A143_0, c143_0, e143, hx143_0, hl143_0, hi143_0⟩ := at_L2 HR0_2.out x36_2 p143 q143
          cases e143
          replace hx143_0 := (HB.out.cell (World.block_lt_of_cell? w _ hx143_0)).trans hx143_0
          have HR143_0 := Aside0.mk hi143_0
          have HC143_0 := Aside0.mk hl143_0
          clear hi143_0 hl143_0
          replace p143 := eq_true p143
          replace q143 := eq_true q143
          have hz62 := zc3 BK142
          go_wp2
          go_ret
          exact ⟨by first | rfl | (simp [errW_none, errW_some] <;> rfl) | (simp [*, errW_none, errW_some] <;> rfl), zB HB⟩
        ·
         rw [if_neg c17] at H
         exact absurd H (by simp)
       ·
        rw [if_neg c16] at H
        exact absurd H (by simp)
      ·
       rw [if_neg c15] at H
       have c15b0 : decide (x36_2 < (l0_2.length : Int)) = false := decide_eq_false c15
       clear c15
       obtain rfl := Option.some.inj H
       go_wp2
       go_ret
       exact ⟨by first | rfl | (simp [errW_none, errW_some] <;> rfl) | (simp [*, errW_none, errW_some] <;> rfl), zB HB⟩

/-! ### leap_Fits: function 23 -/
def leap_Fits.f (k : Nat) (a0_0 : Int) (a0_1 : Int) (l0_2 : List (List (S37))) (a1_0 : Int) (a1_1 : Int) (a1_2 : Int) (l1_3 : List (S62)) (l1_4 : List (S62)) : Option (Bool) := (tape_Valid.f k a0_0 a0_1 l0_2).bind fun t148 => (if t148 = true then ((leap_fits.f k a0_0 a0_1 a1_0 a1_1 a1_2 l1_3 l1_4).bind fun t149 => (some t149)) else (some false))
theorem leap_Fits.mono : ∀ a0 a1 a2 a3 a4 a5 a6 a7 k, LeO (leap_Fits.f k a0 a1 a2 a3 a4 a5 a6 a7) (leap_Fits.f (k + 1) a0 a1 a2 a3 a4 a5 a6 a7) := by
 intro a0 a1 a2 a3 a4 a5 a6 a7 k
 unfold leap_Fits.f
 repeat' first
   | (with_reducible exact leap_fits.mono _ _ _ _ _ _ _ _)
   | (with_reducible exact tape_Valid.mono _ _ _ _)
   | (with_reducible exact LeO.refl _)
   | (with_reducible exact LeO.none _)
   | (with_reducible refine LeO.ite ?_ ?_)
   | (with_reducible refine LeO.bind ?_ (fun _ => ?_))
   | exact leap_fits.mono _ _ _ _ _ _ _ _
   | exact tape_Valid.mono _ _ _ _
   | exact LeO.none _
   | refine LeO.ite ?_ ?_
   | refine LeO.bind ?_ (fun _ => ?_)
set_option maxHeartbeats 8000000 in
set_option maxRecDepth 100000 in
theorem leap_Fits.calls (k : Nat) (a0_0 : Int) (a0_1 : Int) (A0_2 : Option Addr) (c0_2 : Nat) (l0_2 : List (List (S37))) (a1_0 : Int) (a1_1 : Int) (a1_2 : Int) (A1_3 : Option Addr) (c1_3 : Nat) (l1_3 : List (S62)) (A1_4 : Option Addr) (c1_4 : Nat) (l1_4 : List (S62)) (r : Bool) (w : World) (hr0_2 : Kd.C (Kd.slice 37 k37) w A0_2 l0_2.length l0_2) (hc0_2 : l0_2.length ≤ c0_2) (hr1_3 : Kd.C k62 w A1_3 l1_3.length l1_3) (hc1_3 : l1_3.length ≤ c1_3) (hr1_4 : Kd.C k62 w A1_4 l1_4.length l1_4) (hc1_4 : l1_4.length ≤ c1_4) (h : leap_Fits.f k a0_0 a0_1 l0_2 a1_0 a1_1 a1_2 l1_3 l1_4 = some r) :
  Calls Try.prog 23 #[.agg #[.int .i64 a0_0, .int .i64 a0_1, .slice A0_2 l0_2.length c0_2], .agg #[.int .i64 a1_0, .int .i64 a1_1, .int .i64 a1_2, .slice A1_3 l1_3.length c1_3, .slice A1_4 l1_4.length c1_4]] w fun e w' => e = .returned (.bool r) ∧ Below w.heap.size w w' := by
 have hu24 := Try.underlying24
 have hu27 := Try.underlying27
 have HR0_2 := Aside0.mk hr0_2
 have HC0_2 := Aside0.mk hc0_2
 clear hr0_2 hc0_2
 have HR1_3 := Aside0.mk hr1_3
 have HC1_3 := Aside0.mk hc1_3
 clear hr1_3 hc1_3
 have HR1_4 := Aside0.mk hr1_4
 have HC1_4 := Aside0.mk hc1_4
 clear hr1_4 hc1_4
 have HB := Aside0.mk (Below.refl w.heap.size w)
 have H : ((tape_Valid.f k a0_0 a0_1 l0_2).bind fun t148 => (if t148 = true then ((leap_fits.f k a0_0 a0_1 a1_0 a1_1 a1_2 l1_3 l1_4).bind fun t149 => (some t149)) else (some false))) = some r := h
 clear h
 have HC3 := Aside0.mk H
 clear H
 go_enter Try.func23, Try.ntmps23
 go_upto_region 1 with (first | ((with_reducible refine gate_dst (N := 2) rfl ?_); refine box_event ?hg (N := 2) ?hd (cs := #[.int .i64 a0_0, .int .i64 a0_1, .slice A0_2 l0_2.length c0_2]) (t := 24) ?hr ?_; (case hd => rfl); (case hg => rfl); (case hr => first | (go_simp; done) | (go_simp; rfl)); intro gb146 hg w4 hbox hb; have BK146 := Aside0.mk (hbox); have GW146 := Aside0.mk ((by rw [hg]; exact (below_size (zB HB)) : w.heap.size ≤ gb146)); have GE146 := Aside0.mk ((by rw [hg]; exact (below_size (zB HB)) : w.heap.size ≤ gb146)); replace HB := Aside0.mk (below_step (zB HB) hb); clear hb hbox hg) | ((with_reducible refine gate_dst (N := 3) rfl ?_); refine box_event ?hg (N := 3) ?hd (cs := #[.int .i64 a1_0, .int .i64 a1_1, .int .i64 a1_2, .slice A1_3 l1_3.length c1_3, .slice A1_4 l1_4.length c1_4]) (t := 27) ?hr ?_; (case hd => rfl); (case hg => rfl); (case hr => first | (go_simp; done) | (go_simp; rfl)); intro gb147 hg w5 hbox hb; have BK147 := Aside0.mk (hbox); have GW147 := Aside0.mk ((by rw [hg]; exact (below_size (zB HB)) : w.heap.size ≤ gb147)); have GE147 := Aside0.mk ((by rw [hg]; exact (below_size (zB HB)) : w.heap.size ≤ gb147)); have NB146_147 := Aside0.mk ((by rw [hg]; exact Nat.ne_of_lt (zL BK146) : gb146 ≠ gb147)); have NB147_146 := Aside0.mk ((by rw [hg]; exact Nat.ne_of_gt (zL BK146) : gb147 ≠ gb146)); replace BK146 := Aside0.mk (zb BK146 hb); replace HB := Aside0.mk (below_step (zB HB) hb); clear hb hbox hg))
 (try simp only [Act.put, zs, zs0, zs1])
 have H := HC3.out
 clear HC3
 replace H := Option.bind_eq_some_iff.mp H
 obtain ⟨t148, A60, H⟩ := H
 replace H : (if t148 = true then ((leap_fits.f k a0_0 a0_1 a1_0 a1_1 a1_2 l1_3 l1_4).bind fun t149 => (some t149)) else (some false)) = some r := H
 have A6 := Aside0.mk A60
 clear A60
 by_cases c7 : t148 = true
 ·
  subst c7
  have H1 : ((leap_fits.f k a0_0 a0_1 a1_0 a1_1 a1_2 l1_3 l1_4).bind fun t149 => (some t149)) = some r := by rw [if_pos rfl] at H; exact H
  clear H
  have H := H1
  clear H1
  replace H := Option.bind_eq_some_iff.mp H
  obtain ⟨t149, A80, H⟩ := H
  replace H : (some t149) = some r := H
  have A8 := Aside0.mk A80
  clear A80
  obtain rfl := Option.some.inj H
  have hnb9 := NB146_147.out
  have hnc9 := NB147_146.out
  have hz10 := zc3 BK146
  go_wp2_with (first | ((with_reducible refine gate_callee (f := 30) rfl ?_); refine goesL_ (some 6) rfl rfl Try.func30 (by kernel_rfl) rfl #[.agg #[.int .i64 a0_0, .int .i64 a0_1, .slice A0_2 l0_2.length c0_2]] rfl (zm) ?_; (with_reducible refine (tape_Valid.calls k a0_0 a0_1 _ _ l0_2 true _ ?side1 ?side2 A6.out).mono ?_); (case side1 => exact zC ((Kd.C_below HR0_2.out HB.out))); (case side2 => exact HC0_2.out); rintro e w11 ⟨rfl, hb⟩; refine ⟨_, rfl, ?_⟩; replace BK146 := Aside0.mk (zb BK146 hb); replace BK147 := Aside0.mk (zb BK147 hb); replace HB := Aside0.mk (below_step (zB HB) hb); (try clear hb); (try clear hb2); (try clear hk); (try clear hi); have hz12 := zc3 BK146; have hz13 := zc5 BK147) | (go_at_call 26; (with_reducible refine (leap_fits.calls k a0_0 a0_1 a1_0 a1_1 a1_2 _ _ l1_3 _ _ l1_4 t149 _ ?side1 ?side2 ?side3 ?side4 A8.out).mono ?_); (case side1 => exact zC ((Kd.C_below HR1_3.out HB.out))); (case side2 => exact HC1_3.out); (case side3 => exact zC ((Kd.C_below HR1_4.out HB.out))); (case side4 => exact HC1_4.out); rintro e w14 ⟨rfl, hb⟩; replace BK146 := Aside0.mk (zb BK146 hb); replace BK147 := Aside0.mk (zb BK147 hb); replace HB := Aside0.mk (below_step (zB HB) hb); (try clear hb); (try clear hb2); (try clear hk); (try clear hi)))
  go_ret
  exact ⟨by first | rfl | (simp [errW_none, errW_some] <;> rfl) | (simp [*, errW_none, errW_some] <;> rfl), zB HB⟩
 ·
  replace c7 := Bool.eq_false_iff.mpr c7
  subst c7
  have H1 : (some false) = some r := by rw [if_neg (show ¬ (false = true) by decide)] at H; exact H
  clear H
  have H := H1
  clear H1
  obtain rfl := Option.some.inj H
  have hnb15 := NB146_147.out
  have hnc15 := NB147_146.out
  have hz16 := zc3 BK146
  go_wp2_with (first | ((with_reducible refine gate_callee (f := 30) rfl ?_); refine goesL_ (some 6) rfl rfl Try.func30 (by kernel_rfl) rfl #[.agg #[.int .i64 a0_0, .int .i64 a0_1, .slice A0_2 l0_2.length c0_2]] rfl (zm) ?_; (with_reducible refine (tape_Valid.calls k a0_0 a0_1 _ _ l0_2 false _ ?side1 ?side2 A6.out).mono ?_); (case side1 => exact zC ((Kd.C_below HR0_2.out HB.out))); (case side2 => exact HC0_2.out); rintro e w17 ⟨rfl, hb⟩; refine ⟨_, rfl, ?_⟩; replace BK146 := Aside0.mk (zb BK146 hb); replace BK147 := Aside0.mk (zb BK147 hb); replace HB := Aside0.mk (below_step (zB HB) hb); (try clear hb); (try clear hb2); (try clear hk); (try clear hi)))
  go_ret
  exact ⟨by first | rfl | (simp [errW_none, errW_some] <;> rfl) | (simp [*, errW_none, errW_some] <;> rfl), zB HB⟩

end Go.Proofs.Ytpemcbjdlpajlaa.G1
