/- The functions of one seat as Lean functions, each with its contract: the call of the Go function returns what the Lean function answers. Written by a program of this session out of the translation; contracts made by hand are laid between. -/
import Derived.Test.YtpemcbjdlpajlaaG1x0
import Derived.Test.YtpemcbjdlpajlaaG1x6
namespace Go.Proofs.Ytpemcbjdlpajlaa.G1
open Go.RowKit Go.Proofs.YtpemcbjdlpajlaaW.PrintWords Go.Proofs.YtpemcbjdlpajlaaW.PrintLast Go.Proofs.YtpemcbjdlpajlaaW.PrintMore
attribute [local go_sem] max2_int min2_int max_two min_two max_three min_three max_four min_four   -- for this text's walks alone
set_option linter.unusedVariables false
set_option linter.unusedSimpArgs false

/-! ### leap_leap: function 24 -/
mutual
def leap_leap.j0 : Nat → List (S62) → List (S62) → Int → Int → Int → List (S62) → List (S62) → Int → Int → Int → Option (Int × Int × Int × (List (S62)) × (List (S62)) × Int × Bool)
 | 0, _, _, _, _, _, _, _, _, _, _ => none
 | k + 1, x8, x9, x189000, x189001, x189002, x189003, x189004, x193000, x193001, x193002 => if x193002 = x189000 then (if (x8.length : Int) = 0 then (leap_leap.j1 k x8 x9 1 (x189002 == 0) x189000 x189001 x189002 x189003 x189004 x193000 x193001 x193002) else (leap_leap.j1 k x8 x9 1 false x189000 x189001 x189002 x189003 x189004 x193000 x193001 x193002)) else (leap_leap.j2 k x8 x9 1 x189000 x189001 x189002 x189003 x189004 x193000 x193001 x193002)
def leap_leap.j2 : Nat → List (S62) → List (S62) → Int → Int → Int → Int → List (S62) → List (S62) → Int → Int → Int → Option (Int × Int × Int × (List (S62)) × (List (S62)) × Int × Bool)
 | 0, _, _, _, _, _, _, _, _, _, _, _ => none
 | k + 1, x8, x9, x10, x189000, x189001, x189002, x189003, x189004, x193000, x193001, x193002 => (leap_before.f k x193000 x10 x9).bind fun t200 => ((leap_split.f x8).bind fun bt203 => (if x193001 < 0 then ((api_Run.f bt203.2).bind fun t208 => ((api_Run.f t200).bind fun t211 => (some (x193002, wrap64 (x189001 + (wrap64 (x193001 * x10))), bt203.1, t208, t211, x10, false)))) else ((api_Run.f t200).bind fun t214 => ((api_Run.f bt203.2).bind fun t217 => (some (x193002, wrap64 (x189001 + (wrap64 (x193001 * x10))), bt203.1, t214, t217, x10, false))))))
def leap_leap.j1 : Nat → List (S62) → List (S62) → Int → Bool → Int → Int → Int → List (S62) → List (S62) → Int → Int → Int → Option (Int × Int × Int × (List (S62)) × (List (S62)) × Int × Bool)
 | 0, _, _, _, _, _, _, _, _, _, _, _, _ => none
 | k + 1, x8, x9, x10, x40, x189000, x189001, x189002, x189003, x189004, x193000, x193001, x193002 => if x40 = true then (some (x189000, x189001, x189002, x189003, x189004, 0, true)) else (if (x8.length : Int) > 0 then (if 0 < (x8.length : Int) then (if ((rd_T62 x8 0).f0) = x189002 then (if 1 ≤ (x8.length : Int) then (leap_leap.j2 k (x8.drop 1) x9 (wrap64 (x10 + ((rd_T62 x8 0).f1))) x189000 x189001 x189002 x189003 x189004 x193000 x193001 x193002) else (none)) else (leap_leap.j2 k x8 x9 x10 x189000 x189001 x189002 x189003 x189004 x193000 x193001 x193002)) else (none)) else (leap_leap.j2 k x8 x9 x10 x189000 x189001 x189002 x189003 x189004 x193000 x193001 x193002))
end
def leap_leap.f (k : Nat) (a0_0 : Int) (a0_1 : Int) (l0_2 : List (List (S37))) (a1_0 : Int) (a1_1 : Int) (a1_2 : Int) (l1_3 : List (S62)) (l1_4 : List (S62)) : Option (Int × Int × Int × (List (S62)) × (List (S62)) × Int × Bool) := if 0 ≤ a1_0 then (if a1_0 < (l0_2.length : Int) then (if 0 ≤ a1_2 then (if a1_2 < ((rd_L2 l0_2 a1_0).length : Int) then (if ((rd_T37 (rd_L2 l0_2 a1_0) a1_2).f1) < 0 then (leap_leap.j0 k l1_3 l1_4 a1_0 a1_1 a1_2 l1_3 l1_4 ((rd_T37 (rd_L2 l0_2 a1_0) a1_2).f0) ((rd_T37 (rd_L2 l0_2 a1_0) a1_2).f1) ((rd_T37 (rd_L2 l0_2 a1_0) a1_2).f2)) else (leap_leap.j0 k l1_4 l1_3 a1_0 a1_1 a1_2 l1_3 l1_4 ((rd_T37 (rd_L2 l0_2 a1_0) a1_2).f0) ((rd_T37 (rd_L2 l0_2 a1_0) a1_2).f1) ((rd_T37 (rd_L2 l0_2 a1_0) a1_2).f2))) else (none)) else (none)) else (none)) else (none)
theorem leap_leap.mono_l : ∀ k, (∀ y0 y1 y2 y3 y4 y5 y6 y7 y8 y9, LeO (leap_leap.j0 k y0 y1 y2 y3 y4 y5 y6 y7 y8 y9) (leap_leap.j0 (k + 1) y0 y1 y2 y3 y4 y5 y6 y7 y8 y9)) ∧ (∀ y0 y1 y2 y3 y4 y5 y6 y7 y8 y9 y10, LeO (leap_leap.j2 k y0 y1 y2 y3 y4 y5 y6 y7 y8 y9 y10) (leap_leap.j2 (k + 1) y0 y1 y2 y3 y4 y5 y6 y7 y8 y9 y10)) ∧ (∀ y0 y1 y2 y3 y4 y5 y6 y7 y8 y9 y10 y11, LeO (leap_leap.j1 k y0 y1 y2 y3 y4 y5 y6 y7 y8 y9 y10 y11) (leap_leap.j1 (k + 1) y0 y1 y2 y3 y4 y5 y6 y7 y8 y9 y10 y11))
 | 0 => ⟨fun _ _ _ _ _ _ _ _ _ _ r h => by simp [leap_leap.j0] at h, fun _ _ _ _ _ _ _ _ _ _ _ r h => by simp [leap_leap.j2] at h, fun _ _ _ _ _ _ _ _ _ _ _ _ r h => by simp [leap_leap.j1] at h⟩
 | k + 1 => by
  obtain ⟨ih0, ih1, ih2⟩ := leap_leap.mono_l k
  refine ⟨?_, ?_, ?_⟩
  ·
   intro y0 y1 y2 y3 y4 y5 y6 y7 y8 y9
   unfold leap_leap.j0
   repeat' first
   | (with_reducible exact ih0 _ _ _ _ _ _ _ _ _ _)
   | (with_reducible exact ih1 _ _ _ _ _ _ _ _ _ _ _)
   | (with_reducible exact ih2 _ _ _ _ _ _ _ _ _ _ _ _)
   | (with_reducible exact leap_before.mono _ _ _ _)
   | (with_reducible exact LeO.refl _)
   | (with_reducible exact LeO.none _)
   | (with_reducible refine LeO.ite ?_ ?_)
   | (with_reducible refine LeO.bind ?_ (fun _ => ?_))
   | exact ih0 _ _ _ _ _ _ _ _ _ _
   | exact ih1 _ _ _ _ _ _ _ _ _ _ _
   | exact ih2 _ _ _ _ _ _ _ _ _ _ _ _
   | exact leap_before.mono _ _ _ _
   | exact LeO.none _
   | refine LeO.ite ?_ ?_
   | refine LeO.bind ?_ (fun _ => ?_)
  ·
   intro y0 y1 y2 y3 y4 y5 y6 y7 y8 y9 y10
   unfold leap_leap.j2
   repeat' first
   | (with_reducible exact ih0 _ _ _ _ _ _ _ _ _ _)
   | (with_reducible exact ih1 _ _ _ _ _ _ _ _ _ _ _)
   | (with_reducible exact ih2 _ _ _ _ _ _ _ _ _ _ _ _)
   | (with_reducible exact leap_before.mono _ _ _ _)
   | (with_reducible exact LeO.refl _)
   | (with_reducible exact LeO.none _)
   | (with_reducible refine LeO.ite ?_ ?_)
   | (with_reducible refine LeO.bind ?_ (fun _ => ?_))
   | exact ih0 _ _ _ _ _ _ _ _ _ _
   | exact ih1 _ _ _ _ _ _ _ _ _ _ _
   | exact ih2 _ _ _ _ _ _ _ _ _ _ _ _
   | exact leap_before.mono _ _ _ _
   | exact LeO.none _
   | refine LeO.ite ?_ ?_
   | refine LeO.bind ?_ (fun _ => ?_)
  ·
   intro y0 y1 y2 y3 y4 y5 y6 y7 y8 y9 y10 y11
   unfold leap_leap.j1
   repeat' first
   | (with_reducible exact ih0 _ _ _ _ _ _ _ _ _ _)
   | (with_reducible exact ih1 _ _ _ _ _ _ _ _ _ _ _)
   | (with_reducible exact ih2 _ _ _ _ _ _ _ _ _ _ _ _)
   | (with_reducible exact leap_before.mono _ _ _ _)
   | (with_reducible exact LeO.refl _)
   | (with_reducible exact LeO.none _)
   | (with_reducible refine LeO.ite ?_ ?_)
   | (with_reducible refine LeO.bind ?_ (fun _ => ?_))
   | exact ih0 _ _ _ _ _ _ _ _ _ _
   | exact ih1 _ _ _ _ _ _ _ _ _ _ _
   | exact ih2 _ _ _ _ _ _ _ _ _ _ _ _
   | exact leap_before.mono _ _ _ _
   | exact LeO.none _
   | refine LeO.ite ?_ ?_
   | refine LeO.bind ?_ (fun _ => ?_)
theorem leap_leap.mono : ∀ a0 a1 a2 a3 a4 a5 a6 a7 k, LeO (leap_leap.f k a0 a1 a2 a3 a4 a5 a6 a7) (leap_leap.f (k + 1) a0 a1 a2 a3 a4 a5 a6 a7) := by
 intro a0 a1 a2 a3 a4 a5 a6 a7 k
 obtain ⟨ih0, ih1, ih2⟩ := leap_leap.mono_l k
 unfold leap_leap.f
 repeat' first
   | (with_reducible exact ih0 _ _ _ _ _ _ _ _ _ _)
   | (with_reducible exact ih1 _ _ _ _ _ _ _ _ _ _ _)
   | (with_reducible exact ih2 _ _ _ _ _ _ _ _ _ _ _ _)
   | (with_reducible exact leap_before.mono _ _ _ _)
   | (with_reducible exact LeO.refl _)
   | (with_reducible exact LeO.none _)
   | (with_reducible refine LeO.ite ?_ ?_)
   | (with_reducible refine LeO.bind ?_ (fun _ => ?_))
   | exact ih0 _ _ _ _ _ _ _ _ _ _
   | exact ih1 _ _ _ _ _ _ _ _ _ _ _
   | exact ih2 _ _ _ _ _ _ _ _ _ _ _ _
   | exact leap_before.mono _ _ _ _
   | exact LeO.none _
   | refine LeO.ite ?_ ?_
   | refine LeO.bind ?_ (fun _ => ?_)
def leap_leap.T1 : Bool × List (List Nat × List Nat) := (true, [([], []), ([0], [0]), ([], []), ([2], [2]), ([1, 3], [1, 3]), ([4], [4]), ([], []), ([6], [6]), ([5, 7], [5, 7]), ([8], [8]), ([], []), ([10, 9, 0, 1, 2, 3, 4, 5, 6, 7, 8, 9, 10], [9, 10])])
def leap_leap.B1 : List Nat := [0, 1, 0, 4, 15, 31, 0, 64, 255, 511, 0, 2047]
theorem leap_leap.tab1 : rtab .any (opsOf Try.f24 1) = leap_leap.T1 := by kernel_rfl
theorem leap_leap.bits1 : waitsOk leap_leap.T1.2 leap_leap.B1 = true := by kernel_rfl
def leap_leap.T9 : Bool × List (List Nat × List Nat) := (true, [([], []), ([0], [0]), ([1], [1]), ([2], [2]), ([3], [3]), ([4, 3], [3, 4]), ([5, 3], [3, 5]), ([6, 3], [3, 6]), ([3], [3]), ([8, 3], [3, 8]), ([7, 9, 3], [3, 7, 9]), ([3, 10], [3, 10]), ([11, 3], [11])])
def leap_leap.B9 : List Nat := [0, 1, 3, 7, 15, 31, 63, 127, 15, 271, 1023, 2047, 4095]
theorem leap_leap.tab9 : rtab .any (opsOf Try.f24 9) = leap_leap.T9 := by kernel_rfl
theorem leap_leap.bits9 : waitsOk leap_leap.T9.2 leap_leap.B9 = true := by kernel_rfl
def leap_leap.T17 : Bool × List (List Nat × List Nat) := (true, [([], []), ([0], [0]), ([1], [1]), ([], []), ([3], [3]), ([4, 2], [4]), ([0, 1, 2, 3, 4], []), ([6, 2, 5, 0, 1, 2, 3, 4], [2, 6]), ([0, 1, 2, 3, 4, 5, 6, 7], []), ([8, 5, 7, 0, 1, 2, 3, 4, 5, 6, 7], [5, 8])])
def leap_leap.B17 : List Nat := [0, 1, 3, 0, 8, 31, 31, 127, 255, 511]
theorem leap_leap.tab17 : rtab .any (opsOf Try.f24 17) = leap_leap.T17 := by kernel_rfl
theorem leap_leap.bits17 : waitsOk leap_leap.T17.2 leap_leap.B17 = true := by kernel_rfl
set_option maxHeartbeats 8000000 in
set_option maxRecDepth 100000 in
theorem leap_leap.calls (k : Nat) (a0_0 : Int) (a0_1 : Int) (A0_2 : Option Addr) (c0_2 : Nat) (l0_2 : List (List (S37))) (a1_0 : Int) (a1_1 : Int) (a1_2 : Int) (P1_3_ : Nat → Prop) (A1_3 : Option Addr) (c1_3 : Nat) (l1_3 : List (S62)) (P1_4_ : Nat → Prop) (A1_4 : Option Addr) (c1_4 : Nat) (l1_4 : List (S62)) (r1 : Int) (r2 : Int) (r3 : Int) (r4 : List (S62)) (r5 : List (S62)) (r6 : Int) (r7 : Bool) (w : World) (hr0_2 : Kd.C (Kd.slice 37 k37) w A0_2 l0_2.length l0_2) (hc0_2 : l0_2.length ≤ c0_2) (hs1_3 : Kd.V k62 62 w w.heap.size (fun k_ => P1_3_ k_) (.slice A1_3 l1_3.length c1_3) l1_3) (hs1_4 : Kd.V k62 62 w w.heap.size (fun k_ => P1_4_ k_) (.slice A1_4 l1_4.length c1_4) l1_4) (h : leap_leap.f k a0_0 a0_1 l0_2 a1_0 a1_1 a1_2 l1_3 l1_4 = some (r1, r2, r3, r4, r5, r6, r7)) :
  Calls Try.prog 24 #[.agg #[.int .i64 a0_0, .int .i64 a0_1, .slice A0_2 l0_2.length c0_2], .agg #[.int .i64 a1_0, .int .i64 a1_1, .int .i64 a1_2, .slice A1_3 l1_3.length c1_3, .slice A1_4 l1_4.length c1_4]] w fun e w' => ∃ v3_ v4_ : Value, e = .returned (.tuple #[.agg #[.int .i64 r1, .int .i64 r2, .int .i64 r3, v3_, v4_], .int .i64 r6, .bool r7]) ∧ Kd.V k62 62 w' w.heap.size (fun k_ => ((P1_3_ k_ ∨ P1_4_ k_) ∨ w.heap.size ≤ k_)) v3_ r4 ∧ Kd.V k62 62 w' w.heap.size (fun k_ => ((P1_3_ k_ ∨ P1_4_ k_) ∨ w.heap.size ≤ k_)) v4_ r5 ∧ Below w.heap.size w w' := by
 have hu24 := Try.underlying24
 have hu27 := Try.underlying27
 have hu37 := Try.underlying37
 have HR0_2 := Aside0.mk hr0_2
 have HC0_2 := Aside0.mk hc0_2
 clear hr0_2 hc0_2
 have HO1_3 := Aside0.mk (show Kd.V k62 62 w w.heap.size (fun k_ => ((P1_3_ k_ ∨ P1_4_ k_) ∨ w.heap.size ≤ k_)) (.slice A1_3 l1_3.length c1_3) l1_3 from Kd.V_mono hs1_3 (fun k_ hk => .inl (.inl hk)))
 have HO1_4 := Aside0.mk (show Kd.V k62 62 w w.heap.size (fun k_ => ((P1_3_ k_ ∨ P1_4_ k_) ∨ w.heap.size ≤ k_)) (.slice A1_4 l1_4.length c1_4) l1_4 from Kd.V_mono hs1_4 (fun k_ hk => .inl (.inr hk)))
 have HB := Aside0.mk (Below.refl w.heap.size w)
 have H : (if 0 ≤ a1_0 then (if a1_0 < (l0_2.length : Int) then (if 0 ≤ a1_2 then (if a1_2 < ((rd_L2 l0_2 a1_0).length : Int) then (if ((rd_T37 (rd_L2 l0_2 a1_0) a1_2).f1) < 0 then (leap_leap.j0 k l1_3 l1_4 a1_0 a1_1 a1_2 l1_3 l1_4 ((rd_T37 (rd_L2 l0_2 a1_0) a1_2).f0) ((rd_T37 (rd_L2 l0_2 a1_0) a1_2).f1) ((rd_T37 (rd_L2 l0_2 a1_0) a1_2).f2)) else (leap_leap.j0 k l1_4 l1_3 a1_0 a1_1 a1_2 l1_3 l1_4 ((rd_T37 (rd_L2 l0_2 a1_0) a1_2).f0) ((rd_T37 (rd_L2 l0_2 a1_0) a1_2).f1) ((rd_T37 (rd_L2 l0_2 a1_0) a1_2).f2))) else (none)) else (none)) else (none)) else (none)) = some (r1, r2, r3, r4, r5, r6, r7) := h
 clear h
 by_cases c3 : 0 ≤ a1_0
 ·
  rw [if_pos c3] at H
  have c3b0 : decide (0 ≤ a1_0) = true := decide_eq_true c3
  clear c3
  by_cases c4 : a1_0 < (l0_2.length : Int)
  ·
   rw [if_pos c4] at H
   have c4b0 : decide (a1_0 < (l0_2.length : Int)) = true := decide_eq_true c4
   clear c4
   by_cases c5 : 0 ≤ a1_2
   ·
    rw [if_pos c5] at H
    have c5b0 : decide (0 ≤ a1_2) = true := decide_eq_true c5
    clear c5
    by_cases c6 : a1_2 < ((rd_L2 l0_2 a1_0).length : Int)
    ·
     rw [if_pos c6] at H
     have c6b0 : decide (a1_2 < ((rd_L2 l0_2 a1_0).length : Int)) = true := decide_eq_true c6
     clear c6
     have HC7 := Aside0.mk H
     clear H
     go_enter Try.func24, Try.ntmps24
     try go_wp2_with (first | ((with_reducible refine gate_dst (N := 2) rfl ?_); refine box_event ?hg (N := 2) ?hd (cs := #[.int .i64 a0_0, .int .i64 a0_1, .slice A0_2 l0_2.length c0_2]) (t := 24) ?hr ?_; (case hd => rfl); (case hg => rfl); (case hr => first | (go_simp; done) | (go_simp; rfl)); intro gb187 hg w8 hbox hb; have BK187 := Aside0.mk (hbox); have GW187 := Aside0.mk ((by rw [hg]; exact (below_size (zB HB)) : w.heap.size ≤ gb187)); have GE187 := Aside0.mk ((by rw [hg]; exact (below_size (zB HB)) : w.heap.size ≤ gb187)); replace HO1_3 := Aside0.mk (Kd.V_below (Kd.V_elderB (zV HO1_3) gb187 (Nat.le_of_eq hg.symm)) hb); replace HO1_4 := Aside0.mk (Kd.V_below (Kd.V_elderB (zV HO1_4) gb187 (Nat.le_of_eq hg.symm)) hb); replace HB := Aside0.mk (below_step (zB HB) hb); clear hb hbox hg) | ((with_reducible refine gate_dst (N := 3) rfl ?_); refine box_event ?hg (N := 3) ?hd (cs := #[.int .i64 a1_0, .int .i64 a1_1, .int .i64 a1_2, .slice A1_3 l1_3.length c1_3, .slice A1_4 l1_4.length c1_4]) (t := 27) ?hr ?_; (case hd => rfl); (case hg => rfl); (case hr => first | (go_simp; done) | (go_simp; rfl)); intro gb188 hg w9 hbox hb; have BK188 := Aside0.mk (hbox); have GW188 := Aside0.mk ((by rw [hg]; exact (below_size (zB HB)) : w.heap.size ≤ gb188)); have GE188 := Aside0.mk ((by rw [hg]; exact (below_size (zB HB)) : w.heap.size ≤ gb188)); have NB187_188 := Aside0.mk ((by rw [hg]; exact Nat.ne_of_lt (zL BK187) : gb187 ≠ gb188)); have NB188_187 := Aside0.mk ((by rw [hg]; exact Nat.ne_of_gt (zL BK187) : gb188 ≠ gb187)); replace HO1_3 := Aside0.mk (Kd.V_below (Kd.V_elderB (zV HO1_3) gb188 (Nat.le_of_eq hg.symm)) hb); replace HO1_4 := Aside0.mk (Kd.V_below (Kd.V_elderB (zV HO1_4) gb188 (Nat.le_of_eq hg.symm)) hb); replace BK187 := Aside0.mk (zb BK187 hb); replace HB := Aside0.mk (below_step (zB HB) hb); clear hb hbox hg) | ((with_reducible refine gate_dst (N := 4) rfl ?_); refine box_event ?hg (N := 4) ?hd (cs := #[.int .i64 0, .int .i64 0, .int .i64 0, .slice none 0 0, .slice none 0 0]) (t := 27) ?hr ?_; (case hd => rfl); (case hg => rfl); (case hr => first | (go_simp; done) | (go_simp; rfl)); intro gb189 hg w10 hbox hb; have BK189 := Aside0.mk (hbox); have GW189 := Aside0.mk ((by rw [hg]; exact (below_size (zB HB)) : w.heap.size ≤ gb189)); have GE189 := Aside0.mk ((by rw [hg]; exact (below_size (zB HB)) : w.heap.size ≤ gb189)); have NB187_189 := Aside0.mk ((by rw [hg]; exact Nat.ne_of_lt (zL BK187) : gb187 ≠ gb189)); have NB189_187 := Aside0.mk ((by rw [hg]; exact Nat.ne_of_gt (zL BK187) : gb189 ≠ gb187)); have NB188_189 := Aside0.mk ((by rw [hg]; exact Nat.ne_of_lt (zL BK188) : gb188 ≠ gb189)); have NB189_188 := Aside0.mk ((by rw [hg]; exact Nat.ne_of_gt (zL BK188) : gb189 ≠ gb188)); replace HO1_3 := Aside0.mk (Kd.V_below (Kd.V_elderB (zV HO1_3) gb189 (Nat.le_of_eq hg.symm)) hb); replace HO1_4 := Aside0.mk (Kd.V_below (Kd.V_elderB (zV HO1_4) gb189 (Nat.le_of_eq hg.symm)) hb); replace BK187 := Aside0.mk (zb BK187 hb); replace BK188 := Aside0.mk (zb BK188 hb); replace HB := Aside0.mk (below_step (zB HB) hb); clear hb hbox hg))
     replace HO1_3 := Aside0.mk (Kd.V_drew HO1_3.out)
     replace HO1_4 := Aside0.mk (Kd.V_drew HO1_4.out)
     replace BK187 := Aside0.mk (blk_drew BK187.out)
     replace BK188 := Aside0.mk (blk_drew BK188.out)
     replace BK189 := Aside0.mk (blk_drew BK189.out)
     replace HB := Aside0.mk (below_drew1 HB.out)
     have p190 : 0 ≤ (a1_0 : Int) := of_decide_eq_true (by first | (with_reducible assumption) | assumption)
     have q190 : a1_0 < (l0_2.length : Int) := of_decide_eq_true (by first | (with_reducible assumption) | assumption)
     obtain ⟨ad190, A190_0, c190_0, e190, hx190_0, hl190_0, hi190_0⟩ := at_L2 HR0_2.out a1_0 p190 q190
     have hw190_0 := hx190_0
     cases e190
     replace hx190_0 := (HB.out.cell (World.block_lt_of_cell? w _ hx190_0)).trans hx190_0
     have HR190_0 := Aside0.mk hi190_0
     have HC190_0 := Aside0.mk hl190_0
     clear hi190_0 hl190_0
     replace p190 := eq_true p190
     replace q190 := eq_true q190
     have p191 : 0 ≤ (a1_2 : Int) := of_decide_eq_true (by first | (with_reducible assumption) | assumption)
     have q191 : a1_2 < ((rd_L2 l0_2 a1_0).length : Int) := of_decide_eq_true (by first | (with_reducible assumption) | assumption)
     obtain ⟨ad191, e191, hx191_0, hx191_1, hx191_2⟩ := at_T37 HR190_0.out a1_2 p191 q191
     have hw191_2 := hx191_2
     have hw191_1 := hx191_1
     have hw191_0 := hx191_0
     cases e191
     replace hx191_0 := (HB.out.cell (World.block_lt_of_cell? w _ hx191_0)).trans hx191_0
     replace hx191_1 := (HB.out.cell (World.block_lt_of_cell? w _ hx191_1)).trans hx191_1
     replace hx191_2 := (HB.out.cell (World.block_lt_of_cell? w _ hx191_2)).trans hx191_2
     replace p191 := eq_true p191
     replace q191 := eq_true q191
     refine start_ (n := 12) (S := fun w' => w'.cell? ⟨gb187, 0, none⟩ = some (.int .i64 a0_0) ∧ w'.cell? ⟨gb187, 1, none⟩ = some (.int .i64 a0_1) ∧ w'.cell? ⟨gb187, 2, none⟩ = some (.slice (some ad190) l0_2.length c0_2) ∧ w'.cell? ⟨gb188, 0, none⟩ = some (.int .i64 a1_0) ∧ w'.cell? ⟨gb188, 1, none⟩ = some (.int .i64 a1_1) ∧ w'.cell? ⟨gb188, 2, none⟩ = some (.int .i64 a1_2) ∧ w'.cell? ⟨gb188, 3, none⟩ = some (.slice A1_3 l1_3.length c1_3) ∧ w'.cell? ⟨gb188, 4, none⟩ = some (.slice A1_4 l1_4.length c1_4) ∧ w'.cell? (ad190.add (a1_0).toNat) = some (.slice (some ad191) (rd_L2 l0_2 a1_0).length c190_0) ∧ w'.cell? (ad191.add ((a1_2).toNat * 3)) = some (.int .i64 ((rd_T37 (rd_L2 l0_2 a1_0) a1_2).f0)) ∧ w'.cell? ⟨(ad191.add ((a1_2).toNat * 3)).block, (ad191.add ((a1_2).toNat * 3)).off + 1, none⟩ = some (.int .i64 ((rd_T37 (rd_L2 l0_2 a1_0) a1_2).f1)) ∧ w'.cell? ⟨(ad191.add ((a1_2).toNat * 3)).block, (ad191.add ((a1_2).toNat * 3)).off + 2, none⟩ = some (.int .i64 ((rd_T37 (rd_L2 l0_2 a1_0) a1_2).f2))) (ds := []) (zl 12 0) (by kernel_rfl) rfl rfl ⟨(blk_cell BK187.out 0).trans rfl, (blk_cell BK187.out 1).trans rfl, (blk_cell BK187.out 2).trans rfl, (blk_cell BK188.out 0).trans rfl, (blk_cell BK188.out 1).trans rfl, (blk_cell BK188.out 2).trans rfl, (blk_cell BK188.out 3).trans rfl, (blk_cell BK188.out 4).trans rfl, ((HB.out.cell (World.block_lt_of_cell? w _ hw190_0)).trans hw190_0), ((HB.out.cell (World.block_lt_of_cell? w _ hw191_0)).trans hw191_0), ((HB.out.cell (World.block_lt_of_cell? w _ hw191_1)).trans hw191_1), ((HB.out.cell (World.block_lt_of_cell? w _ hw191_2)).trans hw191_2)⟩ (fun hHeld => ?_); refine with_tabW leap_leap.tab1 leap_leap.bits1 (fun HT_ HW_ => ?_)
     generalize w10.drew = w11 at HO1_3 HO1_4 BK187 BK188 BK189 HB HR190_0 hx190_0 hx191_0 hx191_1 hx191_2 hHeld ⊢
     refine zP 0 (some 14) (zl 12 1) HT_ ?_
     refine zP 2 (some 16) (zl 12 5) HT_ ?_
     refine zP 6 (some 20) (zl 12 69) HT_ ?_
     refine zT 1 (some 15) (zl 12 71) HT_ HW_ hHeld ?_
     refine zT 3 (some 17) (zl 12 79) HT_ HW_ hHeld ?_
     refine zP 4 (some 18) (zl 12 95) HT_ ?_
     refine zT 5 (some 19) (zl 12 127) HT_ HW_ hHeld ?_
     refine zT 7 (some 21) (zl 12 255) HT_ HW_ hHeld ?_
     refine zP 8 (some 22) (zl 12 511) HT_ ?_
     refine zT 9 (some 23) (zl 12 1023) HT_ HW_ hHeld ?_
     refine one_ (i := 10) (N := some 7) (zl 12 2047) rfl rfl (one_of HT_.out (by kernel_rfl)) (by decide) (fun K hK => ?_)
     refine box_step ?hg (N := 7) ?hd (cs := #[.int .i64 0, .int .i64 0, .int .i64 0]) (t := 37) ?hr ?_; (case hd => rfl); (case hg => rfl); (case hr => first | (go_simp; done) | (go_simp; rfl))
     intro gb192 hg w12 hbox hb
     have BK192 := Aside0.mk (hbox)
     have GW192 := Aside0.mk ((by rw [hg]; exact (below_size (zB HB)) : w.heap.size ≤ gb192))
     have GE192 := Aside0.mk ((by rw [hg]; exact (below_size (zB HB)) : w.heap.size ≤ gb192))
     have NB187_192 := Aside0.mk ((by rw [hg]; exact Nat.ne_of_lt (zL BK187) : gb187 ≠ gb192))
     have NB192_187 := Aside0.mk ((by rw [hg]; exact Nat.ne_of_gt (zL BK187) : gb192 ≠ gb187))
     have NB188_192 := Aside0.mk ((by rw [hg]; exact Nat.ne_of_lt (zL BK188) : gb188 ≠ gb192))
     have NB192_188 := Aside0.mk ((by rw [hg]; exact Nat.ne_of_gt (zL BK188) : gb192 ≠ gb188))
     have NB189_192 := Aside0.mk ((by rw [hg]; exact Nat.ne_of_lt (zL BK189) : gb189 ≠ gb192))
     have NB192_189 := Aside0.mk ((by rw [hg]; exact Nat.ne_of_gt (zL BK189) : gb192 ≠ gb189))
     replace HO1_3 := Aside0.mk (Kd.V_below (Kd.V_elderB (zV HO1_3) gb192 (Nat.le_of_eq hg.symm)) hb)
     replace HO1_4 := Aside0.mk (Kd.V_below (Kd.V_elderB (zV HO1_4) gb192 (Nat.le_of_eq hg.symm)) hb)
     replace BK187 := Aside0.mk (zb BK187 hb)
     replace BK188 := Aside0.mk (zb BK188 hb)
     replace BK189 := Aside0.mk (zb BK189 hb)
     replace HB := Aside0.mk (below_step (zB HB) hb)
     clear hb hbox hg
     refine hK.out _ _ ⟨(blk_cell BK187.out 0).trans rfl, (blk_cell BK187.out 1).trans rfl, (blk_cell BK187.out 2).trans rfl, (blk_cell BK188.out 0).trans rfl, (blk_cell BK188.out 1).trans rfl, (blk_cell BK188.out 2).trans rfl, (blk_cell BK188.out 3).trans rfl, (blk_cell BK188.out 4).trans rfl, ((HB.out.cell (World.block_lt_of_cell? w _ hw190_0)).trans hw190_0), ((HB.out.cell (World.block_lt_of_cell? w _ hw191_0)).trans hw191_0), ((HB.out.cell (World.block_lt_of_cell? w _ hw191_1)).trans hw191_1), ((HB.out.cell (World.block_lt_of_cell? w _ hw191_2)).trans hw191_2)⟩ (fun hHeld => ?_)
     clear hK K
     refine norm_ (a' := ?_) ?_ ?_
     rotate_left
     ·
      show Act.put _ (some 7) _ = _
      simp only [Act.put, zs, zs0, zs1, i64_w, i32_w]
      rfl
     refine one_ (i := 11) (N := none) (zl 12 4095) rfl rfl (one_of HT_.out (by kernel_rfl)) (by decide) (fun K hK => ?_)
     have hs13 : w12.cell? ⟨gb192, 0, none⟩ = some (.int .i64 0) := (blk_cell BK192.out 0).trans rfl
     have hfs13 := blk_frozen BK192.out 0
     have hns13_0 := NB187_192.out
     have hns13_1 := NB188_192.out
     have hns13_2 := NB189_192.out
     have hms13_0 := NB192_187.out
     have hms13_1 := NB192_188.out
     have hms13_2 := NB192_189.out
     have hs14 : w12.cell? ⟨gb192, 1, none⟩ = some (.int .i64 0) := (blk_cell BK192.out 1).trans rfl
     have hfs14 := blk_frozen BK192.out 1
     have hns14_0 := NB187_192.out
     have hns14_1 := NB188_192.out
     have hns14_2 := NB189_192.out
     have hms14_0 := NB192_187.out
     have hms14_1 := NB192_188.out
     have hms14_2 := NB192_189.out
     have hs15 : w12.cell? ⟨gb192, 2, none⟩ = some (.int .i64 0) := (blk_cell BK192.out 2).trans rfl
     have hfs15 := blk_frozen BK192.out 2
     have hns15_0 := NB187_192.out
     have hns15_1 := NB188_192.out
     have hns15_2 := NB189_192.out
     have hms15_0 := NB192_187.out
     have hms15_1 := NB192_188.out
     have hms15_2 := NB192_189.out
     refine skip_ (w1 := ?_) (by rfl) rfl ?_ ?_
     rotate_left
     ·
      go_simp
      rfl
     refine hK.out _ _ ⟨((cell_far (p := ⟨gb192, _, none⟩) NB187_192.out _).trans (((cell_far (p := ⟨gb192, _, none⟩) NB187_192.out _).trans (((cell_far (p := ⟨gb192, _, none⟩) NB187_192.out _).trans (hHeld.1)))))), ((cell_far (p := ⟨gb192, _, none⟩) NB187_192.out _).trans (((cell_far (p := ⟨gb192, _, none⟩) NB187_192.out _).trans (((cell_far (p := ⟨gb192, _, none⟩) NB187_192.out _).trans (hHeld.2.1)))))), ((cell_far (p := ⟨gb192, _, none⟩) NB187_192.out _).trans (((cell_far (p := ⟨gb192, _, none⟩) NB187_192.out _).trans (((cell_far (p := ⟨gb192, _, none⟩) NB187_192.out _).trans (hHeld.2.2.1)))))), ((cell_far (p := ⟨gb192, _, none⟩) NB188_192.out _).trans (((cell_far (p := ⟨gb192, _, none⟩) NB188_192.out _).trans (((cell_far (p := ⟨gb192, _, none⟩) NB188_192.out _).trans (hHeld.2.2.2.1)))))), ((cell_far (p := ⟨gb192, _, none⟩) NB188_192.out _).trans (((cell_far (p := ⟨gb192, _, none⟩) NB188_192.out _).trans (((cell_far (p := ⟨gb192, _, none⟩) NB188_192.out _).trans (hHeld.2.2.2.2.1)))))), ((cell_far (p := ⟨gb192, _, none⟩) NB188_192.out _).trans (((cell_far (p := ⟨gb192, _, none⟩) NB188_192.out _).trans (((cell_far (p := ⟨gb192, _, none⟩) NB188_192.out _).trans (hHeld.2.2.2.2.2.1)))))), ((cell_far (p := ⟨gb192, _, none⟩) NB188_192.out _).trans (((cell_far (p := ⟨gb192, _, none⟩) NB188_192.out _).trans (((cell_far (p := ⟨gb192, _, none⟩) NB188_192.out _).trans (hHeld.2.2.2.2.2.2.1)))))), ((cell_far (p := ⟨gb192, _, none⟩) NB188_192.out _).trans (((cell_far (p := ⟨gb192, _, none⟩) NB188_192.out _).trans (((cell_far (p := ⟨gb192, _, none⟩) NB188_192.out _).trans (hHeld.2.2.2.2.2.2.2.1)))))), ((cell_far (p := ⟨gb192, _, none⟩) (by first | exact Nat.ne_of_lt (Nat.lt_of_lt_of_le (by have := World.block_lt_of_cell? _ _ hw190_0; first | rwa [add_block] at this | exact this) GW192.out) | (rw [add_block]; exact Nat.ne_of_lt (Nat.lt_of_lt_of_le (by have := World.block_lt_of_cell? _ _ hw190_0; first | rwa [add_block] at this | exact this) GW192.out)) | (show (Addr.add _ _).block ≠ _; rw [add_block]; exact Nat.ne_of_lt (Nat.lt_of_lt_of_le (by have := World.block_lt_of_cell? _ _ hw190_0; first | rwa [add_block] at this | exact this) GW192.out)) | (dsimp only; exact Nat.ne_of_lt (Nat.lt_of_lt_of_le (by have := World.block_lt_of_cell? _ _ hw190_0; first | rwa [add_block] at this | exact this) GW192.out))) _).trans (((cell_far (p := ⟨gb192, _, none⟩) (by first | exact Nat.ne_of_lt (Nat.lt_of_lt_of_le (by have := World.block_lt_of_cell? _ _ hw190_0; first | rwa [add_block] at this | exact this) GW192.out) | (rw [add_block]; exact Nat.ne_of_lt (Nat.lt_of_lt_of_le (by have := World.block_lt_of_cell? _ _ hw190_0; first | rwa [add_block] at this | exact this) GW192.out)) | (show (Addr.add _ _).block ≠ _; rw [add_block]; exact Nat.ne_of_lt (Nat.lt_of_lt_of_le (by have := World.block_lt_of_cell? _ _ hw190_0; first | rwa [add_block] at this | exact this) GW192.out)) | (dsimp only; exact Nat.ne_of_lt (Nat.lt_of_lt_of_le (by have := World.block_lt_of_cell? _ _ hw190_0; first | rwa [add_block] at this | exact this) GW192.out))) _).trans (((cell_far (p := ⟨gb192, _, none⟩) (by first | exact Nat.ne_of_lt (Nat.lt_of_lt_of_le (by have := World.block_lt_of_cell? _ _ hw190_0; first | rwa [add_block] at this | exact this) GW192.out) | (rw [add_block]; exact Nat.ne_of_lt (Nat.lt_of_lt_of_le (by have := World.block_lt_of_cell? _ _ hw190_0; first | rwa [add_block] at this | exact this) GW192.out)) | (show (Addr.add _ _).block ≠ _; rw [add_block]; exact Nat.ne_of_lt (Nat.lt_of_lt_of_le (by have := World.block_lt_of_cell? _ _ hw190_0; first | rwa [add_block] at this | exact this) GW192.out)) | (dsimp only; exact Nat.ne_of_lt (Nat.lt_of_lt_of_le (by have := World.block_lt_of_cell? _ _ hw190_0; first | rwa [add_block] at this | exact this) GW192.out))) _).trans (hHeld.2.2.2.2.2.2.2.2.1)))))), ((cell_far (p := ⟨gb192, _, none⟩) (by first | exact Nat.ne_of_lt (Nat.lt_of_lt_of_le (by have := World.block_lt_of_cell? _ _ hw191_0; first | rwa [add_block] at this | exact this) GW192.out) | (rw [add_block]; exact Nat.ne_of_lt (Nat.lt_of_lt_of_le (by have := World.block_lt_of_cell? _ _ hw191_0; first | rwa [add_block] at this | exact this) GW192.out)) | (show (Addr.add _ _).block ≠ _; rw [add_block]; exact Nat.ne_of_lt (Nat.lt_of_lt_of_le (by have := World.block_lt_of_cell? _ _ hw191_0; first | rwa [add_block] at this | exact this) GW192.out)) | (dsimp only; exact Nat.ne_of_lt (Nat.lt_of_lt_of_le (by have := World.block_lt_of_cell? _ _ hw191_0; first | rwa [add_block] at this | exact this) GW192.out))) _).trans (((cell_far (p := ⟨gb192, _, none⟩) (by first | exact Nat.ne_of_lt (Nat.lt_of_lt_of_le (by have := World.block_lt_of_cell? _ _ hw191_0; first | rwa [add_block] at this | exact this) GW192.out) | (rw [add_block]; exact Nat.ne_of_lt (Nat.lt_of_lt_of_le (by have := World.block_lt_of_cell? _ _ hw191_0; first | rwa [add_block] at this | exact this) GW192.out)) | (show (Addr.add _ _).block ≠ _; rw [add_block]; exact Nat.ne_of_lt (Nat.lt_of_lt_of_le (by have := World.block_lt_of_cell? _ _ hw191_0; first | rwa [add_block] at this | exact this) GW192.out)) | (dsimp only; exact Nat.ne_of_lt (Nat.lt_of_lt_of_le (by have := World.block_lt_of_cell? _ _ hw191_0; first | rwa [add_block] at this | exact this) GW192.out))) _).trans (((cell_far (p := ⟨gb192, _, none⟩) (by first | exact Nat.ne_of_lt (Nat.lt_of_lt_of_le (by have := World.block_lt_of_cell? _ _ hw191_0; first | rwa [add_block] at this | exact this) GW192.out) | (rw [add_block]; exact Nat.ne_of_lt (Nat.lt_of_lt_of_le (by have := World.block_lt_of_cell? _ _ hw191_0; first | rwa [add_block] at this | exact this) GW192.out)) | (show (Addr.add _ _).block ≠ _; rw [add_block]; exact Nat.ne_of_lt (Nat.lt_of_lt_of_le (by have := World.block_lt_of_cell? _ _ hw191_0; first | rwa [add_block] at this | exact this) GW192.out)) | (dsimp only; exact Nat.ne_of_lt (Nat.lt_of_lt_of_le (by have := World.block_lt_of_cell? _ _ hw191_0; first | rwa [add_block] at this | exact this) GW192.out))) _).trans (hHeld.2.2.2.2.2.2.2.2.2.1)))))), ((cell_far (p := ⟨gb192, _, none⟩) (by first | exact Nat.ne_of_lt (Nat.lt_of_lt_of_le (by have := World.block_lt_of_cell? _ _ hw191_1; first | rwa [add_block] at this | exact this) GW192.out) | (rw [add_block]; exact Nat.ne_of_lt (Nat.lt_of_lt_of_le (by have := World.block_lt_of_cell? _ _ hw191_1; first | rwa [add_block] at this | exact this) GW192.out)) | (show (Addr.add _ _).block ≠ _; rw [add_block]; exact Nat.ne_of_lt (Nat.lt_of_lt_of_le (by have := World.block_lt_of_cell? _ _ hw191_1; first | rwa [add_block] at this | exact this) GW192.out)) | (dsimp only; exact Nat.ne_of_lt (Nat.lt_of_lt_of_le (by have := World.block_lt_of_cell? _ _ hw191_1; first | rwa [add_block] at this | exact this) GW192.out))) _).trans (((cell_far (p := ⟨gb192, _, none⟩) (by first | exact Nat.ne_of_lt (Nat.lt_of_lt_of_le (by have := World.block_lt_of_cell? _ _ hw191_1; first | rwa [add_block] at this | exact this) GW192.out) | (rw [add_block]; exact Nat.ne_of_lt (Nat.lt_of_lt_of_le (by have := World.block_lt_of_cell? _ _ hw191_1; first | rwa [add_block] at this | exact this) GW192.out)) | (show (Addr.add _ _).block ≠ _; rw [add_block]; exact Nat.ne_of_lt (Nat.lt_of_lt_of_le (by have := World.block_lt_of_cell? _ _ hw191_1; first | rwa [add_block] at this | exact this) GW192.out)) | (dsimp only; exact Nat.ne_of_lt (Nat.lt_of_lt_of_le (by have := World.block_lt_of_cell? _ _ hw191_1; first | rwa [add_block] at this | exact this) GW192.out))) _).trans (((cell_far (p := ⟨gb192, _, none⟩) (by first | exact Nat.ne_of_lt (Nat.lt_of_lt_of_le (by have := World.block_lt_of_cell? _ _ hw191_1; first | rwa [add_block] at this | exact this) GW192.out) | (rw [add_block]; exact Nat.ne_of_lt (Nat.lt_of_lt_of_le (by have := World.block_lt_of_cell? _ _ hw191_1; first | rwa [add_block] at this | exact this) GW192.out)) | (show (Addr.add _ _).block ≠ _; rw [add_block]; exact Nat.ne_of_lt (Nat.lt_of_lt_of_le (by have := World.block_lt_of_cell? _ _ hw191_1; first | rwa [add_block] at this | exact this) GW192.out)) | (dsimp only; exact Nat.ne_of_lt (Nat.lt_of_lt_of_le (by have := World.block_lt_of_cell? _ _ hw191_1; first | rwa [add_block] at this | exact this) GW192.out))) _).trans (hHeld.2.2.2.2.2.2.2.2.2.2.1)))))), ((cell_far (p := ⟨gb192, _, none⟩) (by first | exact Nat.ne_of_lt (Nat.lt_of_lt_of_le (by have := World.block_lt_of_cell? _ _ hw191_2; first | rwa [add_block] at this | exact this) GW192.out) | (rw [add_block]; exact Nat.ne_of_lt (Nat.lt_of_lt_of_le (by have := World.block_lt_of_cell? _ _ hw191_2; first | rwa [add_block] at this | exact this) GW192.out)) | (show (Addr.add _ _).block ≠ _; rw [add_block]; exact Nat.ne_of_lt (Nat.lt_of_lt_of_le (by have := World.block_lt_of_cell? _ _ hw191_2; first | rwa [add_block] at this | exact this) GW192.out)) | (dsimp only; exact Nat.ne_of_lt (Nat.lt_of_lt_of_le (by have := World.block_lt_of_cell? _ _ hw191_2; first | rwa [add_block] at this | exact this) GW192.out))) _).trans (((cell_far (p := ⟨gb192, _, none⟩) (by first | exact Nat.ne_of_lt (Nat.lt_of_lt_of_le (by have := World.block_lt_of_cell? _ _ hw191_2; first | rwa [add_block] at this | exact this) GW192.out) | (rw [add_block]; exact Nat.ne_of_lt (Nat.lt_of_lt_of_le (by have := World.block_lt_of_cell? _ _ hw191_2; first | rwa [add_block] at this | exact this) GW192.out)) | (show (Addr.add _ _).block ≠ _; rw [add_block]; exact Nat.ne_of_lt (Nat.lt_of_lt_of_le (by have := World.block_lt_of_cell? _ _ hw191_2; first | rwa [add_block] at this | exact this) GW192.out)) | (dsimp only; exact Nat.ne_of_lt (Nat.lt_of_lt_of_le (by have := World.block_lt_of_cell? _ _ hw191_2; first | rwa [add_block] at this | exact this) GW192.out))) _).trans (((cell_far (p := ⟨gb192, _, none⟩) (by first | exact Nat.ne_of_lt (Nat.lt_of_lt_of_le (by have := World.block_lt_of_cell? _ _ hw191_2; first | rwa [add_block] at this | exact this) GW192.out) | (rw [add_block]; exact Nat.ne_of_lt (Nat.lt_of_lt_of_le (by have := World.block_lt_of_cell? _ _ hw191_2; first | rwa [add_block] at this | exact this) GW192.out)) | (show (Addr.add _ _).block ≠ _; rw [add_block]; exact Nat.ne_of_lt (Nat.lt_of_lt_of_le (by have := World.block_lt_of_cell? _ _ hw191_2; first | rwa [add_block] at this | exact this) GW192.out)) | (dsimp only; exact Nat.ne_of_lt (Nat.lt_of_lt_of_le (by have := World.block_lt_of_cell? _ _ hw191_2; first | rwa [add_block] at this | exact this) GW192.out))) _).trans (hHeld.2.2.2.2.2.2.2.2.2.2.2))))))⟩ (fun hHeld => ?_)
     clear hK K
     refine done_ (done_of HT_.out (by kernel_rfl)) ?_
     try go_wp2
     have n0_ : Aside0 (Kd.V k62 62 (((w12.setCell ⟨gb192, 0, none⟩ (.int .i64 ((rd_T37 (rd_L2 l0_2 a1_0) a1_2).f0))).setCell ⟨gb192, 1, none⟩ (.int .i64 ((rd_T37 (rd_L2 l0_2 a1_0) a1_2).f1))).setCell ⟨gb192, 2, none⟩ (.int .i64 ((rd_T37 (rd_L2 l0_2 a1_0) a1_2).f2))) w.heap.size (fun k_ => ((P1_3_ k_ ∨ P1_4_ k_) ∨ w.heap.size ≤ k_) ∧ k_ ≠ gb187 ∧ k_ ≠ gb188 ∧ k_ ≠ gb189 ∧ k_ ≠ gb192) (.slice A1_3 l1_3.length c1_3) l1_3) := ⟨by (with_reducible repeat (first | apply Kd.V_alloc | apply Kd.V_drewN | apply Kd.V_drew)); exact Kd.V_mono (zVf3 (g := gb192) (Kd.V_mono HO1_3.out (fun k_ hk => (⟨hk, hk.2⟩ : _ ∧ k_ ≠ gb192)))) (fun _ hk => ⟨hk.1.1.1.1.1, ⟨hk.1.1.1.1.2, ⟨hk.1.1.1.2, ⟨hk.1.1.2, hk.1.2⟩⟩⟩⟩)⟩
     have n1_ : Aside0 (Kd.V k62 62 (((w12.setCell ⟨gb192, 0, none⟩ (.int .i64 ((rd_T37 (rd_L2 l0_2 a1_0) a1_2).f0))).setCell ⟨gb192, 1, none⟩ (.int .i64 ((rd_T37 (rd_L2 l0_2 a1_0) a1_2).f1))).setCell ⟨gb192, 2, none⟩ (.int .i64 ((rd_T37 (rd_L2 l0_2 a1_0) a1_2).f2))) w.heap.size (fun k_ => ((P1_3_ k_ ∨ P1_4_ k_) ∨ w.heap.size ≤ k_) ∧ k_ ≠ gb187 ∧ k_ ≠ gb188 ∧ k_ ≠ gb189 ∧ k_ ≠ gb192) (.slice A1_4 l1_4.length c1_4) l1_4) := ⟨by (with_reducible repeat (first | apply Kd.V_alloc | apply Kd.V_drewN | apply Kd.V_drew)); exact Kd.V_mono (zVf3 (g := gb192) (Kd.V_mono HO1_4.out (fun k_ hk => (⟨hk, hk.2⟩ : _ ∧ k_ ≠ gb192)))) (fun _ hk => ⟨hk.1.1.1.1.1, ⟨hk.1.1.1.1.2, ⟨hk.1.1.1.2, ⟨hk.1.1.2, hk.1.2⟩⟩⟩⟩)⟩
     have n2_ : Aside0 ((((w12.setCell ⟨gb192, 0, none⟩ (.int .i64 ((rd_T37 (rd_L2 l0_2 a1_0) a1_2).f0))).setCell ⟨gb192, 1, none⟩ (.int .i64 ((rd_T37 (rd_L2 l0_2 a1_0) a1_2).f1))).setCell ⟨gb192, 2, none⟩ (.int .i64 ((rd_T37 (rd_L2 l0_2 a1_0) a1_2).f2))).heap[gb187]? = some (.cells #[.int .i64 a0_0, .int .i64 a0_1, .slice (some ad190) l0_2.length c0_2] 24 (0, 0))) := ⟨zK BK187⟩
     have n3_ : Aside0 ((((w12.setCell ⟨gb192, 0, none⟩ (.int .i64 ((rd_T37 (rd_L2 l0_2 a1_0) a1_2).f0))).setCell ⟨gb192, 1, none⟩ (.int .i64 ((rd_T37 (rd_L2 l0_2 a1_0) a1_2).f1))).setCell ⟨gb192, 2, none⟩ (.int .i64 ((rd_T37 (rd_L2 l0_2 a1_0) a1_2).f2))).heap[gb188]? = some (.cells #[.int .i64 a1_0, .int .i64 a1_1, .int .i64 a1_2, .slice A1_3 l1_3.length c1_3, .slice A1_4 l1_4.length c1_4] 27 (0, 0))) := ⟨zK BK188⟩
     have n4_ : Aside0 ((((w12.setCell ⟨gb192, 0, none⟩ (.int .i64 ((rd_T37 (rd_L2 l0_2 a1_0) a1_2).f0))).setCell ⟨gb192, 1, none⟩ (.int .i64 ((rd_T37 (rd_L2 l0_2 a1_0) a1_2).f1))).setCell ⟨gb192, 2, none⟩ (.int .i64 ((rd_T37 (rd_L2 l0_2 a1_0) a1_2).f2))).heap[gb189]? = some (.cells #[.int .i64 0, .int .i64 0, .int .i64 0, .slice none 0 0, .slice none 0 0] 27 (0, 0))) := ⟨zK BK189⟩
     have n5_ : Aside0 ((((w12.setCell ⟨gb192, 0, none⟩ (.int .i64 ((rd_T37 (rd_L2 l0_2 a1_0) a1_2).f0))).setCell ⟨gb192, 1, none⟩ (.int .i64 ((rd_T37 (rd_L2 l0_2 a1_0) a1_2).f1))).setCell ⟨gb192, 2, none⟩ (.int .i64 ((rd_T37 (rd_L2 l0_2 a1_0) a1_2).f2))).heap[gb192]? = some (.cells #[.int .i64 ((rd_T37 (rd_L2 l0_2 a1_0) a1_2).f0), .int .i64 ((rd_T37 (rd_L2 l0_2 a1_0) a1_2).f1), .int .i64 ((rd_T37 (rd_L2 l0_2 a1_0) a1_2).f2)] 37 (0, 0))) := ⟨by (with_reducible repeat (first | refine blk_drewN ?_ _ | refine blk_drew ?_ | refine blk_alloc ?_ _)); refine blk_put (cs := #[.int .i64 ((rd_T37 (rd_L2 l0_2 a1_0) a1_2).f0), .int .i64 ((rd_T37 (rd_L2 l0_2 a1_0) a1_2).f1), .int .i64 0]) ?_ 2 _ rfl; (with_reducible repeat (first | refine blk_drewN ?_ _ | refine blk_drew ?_ | refine blk_alloc ?_ _)); refine blk_put (cs := #[.int .i64 ((rd_T37 (rd_L2 l0_2 a1_0) a1_2).f0), .int .i64 0, .int .i64 0]) ?_ 1 _ rfl; (with_reducible repeat (first | refine blk_drewN ?_ _ | refine blk_drew ?_ | refine blk_alloc ?_ _)); refine blk_put (cs := #[.int .i64 0, .int .i64 0, .int .i64 0]) ?_ 0 _ rfl; (with_reducible repeat (first | refine blk_drewN ?_ _ | refine blk_drew ?_ | refine blk_alloc ?_ _)); exact BK192.out⟩
     have n6_ : Aside0 (Below w.heap.size w (((w12.setCell ⟨gb192, 0, none⟩ (.int .i64 ((rd_T37 (rd_L2 l0_2 a1_0) a1_2).f0))).setCell ⟨gb192, 1, none⟩ (.int .i64 ((rd_T37 (rd_L2 l0_2 a1_0) a1_2).f1))).setCell ⟨gb192, 2, none⟩ (.int .i64 ((rd_T37 (rd_L2 l0_2 a1_0) a1_2).f2)))) := ⟨zB HB⟩
     (try clear HO1_3)
     (try clear HO1_4)
     (try clear BK187)
     (try clear BK188)
     (try clear BK189)
     (try clear BK192)
     (try clear HB)
     generalize (((w12.setCell ⟨gb192, 0, none⟩ (.int .i64 ((rd_T37 (rd_L2 l0_2 a1_0) a1_2).f0))).setCell ⟨gb192, 1, none⟩ (.int .i64 ((rd_T37 (rd_L2 l0_2 a1_0) a1_2).f1))).setCell ⟨gb192, 2, none⟩ (.int .i64 ((rd_T37 (rd_L2 l0_2 a1_0) a1_2).f2))) = w16 at n0_ n1_ n2_ n3_ n4_ n5_ n6_ ⊢
     have HO1_3 := n0_
     have HO1_4 := n1_
     have BK187 := n2_
     have BK188 := n3_
     have BK189 := n4_
     have BK192 := n5_
     have HB := n6_
     clear n0_ n1_ n2_ n3_ n4_ n5_ n6_
     replace HO1_3 := Aside0.mk (Kd.V_drew HO1_3.out)
     replace HO1_4 := Aside0.mk (Kd.V_drew HO1_4.out)
     replace BK187 := Aside0.mk (blk_drew BK187.out)
     replace BK188 := Aside0.mk (blk_drew BK188.out)
     replace BK189 := Aside0.mk (blk_drew BK189.out)
     replace BK192 := Aside0.mk (blk_drew BK192.out)
     replace HB := Aside0.mk (below_drew1 HB.out)
     refine start_ (n := 6) (S := fun w' => w'.cell? ⟨gb188, 0, none⟩ = some (.int .i64 a1_0) ∧ w'.cell? ⟨gb188, 1, none⟩ = some (.int .i64 a1_1) ∧ w'.cell? ⟨gb188, 2, none⟩ = some (.int .i64 a1_2) ∧ w'.cell? ⟨gb188, 3, none⟩ = some (.slice A1_3 l1_3.length c1_3) ∧ w'.cell? ⟨gb188, 4, none⟩ = some (.slice A1_4 l1_4.length c1_4)) (ds := []) #[false, false, false, false, false, false] (by kernel_rfl) rfl rfl ⟨(blk_cell BK188.out 0).trans rfl, (blk_cell BK188.out 1).trans rfl, (blk_cell BK188.out 2).trans rfl, (blk_cell BK188.out 3).trans rfl, (blk_cell BK188.out 4).trans rfl⟩ (fun hHeld => ?_)
     generalize w16.drew = w17 at HO1_3 HO1_4 BK187 BK188 BK189 BK192 HB hHeld ⊢
     refine pure_ (i := 0) (N := some 24) (v := ?_) (a' := ?_) #[true, false, false, false, false, false] rfl rfl (by kernel_rfl) (fun _ _ _ h => h) (Or.inl ⟨by rfl, ?_⟩) ?_ ?_
     rotate_left
     ·
      intro w'
      go_simp
      with_reducible rfl
     rotate_left
     ·
      simp only [Act.put, zs, zs0, zs1, i64_w, i32_w]
      rfl
     refine pure_ (i := 2) (N := some 26) (v := ?_) (a' := ?_) #[true, false, true, false, false, false] rfl rfl (by kernel_rfl) (fun _ _ _ h => h) (Or.inl ⟨by rfl, ?_⟩) ?_ ?_
     rotate_left
     ·
      intro w'
      go_simp
      with_reducible rfl
     rotate_left
     ·
      simp only [Act.put, zs, zs0, zs1, i64_w, i32_w]
      rfl
     refine take_ (i := 1) (N := some 25) (v := ?_) (a' := ?_) #[true, true, true, false, false, false] rfl rfl (by kernel_rfl) (fun _ _ _ h => h) (Or.inl ⟨by rfl, ?_⟩) hHeld ?_ ?_
     rotate_left
     ·
      rintro w' ⟨s0, s1, s2, s3, s4⟩
      go_simp
      with_reducible rfl
     rotate_left
     ·
      simp only [Act.put, zs, zs0, zs1, i64_w, i32_w]
      rfl
     refine pure_ (i := 4) (N := some 8) (v := ?_) (a' := ?_) #[true, true, true, false, true, false] rfl rfl (by kernel_rfl) (fun _ _ _ h => h) (Or.inl ⟨by rfl, ?_⟩) ?_ ?_
     rotate_left
     ·
      intro w'
      go_simp
      with_reducible rfl
     rotate_left
     ·
      simp only [Act.put, zs, zs0, zs1, i64_w, i32_w]
      rfl
     refine take_ (i := 3) (N := some 27) (v := ?_) (a' := ?_) #[true, true, true, true, true, false] rfl rfl (by kernel_rfl) (fun _ _ _ h => h) (Or.inl ⟨by rfl, ?_⟩) hHeld ?_ ?_
     rotate_left
     ·
      rintro w' ⟨s0, s1, s2, s3, s4⟩
      go_simp
      with_reducible rfl
     rotate_left
     ·
      simp only [Act.put, zs, zs0, zs1, i64_w, i32_w]
      rfl
     refine pure_ (i := 5) (N := some 9) (v := ?_) (a' := ?_) #[true, true, true, true, true, true] rfl rfl (by kernel_rfl) (fun _ _ _ h => h) (Or.inl ⟨by rfl, ?_⟩) ?_ ?_
     rotate_left
     ·
      intro w'
      go_simp
      with_reducible rfl
     rotate_left
     ·
      simp only [Act.put, zs, zs0, zs1, i64_w, i32_w]
      rfl
     refine done_ (by kernel_rfl) ?_
     have hnb18 := NB192_187.out
     have hnc18 := NB187_192.out
     have hnb19 := NB192_188.out
     have hnc19 := NB188_192.out
     have hnb20 := NB192_189.out
     have hnc20 := NB189_192.out
     have hz21 := zc3 BK192
     go_upto_if 30 with (fail)
     go_cut [8, 9] (fun v8 v9 wc => ∃ (kq : Nat) (x8_6 : List (S62)) (x9_6 : List (S62)), Aside0 (leap_leap.j0 kq x8_6 x9_6 a1_0 a1_1 a1_2 l1_3 l1_4 ((rd_T37 (rd_L2 l0_2 a1_0) a1_2).f0) ((rd_T37 (rd_L2 l0_2 a1_0) a1_2).f1) ((rd_T37 (rd_L2 l0_2 a1_0) a1_2).f2) = some (r1, r2, r3, r4, r5, r6, r7)) ∧ Aside0 (kq ≤ k) ∧ Aside0 (Kd.V k62 62 wc w.heap.size (fun k_ => ((P1_3_ k_ ∨ P1_4_ k_) ∨ w.heap.size ≤ k_) ∧ k_ ≠ gb187 ∧ k_ ≠ gb188 ∧ k_ ≠ gb189 ∧ k_ ≠ gb192) v8 x8_6) ∧ Aside0 (Kd.V k62 62 wc w.heap.size (fun k_ => ((P1_3_ k_ ∨ P1_4_ k_) ∨ w.heap.size ≤ k_) ∧ k_ ≠ gb187 ∧ k_ ≠ gb188 ∧ k_ ≠ gb189 ∧ k_ ≠ gb192) v9 x9_6) ∧ Aside0 (Kd.V k62 62 wc w.heap.size (fun k_ => ((P1_3_ k_ ∨ P1_4_ k_) ∨ w.heap.size ≤ k_) ∧ k_ ≠ gb187 ∧ k_ ≠ gb188 ∧ k_ ≠ gb189 ∧ k_ ≠ gb192) (.slice A1_3 l1_3.length c1_3) l1_3) ∧ Aside0 (Kd.V k62 62 wc w.heap.size (fun k_ => ((P1_3_ k_ ∨ P1_4_ k_) ∨ w.heap.size ≤ k_) ∧ k_ ≠ gb187 ∧ k_ ≠ gb188 ∧ k_ ≠ gb189 ∧ k_ ≠ gb192) (.slice A1_4 l1_4.length c1_4) l1_4) ∧ Aside0 (wc.heap[gb187]? = some (.cells #[.int .i64 a0_0, .int .i64 a0_1, (.slice (some ad190) l0_2.length c0_2)] 24 (0, 0))) ∧ Aside0 (wc.heap[gb188]? = some (.cells #[.int .i64 a1_0, .int .i64 a1_1, .int .i64 a1_2, (.slice A1_3 l1_3.length c1_3), (.slice A1_4 l1_4.length c1_4)] 27 (0, 0))) ∧ Aside0 (wc.heap[gb189]? = some (.cells #[.int .i64 0, .int .i64 0, .int .i64 0, (.slice none 0 0), (.slice none 0 0)] 27 (0, 0))) ∧ Aside0 (wc.heap[gb192]? = some (.cells #[.int .i64 ((rd_T37 (rd_L2 l0_2 a1_0) a1_2).f0), .int .i64 ((rd_T37 (rd_L2 l0_2 a1_0) a1_2).f1), .int .i64 ((rd_T37 (rd_L2 l0_2 a1_0) a1_2).f2)] 37 (0, 0))) ∧ Aside0 (Below w.heap.size w wc))
     case first =>
      have H := HC7.out
      clear HC7
      by_cases c22 : ((rd_T37 (rd_L2 l0_2 a1_0) a1_2).f1) < 0
      ·
       rw [if_pos c22] at H
       have c22b0 : decide (((rd_T37 (rd_L2 l0_2 a1_0) a1_2).f1) < 0) = true := decide_eq_true c22
       clear c22
       (first | rw [c22b0] | (simp only [i64_w, i32_w]; rw [c22b0]) | skip)
       (try rw [c22b1])
       have H' := Aside0.mk H
       clear H
       try go_wp2
       replace HO1_3 := Aside0.mk (Kd.V_drew HO1_3.out)
       replace HO1_4 := Aside0.mk (Kd.V_drew HO1_4.out)
       replace BK187 := Aside0.mk (blk_drew BK187.out)
       replace BK188 := Aside0.mk (blk_drew BK188.out)
       replace BK189 := Aside0.mk (blk_drew BK189.out)
       replace BK192 := Aside0.mk (blk_drew BK192.out)
       replace HB := Aside0.mk (below_drew1 HB.out)
       refine start_ (n := 6) (S := fun w' => w'.cell? ⟨gb188, 0, none⟩ = some (.int .i64 a1_0) ∧ w'.cell? ⟨gb188, 1, none⟩ = some (.int .i64 a1_1) ∧ w'.cell? ⟨gb188, 2, none⟩ = some (.int .i64 a1_2) ∧ w'.cell? ⟨gb188, 3, none⟩ = some (.slice A1_3 l1_3.length c1_3) ∧ w'.cell? ⟨gb188, 4, none⟩ = some (.slice A1_4 l1_4.length c1_4)) (ds := []) #[false, false, false, false, false, false] (by kernel_rfl) rfl rfl ⟨(blk_cell BK188.out 0).trans rfl, (blk_cell BK188.out 1).trans rfl, (blk_cell BK188.out 2).trans rfl, (blk_cell BK188.out 3).trans rfl, (blk_cell BK188.out 4).trans rfl⟩ (fun hHeld => ?_)
       generalize w17.drew = w23 at HO1_3 HO1_4 BK187 BK188 BK189 BK192 HB hHeld ⊢
       refine pure_ (i := 0) (N := some 31) (v := ?_) (a' := ?_) #[true, false, false, false, false, false] rfl rfl (by kernel_rfl) (fun _ _ _ h => h) (Or.inl ⟨by rfl, ?_⟩) ?_ ?_
       rotate_left
       ·
        intro w'
        go_simp
        with_reducible rfl
       rotate_left
       ·
        simp only [Act.put, zs, zs0, zs1, i64_w, i32_w]
        rfl
       refine pure_ (i := 2) (N := some 33) (v := ?_) (a' := ?_) #[true, false, true, false, false, false] rfl rfl (by kernel_rfl) (fun _ _ _ h => h) (Or.inl ⟨by rfl, ?_⟩) ?_ ?_
       rotate_left
       ·
        intro w'
        go_simp
        with_reducible rfl
       rotate_left
       ·
        simp only [Act.put, zs, zs0, zs1, i64_w, i32_w]
        rfl
       refine take_ (i := 1) (N := some 32) (v := ?_) (a' := ?_) #[true, true, true, false, false, false] rfl rfl (by kernel_rfl) (fun _ _ _ h => h) (Or.inl ⟨by rfl, ?_⟩) hHeld ?_ ?_
       rotate_left
       ·
        rintro w' ⟨s0, s1, s2, s3, s4⟩
        go_simp
        with_reducible rfl
       rotate_left
       ·
        simp only [Act.put, zs, zs0, zs1, i64_w, i32_w]
        rfl
       refine pure_ (i := 4) (N := some 8) (v := ?_) (a' := ?_) #[true, true, true, false, true, false] rfl rfl (by kernel_rfl) (fun _ _ _ h => h) (Or.inl ⟨by rfl, ?_⟩) ?_ ?_
       rotate_left
       ·
        intro w'
        go_simp
        with_reducible rfl
       rotate_left
       ·
        simp only [Act.put, zs, zs0, zs1, i64_w, i32_w]
        rfl
       refine take_ (i := 3) (N := some 34) (v := ?_) (a' := ?_) #[true, true, true, true, true, false] rfl rfl (by kernel_rfl) (fun _ _ _ h => h) (Or.inl ⟨by rfl, ?_⟩) hHeld ?_ ?_
       rotate_left
       ·
        rintro w' ⟨s0, s1, s2, s3, s4⟩
        go_simp
        with_reducible rfl
       rotate_left
       ·
        simp only [Act.put, zs, zs0, zs1, i64_w, i32_w]
        rfl
       refine pure_ (i := 5) (N := some 9) (v := ?_) (a' := ?_) #[true, true, true, true, true, true] rfl rfl (by kernel_rfl) (fun _ _ _ h => h) (Or.inl ⟨by rfl, ?_⟩) ?_ ?_
       rotate_left
       ·
        intro w'
        go_simp
        with_reducible rfl
       rotate_left
       ·
        simp only [Act.put, zs, zs0, zs1, i64_w, i32_w]
        rfl
       refine done_ (by kernel_rfl) ?_
       try go_wp2
       go_meet
       case rel => exact ⟨_, (l1_3), (l1_4), H', ⟨by first | omega | exact Nat.le_refl _⟩, ⟨zV HO1_3⟩, ⟨zV HO1_4⟩, ⟨zV HO1_3⟩, ⟨zV HO1_4⟩, ⟨zk BK187⟩, ⟨zk BK188⟩, ⟨zk BK189⟩, ⟨zk BK192⟩, ⟨zB HB⟩⟩
      ·
       rw [if_neg c22] at H
       have c22b0 : decide (((rd_T37 (rd_L2 l0_2 a1_0) a1_2).f1) < 0) = false := decide_eq_false c22
       clear c22
       (first | rw [c22b0] | (simp only [i64_w, i32_w]; rw [c22b0]) | skip)
       (try rw [c22b1])
       have H' := Aside0.mk H
       clear H
       go_wp2
       go_meet
       case rel => exact ⟨_, (l1_4), (l1_3), H', ⟨by first | omega | exact Nat.le_refl _⟩, ⟨zV HO1_4⟩, ⟨zV HO1_3⟩, ⟨zV HO1_3⟩, ⟨zV HO1_4⟩, ⟨zk BK187⟩, ⟨zk BK188⟩, ⟨zk BK189⟩, ⟨zk BK192⟩, ⟨zB HB⟩⟩
     case rest =>
      clear HC7
      try clear c1
      try clear p1
      try clear q1
      try clear hx1
      try clear c2
      try clear p2
      try clear c3
      try clear c3b0
      try clear c4
      try clear c4b0
      try clear c5
      try clear c5b0
      try clear c6
      try clear c6b0
      try clear c18
      try clear c19
      try clear p19
      try clear q19
      try clear hx19
      try clear c20
      try clear c22
      try clear c22b0
      try clear c22b1
      try clear hz21
      try clear hx190_0
      try clear hx191_0
      try clear hx191_1
      try clear hx191_2
      try clear p190
      try clear p191
      try clear q190
      try clear q191
      obtain ⟨kq, x8_6, x9_6, HA, HJ6, HO_8, HO_9, HO_189003, HO_189004, BK187, BK188, BK189, BK192, HB⟩ := hcut
      cases kq with
      | zero => exact absurd HA.out (by simp [leap_leap.j0])
      | succ kj6 =>
       have H := HA.out
       clear HA
       simp only [leap_leap.j0] at H
       have HC24 := Aside0.mk H
       clear H
       have hnb25 := NB192_187.out
       have hnc25 := NB187_192.out
       have hnb26 := NB192_188.out
       have hnc26 := NB188_192.out
       have hnb27 := NB192_189.out
       have hnc27 := NB189_192.out
       have hz28 := zc3 BK192
       have hnb29 := NB188_187.out
       have hnc29 := NB187_188.out
       have hnb30 := NB188_189.out
       have hnc30 := NB189_188.out
       have hz31 := zc5 BK188
       go_upto_if 39 with (fail)
       go_cut [8, 10] (fun v8 v10 wc => ∃ (kq : Nat) (x8_23 : List (S62)) (x10_23 : Int) (x190000_23 : Int) (x190001_23 : Int) (x190002_23 : Int), v10 = .int .i64 x10_23 ∧ Aside0 (leap_leap.j2 kq x8_23 x9_6 x10_23 a1_0 a1_1 a1_2 l1_3 l1_4 ((rd_T37 (rd_L2 l0_2 a1_0) a1_2).f0) ((rd_T37 (rd_L2 l0_2 a1_0) a1_2).f1) ((rd_T37 (rd_L2 l0_2 a1_0) a1_2).f2) = some (r1, r2, r3, r4, r5, r6, r7)) ∧ Aside0 (kq ≤ kj6) ∧ Aside0 (Kd.V k62 62 wc w.heap.size (fun k_ => ((P1_3_ k_ ∨ P1_4_ k_) ∨ w.heap.size ≤ k_) ∧ k_ ≠ gb187 ∧ k_ ≠ gb188 ∧ k_ ≠ gb189 ∧ k_ ≠ gb192) v8 x8_23) ∧ Aside0 (Kd.V k62 62 wc w.heap.size (fun k_ => ((P1_3_ k_ ∨ P1_4_ k_) ∨ w.heap.size ≤ k_) ∧ k_ ≠ gb187 ∧ k_ ≠ gb188 ∧ k_ ≠ gb189 ∧ k_ ≠ gb192) u9 x9_6) ∧ Aside0 (Kd.V k62 62 wc w.heap.size (fun k_ => ((P1_3_ k_ ∨ P1_4_ k_) ∨ w.heap.size ≤ k_) ∧ k_ ≠ gb187 ∧ k_ ≠ gb188 ∧ k_ ≠ gb189 ∧ k_ ≠ gb192) (.slice A1_3 l1_3.length c1_3) l1_3) ∧ Aside0 (Kd.V k62 62 wc w.heap.size (fun k_ => ((P1_3_ k_ ∨ P1_4_ k_) ∨ w.heap.size ≤ k_) ∧ k_ ≠ gb187 ∧ k_ ≠ gb188 ∧ k_ ≠ gb189 ∧ k_ ≠ gb192) (.slice A1_4 l1_4.length c1_4) l1_4) ∧ Aside0 (wc.heap[gb187]? = some (.cells #[.int .i64 a0_0, .int .i64 a0_1, (.slice (some ad190) l0_2.length c0_2)] 24 (0, 0))) ∧ Aside0 (wc.heap[gb188]? = some (.cells #[.int .i64 a1_0, .int .i64 a1_1, .int .i64 a1_2, (.slice A1_3 l1_3.length c1_3), (.slice A1_4 l1_4.length c1_4)] 27 (0, 0))) ∧ Aside0 (wc.heap[gb189]? = some (.cells #[.int .i64 x190000_23, .int .i64 x190001_23, .int .i64 x190002_23, (.slice none 0 0), (.slice none 0 0)] 27 (0, 0))) ∧ Aside0 (wc.heap[gb192]? = some (.cells #[.int .i64 ((rd_T37 (rd_L2 l0_2 a1_0) a1_2).f0), .int .i64 ((rd_T37 (rd_L2 l0_2 a1_0) a1_2).f1), .int .i64 ((rd_T37 (rd_L2 l0_2 a1_0) a1_2).f2)] 37 (0, 0))) ∧ Aside0 (Below w.heap.size w wc))
       case first =>
        have H := HC24.out
        clear HC24
        by_cases c32 : ((rd_T37 (rd_L2 l0_2 a1_0) a1_2).f2) = a1_0
        ·
         rw [if_pos c32] at H
         have c32b0 : (((rd_T37 (rd_L2 l0_2 a1_0) a1_2).f2) == a1_0) = true := beq_iff_eq.mpr c32
         have c32b1 : (((rd_T37 (rd_L2 l0_2 a1_0) a1_2).f2) != a1_0) = false := bne_eq_false_iff_eq.mpr c32
         clear c32
         (first | rw [c32b0] | (simp only [i64_w, i32_w]; rw [c32b0]) | skip)
         (try rw [c32b1])
         have HC33 := Aside0.mk H
         clear H
         go_upto_region 7 with (fail)
         go_cut [40] (fun v40 wc => ∃ (kq : Nat) (x40_32 : Bool), v40 = .bool x40_32 ∧ Aside0 (leap_leap.j1 kq x8_6 x9_6 1 x40_32 a1_0 a1_1 a1_2 l1_3 l1_4 ((rd_T37 (rd_L2 l0_2 a1_0) a1_2).f0) ((rd_T37 (rd_L2 l0_2 a1_0) a1_2).f1) ((rd_T37 (rd_L2 l0_2 a1_0) a1_2).f2) = some (r1, r2, r3, r4, r5, r6, r7)) ∧ Aside0 (kq ≤ kj6) ∧ Aside0 (Kd.V k62 62 wc w.heap.size (fun k_ => ((P1_3_ k_ ∨ P1_4_ k_) ∨ w.heap.size ≤ k_) ∧ k_ ≠ gb187 ∧ k_ ≠ gb188 ∧ k_ ≠ gb189 ∧ k_ ≠ gb192) u8 x8_6) ∧ Aside0 (Kd.V k62 62 wc w.heap.size (fun k_ => ((P1_3_ k_ ∨ P1_4_ k_) ∨ w.heap.size ≤ k_) ∧ k_ ≠ gb187 ∧ k_ ≠ gb188 ∧ k_ ≠ gb189 ∧ k_ ≠ gb192) u9 x9_6) ∧ Aside0 (Kd.V k62 62 wc w.heap.size (fun k_ => ((P1_3_ k_ ∨ P1_4_ k_) ∨ w.heap.size ≤ k_) ∧ k_ ≠ gb187 ∧ k_ ≠ gb188 ∧ k_ ≠ gb189 ∧ k_ ≠ gb192) (.slice A1_3 l1_3.length c1_3) l1_3) ∧ Aside0 (Kd.V k62 62 wc w.heap.size (fun k_ => ((P1_3_ k_ ∨ P1_4_ k_) ∨ w.heap.size ≤ k_) ∧ k_ ≠ gb187 ∧ k_ ≠ gb188 ∧ k_ ≠ gb189 ∧ k_ ≠ gb192) (.slice A1_4 l1_4.length c1_4) l1_4) ∧ Aside0 (wc.heap[gb187]? = some (.cells #[.int .i64 a0_0, .int .i64 a0_1, (.slice (some ad190) l0_2.length c0_2)] 24 (0, 0))) ∧ Aside0 (wc.heap[gb188]? = some (.cells #[.int .i64 a1_0, .int .i64 a1_1, .int .i64 a1_2, (.slice A1_3 l1_3.length c1_3), (.slice A1_4 l1_4.length c1_4)] 27 (0, 0))) ∧ Aside0 (wc.heap[gb189]? = some (.cells #[.int .i64 0, .int .i64 0, .int .i64 0, (.slice none 0 0), (.slice none 0 0)] 27 (0, 0))) ∧ Aside0 (wc.heap[gb192]? = some (.cells #[.int .i64 ((rd_T37 (rd_L2 l0_2 a1_0) a1_2).f0), .int .i64 ((rd_T37 (rd_L2 l0_2 a1_0) a1_2).f1), .int .i64 ((rd_T37 (rd_L2 l0_2 a1_0) a1_2).f2)] 37 (0, 0))) ∧ Aside0 (Below w.heap.size w wc))
         case first =>
          have H := HC33.out
          clear HC33
          by_cases c34 : (x8_6.length : Int) = 0
          ·
           rw [if_pos c34] at H
           have c34b0 : ((x8_6.length : Int) == 0) = true := beq_iff_eq.mpr c34
           have c34b1 : ((x8_6.length : Int) != 0) = false := bne_eq_false_iff_eq.mpr c34
           clear c34
           (first | rw [c34b0] | (simp only [i64_w, i32_w]; rw [c34b0]) | skip)
           (try rw [c34b1])
           have H' := Aside0.mk H
           clear H
           obtain ⟨Ao35, co35, eo35⟩ := Kd.V_slice HO_8.out
           subst eo35
           have hnb36 := NB188_187.out
           have hnc36 := NB187_188.out
           have hnb37 := NB188_189.out
           have hnc37 := NB189_188.out
           have hnb38 := NB188_192.out
           have hnc38 := NB192_188.out
           have hz39 := zc5 BK188
           go_wp2
           go_meet
           case rel => exact ⟨_, ((a1_2 == 0)), (by first | rfl | (simp; done) | (simp [*]; done)), H', ⟨by have := HJ6.out; first | omega | exact Nat.le_refl _⟩, ⟨zV HO_8⟩, ⟨zV HO_9⟩, ⟨zV HO_189003⟩, ⟨zV HO_189004⟩, ⟨zk BK187⟩, ⟨zk BK188⟩, ⟨zk BK189⟩, ⟨zk BK192⟩, ⟨zB HB⟩⟩
          ·
           rw [if_neg c34] at H
           have c34b0 : ((x8_6.length : Int) == 0) = false := beq_eq_false_iff_ne.mpr c34
           have c34b1 : ((x8_6.length : Int) != 0) = true := bne_iff_ne.mpr c34
           have c34b2 : ¬ (x8_6 = []) := fun h_ => c34 (by rw [h_]; rfl)
           (first | rw [c34b0] | (simp only [i64_w, i32_w]; rw [c34b0]) | skip)
           (try rw [c34b1])
           have H' := Aside0.mk H
           clear H
           obtain ⟨Ao40, co40, eo40⟩ := Kd.V_slice HO_8.out
           subst eo40
           go_wp2
           go_meet
           case rel => exact ⟨_, (false), (by first | rfl | (simp; done) | (simp [*]; done)), H', ⟨by have := HJ6.out; first | omega | exact Nat.le_refl _⟩, ⟨zV HO_8⟩, ⟨zV HO_9⟩, ⟨zV HO_189003⟩, ⟨zV HO_189004⟩, ⟨zk BK187⟩, ⟨zk BK188⟩, ⟨zk BK189⟩, ⟨zk BK192⟩, ⟨zB HB⟩⟩
         case rest =>
          clear HC33
          try clear c1
          try clear p1
          try clear q1
          try clear hx1
          try clear c2
          try clear p2
          try clear c3
          try clear c3b0
          try clear c4
          try clear c4b0
          try clear c5
          try clear c5b0
          try clear c6
          try clear c6b0
          try clear c18
          try clear c19
          try clear p19
          try clear q19
          try clear hx19
          try clear c20
          try clear c22
          try clear c22b0
          try clear c22b1
          try clear c24
          try clear c25
          try clear c26
          try clear c27
          try clear c29
          try clear c30
          try clear c32
          try clear c32b0
          try clear c32b1
          try clear c34
          try clear c34b0
          try clear c34b1
          try clear c34b2
          try clear c36
          try clear c37
          try clear c38
          try clear hz21
          try clear hz28
          try clear hz31
          try clear hz39
          try clear hx190_0
          try clear hx191_0
          try clear hx191_1
          try clear hx191_2
          try clear p1
          try clear p19
          try clear p190
          try clear p191
          try clear p2
          try clear q1
          try clear q19
          try clear q190
          try clear q191
          obtain ⟨kq, x40_32, rfl, HA, HJ32, HO_8, HO_9, HO_189003, HO_189004, BK187, BK188, BK189, BK192, HB⟩ := hcut
          cases kq with
          | zero => exact absurd HA.out (by simp [leap_leap.j1])
          | succ kj32 =>
           have H := HA.out
           clear HA
           simp only [leap_leap.j1] at H
           by_cases c41 : x40_32 = true
           ·
            subst c41
            have H1 : (some (a1_0, a1_1, a1_2, l1_3, l1_4, 0, true)) = some (r1, r2, r3, r4, r5, r6, r7) := by rw [if_pos rfl] at H; exact H
            clear H
            have H := H1
            clear H1
            simp only [Option.some.injEq, Prod.mk.injEq] at H
            obtain ⟨rfl, rfl, rfl, rfl, rfl, rfl, rfl⟩ := H
            have hnb42 := NB188_187.out
            have hnc42 := NB187_188.out
            have hnb43 := NB188_189.out
            have hnc43 := NB189_188.out
            have hnb44 := NB188_192.out
            have hnc44 := NB192_188.out
            have hz45 := zc5 BK188
            have hnb46 := NB189_187.out
            have hnc46 := NB187_189.out
            have hnb47 := NB189_192.out
            have hnc47 := NB192_189.out
            have hz48 := zc5 BK189
            go_wp2
            refine bodyPost_ret (results_ctt rfl _ _ gb189 27 #[.int .i64 a1_0, .int .i64 a1_1, .int .i64 a1_2, .slice A1_3 l1_3.length c1_3, .slice A1_4 l1_4.length c1_4] (0, 0) _ rfl (by (with_reducible repeat (first | refine blk_drewN ?_ _ | refine blk_drew ?_ | refine blk_alloc ?_ _)); refine blk_put (cs := #[.int .i64 a1_0, .int .i64 a1_1, .int .i64 a1_2, .slice A1_3 l1_3.length c1_3, .slice none 0 0]) ?_ 4 _ rfl; (with_reducible repeat (first | refine blk_drewN ?_ _ | refine blk_drew ?_ | refine blk_alloc ?_ _)); refine blk_put (cs := #[.int .i64 a1_0, .int .i64 a1_1, .int .i64 a1_2, .slice none 0 0, .slice none 0 0]) ?_ 3 _ rfl; (with_reducible repeat (first | refine blk_drewN ?_ _ | refine blk_drew ?_ | refine blk_alloc ?_ _)); refine blk_put (cs := #[.int .i64 a1_0, .int .i64 a1_1, .int .i64 0, .slice none 0 0, .slice none 0 0]) ?_ 2 _ rfl; (with_reducible repeat (first | refine blk_drewN ?_ _ | refine blk_drew ?_ | refine blk_alloc ?_ _)); refine blk_put (cs := #[.int .i64 a1_0, .int .i64 0, .int .i64 0, .slice none 0 0, .slice none 0 0]) ?_ 1 _ rfl; (with_reducible repeat (first | refine blk_drewN ?_ _ | refine blk_drew ?_ | refine blk_alloc ?_ _)); refine blk_put (cs := #[.int .i64 0, .int .i64 0, .int .i64 0, .slice none 0 0, .slice none 0 0]) ?_ 0 _ rfl; (with_reducible repeat (first | refine blk_drewN ?_ _ | refine blk_drew ?_ | refine blk_alloc ?_ _)); exact BK189.out) Try.underlying27 rfl (by kernel_rfl)) rfl ?_
            exact ⟨_, _, by first | rfl | (simp [errW_none, errW_some] <;> rfl) | (simp [*, errW_none, errW_some] <;> rfl), by (with_reducible repeat (first | apply Kd.V_alloc | apply Kd.V_drewN | apply Kd.V_drew)); exact Kd.V_mono (zVf5 (g := gb189) (Kd.V_mono HO_189003.out (fun k_ hk => (⟨hk, hk.2.2.2.1⟩ : _ ∧ k_ ≠ gb189)))) (fun _ hk => hk.1.1), by (with_reducible repeat (first | apply Kd.V_alloc | apply Kd.V_drewN | apply Kd.V_drew)); exact Kd.V_mono (zVf5 (g := gb189) (Kd.V_mono HO_189004.out (fun k_ hk => (⟨hk, hk.2.2.2.1⟩ : _ ∧ k_ ≠ gb189)))) (fun _ hk => hk.1.1), zB HB⟩
           ·
            replace c41 := Bool.eq_false_iff.mpr c41
            subst c41
            have H1 : (if (x8_6.length : Int) > 0 then (if 0 < (x8_6.length : Int) then (if ((rd_T62 x8_6 0).f0) = a1_2 then (if 1 ≤ (x8_6.length : Int) then (leap_leap.j2 kj32 (x8_6.drop 1) x9_6 (wrap64 (1 + ((rd_T62 x8_6 0).f1))) a1_0 a1_1 a1_2 l1_3 l1_4 ((rd_T37 (rd_L2 l0_2 a1_0) a1_2).f0) ((rd_T37 (rd_L2 l0_2 a1_0) a1_2).f1) ((rd_T37 (rd_L2 l0_2 a1_0) a1_2).f2)) else (none)) else (leap_leap.j2 kj32 x8_6 x9_6 1 a1_0 a1_1 a1_2 l1_3 l1_4 ((rd_T37 (rd_L2 l0_2 a1_0) a1_2).f0) ((rd_T37 (rd_L2 l0_2 a1_0) a1_2).f1) ((rd_T37 (rd_L2 l0_2 a1_0) a1_2).f2))) else (none)) else (leap_leap.j2 kj32 x8_6 x9_6 1 a1_0 a1_1 a1_2 l1_3 l1_4 ((rd_T37 (rd_L2 l0_2 a1_0) a1_2).f0) ((rd_T37 (rd_L2 l0_2 a1_0) a1_2).f1) ((rd_T37 (rd_L2 l0_2 a1_0) a1_2).f2))) = some (r1, r2, r3, r4, r5, r6, r7) := by rw [if_neg (show ¬ (false = true) by decide)] at H; exact H
            clear H
            have H := H1
            clear H1
            by_cases c49 : (x8_6.length : Int) > 0
            ·
             rw [if_pos c49] at H
             have c49b0 : decide (0 < (x8_6.length : Int)) = true := decide_eq_true c49
             have c49b1 : decide (0 < x8_6.length) = true := decide_eq_true (by omega)
             clear c49
             by_cases c50 : 0 < (x8_6.length : Int)
             ·
              rw [if_pos c50] at H
              have c50b0 : decide (0 < (x8_6.length : Int)) = true := decide_eq_true c50
              have c50b1 : decide (0 < x8_6.length) = true := decide_eq_true (by omega)
              clear c50
              by_cases c51 : ((rd_T62 x8_6 0).f0) = a1_2
              ·
               rw [if_pos c51] at H
               have c51b0 : (((rd_T62 x8_6 0).f0) == a1_2) = true := beq_iff_eq.mpr c51
               have c51b1 : (((rd_T62 x8_6 0).f0) != a1_2) = false := bne_eq_false_iff_eq.mpr c51
               clear c51
               by_cases c52 : 1 ≤ (x8_6.length : Int)
               ·
                rw [if_pos c52] at H
                have c52b0 := eq_true c52
                have c52b1 : decide (1 ≤ (x8_6.length : Int)) = true := decide_eq_true c52
                clear c52
                obtain ⟨y195, hy195⟩ : ∃ y_ : List (S62), y_ = (x8_6.drop 1) := ⟨_, rfl⟩
                replace H : (leap_leap.j2 kj32 y195 x9_6 (wrap64 (1 + ((rd_T62 x8_6 0).f1))) a1_0 a1_1 a1_2 l1_3 l1_4 ((rd_T37 (rd_L2 l0_2 a1_0) a1_2).f0) ((rd_T37 (rd_L2 l0_2 a1_0) a1_2).f1) ((rd_T37 (rd_L2 l0_2 a1_0) a1_2).f2)) = some (r1, r2, r3, r4, r5, r6, r7) := by first | (rw [hy195]; with_reducible exact H) | (have H2_ := (Option.bind_some _ _).symm.trans H; rw [hy195]; with_reducible exact H2_) | (have H2_ := (Option.bind_some _ _).symm.trans H; with_reducible exact H2_) | with_reducible exact H | (rw [hy195]; exact H) | exact H
                have Ny195 := Aside0.mk hy195
                clear hy195
                have H' := Aside0.mk H
                clear H
                try go_wp2
                replace HO_8 := Aside0.mk (Kd.V_drew HO_8.out)
                replace HO_9 := Aside0.mk (Kd.V_drew HO_9.out)
                replace HO_189003 := Aside0.mk (Kd.V_drew HO_189003.out)
                replace HO_189004 := Aside0.mk (Kd.V_drew HO_189004.out)
                replace BK187 := Aside0.mk (blk_drew BK187.out)
                replace BK188 := Aside0.mk (blk_drew BK188.out)
                replace BK189 := Aside0.mk (blk_drew BK189.out)
                replace BK192 := Aside0.mk (blk_drew BK192.out)
                replace HB := Aside0.mk (below_drew1 HB.out)
                obtain ⟨Ao54, co54, eo54⟩ := Kd.V_slice HO_8.out
                (first | subst eo54 | (injection eo54 with f1_ f2_ f3_; have f4_ := f1_.symm; have f5_ := f3_.symm; clear f1_ f2_ f3_; subst f4_; subst f5_))
                have p193 : 0 ≤ (0 : Int) := (by omega)
                have q193 : 0 < (x8_6.length : Int) := of_decide_eq_true (by first | (with_reducible assumption) | assumption)
                obtain ⟨ad193, e193, hx193_0, hx193_1⟩ := at_T62 (Kd.V_reads' HO_8.out).2.2 0 p193 q193
                cases e193
                have qi193 : (0 < x8_6.length) = True := eq_true (by omega)
                (try rw [show ((0 : Int)).toNat = 0 from rfl] at hx193_0)
                (try rw [show 0 * 2 = 0 from rfl] at hx193_0)
                (try rw [Addr.add_zero'] at hx193_0)
                (try rw [show ((0 : Int)).toNat = 0 from rfl] at hx193_1)
                (try rw [show 0 * 2 = 0 from rfl] at hx193_1)
                (try rw [Addr.add_zero'] at hx193_1)
                replace p193 := eq_true p193
                replace q193 := eq_true q193
                refine start_ (n := 13) (S := fun w' => w'.cell? ⟨gb188, 0, none⟩ = some (.int .i64 a1_0) ∧ w'.cell? ⟨gb188, 1, none⟩ = some (.int .i64 a1_1) ∧ w'.cell? ⟨gb188, 2, none⟩ = some (.int .i64 a1_2) ∧ w'.cell? ⟨gb188, 3, none⟩ = some (.slice A1_3 l1_3.length c1_3) ∧ w'.cell? ⟨gb188, 4, none⟩ = some (.slice A1_4 l1_4.length c1_4) ∧ w'.cell? ad193 = some (.int .i64 ((rd_T62 x8_6 0).f0)) ∧ w'.cell? ⟨ad193.block, ad193.off + 1, none⟩ = some (.int .i64 ((rd_T62 x8_6 0).f1))) (ds := []) (zl 13 0) (by kernel_rfl) rfl rfl ⟨(blk_cell BK188.out 0).trans rfl, (blk_cell BK188.out 1).trans rfl, (blk_cell BK188.out 2).trans rfl, (blk_cell BK188.out 3).trans rfl, (blk_cell BK188.out 4).trans rfl, hx193_0, hx193_1⟩ (fun hHeld => ?_); refine with_tabW leap_leap.tab9 leap_leap.bits9 (fun HT_ HW_ => ?_)
                generalize wc.drew = w53 at HO_8 HO_9 HO_189003 HO_189004 BK187 BK188 BK189 BK192 HB hx193_0 hx193_1 hHeld ⊢
                refine zP 0 (some 51) (zl 13 1) HT_ ?_
                refine zP 1 (some 52) (zl 13 3) HT_ ?_
                refine zP 2 (some 53) (zl 13 7) HT_ ?_
                refine zP 3 (some 54) (zl 13 15) HT_ ?_
                refine zP 4 (some 55) (zl 13 31) HT_ ?_
                refine zP 5 (some 56) (zl 13 63) HT_ ?_
                refine zP 6 (some 57) (zl 13 127) HT_ ?_
                refine zP 8 (some 59) (zl 13 383) HT_ ?_
                refine zT 7 (some 58) (zl 13 511) HT_ HW_ hHeld ?_
                refine zT 9 (some 60) (zl 13 1023) HT_ HW_ hHeld ?_
                refine zP 10 (some 61) (zl 13 2047) HT_ ?_
                refine zP 11 (some 62) (zl 13 4095) HT_ ?_
                refine zP 12 (some 50) (zl 13 8191) HT_ ?_
                refine done_ (done_of HT_.out (by kernel_rfl)) ?_
                have p194 : 0 ≤ (0 : Int) := (by omega)
                have q194 : 0 < (x8_6.length : Int) := of_decide_eq_true (by first | (with_reducible assumption) | assumption)
                obtain ⟨ad194, e194, hx194_0, hx194_1⟩ := at_T62 (Kd.V_reads' HO_8.out).2.2 0 p194 q194
                obtain rfl : ad193 = ad194 := (by injection e194)
                have qi194 : (0 < x8_6.length) = True := eq_true (by omega)
                (try rw [show ((0 : Int)).toNat = 0 from rfl] at hx194_0)
                (try rw [show 0 * 2 = 0 from rfl] at hx194_0)
                (try rw [Addr.add_zero'] at hx194_0)
                (try rw [show ((0 : Int)).toNat = 0 from rfl] at hx194_1)
                (try rw [show 0 * 2 = 0 from rfl] at hx194_1)
                (try rw [Addr.add_zero'] at hx194_1)
                replace p194 := eq_true p194
                replace q194 := eq_true q194
                have q55 : (1 : Int) ≤ ((x8_6.length : Int) : Int) := of_decide_eq_true (by first | (with_reducible assumption) | assumption)
                obtain ⟨i055, hi055, _, hsz55, _⟩ := info_parts info62
                have hroom55 : x8_6.length ≤ co54 := (Kd.V_reads' HO_8.out).2.1
                have hC55 : Kd.F k62 _ _ (some ad193) x8_6.length x8_6 := (Kd.V_at (base := w.heap.size) HO_8.out).2.2
                have hcut55 := cut_from (P := Try.prog) 25 62 .i64 Try.underlying25 hi055 2 hsz55 (some ad193) x8_6.length co54 1 (by omega) q55
                have hr55 := Kd.F_cut (m := (1 : Int).toNat) (c := co54) hC55 (by omega) hroom55
                obtain ⟨A55, hA55⟩ : ∃ A1, A1 = (if co54 = (1 : Int).toNat then (some ad193) else ((some ad193) : Option Addr).map (·.add ((1 : Int).toNat * 2))) := ⟨_, rfl⟩
                obtain ⟨c55, hc55⟩ : ∃ c1, c1 = co54 - (1 : Int).toNat := ⟨_, rfl⟩
                have hy55 : y195.length = x8_6.length - (1 : Int).toNat := (by rw [Ny195.out, List.length_drop] <;> omega)
                rw [show (x8_6).drop (1 : Int).toNat = y195 from Ny195.out.symm] at hr55
                replace hr55 : Kd.F k62 _ _ A55 y195.length y195 := (by rw [hA55]; exact hr55)
                rw [← hy55, ← hA55, ← hc55] at hcut55
                have HO199 := Aside0.mk (show Kd.V k62 62 _ w.heap.size _ (.slice A55 y195.length c55) y195 from Kd.V_mk (by rw [hy55, hc55]; exact Nat.sub_le_sub_right hroom55 _) hr55)
                have HC199 := Aside0.mk (show y195.length ≤ c55 from by rw [hy55, hc55]; exact Nat.sub_le_sub_right hroom55 _)
                clear hr55 hC55 hroom55 hi055 hsz55 hc55
                have KY55 := Aside0.mk hy55
                have KA55 := Aside0.mk hA55
                clear hy55 hA55
                replace q55 := eq_true q55
                try go_wp2
                go_meet
                case rel => exact ⟨_, (y195), (wrap64 (1 + ((rd_T62 x8_6 0).f1))), (0), (0), (0), (by first | rfl | (simp; done) | (simp [*]; done)), H', ⟨by have := HJ6.out; have := HJ32.out; first | omega | exact Nat.le_refl _⟩, ⟨zV HO199⟩, ⟨zV HO_9⟩, ⟨zV HO_189003⟩, ⟨zV HO_189004⟩, ⟨zk BK187⟩, ⟨zk BK188⟩, ⟨zk BK189⟩, ⟨zk BK192⟩, ⟨zB HB⟩⟩
               ·
                rw [if_neg c52] at H
                exact absurd H (by simp)
              ·
               rw [if_neg c51] at H
               have c51b0 : (((rd_T62 x8_6 0).f0) == a1_2) = false := beq_eq_false_iff_ne.mpr c51
               have c51b1 : (((rd_T62 x8_6 0).f0) != a1_2) = true := bne_iff_ne.mpr c51
               have H' := Aside0.mk H
               clear H
               try go_wp2
               replace HO_8 := Aside0.mk (Kd.V_drew HO_8.out)
               replace HO_9 := Aside0.mk (Kd.V_drew HO_9.out)
               replace HO_189003 := Aside0.mk (Kd.V_drew HO_189003.out)
               replace HO_189004 := Aside0.mk (Kd.V_drew HO_189004.out)
               replace BK187 := Aside0.mk (blk_drew BK187.out)
               replace BK188 := Aside0.mk (blk_drew BK188.out)
               replace BK189 := Aside0.mk (blk_drew BK189.out)
               replace BK192 := Aside0.mk (blk_drew BK192.out)
               replace HB := Aside0.mk (below_drew1 HB.out)
               obtain ⟨Ao57, co57, eo57⟩ := Kd.V_slice HO_8.out
               (first | subst eo57 | (injection eo57 with f1_ f2_ f3_; have f4_ := f1_.symm; have f5_ := f3_.symm; clear f1_ f2_ f3_; subst f4_; subst f5_))
               have p193 : 0 ≤ (0 : Int) := (by omega)
               have q193 : 0 < (x8_6.length : Int) := of_decide_eq_true (by first | (with_reducible assumption) | assumption)
               obtain ⟨ad193, e193, hx193_0, hx193_1⟩ := at_T62 (Kd.V_reads' HO_8.out).2.2 0 p193 q193
               cases e193
               have qi193 : (0 < x8_6.length) = True := eq_true (by omega)
               (try rw [show ((0 : Int)).toNat = 0 from rfl] at hx193_0)
               (try rw [show 0 * 2 = 0 from rfl] at hx193_0)
               (try rw [Addr.add_zero'] at hx193_0)
               (try rw [show ((0 : Int)).toNat = 0 from rfl] at hx193_1)
               (try rw [show 0 * 2 = 0 from rfl] at hx193_1)
               (try rw [Addr.add_zero'] at hx193_1)
               replace p193 := eq_true p193
               replace q193 := eq_true q193
               refine start_ (n := 13) (S := fun w' => w'.cell? ⟨gb188, 0, none⟩ = some (.int .i64 a1_0) ∧ w'.cell? ⟨gb188, 1, none⟩ = some (.int .i64 a1_1) ∧ w'.cell? ⟨gb188, 2, none⟩ = some (.int .i64 a1_2) ∧ w'.cell? ⟨gb188, 3, none⟩ = some (.slice A1_3 l1_3.length c1_3) ∧ w'.cell? ⟨gb188, 4, none⟩ = some (.slice A1_4 l1_4.length c1_4) ∧ w'.cell? ad193 = some (.int .i64 ((rd_T62 x8_6 0).f0)) ∧ w'.cell? ⟨ad193.block, ad193.off + 1, none⟩ = some (.int .i64 ((rd_T62 x8_6 0).f1))) (ds := []) (zl 13 0) (by kernel_rfl) rfl rfl ⟨(blk_cell BK188.out 0).trans rfl, (blk_cell BK188.out 1).trans rfl, (blk_cell BK188.out 2).trans rfl, (blk_cell BK188.out 3).trans rfl, (blk_cell BK188.out 4).trans rfl, hx193_0, hx193_1⟩ (fun hHeld => ?_); refine with_tabW leap_leap.tab9 leap_leap.bits9 (fun HT_ HW_ => ?_)
               generalize wc.drew = w56 at HO_8 HO_9 HO_189003 HO_189004 BK187 BK188 BK189 BK192 HB hx193_0 hx193_1 hHeld ⊢
               refine zP 0 (some 51) (zl 13 1) HT_ ?_
               refine zP 1 (some 52) (zl 13 3) HT_ ?_
               refine zP 2 (some 53) (zl 13 7) HT_ ?_
               refine zP 3 (some 54) (zl 13 15) HT_ ?_
               refine zP 4 (some 55) (zl 13 31) HT_ ?_
               refine zP 5 (some 56) (zl 13 63) HT_ ?_
               refine zP 6 (some 57) (zl 13 127) HT_ ?_
               refine zP 8 (some 59) (zl 13 383) HT_ ?_
               refine zT 7 (some 58) (zl 13 511) HT_ HW_ hHeld ?_
               refine zT 9 (some 60) (zl 13 1023) HT_ HW_ hHeld ?_
               refine zP 10 (some 61) (zl 13 2047) HT_ ?_
               refine zP 11 (some 62) (zl 13 4095) HT_ ?_
               refine zP 12 (some 50) (zl 13 8191) HT_ ?_
               refine done_ (done_of HT_.out (by kernel_rfl)) ?_
               try go_wp2
               go_meet
               case rel => exact ⟨_, (x8_6), (1), (0), (0), (0), (by first | rfl | (simp; done) | (simp [*]; done)), H', ⟨by have := HJ6.out; have := HJ32.out; first | omega | exact Nat.le_refl _⟩, ⟨zV HO_8⟩, ⟨zV HO_9⟩, ⟨zV HO_189003⟩, ⟨zV HO_189004⟩, ⟨zk BK187⟩, ⟨zk BK188⟩, ⟨zk BK189⟩, ⟨zk BK192⟩, ⟨zB HB⟩⟩
             ·
              rw [if_neg c50] at H
              exact absurd H (by simp)
            ·
             rw [if_neg c49] at H
             have c49b0 : decide (0 < (x8_6.length : Int)) = false := decide_eq_false c49
             have c49b1 : decide (0 < x8_6.length) = false := decide_eq_false (by omega)
             clear c49
             have H' := Aside0.mk H
             clear H
             try go_wp2
             replace HO_8 := Aside0.mk (Kd.V_drew HO_8.out)
             replace HO_9 := Aside0.mk (Kd.V_drew HO_9.out)
             replace HO_189003 := Aside0.mk (Kd.V_drew HO_189003.out)
             replace HO_189004 := Aside0.mk (Kd.V_drew HO_189004.out)
             replace BK187 := Aside0.mk (blk_drew BK187.out)
             replace BK188 := Aside0.mk (blk_drew BK188.out)
             replace BK189 := Aside0.mk (blk_drew BK189.out)
             replace BK192 := Aside0.mk (blk_drew BK192.out)
             replace HB := Aside0.mk (below_drew1 HB.out)
             obtain ⟨Ao59, co59, eo59⟩ := Kd.V_slice HO_8.out
             (first | subst eo59 | (injection eo59 with f1_ f2_ f3_; have f4_ := f1_.symm; have f5_ := f3_.symm; clear f1_ f2_ f3_; subst f4_; subst f5_))
             refine start_ (n := 13) (S := fun w' => True) (ds := []) (zl 13 0) (by kernel_rfl) rfl rfl trivial (fun hHeld => ?_); refine with_tabW leap_leap.tab9 leap_leap.bits9 (fun HT_ HW_ => ?_)
             generalize wc.drew = w58 at HO_8 HO_9 HO_189003 HO_189004 BK187 BK188 BK189 BK192 HB hHeld ⊢
             refine zP 0 (some 51) (zl 13 1) HT_ ?_
             refine zP 1 (some 52) (zl 13 3) HT_ ?_
             refine zP 2 (some 53) (zl 13 7) HT_ ?_
             refine zP 3 (some 54) (zl 13 15) HT_ ?_
             refine pure_ (i := 4) (N := some 55) (v := undef) (a' := ?_) (zl 13 31) rfl rfl (any_of HT_.out (by kernel_rfl)) (fun _ _ _ h => h) (Or.inr ⟨by rfl, rfl⟩) ?_ ?_
             rotate_left
             ·
              simp only [Act.put, zs, zs0, zs1, i64_w, i32_w]
              rfl
             refine pure_ (i := 5) (N := some 56) (v := undef) (a' := ?_) (zl 13 63) rfl rfl (any_of HT_.out (by kernel_rfl)) (fun _ _ _ h => h) (Or.inr ⟨by rfl, rfl⟩) ?_ ?_
             rotate_left
             ·
              simp only [Act.put, zs, zs0, zs1, i64_w, i32_w]
              rfl
             refine pure_ (i := 6) (N := some 57) (v := undef) (a' := ?_) (zl 13 127) rfl rfl (any_of HT_.out (by kernel_rfl)) (fun _ _ _ h => h) (Or.inr ⟨by rfl, rfl⟩) ?_ ?_
             rotate_left
             ·
              simp only [Act.put, zs, zs0, zs1, i64_w, i32_w]
              rfl
             refine pure_ (i := 7) (N := some 58) (v := undef) (a' := ?_) (zl 13 255) rfl rfl (any_of HT_.out (by kernel_rfl)) (fun _ _ _ h => h) (Or.inr ⟨by rfl, rfl⟩) ?_ ?_
             rotate_left
             ·
              simp only [Act.put, zs, zs0, zs1, i64_w, i32_w]
              rfl
             refine pure_ (i := 8) (N := some 59) (v := undef) (a' := ?_) (zl 13 511) rfl rfl (any_of HT_.out (by kernel_rfl)) (fun _ _ _ h => h) (Or.inr ⟨by rfl, rfl⟩) ?_ ?_
             rotate_left
             ·
              simp only [Act.put, zs, zs0, zs1, i64_w, i32_w]
              rfl
             refine pure_ (i := 9) (N := some 60) (v := undef) (a' := ?_) (zl 13 1023) rfl rfl (any_of HT_.out (by kernel_rfl)) (fun _ _ _ h => h) (Or.inr ⟨by rfl, rfl⟩) ?_ ?_
             rotate_left
             ·
              simp only [Act.put, zs, zs0, zs1, i64_w, i32_w]
              rfl
             refine pure_ (i := 10) (N := some 61) (v := undef) (a' := ?_) (zl 13 2047) rfl rfl (any_of HT_.out (by kernel_rfl)) (fun _ _ _ h => h) (Or.inr ⟨by rfl, rfl⟩) ?_ ?_
             rotate_left
             ·
              simp only [Act.put, zs, zs0, zs1, i64_w, i32_w]
              rfl
             refine zP 11 (some 62) (zl 13 4095) HT_ ?_
             refine zP 12 (some 50) (zl 13 8191) HT_ ?_
             refine done_ (done_of HT_.out (by kernel_rfl)) ?_
             try go_wp2
             go_meet
             case rel => exact ⟨_, (x8_6), (1), (0), (0), (0), (by first | rfl | (simp; done) | (simp [*]; done)), H', ⟨by have := HJ6.out; have := HJ32.out; first | omega | exact Nat.le_refl _⟩, ⟨zV HO_8⟩, ⟨zV HO_9⟩, ⟨zV HO_189003⟩, ⟨zV HO_189004⟩, ⟨zk BK187⟩, ⟨zk BK188⟩, ⟨zk BK189⟩, ⟨zk BK192⟩, ⟨zB HB⟩⟩
        ·
         rw [if_neg c32] at H
         have c32b0 : (((rd_T37 (rd_L2 l0_2 a1_0) a1_2).f2) == a1_0) = false := beq_eq_false_iff_ne.mpr c32
         have c32b1 : (((rd_T37 (rd_L2 l0_2 a1_0) a1_2).f2) != a1_0) = true := bne_iff_ne.mpr c32
         (first | rw [c32b0] | (simp only [i64_w, i32_w]; rw [c32b0]) | skip)
         (try rw [c32b1])
         have H' := Aside0.mk H
         clear H
         go_wp2
         go_meet
         case rel => exact ⟨_, (x8_6), (1), (0), (0), (0), (by first | rfl | (simp; done) | (simp [*]; done)), H', ⟨by have := HJ6.out; first | omega | exact Nat.le_refl _⟩, ⟨zV HO_8⟩, ⟨zV HO_9⟩, ⟨zV HO_189003⟩, ⟨zV HO_189004⟩, ⟨zk BK187⟩, ⟨zk BK188⟩, ⟨zk BK189⟩, ⟨zk BK192⟩, ⟨zB HB⟩⟩
       case rest =>
        clear HC24
        try clear c1
        try clear p1
        try clear q1
        try clear hx1
        try clear qi1
        try clear p2
        try clear c3
        try clear c4
        try clear c5
        try clear q5
        try clear p6
        try clear p19
        try clear q19
        try clear hx19
        try clear qi19
        try clear c32
        try clear c32b0
        try clear c32b1
        try clear c41
        try clear c42
        try clear c43
        try clear c44
        try clear c46
        try clear c47
        try clear c49
        try clear c49b0
        try clear c49b1
        try clear c50
        try clear c50b0
        try clear c50b1
        try clear c51
        try clear c51b0
        try clear c51b1
        try clear c52
        try clear c52b0
        try clear c52b1
        try clear c55
        try clear q55
        try clear hz31
        try clear hz39
        try clear hz45
        try clear hz48
        try clear hx190_0
        try clear hx191_0
        try clear hx191_1
        try clear hx191_2
        try clear hx193_0
        try clear hx193_1
        try clear hx194_0
        try clear hx194_1
        try clear p1
        try clear p19
        try clear p190
        try clear p191
        try clear p193
        try clear p194
        try clear p2
        try clear q1
        try clear q19
        try clear q190
        try clear q191
        try clear q193
        try clear q194
        try clear q55
        obtain ⟨kq, x8_23, x10_23, x190000_23, x190001_23, x190002_23, rfl, HA, HJ23, HO_8, HO_9, HO_189003, HO_189004, BK187, BK188, BK189, BK192, HB⟩ := hcut
        cases kq with
        | zero => exact absurd HA.out (by simp [leap_leap.j2])
        | succ kj23 =>
         have H := HA.out
         clear HA
         simp only [leap_leap.j2] at H
         replace H := Option.bind_eq_some_iff.mp H
         obtain ⟨t200, A600, H⟩ := H
         replace H : ((leap_split.f x8_23).bind fun bt203 => (if ((rd_T37 (rd_L2 l0_2 a1_0) a1_2).f1) < 0 then ((api_Run.f bt203.2).bind fun t208 => ((api_Run.f t200).bind fun t211 => (some (((rd_T37 (rd_L2 l0_2 a1_0) a1_2).f2), wrap64 (a1_1 + (wrap64 (((rd_T37 (rd_L2 l0_2 a1_0) a1_2).f1) * x10_23))), bt203.1, t208, t211, x10_23, false)))) else ((api_Run.f t200).bind fun t214 => ((api_Run.f bt203.2).bind fun t217 => (some (((rd_T37 (rd_L2 l0_2 a1_0) a1_2).f2), wrap64 (a1_1 + (wrap64 (((rd_T37 (rd_L2 l0_2 a1_0) a1_2).f1) * x10_23))), bt203.1, t214, t217, x10_23, false)))))) = some (r1, r2, r3, r4, r5, r6, r7) := H
         have A60 := Aside0.mk A600
         clear A600
         replace H := Option.bind_eq_some_iff.mp H
         obtain ⟨⟨t203, t204⟩, A610, H⟩ := H
         replace H : (if ((rd_T37 (rd_L2 l0_2 a1_0) a1_2).f1) < 0 then ((api_Run.f t204).bind fun t208 => ((api_Run.f t200).bind fun t211 => (some (((rd_T37 (rd_L2 l0_2 a1_0) a1_2).f2), wrap64 (a1_1 + (wrap64 (((rd_T37 (rd_L2 l0_2 a1_0) a1_2).f1) * x10_23))), t203, t208, t211, x10_23, false)))) else ((api_Run.f t200).bind fun t214 => ((api_Run.f t204).bind fun t217 => (some (((rd_T37 (rd_L2 l0_2 a1_0) a1_2).f2), wrap64 (a1_1 + (wrap64 (((rd_T37 (rd_L2 l0_2 a1_0) a1_2).f1) * x10_23))), t203, t214, t217, x10_23, false))))) = some (r1, r2, r3, r4, r5, r6, r7) := H
         have A61 := Aside0.mk A610
         clear A610
         have HC62 := Aside0.mk H
         clear H
         have hnb63 := NB192_187.out
         have hnc63 := NB187_192.out
         have hnb64 := NB192_188.out
         have hnc64 := NB188_192.out
         have hnb65 := NB192_189.out
         have hnc65 := NB189_192.out
         have hz66 := zc3 BK192
         obtain ⟨Ao67, co67, eo67⟩ := Kd.V_slice HO_9.out
         subst eo67
         go_upto_if 96 with (first | ((with_reducible refine gate_callee (f := 34) rfl ?_); refine goesL_ (some 75) rfl rfl Try.func34 (by kernel_rfl) rfl #[.int .i64 ((rd_T37 (rd_L2 l0_2 a1_0) a1_2).f0), .int .i64 x10_23, .slice Ao67 x9_6.length co67] rfl (zm) ?_; (with_reducible refine (leap_before.calls kj23 ((rd_T37 (rd_L2 l0_2 a1_0) a1_2).f0) x10_23 (fun k_ => (((P1_3_ k_ ∨ P1_4_ k_) ∨ w.heap.size ≤ k_) ∧ (k_ ≠ gb187 ∧ (k_ ≠ gb188 ∧ (k_ ≠ gb189 ∧ k_ ≠ gb192))))) _ _ x9_6 t200 _ ?side1 A60.out).mono ?_); (case side1 => exact HO_9.out); rintro e w68 ⟨v201, rfl, ho0, hb⟩; refine ⟨_, rfl, ?_⟩; have HO202 := Aside0.mk (Kd.V_lower (Kd.V_mono (ok' := fun k_ => ((P1_3_ k_ ∨ P1_4_ k_) ∨ w.heap.size ≤ k_) ∧ k_ ≠ gb187 ∧ k_ ≠ gb188 ∧ k_ ≠ gb189 ∧ k_ ≠ gb192) ho0 (fun k_ hk_ => ⟨Or.elim hk_ (fun hs_ => hs_.1) (fun hn_ => (.inr (Nat.le_trans (below_size (zB HB)) hn_))), Or.elim hk_ (fun hs_ => hs_.2.1) (fun hn_ => zf BK187 hn_), Or.elim hk_ (fun hs_ => hs_.2.2.1) (fun hn_ => zf BK188 hn_), Or.elim hk_ (fun hs_ => hs_.2.2.2.1) (fun hn_ => zf BK189 hn_), Or.elim hk_ (fun hs_ => hs_.2.2.2.2) (fun hn_ => zf BK192 hn_)⟩)) (below_size (zB HB))); replace HO_8 := Aside0.mk (zVb HO_8 hb); replace HO_9 := Aside0.mk (zVb HO_9 hb); replace HO_189003 := Aside0.mk (zVb HO_189003 hb); replace HO_189004 := Aside0.mk (zVb HO_189004 hb); replace BK187 := Aside0.mk (zb BK187 hb); replace BK188 := Aside0.mk (zb BK188 hb); replace BK189 := Aside0.mk (zb BK189 hb); replace BK192 := Aside0.mk (zb BK192 hb); replace HB := Aside0.mk (below_step (zB HB) hb); (try clear hb); (try clear hb2); (try clear hk); (try clear hi); (try clear ho0); obtain ⟨Ao69, co69, eo69⟩ := Kd.V_slice HO_8.out; subst eo69) | ((with_reducible refine gate_callee (f := 35) rfl ?_); refine goesL_ (some 78) rfl rfl Try.func35 (by kernel_rfl) rfl #[.slice Ao69 x8_23.length co69] rfl (zm) ?_; (with_reducible refine (leap_split.calls (fun k_ => (((P1_3_ k_ ∨ P1_4_ k_) ∨ w.heap.size ≤ k_) ∧ (k_ ≠ gb187 ∧ (k_ ≠ gb188 ∧ (k_ ≠ gb189 ∧ k_ ≠ gb192))))) _ _ x8_23 t203 t204 _ ?side1 A61.out).mono ?_); (case side1 => exact HO_8.out); rintro e w70 ⟨v205, rfl, ho0, hb⟩; refine ⟨_, rfl, ?_⟩; have HO206 := Aside0.mk (Kd.V_lower (Kd.V_mono (ok' := fun k_ => ((P1_3_ k_ ∨ P1_4_ k_) ∨ w.heap.size ≤ k_) ∧ k_ ≠ gb187 ∧ k_ ≠ gb188 ∧ k_ ≠ gb189 ∧ k_ ≠ gb192) ho0 (fun k_ hk_ => ⟨Or.elim hk_ (fun hs_ => hs_.1) (fun hn_ => (.inr (Nat.le_trans (below_size (zB HB)) hn_))), Or.elim hk_ (fun hs_ => hs_.2.1) (fun hn_ => zf BK187 hn_), Or.elim hk_ (fun hs_ => hs_.2.2.1) (fun hn_ => zf BK188 hn_), Or.elim hk_ (fun hs_ => hs_.2.2.2.1) (fun hn_ => zf BK189 hn_), Or.elim hk_ (fun hs_ => hs_.2.2.2.2) (fun hn_ => zf BK192 hn_)⟩)) (below_size (zB HB))); replace HO_8 := Aside0.mk (zVb HO_8 hb); replace HO_9 := Aside0.mk (zVb HO_9 hb); replace HO_189003 := Aside0.mk (zVb HO_189003 hb); replace HO_189004 := Aside0.mk (zVb HO_189004 hb); replace HO202 := Aside0.mk (zVb HO202 hb); replace BK187 := Aside0.mk (zb BK187 hb); replace BK188 := Aside0.mk (zb BK188 hb); replace BK189 := Aside0.mk (zb BK189 hb); replace BK192 := Aside0.mk (zb BK192 hb); replace HB := Aside0.mk (below_step (zB HB) hb); (try clear hb); (try clear hb2); (try clear hk); (try clear hi); (try clear ho0); have hz71 := zc3 BK192; have hnb72 := NB188_187.out; have hnc72 := NB187_188.out; have hnb73 := NB188_189.out; have hnc73 := NB189_188.out; have hz74 := zc5 BK188; obtain ⟨Ao75, co75, eo75⟩ := Kd.V_slice HO206.out; subst eo75; obtain ⟨Ao76, co76, eo76⟩ := Kd.V_slice HO202.out; subst eo76) | ((with_reducible refine gate_dst (N := 13) rfl ?_); refine box_event ?hg (N := 13) ?hd (cs := #[.int .i64 0, .int .i64 0, .int .i64 0, .slice none 0 0, .slice none 0 0]) (t := 27) ?hr ?_; (case hd => rfl); (case hg => rfl); (case hr => first | (go_simp; done) | (go_simp; rfl)); intro gb207 hg w77 hbox hb; have BK207 := Aside0.mk (hbox); have GW207 := Aside0.mk ((by rw [hg]; exact (below_size (zB HB)) : w.heap.size ≤ gb207)); have GE207 := Aside0.mk ((by rw [hg]; exact (below_size (zB HB)) : w.heap.size ≤ gb207)); have NB187_207 := Aside0.mk ((by rw [hg]; exact Nat.ne_of_lt (zL BK187) : gb187 ≠ gb207)); have NB207_187 := Aside0.mk ((by rw [hg]; exact Nat.ne_of_gt (zL BK187) : gb207 ≠ gb187)); have NB188_207 := Aside0.mk ((by rw [hg]; exact Nat.ne_of_lt (zL BK188) : gb188 ≠ gb207)); have NB207_188 := Aside0.mk ((by rw [hg]; exact Nat.ne_of_gt (zL BK188) : gb207 ≠ gb188)); have NB189_207 := Aside0.mk ((by rw [hg]; exact Nat.ne_of_lt (zL BK189) : gb189 ≠ gb207)); have NB207_189 := Aside0.mk ((by rw [hg]; exact Nat.ne_of_gt (zL BK189) : gb207 ≠ gb189)); have NB192_207 := Aside0.mk ((by rw [hg]; exact Nat.ne_of_lt (zL BK192) : gb192 ≠ gb207)); have NB207_192 := Aside0.mk ((by rw [hg]; exact Nat.ne_of_gt (zL BK192) : gb207 ≠ gb192)); replace HO_8 := Aside0.mk (Kd.V_below (Kd.V_elderB (zV HO_8) gb207 (Nat.le_of_eq hg.symm)) hb); replace HO_9 := Aside0.mk (Kd.V_below (Kd.V_elderB (zV HO_9) gb207 (Nat.le_of_eq hg.symm)) hb); replace HO_189003 := Aside0.mk (Kd.V_below (Kd.V_elderB (zV HO_189003) gb207 (Nat.le_of_eq hg.symm)) hb); replace HO_189004 := Aside0.mk (Kd.V_below (Kd.V_elderB (zV HO_189004) gb207 (Nat.le_of_eq hg.symm)) hb); replace HO202 := Aside0.mk (Kd.V_below (Kd.V_elderB (zV HO202) gb207 (Nat.le_of_eq hg.symm)) hb); replace HO206 := Aside0.mk (Kd.V_below (Kd.V_elderB (zV HO206) gb207 (Nat.le_of_eq hg.symm)) hb); replace BK187 := Aside0.mk (zb BK187 hb); replace BK188 := Aside0.mk (zb BK188 hb); replace BK189 := Aside0.mk (zb BK189 hb); replace BK192 := Aside0.mk (zb BK192 hb); replace HB := Aside0.mk (below_step (zB HB) hb); clear hb hbox hg; have hnb78 := NB207_187.out; have hnc78 := NB187_207.out; have hnb79 := NB207_188.out; have hnc79 := NB188_207.out; have hnb80 := NB207_189.out; have hnc80 := NB189_207.out; have hnb81 := NB207_192.out; have hnc81 := NB192_207.out; have hz82 := zc5 BK207) | ((with_reducible refine gate_store (t := 27) (p := 13) rfl ?_); refine store_event (t := 27) (p := 13) (v := ?vo_w83) (w1 := (((((w77.setCell ⟨gb207, 0, none⟩ (.int .i64 ((rd_T37 (rd_L2 l0_2 a1_0) a1_2).f2))).setCell ⟨gb207, 1, none⟩ (.int .i64 (wrap64 (a1_1 + (wrap64 (((rd_T37 (rd_L2 l0_2 a1_0) a1_2).f1) * x10_23)))))).setCell ⟨gb207, 2, none⟩ (.int .i64 t203)).setCell ⟨gb207, 3, none⟩ (.slice Ao76 t200.length co76)).setCell ⟨gb207, 4, none⟩ (.slice Ao75 t204.length co75))) ?hg ?ho ?hn ?hr ?_; (case ho => rfl); (case hg => rfl); (case hn => rfl); (case hr => first | (go_simp; done) | (go_simp; rfl)); intro w83 hw; have n0_ : Aside0 (Kd.V k62 62 w83 w.heap.size (fun k_ => ((P1_3_ k_ ∨ P1_4_ k_) ∨ w.heap.size ≤ k_) ∧ k_ ≠ gb187 ∧ k_ ≠ gb188 ∧ k_ ≠ gb189 ∧ k_ ≠ gb192 ∧ k_ ≠ gb207) (.slice Ao69 x8_23.length co69) x8_23) := ⟨(by rw [hw]; exact (by (with_reducible repeat (first | apply Kd.V_alloc | apply Kd.V_drewN | apply Kd.V_drew)); exact Kd.V_mono (zVf5 (g := gb207) (Kd.V_mono HO_8.out (fun k_ hk => (⟨hk, hk.2⟩ : _ ∧ k_ ≠ gb207)))) (fun _ hk => ⟨hk.1.1.1, ⟨hk.1.1.2.1, ⟨hk.1.1.2.2.1, ⟨hk.1.1.2.2.2.1, ⟨hk.1.1.2.2.2.2, hk.1.2⟩⟩⟩⟩⟩)))⟩; have n1_ : Aside0 (Kd.V k62 62 w83 w.heap.size (fun k_ => ((P1_3_ k_ ∨ P1_4_ k_) ∨ w.heap.size ≤ k_) ∧ k_ ≠ gb187 ∧ k_ ≠ gb188 ∧ k_ ≠ gb189 ∧ k_ ≠ gb192 ∧ k_ ≠ gb207) (.slice Ao67 x9_6.length co67) x9_6) := ⟨(by rw [hw]; exact (by (with_reducible repeat (first | apply Kd.V_alloc | apply Kd.V_drewN | apply Kd.V_drew)); exact Kd.V_mono (zVf5 (g := gb207) (Kd.V_mono HO_9.out (fun k_ hk => (⟨hk, hk.2⟩ : _ ∧ k_ ≠ gb207)))) (fun _ hk => ⟨hk.1.1.1, ⟨hk.1.1.2.1, ⟨hk.1.1.2.2.1, ⟨hk.1.1.2.2.2.1, ⟨hk.1.1.2.2.2.2, hk.1.2⟩⟩⟩⟩⟩)))⟩; have n2_ : Aside0 (Kd.V k62 62 w83 w.heap.size (fun k_ => ((P1_3_ k_ ∨ P1_4_ k_) ∨ w.heap.size ≤ k_) ∧ k_ ≠ gb187 ∧ k_ ≠ gb188 ∧ k_ ≠ gb189 ∧ k_ ≠ gb192 ∧ k_ ≠ gb207) (.slice A1_3 l1_3.length c1_3) l1_3) := ⟨(by rw [hw]; exact (by (with_reducible repeat (first | apply Kd.V_alloc | apply Kd.V_drewN | apply Kd.V_drew)); exact Kd.V_mono (zVf5 (g := gb207) (Kd.V_mono HO_189003.out (fun k_ hk => (⟨hk, hk.2⟩ : _ ∧ k_ ≠ gb207)))) (fun _ hk => ⟨hk.1.1.1, ⟨hk.1.1.2.1, ⟨hk.1.1.2.2.1, ⟨hk.1.1.2.2.2.1, ⟨hk.1.1.2.2.2.2, hk.1.2⟩⟩⟩⟩⟩)))⟩; have n3_ : Aside0 (Kd.V k62 62 w83 w.heap.size (fun k_ => ((P1_3_ k_ ∨ P1_4_ k_) ∨ w.heap.size ≤ k_) ∧ k_ ≠ gb187 ∧ k_ ≠ gb188 ∧ k_ ≠ gb189 ∧ k_ ≠ gb192 ∧ k_ ≠ gb207) (.slice A1_4 l1_4.length c1_4) l1_4) := ⟨(by rw [hw]; exact (by (with_reducible repeat (first | apply Kd.V_alloc | apply Kd.V_drewN | apply Kd.V_drew)); exact Kd.V_mono (zVf5 (g := gb207) (Kd.V_mono HO_189004.out (fun k_ hk => (⟨hk, hk.2⟩ : _ ∧ k_ ≠ gb207)))) (fun _ hk => ⟨hk.1.1.1, ⟨hk.1.1.2.1, ⟨hk.1.1.2.2.1, ⟨hk.1.1.2.2.2.1, ⟨hk.1.1.2.2.2.2, hk.1.2⟩⟩⟩⟩⟩)))⟩; have n4_ : Aside0 (Kd.V k62 62 w83 w.heap.size (fun k_ => ((P1_3_ k_ ∨ P1_4_ k_) ∨ w.heap.size ≤ k_) ∧ k_ ≠ gb187 ∧ k_ ≠ gb188 ∧ k_ ≠ gb189 ∧ k_ ≠ gb192 ∧ k_ ≠ gb207) (.slice Ao76 t200.length co76) t200) := ⟨(by rw [hw]; exact (by (with_reducible repeat (first | apply Kd.V_alloc | apply Kd.V_drewN | apply Kd.V_drew)); exact Kd.V_mono (zVf5 (g := gb207) (Kd.V_mono HO202.out (fun k_ hk => (⟨hk, hk.2⟩ : _ ∧ k_ ≠ gb207)))) (fun _ hk => ⟨hk.1.1.1, ⟨hk.1.1.2.1, ⟨hk.1.1.2.2.1, ⟨hk.1.1.2.2.2.1, ⟨hk.1.1.2.2.2.2, hk.1.2⟩⟩⟩⟩⟩)))⟩; have n5_ : Aside0 (Kd.V k62 62 w83 w.heap.size (fun k_ => ((P1_3_ k_ ∨ P1_4_ k_) ∨ w.heap.size ≤ k_) ∧ k_ ≠ gb187 ∧ k_ ≠ gb188 ∧ k_ ≠ gb189 ∧ k_ ≠ gb192 ∧ k_ ≠ gb207) (.slice Ao75 t204.length co75) t204) := ⟨(by rw [hw]; exact (by (with_reducible repeat (first | apply Kd.V_alloc | apply Kd.V_drewN | apply Kd.V_drew)); exact Kd.V_mono (zVf5 (g := gb207) (Kd.V_mono HO206.out (fun k_ hk => (⟨hk, hk.2⟩ : _ ∧ k_ ≠ gb207)))) (fun _ hk => ⟨hk.1.1.1, ⟨hk.1.1.2.1, ⟨hk.1.1.2.2.1, ⟨hk.1.1.2.2.2.1, ⟨hk.1.1.2.2.2.2, hk.1.2⟩⟩⟩⟩⟩)))⟩; have n6_ : Aside0 (w83.heap[gb187]? = some (.cells #[.int .i64 a0_0, .int .i64 a0_1, .slice (some ad190) l0_2.length c0_2] 24 (0, 0))) := ⟨(by rw [hw]; exact (zK BK187))⟩; have n7_ : Aside0 (w83.heap[gb188]? = some (.cells #[.int .i64 a1_0, .int .i64 a1_1, .int .i64 a1_2, .slice A1_3 l1_3.length c1_3, .slice A1_4 l1_4.length c1_4] 27 (0, 0))) := ⟨(by rw [hw]; exact (zK BK188))⟩; have n8_ : Aside0 (w83.heap[gb189]? = some (.cells #[.int .i64 x190000_23, .int .i64 x190001_23, .int .i64 x190002_23, .slice none 0 0, .slice none 0 0] 27 (0, 0))) := ⟨(by rw [hw]; exact (zK BK189))⟩; have n9_ : Aside0 (w83.heap[gb192]? = some (.cells #[.int .i64 ((rd_T37 (rd_L2 l0_2 a1_0) a1_2).f0), .int .i64 ((rd_T37 (rd_L2 l0_2 a1_0) a1_2).f1), .int .i64 ((rd_T37 (rd_L2 l0_2 a1_0) a1_2).f2)] 37 (0, 0))) := ⟨(by rw [hw]; exact (zK BK192))⟩; have n10_ : Aside0 (w83.heap[gb207]? = some (.cells #[.int .i64 ((rd_T37 (rd_L2 l0_2 a1_0) a1_2).f2), .int .i64 (wrap64 (a1_1 + (wrap64 (((rd_T37 (rd_L2 l0_2 a1_0) a1_2).f1) * x10_23)))), .int .i64 t203, .slice Ao76 t200.length co76, .slice Ao75 t204.length co75] 27 (0, 0))) := ⟨(by rw [hw]; exact (by (with_reducible repeat (first | refine blk_drewN ?_ _ | refine blk_drew ?_ | refine blk_alloc ?_ _)); refine blk_put (cs := #[.int .i64 ((rd_T37 (rd_L2 l0_2 a1_0) a1_2).f2), .int .i64 (wrap64 (a1_1 + (wrap64 (((rd_T37 (rd_L2 l0_2 a1_0) a1_2).f1) * x10_23)))), .int .i64 t203, .slice Ao76 t200.length co76, .slice none 0 0]) ?_ 4 _ rfl; (with_reducible repeat (first | refine blk_drewN ?_ _ | refine blk_drew ?_ | refine blk_alloc ?_ _)); refine blk_put (cs := #[.int .i64 ((rd_T37 (rd_L2 l0_2 a1_0) a1_2).f2), .int .i64 (wrap64 (a1_1 + (wrap64 (((rd_T37 (rd_L2 l0_2 a1_0) a1_2).f1) * x10_23)))), .int .i64 t203, .slice none 0 0, .slice none 0 0]) ?_ 3 _ rfl; (with_reducible repeat (first | refine blk_drewN ?_ _ | refine blk_drew ?_ | refine blk_alloc ?_ _)); refine blk_put (cs := #[.int .i64 ((rd_T37 (rd_L2 l0_2 a1_0) a1_2).f2), .int .i64 (wrap64 (a1_1 + (wrap64 (((rd_T37 (rd_L2 l0_2 a1_0) a1_2).f1) * x10_23)))), .int .i64 0, .slice none 0 0, .slice none 0 0]) ?_ 2 _ rfl; (with_reducible repeat (first | refine blk_drewN ?_ _ | refine blk_drew ?_ | refine blk_alloc ?_ _)); refine blk_put (cs := #[.int .i64 ((rd_T37 (rd_L2 l0_2 a1_0) a1_2).f2), .int .i64 0, .int .i64 0, .slice none 0 0, .slice none 0 0]) ?_ 1 _ rfl; (with_reducible repeat (first | refine blk_drewN ?_ _ | refine blk_drew ?_ | refine blk_alloc ?_ _)); refine blk_put (cs := #[.int .i64 0, .int .i64 0, .int .i64 0, .slice none 0 0, .slice none 0 0]) ?_ 0 _ rfl; (with_reducible repeat (first | refine blk_drewN ?_ _ | refine blk_drew ?_ | refine blk_alloc ?_ _)); exact BK207.out))⟩; have n11_ : Aside0 (Below w.heap.size w w83) := ⟨(by rw [hw]; exact (zB HB))⟩; clear hw; clear HO_8; clear HO_9; clear HO_189003; clear HO_189004; clear HO202; clear HO206; clear BK187; clear BK188; clear BK189; clear BK192; clear BK207; clear HB; have HO_8 := n0_; have HO_9 := n1_; have HO_189003 := n2_; have HO_189004 := n3_; have HO202 := n4_; have HO206 := n5_; have BK187 := n6_; have BK188 := n7_; have BK189 := n8_; have BK192 := n9_; have BK207 := n10_; have HB := n11_; clear n0_ n1_ n2_ n3_ n4_ n5_ n6_ n7_ n8_ n9_ n10_ n11_; have hz84 := zc3 BK192))
         (try simp only [Act.put, zs, zs0, zs1])
         have H := HC62.out
         clear HC62
         by_cases c85 : ((rd_T37 (rd_L2 l0_2 a1_0) a1_2).f1) < 0
         ·
          rw [if_pos c85] at H
          have c85b0 : decide (((rd_T37 (rd_L2 l0_2 a1_0) a1_2).f1) < 0) = true := decide_eq_true c85
          clear c85
          (first | rw [c85b0] | (simp only [i64_w, i32_w]; rw [c85b0]) | skip)
          (try rw [c85b1])
          replace H := Option.bind_eq_some_iff.mp H
          obtain ⟨t208, A860, H⟩ := H
          replace H : ((api_Run.f t200).bind fun t211 => (some (((rd_T37 (rd_L2 l0_2 a1_0) a1_2).f2), wrap64 (a1_1 + (wrap64 (((rd_T37 (rd_L2 l0_2 a1_0) a1_2).f1) * x10_23))), t203, t208, t211, x10_23, false))) = some (r1, r2, r3, r4, r5, r6, r7) := H
          have A86 := Aside0.mk A860
          clear A860
          replace H := Option.bind_eq_some_iff.mp H
          obtain ⟨t211, A870, H⟩ := H
          replace H : (some (((rd_T37 (rd_L2 l0_2 a1_0) a1_2).f2), wrap64 (a1_1 + (wrap64 (((rd_T37 (rd_L2 l0_2 a1_0) a1_2).f1) * x10_23))), t203, t208, t211, x10_23, false)) = some (r1, r2, r3, r4, r5, r6, r7) := H
          have A87 := Aside0.mk A870
          clear A870
          simp only [Option.some.injEq, Prod.mk.injEq] at H
          obtain ⟨rfl, rfl, rfl, rfl, rfl, rfl, rfl⟩ := H
          have hnb88 := NB207_187.out
          have hnc88 := NB187_207.out
          have hnb89 := NB207_188.out
          have hnc89 := NB188_207.out
          have hnb90 := NB207_189.out
          have hnc90 := NB189_207.out
          have hnb91 := NB207_192.out
          have hnc91 := NB192_207.out
          have hz92 := zc5 BK207
          try go_wp2
          have n0_ : Aside0 (Kd.V k62 62 ((w83.setCell ⟨gb207, 3, none⟩ (.slice Ao75 t204.length co75)).setCell ⟨gb207, 4, none⟩ (.slice Ao76 t200.length co76)) w.heap.size (fun k_ => ((P1_3_ k_ ∨ P1_4_ k_) ∨ w.heap.size ≤ k_) ∧ k_ ≠ gb187 ∧ k_ ≠ gb188 ∧ k_ ≠ gb189 ∧ k_ ≠ gb192 ∧ k_ ≠ gb207) (.slice Ao69 x8_23.length co69) x8_23) := ⟨by (with_reducible repeat (first | apply Kd.V_alloc | apply Kd.V_drewN | apply Kd.V_drew)); exact Kd.V_mono (zVf2 (g := gb207) (Kd.V_mono HO_8.out (fun k_ hk => (⟨hk, hk.2.2.2.2.2⟩ : _ ∧ k_ ≠ gb207)))) (fun _ hk => ⟨hk.1.1, ⟨hk.1.2.1, ⟨hk.1.2.2.1, ⟨hk.1.2.2.2.1, ⟨hk.1.2.2.2.2.1, hk.1.2.2.2.2.2⟩⟩⟩⟩⟩)⟩
          have n1_ : Aside0 (Kd.V k62 62 ((w83.setCell ⟨gb207, 3, none⟩ (.slice Ao75 t204.length co75)).setCell ⟨gb207, 4, none⟩ (.slice Ao76 t200.length co76)) w.heap.size (fun k_ => ((P1_3_ k_ ∨ P1_4_ k_) ∨ w.heap.size ≤ k_) ∧ k_ ≠ gb187 ∧ k_ ≠ gb188 ∧ k_ ≠ gb189 ∧ k_ ≠ gb192 ∧ k_ ≠ gb207) (.slice Ao67 x9_6.length co67) x9_6) := ⟨by (with_reducible repeat (first | apply Kd.V_alloc | apply Kd.V_drewN | apply Kd.V_drew)); exact Kd.V_mono (zVf2 (g := gb207) (Kd.V_mono HO_9.out (fun k_ hk => (⟨hk, hk.2.2.2.2.2⟩ : _ ∧ k_ ≠ gb207)))) (fun _ hk => ⟨hk.1.1, ⟨hk.1.2.1, ⟨hk.1.2.2.1, ⟨hk.1.2.2.2.1, ⟨hk.1.2.2.2.2.1, hk.1.2.2.2.2.2⟩⟩⟩⟩⟩)⟩
          have n2_ : Aside0 (Kd.V k62 62 ((w83.setCell ⟨gb207, 3, none⟩ (.slice Ao75 t204.length co75)).setCell ⟨gb207, 4, none⟩ (.slice Ao76 t200.length co76)) w.heap.size (fun k_ => ((P1_3_ k_ ∨ P1_4_ k_) ∨ w.heap.size ≤ k_) ∧ k_ ≠ gb187 ∧ k_ ≠ gb188 ∧ k_ ≠ gb189 ∧ k_ ≠ gb192 ∧ k_ ≠ gb207) (.slice A1_3 l1_3.length c1_3) l1_3) := ⟨by (with_reducible repeat (first | apply Kd.V_alloc | apply Kd.V_drewN | apply Kd.V_drew)); exact Kd.V_mono (zVf2 (g := gb207) (Kd.V_mono HO_189003.out (fun k_ hk => (⟨hk, hk.2.2.2.2.2⟩ : _ ∧ k_ ≠ gb207)))) (fun _ hk => ⟨hk.1.1, ⟨hk.1.2.1, ⟨hk.1.2.2.1, ⟨hk.1.2.2.2.1, ⟨hk.1.2.2.2.2.1, hk.1.2.2.2.2.2⟩⟩⟩⟩⟩)⟩
          have n3_ : Aside0 (Kd.V k62 62 ((w83.setCell ⟨gb207, 3, none⟩ (.slice Ao75 t204.length co75)).setCell ⟨gb207, 4, none⟩ (.slice Ao76 t200.length co76)) w.heap.size (fun k_ => ((P1_3_ k_ ∨ P1_4_ k_) ∨ w.heap.size ≤ k_) ∧ k_ ≠ gb187 ∧ k_ ≠ gb188 ∧ k_ ≠ gb189 ∧ k_ ≠ gb192 ∧ k_ ≠ gb207) (.slice A1_4 l1_4.length c1_4) l1_4) := ⟨by (with_reducible repeat (first | apply Kd.V_alloc | apply Kd.V_drewN | apply Kd.V_drew)); exact Kd.V_mono (zVf2 (g := gb207) (Kd.V_mono HO_189004.out (fun k_ hk => (⟨hk, hk.2.2.2.2.2⟩ : _ ∧ k_ ≠ gb207)))) (fun _ hk => ⟨hk.1.1, ⟨hk.1.2.1, ⟨hk.1.2.2.1, ⟨hk.1.2.2.2.1, ⟨hk.1.2.2.2.2.1, hk.1.2.2.2.2.2⟩⟩⟩⟩⟩)⟩
          have n4_ : Aside0 (Kd.V k62 62 ((w83.setCell ⟨gb207, 3, none⟩ (.slice Ao75 t204.length co75)).setCell ⟨gb207, 4, none⟩ (.slice Ao76 t200.length co76)) w.heap.size (fun k_ => ((P1_3_ k_ ∨ P1_4_ k_) ∨ w.heap.size ≤ k_) ∧ k_ ≠ gb187 ∧ k_ ≠ gb188 ∧ k_ ≠ gb189 ∧ k_ ≠ gb192 ∧ k_ ≠ gb207) (.slice Ao76 t200.length co76) t200) := ⟨by (with_reducible repeat (first | apply Kd.V_alloc | apply Kd.V_drewN | apply Kd.V_drew)); exact Kd.V_mono (zVf2 (g := gb207) (Kd.V_mono HO202.out (fun k_ hk => (⟨hk, hk.2.2.2.2.2⟩ : _ ∧ k_ ≠ gb207)))) (fun _ hk => ⟨hk.1.1, ⟨hk.1.2.1, ⟨hk.1.2.2.1, ⟨hk.1.2.2.2.1, ⟨hk.1.2.2.2.2.1, hk.1.2.2.2.2.2⟩⟩⟩⟩⟩)⟩
          have n5_ : Aside0 (Kd.V k62 62 ((w83.setCell ⟨gb207, 3, none⟩ (.slice Ao75 t204.length co75)).setCell ⟨gb207, 4, none⟩ (.slice Ao76 t200.length co76)) w.heap.size (fun k_ => ((P1_3_ k_ ∨ P1_4_ k_) ∨ w.heap.size ≤ k_) ∧ k_ ≠ gb187 ∧ k_ ≠ gb188 ∧ k_ ≠ gb189 ∧ k_ ≠ gb192 ∧ k_ ≠ gb207) (.slice Ao75 t204.length co75) t204) := ⟨by (with_reducible repeat (first | apply Kd.V_alloc | apply Kd.V_drewN | apply Kd.V_drew)); exact Kd.V_mono (zVf2 (g := gb207) (Kd.V_mono HO206.out (fun k_ hk => (⟨hk, hk.2.2.2.2.2⟩ : _ ∧ k_ ≠ gb207)))) (fun _ hk => ⟨hk.1.1, ⟨hk.1.2.1, ⟨hk.1.2.2.1, ⟨hk.1.2.2.2.1, ⟨hk.1.2.2.2.2.1, hk.1.2.2.2.2.2⟩⟩⟩⟩⟩)⟩
          have n6_ : Aside0 (((w83.setCell ⟨gb207, 3, none⟩ (.slice Ao75 t204.length co75)).setCell ⟨gb207, 4, none⟩ (.slice Ao76 t200.length co76)).heap[gb187]? = some (.cells #[.int .i64 a0_0, .int .i64 a0_1, .slice (some ad190) l0_2.length c0_2] 24 (0, 0))) := ⟨zK BK187⟩
          have n7_ : Aside0 (((w83.setCell ⟨gb207, 3, none⟩ (.slice Ao75 t204.length co75)).setCell ⟨gb207, 4, none⟩ (.slice Ao76 t200.length co76)).heap[gb188]? = some (.cells #[.int .i64 a1_0, .int .i64 a1_1, .int .i64 a1_2, .slice A1_3 l1_3.length c1_3, .slice A1_4 l1_4.length c1_4] 27 (0, 0))) := ⟨zK BK188⟩
          have n8_ : Aside0 (((w83.setCell ⟨gb207, 3, none⟩ (.slice Ao75 t204.length co75)).setCell ⟨gb207, 4, none⟩ (.slice Ao76 t200.length co76)).heap[gb189]? = some (.cells #[.int .i64 x190000_23, .int .i64 x190001_23, .int .i64 x190002_23, .slice none 0 0, .slice none 0 0] 27 (0, 0))) := ⟨zK BK189⟩
          have n9_ : Aside0 (((w83.setCell ⟨gb207, 3, none⟩ (.slice Ao75 t204.length co75)).setCell ⟨gb207, 4, none⟩ (.slice Ao76 t200.length co76)).heap[gb192]? = some (.cells #[.int .i64 ((rd_T37 (rd_L2 l0_2 a1_0) a1_2).f0), .int .i64 ((rd_T37 (rd_L2 l0_2 a1_0) a1_2).f1), .int .i64 ((rd_T37 (rd_L2 l0_2 a1_0) a1_2).f2)] 37 (0, 0))) := ⟨zK BK192⟩
          have n10_ : Aside0 (((w83.setCell ⟨gb207, 3, none⟩ (.slice Ao75 t204.length co75)).setCell ⟨gb207, 4, none⟩ (.slice Ao76 t200.length co76)).heap[gb207]? = some (.cells #[.int .i64 ((rd_T37 (rd_L2 l0_2 a1_0) a1_2).f2), .int .i64 (wrap64 (a1_1 + (wrap64 (((rd_T37 (rd_L2 l0_2 a1_0) a1_2).f1) * x10_23)))), .int .i64 t203, .slice Ao75 t204.length co75, .slice Ao76 t200.length co76] 27 (0, 0))) := ⟨by (with_reducible repeat (first | refine blk_drewN ?_ _ | refine blk_drew ?_ | refine blk_alloc ?_ _)); refine blk_put (cs := #[.int .i64 ((rd_T37 (rd_L2 l0_2 a1_0) a1_2).f2), .int .i64 (wrap64 (a1_1 + (wrap64 (((rd_T37 (rd_L2 l0_2 a1_0) a1_2).f1) * x10_23)))), .int .i64 t203, .slice Ao75 t204.length co75, .slice Ao75 t204.length co75]) ?_ 4 _ rfl; (with_reducible repeat (first | refine blk_drewN ?_ _ | refine blk_drew ?_ | refine blk_alloc ?_ _)); refine blk_put (cs := #[.int .i64 ((rd_T37 (rd_L2 l0_2 a1_0) a1_2).f2), .int .i64 (wrap64 (a1_1 + (wrap64 (((rd_T37 (rd_L2 l0_2 a1_0) a1_2).f1) * x10_23)))), .int .i64 t203, .slice Ao76 t200.length co76, .slice Ao75 t204.length co75]) ?_ 3 _ rfl; (with_reducible repeat (first | refine blk_drewN ?_ _ | refine blk_drew ?_ | refine blk_alloc ?_ _)); exact BK207.out⟩
          have n11_ : Aside0 (Below w.heap.size w ((w83.setCell ⟨gb207, 3, none⟩ (.slice Ao75 t204.length co75)).setCell ⟨gb207, 4, none⟩ (.slice Ao76 t200.length co76))) := ⟨zB HB⟩
          (try clear HO_8)
          (try clear HO_9)
          (try clear HO_189003)
          (try clear HO_189004)
          (try clear HO202)
          (try clear HO206)
          (try clear BK187)
          (try clear BK188)
          (try clear BK189)
          (try clear BK192)
          (try clear BK207)
          (try clear HB)
          generalize ((w83.setCell ⟨gb207, 3, none⟩ (.slice Ao75 t204.length co75)).setCell ⟨gb207, 4, none⟩ (.slice Ao76 t200.length co76)) = w93 at n0_ n1_ n2_ n3_ n4_ n5_ n6_ n7_ n8_ n9_ n10_ n11_ ⊢
          have HO_8 := n0_
          have HO_9 := n1_
          have HO_189003 := n2_
          have HO_189004 := n3_
          have HO202 := n4_
          have HO206 := n5_
          have BK187 := n6_
          have BK188 := n7_
          have BK189 := n8_
          have BK192 := n9_
          have BK207 := n10_
          have HB := n11_
          clear n0_ n1_ n2_ n3_ n4_ n5_ n6_ n7_ n8_ n9_ n10_ n11_
          replace HO_8 := Aside0.mk (Kd.V_drew HO_8.out)
          replace HO_9 := Aside0.mk (Kd.V_drew HO_9.out)
          replace HO_189003 := Aside0.mk (Kd.V_drew HO_189003.out)
          replace HO_189004 := Aside0.mk (Kd.V_drew HO_189004.out)
          replace HO202 := Aside0.mk (Kd.V_drew HO202.out)
          replace HO206 := Aside0.mk (Kd.V_drew HO206.out)
          replace BK187 := Aside0.mk (blk_drew BK187.out)
          replace BK188 := Aside0.mk (blk_drew BK188.out)
          replace BK189 := Aside0.mk (blk_drew BK189.out)
          replace BK192 := Aside0.mk (blk_drew BK192.out)
          replace BK207 := Aside0.mk (blk_drew BK207.out)
          replace HB := Aside0.mk (below_drew1 HB.out)
          refine start_ (n := 10) (S := fun w' => w'.cell? ⟨gb207, 0, none⟩ = some (.int .i64 ((rd_T37 (rd_L2 l0_2 a1_0) a1_2).f2)) ∧ w'.cell? ⟨gb207, 1, none⟩ = some (.int .i64 (wrap64 (a1_1 + (wrap64 (((rd_T37 (rd_L2 l0_2 a1_0) a1_2).f1) * x10_23))))) ∧ w'.cell? ⟨gb207, 2, none⟩ = some (.int .i64 t203) ∧ w'.cell? ⟨gb207, 3, none⟩ = some (.slice Ao75 t204.length co75) ∧ w'.cell? ⟨gb207, 4, none⟩ = some (.slice Ao76 t200.length co76)) (ds := [7, 9]) (zl 10 0) (by kernel_rfl) rfl rfl ⟨(blk_cell BK207.out 0).trans rfl, (blk_cell BK207.out 1).trans rfl, (blk_cell BK207.out 2).trans rfl, (blk_cell BK207.out 3).trans rfl, (blk_cell BK207.out 4).trans rfl⟩ (fun hHeld => ?_); refine with_tabW leap_leap.tab17 leap_leap.bits17 (fun HT_ HW_ => ?_)
          generalize w93.drew = w94 at HO_8 HO_9 HO_189003 HO_189004 HO202 HO206 BK187 BK188 BK189 BK192 BK207 HB hHeld ⊢
          refine zP 0 (some 101) (zl 10 1) HT_ ?_
          refine zP 3 (some 104) (zl 10 9) HT_ ?_
          refine zT 1 (some 102) (zl 10 11) HT_ HW_ hHeld ?_
          refine zT 4 (some 105) (zl 10 27) HT_ HW_ hHeld ?_
          refine one_ (i := 2) (N := some 103) (zl 10 31) rfl rfl (one_of HT_.out (by kernel_rfl)) (by decide) (fun K hK => ?_)
          refine goes_ Try.func36 (by kernel_rfl) rfl #[.slice Ao75 t204.length co75] (by rfl) rfl rfl (zm) ?_
          with_reducible refine (api_Run.calls _ _ t204 t208 _ ?side1 ?side2 A86.out).mono ?_
          (case side1 => exact zC ((Kd.V_reads' HO206.out).2.2))
          (case side2 => exact (Kd.V_reads' HO206.out).2.1)
          rintro e w95 ⟨v209, rfl, ho0, hb⟩
          refine ⟨_, rfl, ?_⟩
          have HO210 := Aside0.mk (Kd.R_lower (Kd.R_newM (M := fun k_ => (w.heap.size ≤ k_)) ho0 (below_size (zB HB)) (fun k_ h_ => h_)) (below_size (zB HB)))
          replace HO_8 := Aside0.mk (Kd.V_elder' (zV HO_8) (Kd.R_base ho0) hb)
          replace HO_9 := Aside0.mk (Kd.V_elder' (zV HO_9) (Kd.R_base ho0) hb)
          replace HO_189003 := Aside0.mk (Kd.V_elder' (zV HO_189003) (Kd.R_base ho0) hb)
          replace HO_189004 := Aside0.mk (Kd.V_elder' (zV HO_189004) (Kd.R_base ho0) hb)
          replace HO202 := Aside0.mk (Kd.V_elder' (zV HO202) (Kd.R_base ho0) hb)
          replace HO206 := Aside0.mk (Kd.V_elder' (zV HO206) (Kd.R_base ho0) hb)
          replace BK187 := Aside0.mk (zb BK187 hb)
          replace BK188 := Aside0.mk (zb BK188 hb)
          replace BK189 := Aside0.mk (zb BK189 hb)
          replace BK192 := Aside0.mk (zb BK192 hb)
          replace BK207 := Aside0.mk (zb BK207 hb)
          replace HB := Aside0.mk (below_step (zB HB) hb)
          (try clear hb)
          (try clear hb2)
          (try clear hk)
          (try clear hi)
          (try clear ho0)
          refine hK.out _ _ ⟨(blk_cell BK207.out 0).trans rfl, (blk_cell BK207.out 1).trans rfl, (blk_cell BK207.out 2).trans rfl, (blk_cell BK207.out 3).trans rfl, (blk_cell BK207.out 4).trans rfl⟩ (fun hHeld => ?_)
          clear hK K
          refine norm_ (a' := ?_) ?_ ?_
          rotate_left
          ·
           show Act.put _ (some 103) _ = _
           simp only [Act.put, zs, zs0, zs1, i64_w, i32_w]
           rfl
          refine zP 6 (some 107) (zl 10 95) HT_ ?_
          refine one_ (i := 5) (N := some 106) (zl 10 127) rfl rfl (one_of HT_.out (by kernel_rfl)) (by decide) (fun K hK => ?_)
          refine goes_ Try.func36 (by kernel_rfl) rfl #[.slice Ao76 t200.length co76] (by rfl) rfl rfl (zm) ?_
          with_reducible refine (api_Run.calls _ _ t200 t211 _ ?side1 ?side2 A87.out).mono ?_
          (case side1 => exact zC ((Kd.V_reads' HO202.out).2.2))
          (case side2 => exact (Kd.V_reads' HO202.out).2.1)
          rintro e w96 ⟨v212, rfl, ho0, hb⟩
          refine ⟨_, rfl, ?_⟩
          have HO213 := Aside0.mk (Kd.R_lower (Kd.R_new' (Kd.R_newM (M := fun k_ => (w.heap.size ≤ k_)) ho0 (below_size (zB HB)) (fun k_ h_ => h_)) (Kd.R_lt (zR HO210))) (below_size (zB HB)))
          replace HO_8 := Aside0.mk (Kd.V_elder' (zV HO_8) (Kd.R_base ho0) hb)
          replace HO_9 := Aside0.mk (Kd.V_elder' (zV HO_9) (Kd.R_base ho0) hb)
          replace HO_189003 := Aside0.mk (Kd.V_elder' (zV HO_189003) (Kd.R_base ho0) hb)
          replace HO_189004 := Aside0.mk (Kd.V_elder' (zV HO_189004) (Kd.R_base ho0) hb)
          replace HO202 := Aside0.mk (Kd.V_elder' (zV HO202) (Kd.R_base ho0) hb)
          replace HO206 := Aside0.mk (Kd.V_elder' (zV HO206) (Kd.R_base ho0) hb)
          replace HO210 := Aside0.mk (Kd.R_elder' (zR HO210) (Kd.R_base ho0) hb)
          replace BK187 := Aside0.mk (zb BK187 hb)
          replace BK188 := Aside0.mk (zb BK188 hb)
          replace BK189 := Aside0.mk (zb BK189 hb)
          replace BK192 := Aside0.mk (zb BK192 hb)
          replace BK207 := Aside0.mk (zb BK207 hb)
          replace HB := Aside0.mk (below_step (zB HB) hb)
          (try clear hb)
          (try clear hb2)
          (try clear hk)
          (try clear hi)
          (try clear ho0)
          obtain ⟨Ao97, co97, eo97⟩ := Kd.R_slice HO210.out
          (first | subst eo97 | (injection eo97 with f1_ f2_ f3_; have f4_ := f1_.symm; have f5_ := f3_.symm; clear f1_ f2_ f3_; subst f4_; subst f5_))
          obtain ⟨Ao99, co99, eo99⟩ := Kd.R_slice HO213.out
          (first | subst eo99 | (injection eo99 with f1_ f2_ f3_; have f4_ := f1_.symm; have f5_ := f3_.symm; clear f1_ f2_ f3_; subst f4_; subst f5_))
          refine hK.out _ _ ⟨(blk_cell BK207.out 0).trans rfl, (blk_cell BK207.out 1).trans rfl, (blk_cell BK207.out 2).trans rfl, (blk_cell BK207.out 3).trans rfl, (blk_cell BK207.out 4).trans rfl⟩ (fun hHeld => ?_)
          clear hK K
          refine norm_ (a' := ?_) ?_ ?_
          rotate_left
          ·
           show Act.put _ (some 106) _ = _
           simp only [Act.put, zs, zs0, zs1, i64_w, i32_w]
           rfl
          refine last_ (i := 7) (N := none) (zl 10 255) rfl rfl (one_of HT_.out (by kernel_rfl)) (by decide) (fun K hK => ?_)
          have hs98 : w96.cell? ⟨gb207, 3, none⟩ = some (.slice Ao75 t204.length co75) := (blk_cell BK207.out 3).trans rfl
          have hfs98 := blk_frozen BK207.out 3
          have hns98_0 := NB187_207.out
          have hns98_1 := NB188_207.out
          have hns98_2 := NB189_207.out
          have hns98_3 := NB192_207.out
          have hms98_0 := NB207_187.out
          have hms98_1 := NB207_188.out
          have hms98_2 := NB207_189.out
          have hms98_3 := NB207_192.out
          refine skip_ (w1 := ?_) (by rfl) rfl ?_ ?_
          rotate_left
          ·
           go_simp
           rfl
          refine hK.out _ _ ?_
          clear hK K
          refine zP 8 (some 108) (zl 10 511) HT_ ?_
          refine last_ (i := 9) (N := none) (zl 10 1023) rfl rfl (one_of HT_.out (by kernel_rfl)) (by decide) (fun K hK => ?_)
          have hs100 : w96.cell? ⟨gb207, 4, none⟩ = some (.slice Ao76 t200.length co76) := (blk_cell BK207.out 4).trans rfl
          have hfs100 := blk_frozen BK207.out 4
          have hns100_0 := NB187_207.out
          have hns100_1 := NB188_207.out
          have hns100_2 := NB189_207.out
          have hns100_3 := NB192_207.out
          have hms100_0 := NB207_187.out
          have hms100_1 := NB207_188.out
          have hms100_2 := NB207_189.out
          have hms100_3 := NB207_192.out
          refine skip_ (w1 := ?_) (by rfl) rfl ?_ ?_
          rotate_left
          ·
           go_simp
           rfl
          refine hK.out _ _ ?_
          clear hK K
          refine done_ (done_of HT_.out (by kernel_rfl)) ?_
          have hz101 := zc5 BK207
          have hnb102 := NB189_187.out
          have hnc102 := NB187_189.out
          have hnb103 := NB189_188.out
          have hnc103 := NB188_189.out
          have hnb104 := NB189_192.out
          have hnc104 := NB192_189.out
          have hz105 := zc5 BK189
          try go_wp2
          refine bodyPost_ret (results_ctt rfl _ _ gb189 27 #[.int .i64 ((rd_T37 (rd_L2 l0_2 a1_0) a1_2).f2), .int .i64 (wrap64 (a1_1 + (wrap64 (((rd_T37 (rd_L2 l0_2 a1_0) a1_2).f1) * x10_23)))), .int .i64 t203, .slice Ao97 t208.length co97, .slice Ao99 t211.length co99] (0, 0) _ rfl (by (with_reducible repeat (first | refine blk_drewN ?_ _ | refine blk_drew ?_ | refine blk_alloc ?_ _)); refine blk_put (cs := #[.int .i64 ((rd_T37 (rd_L2 l0_2 a1_0) a1_2).f2), .int .i64 (wrap64 (a1_1 + (wrap64 (((rd_T37 (rd_L2 l0_2 a1_0) a1_2).f1) * x10_23)))), .int .i64 t203, .slice Ao97 t208.length co97, .slice none 0 0]) ?_ 4 _ rfl; (with_reducible repeat (first | refine blk_drewN ?_ _ | refine blk_drew ?_ | refine blk_alloc ?_ _)); refine blk_put (cs := #[.int .i64 ((rd_T37 (rd_L2 l0_2 a1_0) a1_2).f2), .int .i64 (wrap64 (a1_1 + (wrap64 (((rd_T37 (rd_L2 l0_2 a1_0) a1_2).f1) * x10_23)))), .int .i64 t203, .slice none 0 0, .slice none 0 0]) ?_ 3 _ rfl; (with_reducible repeat (first | refine blk_drewN ?_ _ | refine blk_drew ?_ | refine blk_alloc ?_ _)); refine blk_put (cs := #[.int .i64 ((rd_T37 (rd_L2 l0_2 a1_0) a1_2).f2), .int .i64 (wrap64 (a1_1 + (wrap64 (((rd_T37 (rd_L2 l0_2 a1_0) a1_2).f1) * x10_23)))), .int .i64 x190002_23, .slice none 0 0, .slice none 0 0]) ?_ 2 _ rfl; (with_reducible repeat (first | refine blk_drewN ?_ _ | refine blk_drew ?_ | refine blk_alloc ?_ _)); refine blk_put (cs := #[.int .i64 ((rd_T37 (rd_L2 l0_2 a1_0) a1_2).f2), .int .i64 x190001_23, .int .i64 x190002_23, .slice none 0 0, .slice none 0 0]) ?_ 1 _ rfl; (with_reducible repeat (first | refine blk_drewN ?_ _ | refine blk_drew ?_ | refine blk_alloc ?_ _)); refine blk_put (cs := #[.int .i64 x190000_23, .int .i64 x190001_23, .int .i64 x190002_23, .slice none 0 0, .slice none 0 0]) ?_ 0 _ rfl; (with_reducible repeat (first | refine blk_drewN ?_ _ | refine blk_drew ?_ | refine blk_alloc ?_ _)); refine blk_far ?_ NB189_207.out _; (with_reducible repeat (first | refine blk_drewN ?_ _ | refine blk_drew ?_ | refine blk_alloc ?_ _)); refine blk_far ?_ NB189_207.out _; (with_reducible repeat (first | refine blk_drewN ?_ _ | refine blk_drew ?_ | refine blk_alloc ?_ _)); exact BK189.out) Try.underlying27 rfl (by kernel_rfl)) rfl ?_
          exact ⟨_, _, by first | rfl | (simp [errW_none, errW_some] <;> rfl) | (simp [*, errW_none, errW_some] <;> rfl), Kd.V_mono (Kd.R_V (by (with_reducible repeat (first | apply Kd.R_alloc | apply Kd.R_drewN | apply Kd.R_drew)); exact Kd.R_mono (zRf5 (g := gb189) (Kd.R_far (p := ⟨gb207, 4, none⟩) (Kd.R_far (p := ⟨gb207, 3, none⟩) (Kd.R_types (Kd.R_types HO210.out BK207.out (by decide)) BK189.out (by decide)) (fun _ hk => hk.1.2) (.slice Ao97 t208.length co97)) (fun _ hk => hk.1.2) (.slice Ao99 t211.length co99))) (fun _ hk => hk.1.1.1.1))) (fun k_ hk => by first | exact ⟨(.inr (hk.1)), hk.2⟩ | exact (.inr (hk))), Kd.V_mono (Kd.R_V (by (with_reducible repeat (first | apply Kd.R_alloc | apply Kd.R_drewN | apply Kd.R_drew)); exact Kd.R_mono (zRf5 (g := gb189) (Kd.R_far (p := ⟨gb207, 4, none⟩) (Kd.R_far (p := ⟨gb207, 3, none⟩) (Kd.R_types (Kd.R_types HO213.out BK207.out (by decide)) BK189.out (by decide)) (fun _ hk => hk.1.2) (.slice Ao97 t208.length co97)) (fun _ hk => hk.1.2) (.slice Ao99 t211.length co99))) (fun _ hk => hk.1.1.1.1))) (fun k_ hk => by first | exact ⟨(.inr (hk.1)), hk.2⟩ | exact (.inr (hk))), zB HB⟩
         ·
          rw [if_neg c85] at H
          have c85b0 : decide (((rd_T37 (rd_L2 l0_2 a1_0) a1_2).f1) < 0) = false := decide_eq_false c85
          clear c85
          (first | rw [c85b0] | (simp only [i64_w, i32_w]; rw [c85b0]) | skip)
          (try rw [c85b1])
          replace H := Option.bind_eq_some_iff.mp H
          obtain ⟨t214, A1060, H⟩ := H
          replace H : ((api_Run.f t204).bind fun t217 => (some (((rd_T37 (rd_L2 l0_2 a1_0) a1_2).f2), wrap64 (a1_1 + (wrap64 (((rd_T37 (rd_L2 l0_2 a1_0) a1_2).f1) * x10_23))), t203, t214, t217, x10_23, false))) = some (r1, r2, r3, r4, r5, r6, r7) := H
          have A106 := Aside0.mk A1060
          clear A1060
          replace H := Option.bind_eq_some_iff.mp H
          obtain ⟨t217, A1070, H⟩ := H
          replace H : (some (((rd_T37 (rd_L2 l0_2 a1_0) a1_2).f2), wrap64 (a1_1 + (wrap64 (((rd_T37 (rd_L2 l0_2 a1_0) a1_2).f1) * x10_23))), t203, t214, t217, x10_23, false)) = some (r1, r2, r3, r4, r5, r6, r7) := H
          have A107 := Aside0.mk A1070
          clear A1070
          simp only [Option.some.injEq, Prod.mk.injEq] at H
          obtain ⟨rfl, rfl, rfl, rfl, rfl, rfl, rfl⟩ := H
          try go_wp2
          replace HO_8 := Aside0.mk (Kd.V_drew HO_8.out)
          replace HO_9 := Aside0.mk (Kd.V_drew HO_9.out)
          replace HO_189003 := Aside0.mk (Kd.V_drew HO_189003.out)
          replace HO_189004 := Aside0.mk (Kd.V_drew HO_189004.out)
          replace HO202 := Aside0.mk (Kd.V_drew HO202.out)
          replace HO206 := Aside0.mk (Kd.V_drew HO206.out)
          replace BK187 := Aside0.mk (blk_drew BK187.out)
          replace BK188 := Aside0.mk (blk_drew BK188.out)
          replace BK189 := Aside0.mk (blk_drew BK189.out)
          replace BK192 := Aside0.mk (blk_drew BK192.out)
          replace BK207 := Aside0.mk (blk_drew BK207.out)
          replace HB := Aside0.mk (below_drew1 HB.out)
          refine start_ (n := 10) (S := fun w' => w'.cell? ⟨gb207, 0, none⟩ = some (.int .i64 ((rd_T37 (rd_L2 l0_2 a1_0) a1_2).f2)) ∧ w'.cell? ⟨gb207, 1, none⟩ = some (.int .i64 (wrap64 (a1_1 + (wrap64 (((rd_T37 (rd_L2 l0_2 a1_0) a1_2).f1) * x10_23))))) ∧ w'.cell? ⟨gb207, 2, none⟩ = some (.int .i64 t203) ∧ w'.cell? ⟨gb207, 3, none⟩ = some (.slice Ao76 t200.length co76) ∧ w'.cell? ⟨gb207, 4, none⟩ = some (.slice Ao75 t204.length co75)) (ds := [7, 9]) (zl 10 0) (by kernel_rfl) rfl rfl ⟨(blk_cell BK207.out 0).trans rfl, (blk_cell BK207.out 1).trans rfl, (blk_cell BK207.out 2).trans rfl, (blk_cell BK207.out 3).trans rfl, (blk_cell BK207.out 4).trans rfl⟩ (fun hHeld => ?_); refine with_tabW leap_leap.tab17 leap_leap.bits17 (fun HT_ HW_ => ?_)
          generalize w83.drew = w108 at HO_8 HO_9 HO_189003 HO_189004 HO202 HO206 BK187 BK188 BK189 BK192 BK207 HB hHeld ⊢
          refine zP 0 (some 101) (zl 10 1) HT_ ?_
          refine zP 3 (some 104) (zl 10 9) HT_ ?_
          refine zT 1 (some 102) (zl 10 11) HT_ HW_ hHeld ?_
          refine zT 4 (some 105) (zl 10 27) HT_ HW_ hHeld ?_
          refine one_ (i := 2) (N := some 103) (zl 10 31) rfl rfl (one_of HT_.out (by kernel_rfl)) (by decide) (fun K hK => ?_)
          refine goes_ Try.func36 (by kernel_rfl) rfl #[.slice Ao76 t200.length co76] (by rfl) rfl rfl (zm) ?_
          with_reducible refine (api_Run.calls _ _ t200 t214 _ ?side1 ?side2 A106.out).mono ?_
          (case side1 => exact zC ((Kd.V_reads' HO202.out).2.2))
          (case side2 => exact (Kd.V_reads' HO202.out).2.1)
          rintro e w109 ⟨v215, rfl, ho0, hb⟩
          refine ⟨_, rfl, ?_⟩
          have HO216 := Aside0.mk (Kd.R_lower (Kd.R_newM (M := fun k_ => (w.heap.size ≤ k_)) ho0 (below_size (zB HB)) (fun k_ h_ => h_)) (below_size (zB HB)))
          replace HO_8 := Aside0.mk (Kd.V_elder' (zV HO_8) (Kd.R_base ho0) hb)
          replace HO_9 := Aside0.mk (Kd.V_elder' (zV HO_9) (Kd.R_base ho0) hb)
          replace HO_189003 := Aside0.mk (Kd.V_elder' (zV HO_189003) (Kd.R_base ho0) hb)
          replace HO_189004 := Aside0.mk (Kd.V_elder' (zV HO_189004) (Kd.R_base ho0) hb)
          replace HO202 := Aside0.mk (Kd.V_elder' (zV HO202) (Kd.R_base ho0) hb)
          replace HO206 := Aside0.mk (Kd.V_elder' (zV HO206) (Kd.R_base ho0) hb)
          replace BK187 := Aside0.mk (zb BK187 hb)
          replace BK188 := Aside0.mk (zb BK188 hb)
          replace BK189 := Aside0.mk (zb BK189 hb)
          replace BK192 := Aside0.mk (zb BK192 hb)
          replace BK207 := Aside0.mk (zb BK207 hb)
          replace HB := Aside0.mk (below_step (zB HB) hb)
          (try clear hb)
          (try clear hb2)
          (try clear hk)
          (try clear hi)
          (try clear ho0)
          refine hK.out _ _ ⟨(blk_cell BK207.out 0).trans rfl, (blk_cell BK207.out 1).trans rfl, (blk_cell BK207.out 2).trans rfl, (blk_cell BK207.out 3).trans rfl, (blk_cell BK207.out 4).trans rfl⟩ (fun hHeld => ?_)
          clear hK K
          refine norm_ (a' := ?_) ?_ ?_
          rotate_left
          ·
           show Act.put _ (some 103) _ = _
           simp only [Act.put, zs, zs0, zs1, i64_w, i32_w]
           rfl
          refine zP 6 (some 107) (zl 10 95) HT_ ?_
          refine one_ (i := 5) (N := some 106) (zl 10 127) rfl rfl (one_of HT_.out (by kernel_rfl)) (by decide) (fun K hK => ?_)
          refine goes_ Try.func36 (by kernel_rfl) rfl #[.slice Ao75 t204.length co75] (by rfl) rfl rfl (zm) ?_
          with_reducible refine (api_Run.calls _ _ t204 t217 _ ?side1 ?side2 A107.out).mono ?_
          (case side1 => exact zC ((Kd.V_reads' HO206.out).2.2))
          (case side2 => exact (Kd.V_reads' HO206.out).2.1)
          rintro e w110 ⟨v218, rfl, ho0, hb⟩
          refine ⟨_, rfl, ?_⟩
          have HO219 := Aside0.mk (Kd.R_lower (Kd.R_new' (Kd.R_newM (M := fun k_ => (w.heap.size ≤ k_)) ho0 (below_size (zB HB)) (fun k_ h_ => h_)) (Kd.R_lt (zR HO216))) (below_size (zB HB)))
          replace HO_8 := Aside0.mk (Kd.V_elder' (zV HO_8) (Kd.R_base ho0) hb)
          replace HO_9 := Aside0.mk (Kd.V_elder' (zV HO_9) (Kd.R_base ho0) hb)
          replace HO_189003 := Aside0.mk (Kd.V_elder' (zV HO_189003) (Kd.R_base ho0) hb)
          replace HO_189004 := Aside0.mk (Kd.V_elder' (zV HO_189004) (Kd.R_base ho0) hb)
          replace HO202 := Aside0.mk (Kd.V_elder' (zV HO202) (Kd.R_base ho0) hb)
          replace HO206 := Aside0.mk (Kd.V_elder' (zV HO206) (Kd.R_base ho0) hb)
          replace HO216 := Aside0.mk (Kd.R_elder' (zR HO216) (Kd.R_base ho0) hb)
          replace BK187 := Aside0.mk (zb BK187 hb)
          replace BK188 := Aside0.mk (zb BK188 hb)
          replace BK189 := Aside0.mk (zb BK189 hb)
          replace BK192 := Aside0.mk (zb BK192 hb)
          replace BK207 := Aside0.mk (zb BK207 hb)
          replace HB := Aside0.mk (below_step (zB HB) hb)
          (try clear hb)
          (try clear hb2)
          (try clear hk)
          (try clear hi)
          (try clear ho0)
          obtain ⟨Ao111, co111, eo111⟩ := Kd.R_slice HO216.out
          (first | subst eo111 | (injection eo111 with f1_ f2_ f3_; have f4_ := f1_.symm; have f5_ := f3_.symm; clear f1_ f2_ f3_; subst f4_; subst f5_))
          obtain ⟨Ao113, co113, eo113⟩ := Kd.R_slice HO219.out
          (first | subst eo113 | (injection eo113 with f1_ f2_ f3_; have f4_ := f1_.symm; have f5_ := f3_.symm; clear f1_ f2_ f3_; subst f4_; subst f5_))
          refine hK.out _ _ ⟨(blk_cell BK207.out 0).trans rfl, (blk_cell BK207.out 1).trans rfl, (blk_cell BK207.out 2).trans rfl, (blk_cell BK207.out 3).trans rfl, (blk_cell BK207.out 4).trans rfl⟩ (fun hHeld => ?_)
          clear hK K
          refine norm_ (a' := ?_) ?_ ?_
          rotate_left
          ·
           show Act.put _ (some 106) _ = _
           simp only [Act.put, zs, zs0, zs1, i64_w, i32_w]
           rfl
          refine last_ (i := 7) (N := none) (zl 10 255) rfl rfl (one_of HT_.out (by kernel_rfl)) (by decide) (fun K hK => ?_)
          have hs112 : w110.cell? ⟨gb207, 3, none⟩ = some (.slice Ao76 t200.length co76) := (blk_cell BK207.out 3).trans rfl
          have hfs112 := blk_frozen BK207.out 3
          have hns112_0 := NB187_207.out
          have hns112_1 := NB188_207.out
          have hns112_2 := NB189_207.out
          have hns112_3 := NB192_207.out
          have hms112_0 := NB207_187.out
          have hms112_1 := NB207_188.out
          have hms112_2 := NB207_189.out
          have hms112_3 := NB207_192.out
          refine skip_ (w1 := ?_) (by rfl) rfl ?_ ?_
          rotate_left
          ·
           go_simp
           rfl
          refine hK.out _ _ ?_
          clear hK K
          refine zP 8 (some 108) (zl 10 511) HT_ ?_
          refine last_ (i := 9) (N := none) (zl 10 1023) rfl rfl (one_of HT_.out (by kernel_rfl)) (by decide) (fun K hK => ?_)
          have hs114 : w110.cell? ⟨gb207, 4, none⟩ = some (.slice Ao75 t204.length co75) := (blk_cell BK207.out 4).trans rfl
          have hfs114 := blk_frozen BK207.out 4
          have hns114_0 := NB187_207.out
          have hns114_1 := NB188_207.out
          have hns114_2 := NB189_207.out
          have hns114_3 := NB192_207.out
          have hms114_0 := NB207_187.out
          have hms114_1 := NB207_188.out
          have hms114_2 := NB207_189.out
          have hms114_3 := NB207_192.out
          refine skip_ (w1 := ?_) (by rfl) rfl ?_ ?_
          rotate_left
          ·
           go_simp
           rfl
          refine hK.out _ _ ?_
          clear hK K
          refine done_ (done_of HT_.out (by kernel_rfl)) ?_
          have hnb115 := NB207_187.out
          have hnc115 := NB187_207.out
          have hnb116 := NB207_188.out
          have hnc116 := NB188_207.out
          have hnb117 := NB207_189.out
          have hnc117 := NB189_207.out
          have hnb118 := NB207_192.out
          have hnc118 := NB192_207.out
          have hz119 := zc5 BK207
          have hnb120 := NB189_187.out
          have hnc120 := NB187_189.out
          have hnb121 := NB189_188.out
          have hnc121 := NB188_189.out
          have hnb122 := NB189_192.out
          have hnc122 := NB192_189.out
          have hz123 := zc5 BK189
          try go_wp2
          refine bodyPost_ret (results_ctt rfl _ _ gb189 27 #[.int .i64 ((rd_T37 (rd_L2 l0_2 a1_0) a1_2).f2), .int .i64 (wrap64 (a1_1 + (wrap64 (((rd_T37 (rd_L2 l0_2 a1_0) a1_2).f1) * x10_23)))), .int .i64 t203, .slice Ao111 t214.length co111, .slice Ao113 t217.length co113] (0, 0) _ rfl (by (with_reducible repeat (first | refine blk_drewN ?_ _ | refine blk_drew ?_ | refine blk_alloc ?_ _)); refine blk_put (cs := #[.int .i64 ((rd_T37 (rd_L2 l0_2 a1_0) a1_2).f2), .int .i64 (wrap64 (a1_1 + (wrap64 (((rd_T37 (rd_L2 l0_2 a1_0) a1_2).f1) * x10_23)))), .int .i64 t203, .slice Ao111 t214.length co111, .slice none 0 0]) ?_ 4 _ rfl; (with_reducible repeat (first | refine blk_drewN ?_ _ | refine blk_drew ?_ | refine blk_alloc ?_ _)); refine blk_put (cs := #[.int .i64 ((rd_T37 (rd_L2 l0_2 a1_0) a1_2).f2), .int .i64 (wrap64 (a1_1 + (wrap64 (((rd_T37 (rd_L2 l0_2 a1_0) a1_2).f1) * x10_23)))), .int .i64 t203, .slice none 0 0, .slice none 0 0]) ?_ 3 _ rfl; (with_reducible repeat (first | refine blk_drewN ?_ _ | refine blk_drew ?_ | refine blk_alloc ?_ _)); refine blk_put (cs := #[.int .i64 ((rd_T37 (rd_L2 l0_2 a1_0) a1_2).f2), .int .i64 (wrap64 (a1_1 + (wrap64 (((rd_T37 (rd_L2 l0_2 a1_0) a1_2).f1) * x10_23)))), .int .i64 x190002_23, .slice none 0 0, .slice none 0 0]) ?_ 2 _ rfl; (with_reducible repeat (first | refine blk_drewN ?_ _ | refine blk_drew ?_ | refine blk_alloc ?_ _)); refine blk_put (cs := #[.int .i64 ((rd_T37 (rd_L2 l0_2 a1_0) a1_2).f2), .int .i64 x190001_23, .int .i64 x190002_23, .slice none 0 0, .slice none 0 0]) ?_ 1 _ rfl; (with_reducible repeat (first | refine blk_drewN ?_ _ | refine blk_drew ?_ | refine blk_alloc ?_ _)); refine blk_put (cs := #[.int .i64 x190000_23, .int .i64 x190001_23, .int .i64 x190002_23, .slice none 0 0, .slice none 0 0]) ?_ 0 _ rfl; (with_reducible repeat (first | refine blk_drewN ?_ _ | refine blk_drew ?_ | refine blk_alloc ?_ _)); refine blk_far ?_ NB189_207.out _; (with_reducible repeat (first | refine blk_drewN ?_ _ | refine blk_drew ?_ | refine blk_alloc ?_ _)); refine blk_far ?_ NB189_207.out _; (with_reducible repeat (first | refine blk_drewN ?_ _ | refine blk_drew ?_ | refine blk_alloc ?_ _)); exact BK189.out) Try.underlying27 rfl (by kernel_rfl)) rfl ?_
          exact ⟨_, _, by first | rfl | (simp [errW_none, errW_some] <;> rfl) | (simp [*, errW_none, errW_some] <;> rfl), Kd.V_mono (Kd.R_V (by (with_reducible repeat (first | apply Kd.R_alloc | apply Kd.R_drewN | apply Kd.R_drew)); exact Kd.R_mono (zRf5 (g := gb189) (Kd.R_far (p := ⟨gb207, 4, none⟩) (Kd.R_far (p := ⟨gb207, 3, none⟩) (Kd.R_types (Kd.R_types HO216.out BK207.out (by decide)) BK189.out (by decide)) (fun _ hk => hk.1.2) (.slice Ao111 t214.length co111)) (fun _ hk => hk.1.2) (.slice Ao113 t217.length co113))) (fun _ hk => hk.1.1.1.1))) (fun k_ hk => by first | exact ⟨(.inr (hk.1)), hk.2⟩ | exact (.inr (hk))), Kd.V_mono (Kd.R_V (by (with_reducible repeat (first | apply Kd.R_alloc | apply Kd.R_drewN | apply Kd.R_drew)); exact Kd.R_mono (zRf5 (g := gb189) (Kd.R_far (p := ⟨gb207, 4, none⟩) (Kd.R_far (p := ⟨gb207, 3, none⟩) (Kd.R_types (Kd.R_types HO219.out BK207.out (by decide)) BK189.out (by decide)) (fun _ hk => hk.1.2) (.slice Ao111 t214.length co111)) (fun _ hk => hk.1.2) (.slice Ao113 t217.length co113))) (fun _ hk => hk.1.1.1.1))) (fun k_ hk => by first | exact ⟨(.inr (hk.1)), hk.2⟩ | exact (.inr (hk))), zB HB⟩
    ·
     rw [if_neg c6] at H
     exact absurd H (by simp)
   ·
    rw [if_neg c5] at H
    exact absurd H (by simp)
  ·
   rw [if_neg c4] at H
   exact absurd H (by simp)
 ·
  rw [if_neg c3] at H
  exact absurd H (by simp)

end Go.Proofs.Ytpemcbjdlpajlaa.G1
