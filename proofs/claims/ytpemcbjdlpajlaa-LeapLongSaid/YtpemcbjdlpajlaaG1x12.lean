/- The functions of one seat as Lean functions, each with its contract: the call of the Go function returns what the Lean function answers. Written by a program of this session out of the translation; contracts made by hand are laid between. -/
import Derived.Test.YtpemcbjdlpajlaaG1x0
import Derived.Test.YtpemcbjdlpajlaaG1x2
import Derived.Test.YtpemcbjdlpajlaaG1x3
import Derived.Test.YtpemcbjdlpajlaaG1x4
import Derived.Test.YtpemcbjdlpajlaaG1x8
import Derived.Test.YtpemcbjdlpajlaaG1x11
namespace Go.Proofs.Ytpemcbjdlpajlaa.G1
open Go.RowKit Go.Proofs.YtpemcbjdlpajlaaW.PrintWords Go.Proofs.YtpemcbjdlpajlaaW.PrintLast Go.Proofs.YtpemcbjdlpajlaaW.PrintMore
attribute [local go_sem] max2_int min2_int max_two min_two max_three min_three max_four min_four   -- for this text's walks alone
set_option linter.unusedVariables false
set_option linter.unusedSimpArgs false

/-! ### standstilllaw04_LeapLong: function 3 -/
mutual
def standstilllaw04_LeapLong.j0 : Nat → Int → Bool → Int → Int → List (List (S37)) → Int → Int → Int → List (S62) → List (S62) → Option (Bool)
 | 0, _, _, _, _, _, _, _, _, _, _ => none
 | k + 1, x2, x38, x384000, x384001, x384002, x385000, x385001, x385002, x385003, x385004 => if x38 = true then ((standstilllaw04_awake.f k).bind fun t388 => (some t388)) else (if 0 ≤ x385000 then (if x385000 < (x384002.length : Int) then (if 0 ≤ x385002 then (if x385002 < ((rd_L2 x384002 x385000).length : Int) then (if ((rd_T37 (rd_L2 x384002 x385000) x385002).f1) < 0 then ((standstilllaw04_longer.f x385003 (wrap64 (Int.tmod x2 1125899906842624))).bind fun t393 => (standstilllaw04_LeapLong.j1 k (wrap64 (Int.tmod x2 1125899906842624)) x384000 x384001 x384002 x385000 x385001 x385002 x385003 x385004 ((rd_T37 (rd_L2 x384002 x385000) x385002).f0) ((rd_T37 (rd_L2 x384002 x385000) x385002).f1) ((rd_T37 (rd_L2 x384002 x385000) x385002).f2) x385000 x385001 x385002 t393 x385004)) else ((standstilllaw04_longer.f x385004 (wrap64 (Int.tmod x2 1125899906842624))).bind fun t396 => (standstilllaw04_LeapLong.j1 k (wrap64 (Int.tmod x2 1125899906842624)) x384000 x384001 x384002 x385000 x385001 x385002 x385003 x385004 ((rd_T37 (rd_L2 x384002 x385000) x385002).f0) ((rd_T37 (rd_L2 x384002 x385000) x385002).f1) ((rd_T37 (rd_L2 x384002 x385000) x385002).f2) x385000 x385001 x385002 x385003 t396))) else (none)) else (none)) else (none)) else (none))
def standstilllaw04_LeapLong.j1 : Nat → Int → Int → Int → List (List (S37)) → Int → Int → Int → List (S62) → List (S62) → Int → Int → Int → Int → Int → Int → List (S62) → List (S62) → Option (Bool)
 | 0, _, _, _, _, _, _, _, _, _, _, _, _, _, _, _, _, _ => none
 | k + 1, x7, x384000, x384001, x384002, x385000, x385001, x385002, x385003, x385004, x392000, x392001, x392002, x393000, x393001, x393002, x393003, x393004 => (leap_Leap.f k x384000 x384001 x384002 x385000 x385001 x385002 x385003 x385004).bind fun bt399 => ((leap_Leap.f k x384000 x384001 x384002 x393000 x393001 x393002 x393003 x393004).bind fun bt412 => (if bt399.2.2.2.2.2.2.2 = 0 then (if bt412.2.2.2.2.2.2.2 = 0 then (if bt399.2.2.2.2.2.2.1 = true then (standstilllaw04_LeapLong.j2 k x7 bt399.2.2.2.2.2.1 bt399.2.2.2.2.2.2.1 bt399.2.2.2.2.2.2.2 bt412.2.2.2.2.2.1 bt412.2.2.2.2.2.2.1 bt412.2.2.2.2.2.2.2 true x392000 x392001 x392002 bt399.1 bt399.2.1 bt399.2.2.1 bt399.2.2.2.1 bt399.2.2.2.2.1 bt412.1 bt412.2.1 bt412.2.2.1 bt412.2.2.2.1 bt412.2.2.2.2.1) else (standstilllaw04_LeapLong.j2 k x7 bt399.2.2.2.2.2.1 bt399.2.2.2.2.2.2.1 bt399.2.2.2.2.2.2.2 bt412.2.2.2.2.2.1 bt412.2.2.2.2.2.2.1 bt412.2.2.2.2.2.2.2 (decide (bt399.2.2.2.2.2.1 < 2)) x392000 x392001 x392002 bt399.1 bt399.2.1 bt399.2.2.1 bt399.2.2.2.1 bt399.2.2.2.2.1 bt412.1 bt412.2.1 bt412.2.2.1 bt412.2.2.2.1 bt412.2.2.2.2.1)) else (standstilllaw04_LeapLong.j2 k x7 bt399.2.2.2.2.2.1 bt399.2.2.2.2.2.2.1 bt399.2.2.2.2.2.2.2 bt412.2.2.2.2.2.1 bt412.2.2.2.2.2.2.1 bt412.2.2.2.2.2.2.2 true x392000 x392001 x392002 bt399.1 bt399.2.1 bt399.2.2.1 bt399.2.2.2.1 bt399.2.2.2.2.1 bt412.1 bt412.2.1 bt412.2.2.1 bt412.2.2.2.1 bt412.2.2.2.2.1)) else (standstilllaw04_LeapLong.j2 k x7 bt399.2.2.2.2.2.1 bt399.2.2.2.2.2.2.1 bt399.2.2.2.2.2.2.2 bt412.2.2.2.2.2.1 bt412.2.2.2.2.2.2.1 bt412.2.2.2.2.2.2.2 true x392000 x392001 x392002 bt399.1 bt399.2.1 bt399.2.2.1 bt399.2.2.2.1 bt399.2.2.2.2.1 bt412.1 bt412.2.1 bt412.2.2.1 bt412.2.2.2.1 bt412.2.2.2.2.1)))
def standstilllaw04_LeapLong.j2 : Nat → Int → Int → Bool → Int → Int → Bool → Int → Bool → Int → Int → Int → Int → Int → Int → List (S62) → List (S62) → Int → Int → Int → List (S62) → List (S62) → Option (Bool)
 | 0, _, _, _, _, _, _, _, _, _, _, _, _, _, _, _, _, _, _, _, _, _ => none
 | k + 1, x7, x11, x12, x13, x15, x16, x17, x95, x392000, x392001, x392002, x412000, x412001, x412002, x412003, x412004, x425000, x425001, x425002, x425003, x425004 => if x95 = true then (if x13 = x17 then (if (x12 == x16) = true then ((standstilllaw04_awake.f k).bind fun t425 => (some t425)) else (some false)) else (if x13 = 4 then (if (x12 == x16) = true then ((standstilllaw04_awake.f k).bind fun t426 => (some t426)) else (some false)) else (if x17 = 4 then (if (x12 == x16) = true then ((standstilllaw04_awake.f k).bind fun t427 => (some t427)) else (some false)) else (some false)))) else (if x392001 < 0 then ((standstillref04_Push.f k x412004 x392000 x7).bind fun t429 => (if x16 = true then (some false) else (if x15 = (wrap64 (x11 + x7)) then ((standstillref04_Same.f k x425000 x425001 x425002 x425003 x425004 x412000 (wrap64 (x412001 + (wrap64 (x392001 * x7)))) x412002 x412003 t429).bind fun t432 => (if t432 = true then ((standstilllaw04_awake.f k).bind fun t433 => (some t433)) else (some false))) else (some false)))) else ((standstillref04_Push.f k x412003 x392000 x7).bind fun t434 => (if x16 = true then (some false) else (if x15 = (wrap64 (x11 + x7)) then ((standstillref04_Same.f k x425000 x425001 x425002 x425003 x425004 x412000 (wrap64 (x412001 + (wrap64 (x392001 * x7)))) x412002 t434 x412004).bind fun t437 => (if t437 = true then ((standstilllaw04_awake.f k).bind fun t438 => (some t438)) else (some false))) else (some false)))))
end
def standstilllaw04_LeapLong.f (k : Nat) (a0_0 : Int) (a0_1 : Int) (l0_2 : List (List (S37))) (a1_0 : Int) (a1_1 : Int) (a1_2 : Int) (l1_3 : List (S62)) (l1_4 : List (S62)) (a2 : Int) : Option (Bool) := (standstilllaw04_wide.f k a0_0 a0_1 l0_2 0 0 0 ([] : List Int) a1_0 a1_1 a1_2 l1_3 l1_4).bind fun t385 => (if t385 = true then (standstilllaw04_LeapLong.j0 k a2 true a0_0 a0_1 l0_2 a1_0 a1_1 a1_2 l1_3 l1_4) else ((standstillref04_Fits.f k a0_0 a0_1 l0_2 a1_0 a1_1 a1_2 l1_3 l1_4).bind fun t386 => (if t386 = true then (if a1_0 = (-1) then (standstilllaw04_LeapLong.j0 k a2 true a0_0 a0_1 l0_2 a1_0 a1_1 a1_2 l1_3 l1_4) else ((standstilllaw04_modest.f k a1_0 a1_1 a1_2 l1_3 l1_4).bind fun t387 => (standstilllaw04_LeapLong.j0 k a2 (!t387) a0_0 a0_1 l0_2 a1_0 a1_1 a1_2 l1_3 l1_4))) else (standstilllaw04_LeapLong.j0 k a2 true a0_0 a0_1 l0_2 a1_0 a1_1 a1_2 l1_3 l1_4))))
theorem standstilllaw04_LeapLong.mono_l : ∀ k, (∀ y0 y1 y2 y3 y4 y5 y6 y7 y8 y9, LeO (standstilllaw04_LeapLong.j0 k y0 y1 y2 y3 y4 y5 y6 y7 y8 y9) (standstilllaw04_LeapLong.j0 (k + 1) y0 y1 y2 y3 y4 y5 y6 y7 y8 y9)) ∧ (∀ y0 y1 y2 y3 y4 y5 y6 y7 y8 y9 y10 y11 y12 y13 y14 y15 y16, LeO (standstilllaw04_LeapLong.j1 k y0 y1 y2 y3 y4 y5 y6 y7 y8 y9 y10 y11 y12 y13 y14 y15 y16) (standstilllaw04_LeapLong.j1 (k + 1) y0 y1 y2 y3 y4 y5 y6 y7 y8 y9 y10 y11 y12 y13 y14 y15 y16)) ∧ (∀ y0 y1 y2 y3 y4 y5 y6 y7 y8 y9 y10 y11 y12 y13 y14 y15 y16 y17 y18 y19 y20, LeO (standstilllaw04_LeapLong.j2 k y0 y1 y2 y3 y4 y5 y6 y7 y8 y9 y10 y11 y12 y13 y14 y15 y16 y17 y18 y19 y20) (standstilllaw04_LeapLong.j2 (k + 1) y0 y1 y2 y3 y4 y5 y6 y7 y8 y9 y10 y11 y12 y13 y14 y15 y16 y17 y18 y19 y20))
 | 0 => ⟨fun _ _ _ _ _ _ _ _ _ _ r h => by simp [standstilllaw04_LeapLong.j0] at h, fun _ _ _ _ _ _ _ _ _ _ _ _ _ _ _ _ _ r h => by simp [standstilllaw04_LeapLong.j1] at h, fun _ _ _ _ _ _ _ _ _ _ _ _ _ _ _ _ _ _ _ _ _ r h => by simp [standstilllaw04_LeapLong.j2] at h⟩
 | k + 1 => by
  obtain ⟨ih0, ih1, ih2⟩ := standstilllaw04_LeapLong.mono_l k
  refine ⟨?_, ?_, ?_⟩
  ·
   intro y0 y1 y2 y3 y4 y5 y6 y7 y8 y9
   unfold standstilllaw04_LeapLong.j0
   repeat' first
   | (with_reducible exact ih0 _ _ _ _ _ _ _ _ _ _)
   | (with_reducible exact ih1 _ _ _ _ _ _ _ _ _ _ _ _ _ _ _ _ _)
   | (with_reducible exact ih2 _ _ _ _ _ _ _ _ _ _ _ _ _ _ _ _ _ _ _ _ _)
   | (with_reducible exact leap_Leap.mono _ _ _ _ _ _ _ _ _)
   | (with_reducible exact standstilllaw04_awake.mono _)
   | (with_reducible exact standstilllaw04_modest.mono _ _ _ _ _ _)
   | (with_reducible exact standstilllaw04_wide.mono _ _ _ _ _ _ _ _ _ _ _ _ _)
   | (with_reducible exact standstillref04_Fits.mono _ _ _ _ _ _ _ _ _)
   | (with_reducible exact standstillref04_Push.mono _ _ _ _)
   | (with_reducible exact standstillref04_Same.mono _ _ _ _ _ _ _ _ _ _ _)
   | (with_reducible exact LeO.refl _)
   | (with_reducible exact LeO.none _)
   | (with_reducible refine LeO.ite ?_ ?_)
   | (with_reducible refine LeO.bind ?_ (fun _ => ?_))
   | exact ih0 _ _ _ _ _ _ _ _ _ _
   | exact ih1 _ _ _ _ _ _ _ _ _ _ _ _ _ _ _ _ _
   | exact ih2 _ _ _ _ _ _ _ _ _ _ _ _ _ _ _ _ _ _ _ _ _
   | exact leap_Leap.mono _ _ _ _ _ _ _ _ _
   | exact standstilllaw04_awake.mono _
   | exact standstilllaw04_modest.mono _ _ _ _ _ _
   | exact standstilllaw04_wide.mono _ _ _ _ _ _ _ _ _ _ _ _ _
   | exact standstillref04_Fits.mono _ _ _ _ _ _ _ _ _
   | exact standstillref04_Push.mono _ _ _ _
   | exact standstillref04_Same.mono _ _ _ _ _ _ _ _ _ _ _
   | exact LeO.none _
   | refine LeO.ite ?_ ?_
   | refine LeO.bind ?_ (fun _ => ?_)
  ·
   intro y0 y1 y2 y3 y4 y5 y6 y7 y8 y9 y10 y11 y12 y13 y14 y15 y16
   unfold standstilllaw04_LeapLong.j1
   repeat' first
   | (with_reducible exact ih0 _ _ _ _ _ _ _ _ _ _)
   | (with_reducible exact ih1 _ _ _ _ _ _ _ _ _ _ _ _ _ _ _ _ _)
   | (with_reducible exact ih2 _ _ _ _ _ _ _ _ _ _ _ _ _ _ _ _ _ _ _ _ _)
   | (with_reducible exact leap_Leap.mono _ _ _ _ _ _ _ _ _)
   | (with_reducible exact standstilllaw04_awake.mono _)
   | (with_reducible exact standstilllaw04_modest.mono _ _ _ _ _ _)
   | (with_reducible exact standstilllaw04_wide.mono _ _ _ _ _ _ _ _ _ _ _ _ _)
   | (with_reducible exact standstillref04_Fits.mono _ _ _ _ _ _ _ _ _)
   | (with_reducible exact standstillref04_Push.mono _ _ _ _)
   | (with_reducible exact standstillref04_Same.mono _ _ _ _ _ _ _ _ _ _ _)
   | (with_reducible exact LeO.refl _)
   | (with_reducible exact LeO.none _)
   | (with_reducible refine LeO.ite ?_ ?_)
   | (with_reducible refine LeO.bind ?_ (fun _ => ?_))
   | exact ih0 _ _ _ _ _ _ _ _ _ _
   | exact ih1 _ _ _ _ _ _ _ _ _ _ _ _ _ _ _ _ _
   | exact ih2 _ _ _ _ _ _ _ _ _ _ _ _ _ _ _ _ _ _ _ _ _
   | exact leap_Leap.mono _ _ _ _ _ _ _ _ _
   | exact standstilllaw04_awake.mono _
   | exact standstilllaw04_modest.mono _ _ _ _ _ _
   | exact standstilllaw04_wide.mono _ _ _ _ _ _ _ _ _ _ _ _ _
   | exact standstillref04_Fits.mono _ _ _ _ _ _ _ _ _
   | exact standstillref04_Push.mono _ _ _ _
   | exact standstillref04_Same.mono _ _ _ _ _ _ _ _ _ _ _
   | exact LeO.none _
   | refine LeO.ite ?_ ?_
   | refine LeO.bind ?_ (fun _ => ?_)
  ·
   intro y0 y1 y2 y3 y4 y5 y6 y7 y8 y9 y10 y11 y12 y13 y14 y15 y16 y17 y18 y19 y20
   unfold standstilllaw04_LeapLong.j2
   repeat' first
   | (with_reducible exact ih0 _ _ _ _ _ _ _ _ _ _)
   | (with_reducible exact ih1 _ _ _ _ _ _ _ _ _ _ _ _ _ _ _ _ _)
   | (with_reducible exact ih2 _ _ _ _ _ _ _ _ _ _ _ _ _ _ _ _ _ _ _ _ _)
   | (with_reducible exact leap_Leap.mono _ _ _ _ _ _ _ _ _)
   | (with_reducible exact standstilllaw04_awake.mono _)
   | (with_reducible exact standstilllaw04_modest.mono _ _ _ _ _ _)
   | (with_reducible exact standstilllaw04_wide.mono _ _ _ _ _ _ _ _ _ _ _ _ _)
   | (with_reducible exact standstillref04_Fits.mono _ _ _ _ _ _ _ _ _)
   | (with_reducible exact standstillref04_Push.mono _ _ _ _)
   | (with_reducible exact standstillref04_Same.mono _ _ _ _ _ _ _ _ _ _ _)
   | (with_reducible exact LeO.refl _)
   | (with_reducible exact LeO.none _)
   | (with_reducible refine LeO.ite ?_ ?_)
   | (with_reducible refine LeO.bind ?_ (fun _ => ?_))
   | exact ih0 _ _ _ _ _ _ _ _ _ _
   | exact ih1 _ _ _ _ _ _ _ _ _ _ _ _ _ _ _ _ _
   | exact ih2 _ _ _ _ _ _ _ _ _ _ _ _ _ _ _ _ _ _ _ _ _
   | exact leap_Leap.mono _ _ _ _ _ _ _ _ _
   | exact standstilllaw04_awake.mono _
   | exact standstilllaw04_modest.mono _ _ _ _ _ _
   | exact standstilllaw04_wide.mono _ _ _ _ _ _ _ _ _ _ _ _ _
   | exact standstillref04_Fits.mono _ _ _ _ _ _ _ _ _
   | exact standstillref04_Push.mono _ _ _ _
   | exact standstillref04_Same.mono _ _ _ _ _ _ _ _ _ _ _
   | exact LeO.none _
   | refine LeO.ite ?_ ?_
   | refine LeO.bind ?_ (fun _ => ?_)
theorem standstilllaw04_LeapLong.mono : ∀ a0 a1 a2 a3 a4 a5 a6 a7 a8 k, LeO (standstilllaw04_LeapLong.f k a0 a1 a2 a3 a4 a5 a6 a7 a8) (standstilllaw04_LeapLong.f (k + 1) a0 a1 a2 a3 a4 a5 a6 a7 a8) := by
 intro a0 a1 a2 a3 a4 a5 a6 a7 a8 k
 obtain ⟨ih0, ih1, ih2⟩ := standstilllaw04_LeapLong.mono_l k
 unfold standstilllaw04_LeapLong.f
 repeat' first
   | (with_reducible exact ih0 _ _ _ _ _ _ _ _ _ _)
   | (with_reducible exact ih1 _ _ _ _ _ _ _ _ _ _ _ _ _ _ _ _ _)
   | (with_reducible exact ih2 _ _ _ _ _ _ _ _ _ _ _ _ _ _ _ _ _ _ _ _ _)
   | (with_reducible exact leap_Leap.mono _ _ _ _ _ _ _ _ _)
   | (with_reducible exact standstilllaw04_awake.mono _)
   | (with_reducible exact standstilllaw04_modest.mono _ _ _ _ _ _)
   | (with_reducible exact standstilllaw04_wide.mono _ _ _ _ _ _ _ _ _ _ _ _ _)
   | (with_reducible exact standstillref04_Fits.mono _ _ _ _ _ _ _ _ _)
   | (with_reducible exact standstillref04_Push.mono _ _ _ _)
   | (with_reducible exact standstillref04_Same.mono _ _ _ _ _ _ _ _ _ _ _)
   | (with_reducible exact LeO.refl _)
   | (with_reducible exact LeO.none _)
   | (with_reducible refine LeO.ite ?_ ?_)
   | (with_reducible refine LeO.bind ?_ (fun _ => ?_))
   | exact ih0 _ _ _ _ _ _ _ _ _ _
   | exact ih1 _ _ _ _ _ _ _ _ _ _ _ _ _ _ _ _ _
   | exact ih2 _ _ _ _ _ _ _ _ _ _ _ _ _ _ _ _ _ _ _ _ _
   | exact leap_Leap.mono _ _ _ _ _ _ _ _ _
   | exact standstilllaw04_awake.mono _
   | exact standstilllaw04_modest.mono _ _ _ _ _ _
   | exact standstilllaw04_wide.mono _ _ _ _ _ _ _ _ _ _ _ _ _
   | exact standstillref04_Fits.mono _ _ _ _ _ _ _ _ _
   | exact standstillref04_Push.mono _ _ _ _
   | exact standstillref04_Same.mono _ _ _ _ _ _ _ _ _ _ _
   | exact LeO.none _
   | refine LeO.ite ?_ ?_
   | refine LeO.bind ?_ (fun _ => ?_)
def standstilllaw04_LeapLong.T4 : Bool × List (List Nat × List Nat) := (true, [([], []), ([0], [0]), ([], []), ([2], [2]), ([1, 3], [1, 3]), ([4], [4]), ([], []), ([6], [6]), ([5, 7], [5, 7]), ([8], [8]), ([], []), ([10, 9, 0, 1, 2, 3, 4, 5, 6, 7, 8, 9, 10], [9, 10])])
def standstilllaw04_LeapLong.B4 : List Nat := [0, 1, 0, 4, 15, 31, 0, 64, 255, 511, 0, 2047]
theorem standstilllaw04_LeapLong.tab4 : rtab .any (opsOf Try.f3 4) = standstilllaw04_LeapLong.T4 := by kernel_rfl
theorem standstilllaw04_LeapLong.bits4 : waitsOk standstilllaw04_LeapLong.T4.2 standstilllaw04_LeapLong.B4 = true := by kernel_rfl
set_option maxHeartbeats 8000000 in
set_option maxRecDepth 100000 in
theorem standstilllaw04_LeapLong.calls (k : Nat) (a0_0 : Int) (a0_1 : Int) (A0_2 : Option Addr) (c0_2 : Nat) (l0_2 : List (List (S37))) (a1_0 : Int) (a1_1 : Int) (a1_2 : Int) (P1_3_ : Nat → Prop) (A1_3 : Option Addr) (c1_3 : Nat) (l1_3 : List (S62)) (P1_4_ : Nat → Prop) (A1_4 : Option Addr) (c1_4 : Nat) (l1_4 : List (S62)) (a2 : Int) (r : Bool) (w : World) (hr0_2 : Kd.C (Kd.slice 37 k37) w A0_2 l0_2.length l0_2) (hc0_2 : l0_2.length ≤ c0_2) (hs1_3 : Kd.V k62 62 w w.heap.size (fun k_ => P1_3_ k_) (.slice A1_3 l1_3.length c1_3) l1_3) (hs1_4 : Kd.V k62 62 w w.heap.size (fun k_ => P1_4_ k_) (.slice A1_4 l1_4.length c1_4) l1_4) (h : standstilllaw04_LeapLong.f k a0_0 a0_1 l0_2 a1_0 a1_1 a1_2 l1_3 l1_4 a2 = some r) :
  Calls Try.prog 3 #[.agg #[.int .i64 a0_0, .int .i64 a0_1, .slice A0_2 l0_2.length c0_2], .agg #[.int .i64 a1_0, .int .i64 a1_1, .int .i64 a1_2, .slice A1_3 l1_3.length c1_3, .slice A1_4 l1_4.length c1_4], .int .u64 a2] w fun e w' => e = .returned (.bool r) ∧ Below w.heap.size w w' := by
 have hu24 := Try.underlying24
 have hu27 := Try.underlying27
 have hu32 := Try.underlying32
 have hu37 := Try.underlying37
 have HR0_2 := Aside0.mk hr0_2
 have HC0_2 := Aside0.mk hc0_2
 clear hr0_2 hc0_2
 have HO1_3 := Aside0.mk (show Kd.V k62 62 w w.heap.size (fun k_ => ((P1_3_ k_ ∨ P1_4_ k_) ∨ w.heap.size ≤ k_)) (.slice A1_3 l1_3.length c1_3) l1_3 from Kd.V_mono hs1_3 (fun k_ hk => .inl (.inl hk)))
 have HO1_4 := Aside0.mk (show Kd.V k62 62 w w.heap.size (fun k_ => ((P1_3_ k_ ∨ P1_4_ k_) ∨ w.heap.size ≤ k_)) (.slice A1_4 l1_4.length c1_4) l1_4 from Kd.V_mono hs1_4 (fun k_ hk => .inl (.inr hk)))
 have HB := Aside0.mk (Below.refl w.heap.size w)
 have H : ((standstilllaw04_wide.f k a0_0 a0_1 l0_2 0 0 0 ([] : List Int) a1_0 a1_1 a1_2 l1_3 l1_4).bind fun t385 => (if t385 = true then (standstilllaw04_LeapLong.j0 k a2 true a0_0 a0_1 l0_2 a1_0 a1_1 a1_2 l1_3 l1_4) else ((standstillref04_Fits.f k a0_0 a0_1 l0_2 a1_0 a1_1 a1_2 l1_3 l1_4).bind fun t386 => (if t386 = true then (if a1_0 = (-1) then (standstilllaw04_LeapLong.j0 k a2 true a0_0 a0_1 l0_2 a1_0 a1_1 a1_2 l1_3 l1_4) else ((standstilllaw04_modest.f k a1_0 a1_1 a1_2 l1_3 l1_4).bind fun t387 => (standstilllaw04_LeapLong.j0 k a2 (!t387) a0_0 a0_1 l0_2 a1_0 a1_1 a1_2 l1_3 l1_4))) else (standstilllaw04_LeapLong.j0 k a2 true a0_0 a0_1 l0_2 a1_0 a1_1 a1_2 l1_3 l1_4))))) = some r := h
 clear h
 have HC4 := Aside0.mk H
 clear H
 go_enter Try.func3, Try.ntmps3
 go_upto_region 1 with (first | ((with_reducible refine gate_dst (N := 3) rfl ?_); refine box_event ?hg (N := 3) ?hd (cs := #[.int .i64 a0_0, .int .i64 a0_1, .slice A0_2 l0_2.length c0_2]) (t := 24) ?hr ?_; (case hd => rfl); (case hg => rfl); (case hr => first | (go_simp; done) | (go_simp; rfl)); intro gb383 hg w5 hbox hb; have BK383 := Aside0.mk (hbox); have GW383 := Aside0.mk ((by rw [hg]; exact (below_size (zB HB)) : w.heap.size ≤ gb383)); have GE383 := Aside0.mk ((by rw [hg]; exact (below_size (zB HB)) : w.heap.size ≤ gb383)); replace HO1_3 := Aside0.mk (Kd.V_below (Kd.V_elderB (zV HO1_3) gb383 (Nat.le_of_eq hg.symm)) hb); replace HO1_4 := Aside0.mk (Kd.V_below (Kd.V_elderB (zV HO1_4) gb383 (Nat.le_of_eq hg.symm)) hb); replace HB := Aside0.mk (below_step (zB HB) hb); clear hb hbox hg) | ((with_reducible refine gate_dst (N := 4) rfl ?_); refine box_event ?hg (N := 4) ?hd (cs := #[.int .i64 a1_0, .int .i64 a1_1, .int .i64 a1_2, .slice A1_3 l1_3.length c1_3, .slice A1_4 l1_4.length c1_4]) (t := 27) ?hr ?_; (case hd => rfl); (case hg => rfl); (case hr => first | (go_simp; done) | (go_simp; rfl)); intro gb384 hg w6 hbox hb; have BK384 := Aside0.mk (hbox); have GW384 := Aside0.mk ((by rw [hg]; exact (below_size (zB HB)) : w.heap.size ≤ gb384)); have GE384 := Aside0.mk ((by rw [hg]; exact (below_size (zB HB)) : w.heap.size ≤ gb384)); have NB383_384 := Aside0.mk ((by rw [hg]; exact Nat.ne_of_lt (zL BK383) : gb383 ≠ gb384)); have NB384_383 := Aside0.mk ((by rw [hg]; exact Nat.ne_of_gt (zL BK383) : gb384 ≠ gb383)); replace HO1_3 := Aside0.mk (Kd.V_below (Kd.V_elderB (zV HO1_3) gb384 (Nat.le_of_eq hg.symm)) hb); replace HO1_4 := Aside0.mk (Kd.V_below (Kd.V_elderB (zV HO1_4) gb384 (Nat.le_of_eq hg.symm)) hb); replace BK383 := Aside0.mk (zb BK383 hb); replace HB := Aside0.mk (below_step (zB HB) hb); clear hb hbox hg))
 (try simp only [Act.put, zs, zs0, zs1])
 go_cut [38] (fun v38 wc => ∃ (kq : Nat) (x38_3 : Bool), v38 = .bool x38_3 ∧ Aside0 (standstilllaw04_LeapLong.j0 kq a2 x38_3 a0_0 a0_1 l0_2 a1_0 a1_1 a1_2 l1_3 l1_4 = some r) ∧ Aside0 (kq ≤ k) ∧ Aside0 (Kd.V k62 62 wc w.heap.size (fun k_ => ((P1_3_ k_ ∨ P1_4_ k_) ∨ w.heap.size ≤ k_) ∧ k_ ≠ gb383 ∧ k_ ≠ gb384) (.slice A1_3 l1_3.length c1_3) l1_3) ∧ Aside0 (Kd.V k62 62 wc w.heap.size (fun k_ => ((P1_3_ k_ ∨ P1_4_ k_) ∨ w.heap.size ≤ k_) ∧ k_ ≠ gb383 ∧ k_ ≠ gb384) (.slice A1_4 l1_4.length c1_4) l1_4) ∧ Aside0 (wc.heap[gb383]? = some (.cells #[.int .i64 a0_0, .int .i64 a0_1, (.slice A0_2 l0_2.length c0_2)] 24 (0, 0))) ∧ Aside0 (wc.heap[gb384]? = some (.cells #[.int .i64 a1_0, .int .i64 a1_1, .int .i64 a1_2, (.slice A1_3 l1_3.length c1_3), (.slice A1_4 l1_4.length c1_4)] 27 (0, 0))) ∧ Aside0 (Below w.heap.size w wc))
 case first =>
  have H := HC4.out
  clear HC4
  replace H := Option.bind_eq_some_iff.mp H
  obtain ⟨t385, A70, H⟩ := H
  replace H : (if t385 = true then (standstilllaw04_LeapLong.j0 k a2 true a0_0 a0_1 l0_2 a1_0 a1_1 a1_2 l1_3 l1_4) else ((standstillref04_Fits.f k a0_0 a0_1 l0_2 a1_0 a1_1 a1_2 l1_3 l1_4).bind fun t386 => (if t386 = true then (if a1_0 = (-1) then (standstilllaw04_LeapLong.j0 k a2 true a0_0 a0_1 l0_2 a1_0 a1_1 a1_2 l1_3 l1_4) else ((standstilllaw04_modest.f k a1_0 a1_1 a1_2 l1_3 l1_4).bind fun t387 => (standstilllaw04_LeapLong.j0 k a2 (!t387) a0_0 a0_1 l0_2 a1_0 a1_1 a1_2 l1_3 l1_4))) else (standstilllaw04_LeapLong.j0 k a2 true a0_0 a0_1 l0_2 a1_0 a1_1 a1_2 l1_3 l1_4)))) = some r := H
  have A7 := Aside0.mk A70
  clear A70
  by_cases c8 : t385 = true
  ·
   subst c8
   have H1 : (standstilllaw04_LeapLong.j0 k a2 true a0_0 a0_1 l0_2 a1_0 a1_1 a1_2 l1_3 l1_4) = some r := by rw [if_pos rfl] at H; exact H
   clear H
   have H := H1
   clear H1
   have H' := Aside0.mk H
   clear H
   have hnb9 := NB383_384.out
   have hnc9 := NB384_383.out
   have hz10 := zc3 BK383
   have hz11 := zc5 BK384
   go_wp2_with (first | ((with_reducible refine gate_callee (f := 6) rfl ?_); refine goesL_ (some 22) rfl rfl Try.func6 (by kernel_rfl) rfl #[.agg #[.int .i64 a0_0, .int .i64 a0_1, .slice A0_2 l0_2.length c0_2], .agg #[.int .i64 0, .int .i64 0, .int .i64 0, .slice none 0 0], .agg #[.int .i64 a1_0, .int .i64 a1_1, .int .i64 a1_2, .slice A1_3 l1_3.length c1_3, .slice A1_4 l1_4.length c1_4]] rfl (zm) ?_; (refine (standstilllaw04_wide.calls k a0_0 a0_1 _ _ l0_2 0 0 0 _ _ ([] : List Int) a1_0 a1_1 a1_2 _ _ l1_3 _ _ l1_4 true _ ?side1 ?side2 ?side3 ?side4 ?side5 ?side6 ?side7 ?side8 A7.out).mono ?_); (case side1 => exact zC ((Kd.C_below HR0_2.out HB.out))); (case side2 => exact HC0_2.out); (case side3 => exact Kd.C_nil _ _); (case side4 => exact Nat.le_refl _); (case side5 => exact zC ((Kd.V_reads' HO1_3.out).2.2)); (case side6 => exact (Kd.V_reads' HO1_3.out).2.1); (case side7 => exact zC ((Kd.V_reads' HO1_4.out).2.2)); (case side8 => exact (Kd.V_reads' HO1_4.out).2.1); rintro e w12 ⟨rfl, hb⟩; refine ⟨_, rfl, ?_⟩; replace HO1_3 := Aside0.mk (zVb HO1_3 hb); replace HO1_4 := Aside0.mk (zVb HO1_4 hb); replace BK383 := Aside0.mk (zb BK383 hb); replace BK384 := Aside0.mk (zb BK384 hb); replace HB := Aside0.mk (below_step (zB HB) hb); (try clear hb); (try clear hb2); (try clear hk); (try clear hi)))
   go_meet
   case rel => exact ⟨_, (true), (by first | rfl | (simp; done) | (simp [*]; done)), H', ⟨by first | omega | exact Nat.le_refl _⟩, ⟨by (with_reducible repeat (first | apply Kd.V_alloc | apply Kd.V_drewN | apply Kd.V_drew)); exact Kd.V_mono HO1_3.out (fun _ hk => ⟨hk.1.1, ⟨hk.1.2, hk.2⟩⟩)⟩, ⟨by (with_reducible repeat (first | apply Kd.V_alloc | apply Kd.V_drewN | apply Kd.V_drew)); exact Kd.V_mono HO1_4.out (fun _ hk => ⟨hk.1.1, ⟨hk.1.2, hk.2⟩⟩)⟩, ⟨zk BK383⟩, ⟨zk BK384⟩, ⟨zB HB⟩⟩
  ·
   replace c8 := Bool.eq_false_iff.mpr c8
   subst c8
   have H1 : ((standstillref04_Fits.f k a0_0 a0_1 l0_2 a1_0 a1_1 a1_2 l1_3 l1_4).bind fun t386 => (if t386 = true then (if a1_0 = (-1) then (standstilllaw04_LeapLong.j0 k a2 true a0_0 a0_1 l0_2 a1_0 a1_1 a1_2 l1_3 l1_4) else ((standstilllaw04_modest.f k a1_0 a1_1 a1_2 l1_3 l1_4).bind fun t387 => (standstilllaw04_LeapLong.j0 k a2 (!t387) a0_0 a0_1 l0_2 a1_0 a1_1 a1_2 l1_3 l1_4))) else (standstilllaw04_LeapLong.j0 k a2 true a0_0 a0_1 l0_2 a1_0 a1_1 a1_2 l1_3 l1_4))) = some r := by rw [if_neg (show ¬ (false = true) by decide)] at H; exact H
   clear H
   have H := H1
   clear H1
   replace H := Option.bind_eq_some_iff.mp H
   obtain ⟨t386, A130, H⟩ := H
   replace H : (if t386 = true then (if a1_0 = (-1) then (standstilllaw04_LeapLong.j0 k a2 true a0_0 a0_1 l0_2 a1_0 a1_1 a1_2 l1_3 l1_4) else ((standstilllaw04_modest.f k a1_0 a1_1 a1_2 l1_3 l1_4).bind fun t387 => (standstilllaw04_LeapLong.j0 k a2 (!t387) a0_0 a0_1 l0_2 a1_0 a1_1 a1_2 l1_3 l1_4))) else (standstilllaw04_LeapLong.j0 k a2 true a0_0 a0_1 l0_2 a1_0 a1_1 a1_2 l1_3 l1_4)) = some r := H
   have A13 := Aside0.mk A130
   clear A130
   by_cases c14 : t386 = true
   ·
    subst c14
    have H1 : (if a1_0 = (-1) then (standstilllaw04_LeapLong.j0 k a2 true a0_0 a0_1 l0_2 a1_0 a1_1 a1_2 l1_3 l1_4) else ((standstilllaw04_modest.f k a1_0 a1_1 a1_2 l1_3 l1_4).bind fun t387 => (standstilllaw04_LeapLong.j0 k a2 (!t387) a0_0 a0_1 l0_2 a1_0 a1_1 a1_2 l1_3 l1_4))) = some r := by rw [if_pos rfl] at H; exact H
    clear H
    have H := H1
    clear H1
    by_cases c15 : a1_0 = (-1)
    ·
     rw [if_pos c15] at H
     have c15b0 : (a1_0 == (-1)) = true := beq_iff_eq.mpr c15
     have c15b1 : (a1_0 != (-1)) = false := bne_eq_false_iff_eq.mpr c15
     clear c15
     (first | rw [c15b0] | (simp only [i64_w, i32_w]; rw [c15b0]) | skip)
     (try rw [c15b1])
     have H' := Aside0.mk H
     clear H
     have hnb16 := NB383_384.out
     have hnc16 := NB384_383.out
     have hz17 := zc3 BK383
     have hz18 := zc5 BK384
     go_wp2_with (first | ((with_reducible refine gate_callee (f := 6) rfl ?_); refine goesL_ (some 22) rfl rfl Try.func6 (by kernel_rfl) rfl #[.agg #[.int .i64 a0_0, .int .i64 a0_1, .slice A0_2 l0_2.length c0_2], .agg #[.int .i64 0, .int .i64 0, .int .i64 0, .slice none 0 0], .agg #[.int .i64 a1_0, .int .i64 a1_1, .int .i64 a1_2, .slice A1_3 l1_3.length c1_3, .slice A1_4 l1_4.length c1_4]] rfl (zm) ?_; (refine (standstilllaw04_wide.calls k a0_0 a0_1 _ _ l0_2 0 0 0 _ _ ([] : List Int) a1_0 a1_1 a1_2 _ _ l1_3 _ _ l1_4 false _ ?side1 ?side2 ?side3 ?side4 ?side5 ?side6 ?side7 ?side8 A7.out).mono ?_); (case side1 => exact zC ((Kd.C_below HR0_2.out HB.out))); (case side2 => exact HC0_2.out); (case side3 => exact Kd.C_nil _ _); (case side4 => exact Nat.le_refl _); (case side5 => exact zC ((Kd.V_reads' HO1_3.out).2.2)); (case side6 => exact (Kd.V_reads' HO1_3.out).2.1); (case side7 => exact zC ((Kd.V_reads' HO1_4.out).2.2)); (case side8 => exact (Kd.V_reads' HO1_4.out).2.1); rintro e w19 ⟨rfl, hb⟩; refine ⟨_, rfl, ?_⟩; replace HO1_3 := Aside0.mk (zVb HO1_3 hb); replace HO1_4 := Aside0.mk (zVb HO1_4 hb); replace BK383 := Aside0.mk (zb BK383 hb); replace BK384 := Aside0.mk (zb BK384 hb); replace HB := Aside0.mk (below_step (zB HB) hb); (try clear hb); (try clear hb2); (try clear hk); (try clear hi); have hz20 := zc3 BK383; have hz21 := zc5 BK384) | (go_at_call 7; (with_reducible refine (standstillref04_Fits.calls k a0_0 a0_1 _ _ l0_2 a1_0 a1_1 a1_2 _ _ l1_3 _ _ l1_4 true _ ?side1 ?side2 ?side3 ?side4 ?side5 ?side6 A13.out).mono ?_); (case side1 => exact zC ((Kd.C_below HR0_2.out HB.out))); (case side2 => exact HC0_2.out); (case side3 => exact zC ((Kd.V_reads' HO1_3.out).2.2)); (case side4 => exact (Kd.V_reads' HO1_3.out).2.1); (case side5 => exact zC ((Kd.V_reads' HO1_4.out).2.2)); (case side6 => exact (Kd.V_reads' HO1_4.out).2.1); rintro e w22 ⟨rfl, hb⟩; replace HO1_3 := Aside0.mk (zVb HO1_3 hb); replace HO1_4 := Aside0.mk (zVb HO1_4 hb); replace BK383 := Aside0.mk (zb BK383 hb); replace BK384 := Aside0.mk (zb BK384 hb); replace HB := Aside0.mk (below_step (zB HB) hb); (try clear hb); (try clear hb2); (try clear hk); (try clear hi); have hz23 := zc5 BK384))
     go_meet
     case rel => exact ⟨_, (true), (by first | rfl | (simp; done) | (simp [*]; done)), H', ⟨by first | omega | exact Nat.le_refl _⟩, ⟨by (with_reducible repeat (first | apply Kd.V_alloc | apply Kd.V_drewN | apply Kd.V_drew)); exact Kd.V_mono HO1_3.out (fun _ hk => ⟨hk.1.1, ⟨hk.1.2, hk.2⟩⟩)⟩, ⟨by (with_reducible repeat (first | apply Kd.V_alloc | apply Kd.V_drewN | apply Kd.V_drew)); exact Kd.V_mono HO1_4.out (fun _ hk => ⟨hk.1.1, ⟨hk.1.2, hk.2⟩⟩)⟩, ⟨zk BK383⟩, ⟨zk BK384⟩, ⟨zB HB⟩⟩
    ·
     rw [if_neg c15] at H
     have c15b0 : (a1_0 == (-1)) = false := beq_eq_false_iff_ne.mpr c15
     have c15b1 : (a1_0 != (-1)) = true := bne_iff_ne.mpr c15
     (first | rw [c15b0] | (simp only [i64_w, i32_w]; rw [c15b0]) | skip)
     (try rw [c15b1])
     replace H := Option.bind_eq_some_iff.mp H
     obtain ⟨t387, A240, H⟩ := H
     replace H : (standstilllaw04_LeapLong.j0 k a2 (!t387) a0_0 a0_1 l0_2 a1_0 a1_1 a1_2 l1_3 l1_4) = some r := H
     have A24 := Aside0.mk A240
     clear A240
     have H' := Aside0.mk H
     clear H
     have hnb25 := NB383_384.out
     have hnc25 := NB384_383.out
     have hz26 := zc3 BK383
     have hz27 := zc5 BK384
     go_wp2_with (first | ((with_reducible refine gate_callee (f := 6) rfl ?_); refine goesL_ (some 22) rfl rfl Try.func6 (by kernel_rfl) rfl #[.agg #[.int .i64 a0_0, .int .i64 a0_1, .slice A0_2 l0_2.length c0_2], .agg #[.int .i64 0, .int .i64 0, .int .i64 0, .slice none 0 0], .agg #[.int .i64 a1_0, .int .i64 a1_1, .int .i64 a1_2, .slice A1_3 l1_3.length c1_3, .slice A1_4 l1_4.length c1_4]] rfl (zm) ?_; (refine (standstilllaw04_wide.calls k a0_0 a0_1 _ _ l0_2 0 0 0 _ _ ([] : List Int) a1_0 a1_1 a1_2 _ _ l1_3 _ _ l1_4 false _ ?side1 ?side2 ?side3 ?side4 ?side5 ?side6 ?side7 ?side8 A7.out).mono ?_); (case side1 => exact zC ((Kd.C_below HR0_2.out HB.out))); (case side2 => exact HC0_2.out); (case side3 => exact Kd.C_nil _ _); (case side4 => exact Nat.le_refl _); (case side5 => exact zC ((Kd.V_reads' HO1_3.out).2.2)); (case side6 => exact (Kd.V_reads' HO1_3.out).2.1); (case side7 => exact zC ((Kd.V_reads' HO1_4.out).2.2)); (case side8 => exact (Kd.V_reads' HO1_4.out).2.1); rintro e w28 ⟨rfl, hb⟩; refine ⟨_, rfl, ?_⟩; replace HO1_3 := Aside0.mk (zVb HO1_3 hb); replace HO1_4 := Aside0.mk (zVb HO1_4 hb); replace BK383 := Aside0.mk (zb BK383 hb); replace BK384 := Aside0.mk (zb BK384 hb); replace HB := Aside0.mk (below_step (zB HB) hb); (try clear hb); (try clear hb2); (try clear hk); (try clear hi); have hz29 := zc3 BK383; have hz30 := zc5 BK384) | (go_at_call 7; (with_reducible refine (standstillref04_Fits.calls k a0_0 a0_1 _ _ l0_2 a1_0 a1_1 a1_2 _ _ l1_3 _ _ l1_4 true _ ?side1 ?side2 ?side3 ?side4 ?side5 ?side6 A13.out).mono ?_); (case side1 => exact zC ((Kd.C_below HR0_2.out HB.out))); (case side2 => exact HC0_2.out); (case side3 => exact zC ((Kd.V_reads' HO1_3.out).2.2)); (case side4 => exact (Kd.V_reads' HO1_3.out).2.1); (case side5 => exact zC ((Kd.V_reads' HO1_4.out).2.2)); (case side6 => exact (Kd.V_reads' HO1_4.out).2.1); rintro e w31 ⟨rfl, hb⟩; replace HO1_3 := Aside0.mk (zVb HO1_3 hb); replace HO1_4 := Aside0.mk (zVb HO1_4 hb); replace BK383 := Aside0.mk (zb BK383 hb); replace BK384 := Aside0.mk (zb BK384 hb); replace HB := Aside0.mk (below_step (zB HB) hb); (try clear hb); (try clear hb2); (try clear hk); (try clear hi); have hz32 := zc5 BK384) | (go_at_call 8; (with_reducible refine (standstilllaw04_modest.calls k a1_0 a1_1 a1_2 _ _ l1_3 _ _ l1_4 t387 _ ?side1 ?side2 ?side3 ?side4 A24.out).mono ?_); (case side1 => exact zC ((Kd.V_reads' HO1_3.out).2.2)); (case side2 => exact (Kd.V_reads' HO1_3.out).2.1); (case side3 => exact zC ((Kd.V_reads' HO1_4.out).2.2)); (case side4 => exact (Kd.V_reads' HO1_4.out).2.1); rintro e w33 ⟨rfl, hb⟩; replace HO1_3 := Aside0.mk (zVb HO1_3 hb); replace HO1_4 := Aside0.mk (zVb HO1_4 hb); replace BK383 := Aside0.mk (zb BK383 hb); replace BK384 := Aside0.mk (zb BK384 hb); replace HB := Aside0.mk (below_step (zB HB) hb); (try clear hb); (try clear hb2); (try clear hk); (try clear hi)))
     go_meet
     case rel => exact ⟨_, (!t387), (by first | rfl | (simp; done) | (simp [*]; done)), H', ⟨by first | omega | exact Nat.le_refl _⟩, ⟨by (with_reducible repeat (first | apply Kd.V_alloc | apply Kd.V_drewN | apply Kd.V_drew)); exact Kd.V_mono HO1_3.out (fun _ hk => ⟨hk.1.1, ⟨hk.1.2, hk.2⟩⟩)⟩, ⟨by (with_reducible repeat (first | apply Kd.V_alloc | apply Kd.V_drewN | apply Kd.V_drew)); exact Kd.V_mono HO1_4.out (fun _ hk => ⟨hk.1.1, ⟨hk.1.2, hk.2⟩⟩)⟩, ⟨zk BK383⟩, ⟨zk BK384⟩, ⟨zB HB⟩⟩
   ·
    replace c14 := Bool.eq_false_iff.mpr c14
    subst c14
    have H1 : (standstilllaw04_LeapLong.j0 k a2 true a0_0 a0_1 l0_2 a1_0 a1_1 a1_2 l1_3 l1_4) = some r := by rw [if_neg (show ¬ (false = true) by decide)] at H; exact H
    clear H
    have H := H1
    clear H1
    have H' := Aside0.mk H
    clear H
    have hnb34 := NB383_384.out
    have hnc34 := NB384_383.out
    have hz35 := zc3 BK383
    have hz36 := zc5 BK384
    go_wp2_with (first | ((with_reducible refine gate_callee (f := 6) rfl ?_); refine goesL_ (some 22) rfl rfl Try.func6 (by kernel_rfl) rfl #[.agg #[.int .i64 a0_0, .int .i64 a0_1, .slice A0_2 l0_2.length c0_2], .agg #[.int .i64 0, .int .i64 0, .int .i64 0, .slice none 0 0], .agg #[.int .i64 a1_0, .int .i64 a1_1, .int .i64 a1_2, .slice A1_3 l1_3.length c1_3, .slice A1_4 l1_4.length c1_4]] rfl (zm) ?_; (refine (standstilllaw04_wide.calls k a0_0 a0_1 _ _ l0_2 0 0 0 _ _ ([] : List Int) a1_0 a1_1 a1_2 _ _ l1_3 _ _ l1_4 false _ ?side1 ?side2 ?side3 ?side4 ?side5 ?side6 ?side7 ?side8 A7.out).mono ?_); (case side1 => exact zC ((Kd.C_below HR0_2.out HB.out))); (case side2 => exact HC0_2.out); (case side3 => exact Kd.C_nil _ _); (case side4 => exact Nat.le_refl _); (case side5 => exact zC ((Kd.V_reads' HO1_3.out).2.2)); (case side6 => exact (Kd.V_reads' HO1_3.out).2.1); (case side7 => exact zC ((Kd.V_reads' HO1_4.out).2.2)); (case side8 => exact (Kd.V_reads' HO1_4.out).2.1); rintro e w37 ⟨rfl, hb⟩; refine ⟨_, rfl, ?_⟩; replace HO1_3 := Aside0.mk (zVb HO1_3 hb); replace HO1_4 := Aside0.mk (zVb HO1_4 hb); replace BK383 := Aside0.mk (zb BK383 hb); replace BK384 := Aside0.mk (zb BK384 hb); replace HB := Aside0.mk (below_step (zB HB) hb); (try clear hb); (try clear hb2); (try clear hk); (try clear hi); have hz38 := zc3 BK383; have hz39 := zc5 BK384) | (go_at_call 7; (with_reducible refine (standstillref04_Fits.calls k a0_0 a0_1 _ _ l0_2 a1_0 a1_1 a1_2 _ _ l1_3 _ _ l1_4 false _ ?side1 ?side2 ?side3 ?side4 ?side5 ?side6 A13.out).mono ?_); (case side1 => exact zC ((Kd.C_below HR0_2.out HB.out))); (case side2 => exact HC0_2.out); (case side3 => exact zC ((Kd.V_reads' HO1_3.out).2.2)); (case side4 => exact (Kd.V_reads' HO1_3.out).2.1); (case side5 => exact zC ((Kd.V_reads' HO1_4.out).2.2)); (case side6 => exact (Kd.V_reads' HO1_4.out).2.1); rintro e w40 ⟨rfl, hb⟩; replace HO1_3 := Aside0.mk (zVb HO1_3 hb); replace HO1_4 := Aside0.mk (zVb HO1_4 hb); replace BK383 := Aside0.mk (zb BK383 hb); replace BK384 := Aside0.mk (zb BK384 hb); replace HB := Aside0.mk (below_step (zB HB) hb); (try clear hb); (try clear hb2); (try clear hk); (try clear hi)))
    go_meet
    case rel => exact ⟨_, (true), (by first | rfl | (simp; done) | (simp [*]; done)), H', ⟨by first | omega | exact Nat.le_refl _⟩, ⟨by (with_reducible repeat (first | apply Kd.V_alloc | apply Kd.V_drewN | apply Kd.V_drew)); exact Kd.V_mono HO1_3.out (fun _ hk => ⟨hk.1.1, ⟨hk.1.2, hk.2⟩⟩)⟩, ⟨by (with_reducible repeat (first | apply Kd.V_alloc | apply Kd.V_drewN | apply Kd.V_drew)); exact Kd.V_mono HO1_4.out (fun _ hk => ⟨hk.1.1, ⟨hk.1.2, hk.2⟩⟩)⟩, ⟨zk BK383⟩, ⟨zk BK384⟩, ⟨zB HB⟩⟩
 case rest =>
  clear HC4
  try clear c1
  try clear c2
  try clear p2
  try clear c3
  try clear c6
  try clear c8
  try clear c9
  try clear c14
  try clear c15
  try clear c15b0
  try clear c15b1
  try clear c16
  try clear c25
  try clear c34
  try clear hz10
  try clear hz11
  try clear hz17
  try clear hz18
  try clear hz20
  try clear hz21
  try clear hz23
  try clear hz26
  try clear hz27
  try clear hz29
  try clear hz30
  try clear hz32
  try clear hz35
  try clear hz36
  try clear hz38
  try clear hz39
  obtain ⟨kq, x38_3, rfl, HA, HJ3, HO_385003, HO_385004, BK383, BK384, HB⟩ := hcut
  cases kq with
  | zero => exact absurd HA.out (by simp [standstilllaw04_LeapLong.j0])
  | succ kj3 =>
   have H := HA.out
   clear HA
   simp only [standstilllaw04_LeapLong.j0] at H
   by_cases c41 : x38_3 = true
   ·
    subst c41
    have H1 : ((standstilllaw04_awake.f kj3).bind fun t388 => (some t388)) = some r := by rw [if_pos rfl] at H; exact H
    clear H
    have H := H1
    clear H1
    replace H := Option.bind_eq_some_iff.mp H
    obtain ⟨t388, A420, H⟩ := H
    replace H : (some t388) = some r := H
    have A42 := Aside0.mk A420
    clear A420
    obtain rfl := Option.some.inj H
    go_wp2_with (first | ((with_reducible refine gate_callee (f := 9) rfl ?_); refine goesL_ (some 39) rfl rfl Try.func9 (by kernel_rfl) rfl #[] rfl (zm) ?_; (with_reducible refine (standstilllaw04_awake.calls kj3  t388 _ A42.out).mono ?_); rintro e w43 ⟨rfl, hb⟩; refine ⟨_, rfl, ?_⟩; replace HO_385003 := Aside0.mk (zVb HO_385003 hb); replace HO_385004 := Aside0.mk (zVb HO_385004 hb); replace BK383 := Aside0.mk (zb BK383 hb); replace BK384 := Aside0.mk (zb BK384 hb); replace HB := Aside0.mk (below_step (zB HB) hb); (try clear hb); (try clear hb2); (try clear hk); (try clear hi)))
    go_ret
    exact ⟨by first | rfl | (simp [errW_none, errW_some] <;> rfl) | (simp [*, errW_none, errW_some] <;> rfl), zB HB⟩
   ·
    replace c41 := Bool.eq_false_iff.mpr c41
    subst c41
    have H1 : (if 0 ≤ a1_0 then (if a1_0 < (l0_2.length : Int) then (if 0 ≤ a1_2 then (if a1_2 < ((rd_L2 l0_2 a1_0).length : Int) then (if ((rd_T37 (rd_L2 l0_2 a1_0) a1_2).f1) < 0 then ((standstilllaw04_longer.f l1_3 (wrap64 (Int.tmod a2 1125899906842624))).bind fun t393 => (standstilllaw04_LeapLong.j1 kj3 (wrap64 (Int.tmod a2 1125899906842624)) a0_0 a0_1 l0_2 a1_0 a1_1 a1_2 l1_3 l1_4 ((rd_T37 (rd_L2 l0_2 a1_0) a1_2).f0) ((rd_T37 (rd_L2 l0_2 a1_0) a1_2).f1) ((rd_T37 (rd_L2 l0_2 a1_0) a1_2).f2) a1_0 a1_1 a1_2 t393 l1_4)) else ((standstilllaw04_longer.f l1_4 (wrap64 (Int.tmod a2 1125899906842624))).bind fun t396 => (standstilllaw04_LeapLong.j1 kj3 (wrap64 (Int.tmod a2 1125899906842624)) a0_0 a0_1 l0_2 a1_0 a1_1 a1_2 l1_3 l1_4 ((rd_T37 (rd_L2 l0_2 a1_0) a1_2).f0) ((rd_T37 (rd_L2 l0_2 a1_0) a1_2).f1) ((rd_T37 (rd_L2 l0_2 a1_0) a1_2).f2) a1_0 a1_1 a1_2 l1_3 t396))) else (none)) else (none)) else (none)) else (none)) = some r := by rw [if_neg (show ¬ (false = true) by decide)] at H; exact H
    clear H
    have H := H1
    clear H1
    by_cases c44 : 0 ≤ a1_0
    ·
     rw [if_pos c44] at H
     have c44b0 : decide (0 ≤ a1_0) = true := decide_eq_true c44
     clear c44
     by_cases c45 : a1_0 < (l0_2.length : Int)
     ·
      rw [if_pos c45] at H
      have c45b0 : decide (a1_0 < (l0_2.length : Int)) = true := decide_eq_true c45
      clear c45
      by_cases c46 : 0 ≤ a1_2
      ·
       rw [if_pos c46] at H
       have c46b0 : decide (0 ≤ a1_2) = true := decide_eq_true c46
       clear c46
       by_cases c47 : a1_2 < ((rd_L2 l0_2 a1_0).length : Int)
       ·
        rw [if_pos c47] at H
        have c47b0 : decide (a1_2 < ((rd_L2 l0_2 a1_0).length : Int)) = true := decide_eq_true c47
        clear c47
        have HC48 := Aside0.mk H
        clear H
        try go_wp2
        replace HO_385003 := Aside0.mk (Kd.V_drew HO_385003.out)
        replace HO_385004 := Aside0.mk (Kd.V_drew HO_385004.out)
        replace BK383 := Aside0.mk (blk_drew BK383.out)
        replace BK384 := Aside0.mk (blk_drew BK384.out)
        replace HB := Aside0.mk (below_drew1 HB.out)
        have p389 : 0 ≤ (a1_0 : Int) := of_decide_eq_true (by first | (with_reducible assumption) | assumption)
        have q389 : a1_0 < (l0_2.length : Int) := of_decide_eq_true (by first | (with_reducible assumption) | assumption)
        obtain ⟨ad389, A389_0, c389_0, e389, hx389_0, hl389_0, hi389_0⟩ := at_L2 HR0_2.out a1_0 p389 q389
        have hw389_0 := hx389_0
        cases e389
        replace hx389_0 := (HB.out.cell (World.block_lt_of_cell? w _ hx389_0)).trans hx389_0
        have HR389_0 := Aside0.mk hi389_0
        have HC389_0 := Aside0.mk hl389_0
        clear hi389_0 hl389_0
        replace p389 := eq_true p389
        replace q389 := eq_true q389
        have p390 : 0 ≤ (a1_2 : Int) := of_decide_eq_true (by first | (with_reducible assumption) | assumption)
        have q390 : a1_2 < ((rd_L2 l0_2 a1_0).length : Int) := of_decide_eq_true (by first | (with_reducible assumption) | assumption)
        obtain ⟨ad390, e390, hx390_0, hx390_1, hx390_2⟩ := at_T37 HR389_0.out a1_2 p390 q390
        have hw390_2 := hx390_2
        have hw390_1 := hx390_1
        have hw390_0 := hx390_0
        cases e390
        replace hx390_0 := (HB.out.cell (World.block_lt_of_cell? w _ hx390_0)).trans hx390_0
        replace hx390_1 := (HB.out.cell (World.block_lt_of_cell? w _ hx390_1)).trans hx390_1
        replace hx390_2 := (HB.out.cell (World.block_lt_of_cell? w _ hx390_2)).trans hx390_2
        replace p390 := eq_true p390
        replace q390 := eq_true q390
        refine start_ (n := 12) (S := fun w' => w'.cell? ⟨gb383, 0, none⟩ = some (.int .i64 a0_0) ∧ w'.cell? ⟨gb383, 1, none⟩ = some (.int .i64 a0_1) ∧ w'.cell? ⟨gb383, 2, none⟩ = some (.slice (some ad389) l0_2.length c0_2) ∧ w'.cell? ⟨gb384, 0, none⟩ = some (.int .i64 a1_0) ∧ w'.cell? ⟨gb384, 1, none⟩ = some (.int .i64 a1_1) ∧ w'.cell? ⟨gb384, 2, none⟩ = some (.int .i64 a1_2) ∧ w'.cell? ⟨gb384, 3, none⟩ = some (.slice A1_3 l1_3.length c1_3) ∧ w'.cell? ⟨gb384, 4, none⟩ = some (.slice A1_4 l1_4.length c1_4) ∧ w'.cell? (ad389.add (a1_0).toNat) = some (.slice (some ad390) (rd_L2 l0_2 a1_0).length c389_0) ∧ w'.cell? (ad390.add ((a1_2).toNat * 3)) = some (.int .i64 ((rd_T37 (rd_L2 l0_2 a1_0) a1_2).f0)) ∧ w'.cell? ⟨(ad390.add ((a1_2).toNat * 3)).block, (ad390.add ((a1_2).toNat * 3)).off + 1, none⟩ = some (.int .i64 ((rd_T37 (rd_L2 l0_2 a1_0) a1_2).f1)) ∧ w'.cell? ⟨(ad390.add ((a1_2).toNat * 3)).block, (ad390.add ((a1_2).toNat * 3)).off + 2, none⟩ = some (.int .i64 ((rd_T37 (rd_L2 l0_2 a1_0) a1_2).f2))) (ds := []) (zl 12 0) (by kernel_rfl) rfl rfl ⟨(blk_cell BK383.out 0).trans rfl, (blk_cell BK383.out 1).trans rfl, (blk_cell BK383.out 2).trans rfl, (blk_cell BK384.out 0).trans rfl, (blk_cell BK384.out 1).trans rfl, (blk_cell BK384.out 2).trans rfl, (blk_cell BK384.out 3).trans rfl, (blk_cell BK384.out 4).trans rfl, ((HB.out.cell (World.block_lt_of_cell? w _ hw389_0)).trans hw389_0), ((HB.out.cell (World.block_lt_of_cell? w _ hw390_0)).trans hw390_0), ((HB.out.cell (World.block_lt_of_cell? w _ hw390_1)).trans hw390_1), ((HB.out.cell (World.block_lt_of_cell? w _ hw390_2)).trans hw390_2)⟩ (fun hHeld => ?_); refine with_tabW standstilllaw04_LeapLong.tab4 standstilllaw04_LeapLong.bits4 (fun HT_ HW_ => ?_)
        generalize wc.drew = w49 at HO_385003 HO_385004 BK383 BK384 HB HR389_0 hx389_0 hx390_0 hx390_1 hx390_2 hHeld ⊢
        refine zP 0 (some 43) (zl 12 1) HT_ ?_
        refine zP 2 (some 45) (zl 12 5) HT_ ?_
        refine zP 6 (some 49) (zl 12 69) HT_ ?_
        refine zT 1 (some 44) (zl 12 71) HT_ HW_ hHeld ?_
        refine zT 3 (some 46) (zl 12 79) HT_ HW_ hHeld ?_
        refine zP 4 (some 47) (zl 12 95) HT_ ?_
        refine zT 5 (some 48) (zl 12 127) HT_ HW_ hHeld ?_
        refine zT 7 (some 50) (zl 12 255) HT_ HW_ hHeld ?_
        refine zP 8 (some 51) (zl 12 511) HT_ ?_
        refine zT 9 (some 52) (zl 12 1023) HT_ HW_ hHeld ?_
        refine one_ (i := 10) (N := some 8) (zl 12 2047) rfl rfl (one_of HT_.out (by kernel_rfl)) (by decide) (fun K hK => ?_)
        refine box_step ?hg (N := 8) ?hd (cs := #[.int .i64 0, .int .i64 0, .int .i64 0]) (t := 37) ?hr ?_; (case hd => rfl); (case hg => rfl); (case hr => first | (go_simp; done) | (go_simp; rfl))
        intro gb391 hg w50 hbox hb
        have BK391 := Aside0.mk (hbox)
        have GW391 := Aside0.mk ((by rw [hg]; exact (below_size (zB HB)) : w.heap.size ≤ gb391))
        have GE391 := Aside0.mk ((by rw [hg]; exact (below_size (zB HB)) : w.heap.size ≤ gb391))
        have NB383_391 := Aside0.mk ((by rw [hg]; exact Nat.ne_of_lt (zL BK383) : gb383 ≠ gb391))
        have NB391_383 := Aside0.mk ((by rw [hg]; exact Nat.ne_of_gt (zL BK383) : gb391 ≠ gb383))
        have NB384_391 := Aside0.mk ((by rw [hg]; exact Nat.ne_of_lt (zL BK384) : gb384 ≠ gb391))
        have NB391_384 := Aside0.mk ((by rw [hg]; exact Nat.ne_of_gt (zL BK384) : gb391 ≠ gb384))
        replace HO_385003 := Aside0.mk (Kd.V_below (Kd.V_elderB (zV HO_385003) gb391 (Nat.le_of_eq hg.symm)) hb)
        replace HO_385004 := Aside0.mk (Kd.V_below (Kd.V_elderB (zV HO_385004) gb391 (Nat.le_of_eq hg.symm)) hb)
        replace BK383 := Aside0.mk (zb BK383 hb)
        replace BK384 := Aside0.mk (zb BK384 hb)
        replace HB := Aside0.mk (below_step (zB HB) hb)
        clear hb hbox hg
        refine hK.out _ _ ⟨(blk_cell BK383.out 0).trans rfl, (blk_cell BK383.out 1).trans rfl, (blk_cell BK383.out 2).trans rfl, (blk_cell BK384.out 0).trans rfl, (blk_cell BK384.out 1).trans rfl, (blk_cell BK384.out 2).trans rfl, (blk_cell BK384.out 3).trans rfl, (blk_cell BK384.out 4).trans rfl, ((HB.out.cell (World.block_lt_of_cell? w _ hw389_0)).trans hw389_0), ((HB.out.cell (World.block_lt_of_cell? w _ hw390_0)).trans hw390_0), ((HB.out.cell (World.block_lt_of_cell? w _ hw390_1)).trans hw390_1), ((HB.out.cell (World.block_lt_of_cell? w _ hw390_2)).trans hw390_2)⟩ (fun hHeld => ?_)
        clear hK K
        refine norm_ (a' := ?_) ?_ ?_
        rotate_left
        ·
         show Act.put _ (some 8) _ = _
         simp only [Act.put, zs, zs0, zs1, i64_w, i32_w]
         rfl
        refine one_ (i := 11) (N := none) (zl 12 4095) rfl rfl (one_of HT_.out (by kernel_rfl)) (by decide) (fun K hK => ?_)
        have hs51 : w50.cell? ⟨gb391, 0, none⟩ = some (.int .i64 0) := (blk_cell BK391.out 0).trans rfl
        have hfs51 := blk_frozen BK391.out 0
        have hns51_0 := NB383_391.out
        have hns51_1 := NB384_391.out
        have hms51_0 := NB391_383.out
        have hms51_1 := NB391_384.out
        have hs52 : w50.cell? ⟨gb391, 1, none⟩ = some (.int .i64 0) := (blk_cell BK391.out 1).trans rfl
        have hfs52 := blk_frozen BK391.out 1
        have hns52_0 := NB383_391.out
        have hns52_1 := NB384_391.out
        have hms52_0 := NB391_383.out
        have hms52_1 := NB391_384.out
        have hs53 : w50.cell? ⟨gb391, 2, none⟩ = some (.int .i64 0) := (blk_cell BK391.out 2).trans rfl
        have hfs53 := blk_frozen BK391.out 2
        have hns53_0 := NB383_391.out
        have hns53_1 := NB384_391.out
        have hms53_0 := NB391_383.out
        have hms53_1 := NB391_384.out
        refine skip_ (w1 := ?_) (by rfl) rfl ?_ ?_
        rotate_left
        ·
         go_simp
         rfl
        refine hK.out _ _ ⟨((cell_far (p := ⟨gb391, _, none⟩) NB383_391.out _).trans (((cell_far (p := ⟨gb391, _, none⟩) NB383_391.out _).trans (((cell_far (p := ⟨gb391, _, none⟩) NB383_391.out _).trans (hHeld.1)))))), ((cell_far (p := ⟨gb391, _, none⟩) NB383_391.out _).trans (((cell_far (p := ⟨gb391, _, none⟩) NB383_391.out _).trans (((cell_far (p := ⟨gb391, _, none⟩) NB383_391.out _).trans (hHeld.2.1)))))), ((cell_far (p := ⟨gb391, _, none⟩) NB383_391.out _).trans (((cell_far (p := ⟨gb391, _, none⟩) NB383_391.out _).trans (((cell_far (p := ⟨gb391, _, none⟩) NB383_391.out _).trans (hHeld.2.2.1)))))), ((cell_far (p := ⟨gb391, _, none⟩) NB384_391.out _).trans (((cell_far (p := ⟨gb391, _, none⟩) NB384_391.out _).trans (((cell_far (p := ⟨gb391, _, none⟩) NB384_391.out _).trans (hHeld.2.2.2.1)))))), ((cell_far (p := ⟨gb391, _, none⟩) NB384_391.out _).trans (((cell_far (p := ⟨gb391, _, none⟩) NB384_391.out _).trans (((cell_far (p := ⟨gb391, _, none⟩) NB384_391.out _).trans (hHeld.2.2.2.2.1)))))), ((cell_far (p := ⟨gb391, _, none⟩) NB384_391.out _).trans (((cell_far (p := ⟨gb391, _, none⟩) NB384_391.out _).trans (((cell_far (p := ⟨gb391, _, none⟩) NB384_391.out _).trans (hHeld.2.2.2.2.2.1)))))), ((cell_far (p := ⟨gb391, _, none⟩) NB384_391.out _).trans (((cell_far (p := ⟨gb391, _, none⟩) NB384_391.out _).trans (((cell_far (p := ⟨gb391, _, none⟩) NB384_391.out _).trans (hHeld.2.2.2.2.2.2.1)))))), ((cell_far (p := ⟨gb391, _, none⟩) NB384_391.out _).trans (((cell_far (p := ⟨gb391, _, none⟩) NB384_391.out _).trans (((cell_far (p := ⟨gb391, _, none⟩) NB384_391.out _).trans (hHeld.2.2.2.2.2.2.2.1)))))), ((cell_far (p := ⟨gb391, _, none⟩) (by first | exact Nat.ne_of_lt (Nat.lt_of_lt_of_le (by have := World.block_lt_of_cell? _ _ hw389_0; first | rwa [add_block] at this | exact this) GW391.out) | (rw [add_block]; exact Nat.ne_of_lt (Nat.lt_of_lt_of_le (by have := World.block_lt_of_cell? _ _ hw389_0; first | rwa [add_block] at this | exact this) GW391.out)) | (show (Addr.add _ _).block ≠ _; rw [add_block]; exact Nat.ne_of_lt (Nat.lt_of_lt_of_le (by have := World.block_lt_of_cell? _ _ hw389_0; first | rwa [add_block] at this | exact this) GW391.out)) | (dsimp only; exact Nat.ne_of_lt (Nat.lt_of_lt_of_le (by have := World.block_lt_of_cell? _ _ hw389_0; first | rwa [add_block] at this | exact this) GW391.out))) _).trans (((cell_far (p := ⟨gb391, _, none⟩) (by first | exact Nat.ne_of_lt (Nat.lt_of_lt_of_le (by have := World.block_lt_of_cell? _ _ hw389_0; first | rwa [add_block] at this | exact this) GW391.out) | (rw [add_block]; exact Nat.ne_of_lt (Nat.lt_of_lt_of_le (by have := World.block_lt_of_cell? _ _ hw389_0; first | rwa [add_block] at this | exact this) GW391.out)) | (show (Addr.add _ _).block ≠ _; rw [add_block]; exact Nat.ne_of_lt (Nat.lt_of_lt_of_le (by have := World.block_lt_of_cell? _ _ hw389_0; first | rwa [add_block] at this | exact this) GW391.out)) | (dsimp only; exact Nat.ne_of_lt (Nat.lt_of_lt_of_le (by have := World.block_lt_of_cell? _ _ hw389_0; first | rwa [add_block] at this | exact this) GW391.out))) _).trans (((cell_far (p := ⟨gb391, _, none⟩) (by first | exact Nat.ne_of_lt (Nat.lt_of_lt_of_le (by have := World.block_lt_of_cell? _ _ hw389_0; first | rwa [add_block] at this | exact this) GW391.out) | (rw [add_block]; exact Nat.ne_of_lt (Nat.lt_of_lt_of_le (by have := World.block_lt_of_cell? _ _ hw389_0; first | rwa [add_block] at this | exact this) GW391.out)) | (show (Addr.add _ _).block ≠ _; rw [add_block]; exact Nat.ne_of_lt (Nat.lt_of_lt_of_le (by have := World.block_lt_of_cell? _ _ hw389_0; first | rwa [add_block] at this | exact this) GW391.out)) | (dsimp only; exact Nat.ne_of_lt (Nat.lt_of_lt_of_le (by have := World.block_lt_of_cell? _ _ hw389_0; first | rwa [add_block] at this | exact this) GW391.out))) _).trans (hHeld.2.2.2.2.2.2.2.2.1)))))), ((cell_far (p := ⟨gb391, _, none⟩) (by first | exact Nat.ne_of_lt (Nat.lt_of_lt_of_le (by have := World.block_lt_of_cell? _ _ hw390_0; first | rwa [add_block] at this | exact this) GW391.out) | (rw [add_block]; exact Nat.ne_of_lt (Nat.lt_of_lt_of_le (by have := World.block_lt_of_cell? _ _ hw390_0; first | rwa [add_block] at this | exact this) GW391.out)) | (show (Addr.add _ _).block ≠ _; rw [add_block]; exact Nat.ne_of_lt (Nat.lt_of_lt_of_le (by have := World.block_lt_of_cell? _ _ hw390_0; first | rwa [add_block] at this | exact this) GW391.out)) | (dsimp only; exact Nat.ne_of_lt (Nat.lt_of_lt_of_le (by have := World.block_lt_of_cell? _ _ hw390_0; first | rwa [add_block] at this | exact this) GW391.out))) _).trans (((cell_far (p := ⟨gb391, _, none⟩) (by first | exact Nat.ne_of_lt (Nat.lt_of_lt_of_le (by have := World.block_lt_of_cell? _ _ hw390_0; first | rwa [add_block] at this | exact this) GW391.out) | (rw [add_block]; exact Nat.ne_of_lt (Nat.lt_of_lt_of_le (by have := World.block_lt_of_cell? _ _ hw390_0; first | rwa [add_block] at this | exact this) GW391.out)) | (show (Addr.add _ _).block ≠ _; rw [add_block]; exact Nat.ne_of_lt (Nat.lt_of_lt_of_le (by have := World.block_lt_of_cell? _ _ hw390_0; first | rwa [add_block] at this | exact this) GW391.out)) | (dsimp only; exact Nat.ne_of_lt (Nat.lt_of_lt_of_le (by have := World.block_lt_of_cell? _ _ hw390_0; first | rwa [add_block] at this | exact this) GW391.out))) _).trans (((cell_far (p := ⟨gb391, _, none⟩) (by first | exact Nat.ne_of_lt (Nat.lt_of_lt_of_le (by have := World.block_lt_of_cell? _ _ hw390_0; first | rwa [add_block] at this | exact this) GW391.out) | (rw [add_block]; exact Nat.ne_of_lt (Nat.lt_of_lt_of_le (by have := World.block_lt_of_cell? _ _ hw390_0; first | rwa [add_block] at this | exact this) GW391.out)) | (show (Addr.add _ _).block ≠ _; rw [add_block]; exact Nat.ne_of_lt (Nat.lt_of_lt_of_le (by have := World.block_lt_of_cell? _ _ hw390_0; first | rwa [add_block] at this | exact this) GW391.out)) | (dsimp only; exact Nat.ne_of_lt (Nat.lt_of_lt_of_le (by have := World.block_lt_of_cell? _ _ hw390_0; first | rwa [add_block] at this | exact this) GW391.out))) _).trans (hHeld.2.2.2.2.2.2.2.2.2.1)))))), ((cell_far (p := ⟨gb391, _, none⟩) (by first | exact Nat.ne_of_lt (Nat.lt_of_lt_of_le (by have := World.block_lt_of_cell? _ _ hw390_1; first | rwa [add_block] at this | exact this) GW391.out) | (rw [add_block]; exact Nat.ne_of_lt (Nat.lt_of_lt_of_le (by have := World.block_lt_of_cell? _ _ hw390_1; first | rwa [add_block] at this | exact this) GW391.out)) | (show (Addr.add _ _).block ≠ _; rw [add_block]; exact Nat.ne_of_lt (Nat.lt_of_lt_of_le (by have := World.block_lt_of_cell? _ _ hw390_1; first | rwa [add_block] at this | exact this) GW391.out)) | (dsimp only; exact Nat.ne_of_lt (Nat.lt_of_lt_of_le (by have := World.block_lt_of_cell? _ _ hw390_1; first | rwa [add_block] at this | exact this) GW391.out))) _).trans (((cell_far (p := ⟨gb391, _, none⟩) (by first | exact Nat.ne_of_lt (Nat.lt_of_lt_of_le (by have := World.block_lt_of_cell? _ _ hw390_1; first | rwa [add_block] at this | exact this) GW391.out) | (rw [add_block]; exact Nat.ne_of_lt (Nat.lt_of_lt_of_le (by have := World.block_lt_of_cell? _ _ hw390_1; first | rwa [add_block] at this | exact this) GW391.out)) | (show (Addr.add _ _).block ≠ _; rw [add_block]; exact Nat.ne_of_lt (Nat.lt_of_lt_of_le (by have := World.block_lt_of_cell? _ _ hw390_1; first | rwa [add_block] at this | exact this) GW391.out)) | (dsimp only; exact Nat.ne_of_lt (Nat.lt_of_lt_of_le (by have := World.block_lt_of_cell? _ _ hw390_1; first | rwa [add_block] at this | exact this) GW391.out))) _).trans (((cell_far (p := ⟨gb391, _, none⟩) (by first | exact Nat.ne_of_lt (Nat.lt_of_lt_of_le (by have := World.block_lt_of_cell? _ _ hw390_1; first | rwa [add_block] at this | exact this) GW391.out) | (rw [add_block]; exact Nat.ne_of_lt (Nat.lt_of_lt_of_le (by have := World.block_lt_of_cell? _ _ hw390_1; first | rwa [add_block] at this | exact this) GW391.out)) | (show (Addr.add _ _).block ≠ _; rw [add_block]; exact Nat.ne_of_lt (Nat.lt_of_lt_of_le (by have := World.block_lt_of_cell? _ _ hw390_1; first | rwa [add_block] at this | exact this) GW391.out)) | (dsimp only; exact Nat.ne_of_lt (Nat.lt_of_lt_of_le (by have := World.block_lt_of_cell? _ _ hw390_1; first | rwa [add_block] at this | exact this) GW391.out))) _).trans (hHeld.2.2.2.2.2.2.2.2.2.2.1)))))), ((cell_far (p := ⟨gb391, _, none⟩) (by first | exact Nat.ne_of_lt (Nat.lt_of_lt_of_le (by have := World.block_lt_of_cell? _ _ hw390_2; first | rwa [add_block] at this | exact this) GW391.out) | (rw [add_block]; exact Nat.ne_of_lt (Nat.lt_of_lt_of_le (by have := World.block_lt_of_cell? _ _ hw390_2; first | rwa [add_block] at this | exact this) GW391.out)) | (show (Addr.add _ _).block ≠ _; rw [add_block]; exact Nat.ne_of_lt (Nat.lt_of_lt_of_le (by have := World.block_lt_of_cell? _ _ hw390_2; first | rwa [add_block] at this | exact this) GW391.out)) | (dsimp only; exact Nat.ne_of_lt (Nat.lt_of_lt_of_le (by have := World.block_lt_of_cell? _ _ hw390_2; first | rwa [add_block] at this | exact this) GW391.out))) _).trans (((cell_far (p := ⟨gb391, _, none⟩) (by first | exact Nat.ne_of_lt (Nat.lt_of_lt_of_le (by have := World.block_lt_of_cell? _ _ hw390_2; first | rwa [add_block] at this | exact this) GW391.out) | (rw [add_block]; exact Nat.ne_of_lt (Nat.lt_of_lt_of_le (by have := World.block_lt_of_cell? _ _ hw390_2; first | rwa [add_block] at this | exact this) GW391.out)) | (show (Addr.add _ _).block ≠ _; rw [add_block]; exact Nat.ne_of_lt (Nat.lt_of_lt_of_le (by have := World.block_lt_of_cell? _ _ hw390_2; first | rwa [add_block] at this | exact this) GW391.out)) | (dsimp only; exact Nat.ne_of_lt (Nat.lt_of_lt_of_le (by have := World.block_lt_of_cell? _ _ hw390_2; first | rwa [add_block] at this | exact this) GW391.out))) _).trans (((cell_far (p := ⟨gb391, _, none⟩) (by first | exact Nat.ne_of_lt (Nat.lt_of_lt_of_le (by have := World.block_lt_of_cell? _ _ hw390_2; first | rwa [add_block] at this | exact this) GW391.out) | (rw [add_block]; exact Nat.ne_of_lt (Nat.lt_of_lt_of_le (by have := World.block_lt_of_cell? _ _ hw390_2; first | rwa [add_block] at this | exact this) GW391.out)) | (show (Addr.add _ _).block ≠ _; rw [add_block]; exact Nat.ne_of_lt (Nat.lt_of_lt_of_le (by have := World.block_lt_of_cell? _ _ hw390_2; first | rwa [add_block] at this | exact this) GW391.out)) | (dsimp only; exact Nat.ne_of_lt (Nat.lt_of_lt_of_le (by have := World.block_lt_of_cell? _ _ hw390_2; first | rwa [add_block] at this | exact this) GW391.out))) _).trans (hHeld.2.2.2.2.2.2.2.2.2.2.2))))))⟩ (fun hHeld => ?_)
        clear hK K
        refine done_ (done_of HT_.out (by kernel_rfl)) ?_
        have hnb54 := NB384_383.out
        have hnc54 := NB383_384.out
        have hnb55 := NB384_391.out
        have hnc55 := NB391_384.out
        have hz56 := zc5 BK384
        go_upto_if 56 with (first | ((with_reducible refine gate_dst (N := 9) rfl ?_); refine box_event ?hg (N := 9) ?hd (cs := #[.int .i64 0, .int .i64 0, .int .i64 0, .slice none 0 0, .slice none 0 0]) (t := 27) ?hr ?_; (case hd => rfl); (case hg => rfl); (case hr => first | (go_simp; done) | (go_simp; rfl)); intro gb392 hg w57 hbox hb; have BK392 := Aside0.mk (hbox); have GW392 := Aside0.mk ((by rw [hg]; exact (below_size (zB HB)) : w.heap.size ≤ gb392)); have GE392 := Aside0.mk ((by rw [hg]; exact (below_size (zB HB)) : w.heap.size ≤ gb392)); have NB383_392 := Aside0.mk ((by rw [hg]; exact Nat.ne_of_lt (zL BK383) : gb383 ≠ gb392)); have NB392_383 := Aside0.mk ((by rw [hg]; exact Nat.ne_of_gt (zL BK383) : gb392 ≠ gb383)); have NB384_392 := Aside0.mk ((by rw [hg]; exact Nat.ne_of_lt (zL BK384) : gb384 ≠ gb392)); have NB392_384 := Aside0.mk ((by rw [hg]; exact Nat.ne_of_gt (zL BK384) : gb392 ≠ gb384)); have NB391_392 := Aside0.mk ((by rw [hg]; exact Nat.ne_of_lt (blk_lt (g := gb391) (o := .cells #[.int .i64 ((rd_T37 (rd_L2 l0_2 a1_0) a1_2).f0), .int .i64 ((rd_T37 (rd_L2 l0_2 a1_0) a1_2).f1), .int .i64 ((rd_T37 (rd_L2 l0_2 a1_0) a1_2).f2)] 37 (0, 0)) (by (with_reducible repeat (first | refine blk_drewN ?_ _ | refine blk_drew ?_ | refine blk_alloc ?_ _)); refine blk_put (cs := #[.int .i64 ((rd_T37 (rd_L2 l0_2 a1_0) a1_2).f0), .int .i64 ((rd_T37 (rd_L2 l0_2 a1_0) a1_2).f1), .int .i64 0]) ?_ 2 _ rfl; (with_reducible repeat (first | refine blk_drewN ?_ _ | refine blk_drew ?_ | refine blk_alloc ?_ _)); refine blk_put (cs := #[.int .i64 ((rd_T37 (rd_L2 l0_2 a1_0) a1_2).f0), .int .i64 0, .int .i64 0]) ?_ 1 _ rfl; (with_reducible repeat (first | refine blk_drewN ?_ _ | refine blk_drew ?_ | refine blk_alloc ?_ _)); refine blk_put (cs := #[.int .i64 0, .int .i64 0, .int .i64 0]) ?_ 0 _ rfl; (with_reducible repeat (first | refine blk_drewN ?_ _ | refine blk_drew ?_ | refine blk_alloc ?_ _)); exact BK391.out)) : gb391 ≠ gb392)); have NB392_391 := Aside0.mk ((by rw [hg]; exact Nat.ne_of_gt (blk_lt (g := gb391) (o := .cells #[.int .i64 ((rd_T37 (rd_L2 l0_2 a1_0) a1_2).f0), .int .i64 ((rd_T37 (rd_L2 l0_2 a1_0) a1_2).f1), .int .i64 ((rd_T37 (rd_L2 l0_2 a1_0) a1_2).f2)] 37 (0, 0)) (by (with_reducible repeat (first | refine blk_drewN ?_ _ | refine blk_drew ?_ | refine blk_alloc ?_ _)); refine blk_put (cs := #[.int .i64 ((rd_T37 (rd_L2 l0_2 a1_0) a1_2).f0), .int .i64 ((rd_T37 (rd_L2 l0_2 a1_0) a1_2).f1), .int .i64 0]) ?_ 2 _ rfl; (with_reducible repeat (first | refine blk_drewN ?_ _ | refine blk_drew ?_ | refine blk_alloc ?_ _)); refine blk_put (cs := #[.int .i64 ((rd_T37 (rd_L2 l0_2 a1_0) a1_2).f0), .int .i64 0, .int .i64 0]) ?_ 1 _ rfl; (with_reducible repeat (first | refine blk_drewN ?_ _ | refine blk_drew ?_ | refine blk_alloc ?_ _)); refine blk_put (cs := #[.int .i64 0, .int .i64 0, .int .i64 0]) ?_ 0 _ rfl; (with_reducible repeat (first | refine blk_drewN ?_ _ | refine blk_drew ?_ | refine blk_alloc ?_ _)); exact BK391.out)) : gb392 ≠ gb391)); replace HO_385003 := Aside0.mk (Kd.V_below (Kd.V_elderB (by (with_reducible repeat (first | apply Kd.V_alloc | apply Kd.V_drewN | apply Kd.V_drew)); exact (Kd.V_mono (zVf3 (g := gb391) (Kd.V_mono HO_385003.out (fun k_ hk => (⟨hk, hk.2⟩ : _ ∧ k_ ≠ gb391)))) (fun _ h_ => h_.1))) gb392 (Nat.le_of_eq hg.symm)) hb); replace HO_385004 := Aside0.mk (Kd.V_below (Kd.V_elderB (by (with_reducible repeat (first | apply Kd.V_alloc | apply Kd.V_drewN | apply Kd.V_drew)); exact (Kd.V_mono (zVf3 (g := gb391) (Kd.V_mono HO_385004.out (fun k_ hk => (⟨hk, hk.2⟩ : _ ∧ k_ ≠ gb391)))) (fun _ h_ => h_.1))) gb392 (Nat.le_of_eq hg.symm)) hb); replace BK383 := Aside0.mk (blk_below (g := gb383) (o := .cells #[.int .i64 a0_0, .int .i64 a0_1, .slice (some ad389) l0_2.length c0_2] 24 (0, 0)) (zK BK383) hb); replace BK384 := Aside0.mk (blk_below (g := gb384) (o := .cells #[.int .i64 a1_0, .int .i64 a1_1, .int .i64 a1_2, .slice A1_3 l1_3.length c1_3, .slice A1_4 l1_4.length c1_4] 27 (0, 0)) (zK BK384) hb); replace BK391 := Aside0.mk (blk_below (g := gb391) (o := .cells #[.int .i64 ((rd_T37 (rd_L2 l0_2 a1_0) a1_2).f0), .int .i64 ((rd_T37 (rd_L2 l0_2 a1_0) a1_2).f1), .int .i64 ((rd_T37 (rd_L2 l0_2 a1_0) a1_2).f2)] 37 (0, 0)) (by (with_reducible repeat (first | refine blk_drewN ?_ _ | refine blk_drew ?_ | refine blk_alloc ?_ _)); refine blk_put (cs := #[.int .i64 ((rd_T37 (rd_L2 l0_2 a1_0) a1_2).f0), .int .i64 ((rd_T37 (rd_L2 l0_2 a1_0) a1_2).f1), .int .i64 0]) ?_ 2 _ rfl; (with_reducible repeat (first | refine blk_drewN ?_ _ | refine blk_drew ?_ | refine blk_alloc ?_ _)); refine blk_put (cs := #[.int .i64 ((rd_T37 (rd_L2 l0_2 a1_0) a1_2).f0), .int .i64 0, .int .i64 0]) ?_ 1 _ rfl; (with_reducible repeat (first | refine blk_drewN ?_ _ | refine blk_drew ?_ | refine blk_alloc ?_ _)); refine blk_put (cs := #[.int .i64 0, .int .i64 0, .int .i64 0]) ?_ 0 _ rfl; (with_reducible repeat (first | refine blk_drewN ?_ _ | refine blk_drew ?_ | refine blk_alloc ?_ _)); exact BK391.out) hb); replace HB := Aside0.mk (below_step (zB HB) hb); clear hb hbox hg; have hnb58 := NB392_383.out; have hnc58 := NB383_392.out; have hnb59 := NB392_384.out; have hnc59 := NB384_392.out; have hnb60 := NB392_391.out; have hnc60 := NB391_392.out; have hz61 := zc5 BK392; have hnb62 := NB391_383.out; have hnc62 := NB383_391.out; have hz63 := zc3 BK391))
        (try simp only [Act.put, zs, zs0, zs1])
        go_cut [] (fun wc => ∃ (kq : Nat) (x393003_47 : List (S62)) (x393004_47 : List (S62)) (u393003 : Value) (u393004 : Value), Aside0 (standstilllaw04_LeapLong.j1 kq (wrap64 (Int.tmod a2 1125899906842624)) a0_0 a0_1 l0_2 a1_0 a1_1 a1_2 l1_3 l1_4 ((rd_T37 (rd_L2 l0_2 a1_0) a1_2).f0) ((rd_T37 (rd_L2 l0_2 a1_0) a1_2).f1) ((rd_T37 (rd_L2 l0_2 a1_0) a1_2).f2) a1_0 a1_1 a1_2 x393003_47 x393004_47 = some r) ∧ Aside0 (kq ≤ kj3) ∧ Aside0 (Kd.V k62 62 wc w.heap.size (fun k_ => ((P1_3_ k_ ∨ P1_4_ k_) ∨ w.heap.size ≤ k_) ∧ k_ ≠ gb383 ∧ k_ ≠ gb384 ∧ k_ ≠ gb391 ∧ k_ ≠ gb392) (.slice A1_3 l1_3.length c1_3) l1_3) ∧ Aside0 (Kd.V k62 62 wc w.heap.size (fun k_ => ((P1_3_ k_ ∨ P1_4_ k_) ∨ w.heap.size ≤ k_) ∧ k_ ≠ gb383 ∧ k_ ≠ gb384 ∧ k_ ≠ gb391 ∧ k_ ≠ gb392) (.slice A1_4 l1_4.length c1_4) l1_4) ∧ Aside0 (Kd.V k62 62 wc w.heap.size (fun k_ => ((P1_3_ k_ ∨ P1_4_ k_) ∨ w.heap.size ≤ k_) ∧ k_ ≠ gb383 ∧ k_ ≠ gb384 ∧ k_ ≠ gb391 ∧ k_ ≠ gb392) u393003 x393003_47) ∧ Aside0 (Kd.V k62 62 wc w.heap.size (fun k_ => ((P1_3_ k_ ∨ P1_4_ k_) ∨ w.heap.size ≤ k_) ∧ k_ ≠ gb383 ∧ k_ ≠ gb384 ∧ k_ ≠ gb391 ∧ k_ ≠ gb392) u393004 x393004_47) ∧ Aside0 (wc.heap[gb383]? = some (.cells #[.int .i64 a0_0, .int .i64 a0_1, (.slice (some ad389) l0_2.length c0_2)] 24 (0, 0))) ∧ Aside0 (wc.heap[gb384]? = some (.cells #[.int .i64 a1_0, .int .i64 a1_1, .int .i64 a1_2, (.slice A1_3 l1_3.length c1_3), (.slice A1_4 l1_4.length c1_4)] 27 (0, 0))) ∧ Aside0 (wc.heap[gb391]? = some (.cells #[.int .i64 ((rd_T37 (rd_L2 l0_2 a1_0) a1_2).f0), .int .i64 ((rd_T37 (rd_L2 l0_2 a1_0) a1_2).f1), .int .i64 ((rd_T37 (rd_L2 l0_2 a1_0) a1_2).f2)] 37 (0, 0))) ∧ Aside0 (wc.heap[gb392]? = some (.cells #[.int .i64 a1_0, .int .i64 a1_1, .int .i64 a1_2, u393003, u393004] 27 (0, 0))) ∧ Aside0 (Below w.heap.size w wc))
        case first =>
         have H := HC48.out
         clear HC48
         by_cases c64 : ((rd_T37 (rd_L2 l0_2 a1_0) a1_2).f1) < 0
         ·
          rw [if_pos c64] at H
          have c64b0 : decide (((rd_T37 (rd_L2 l0_2 a1_0) a1_2).f1) < 0) = true := decide_eq_true c64
          clear c64
          (first | rw [c64b0] | (simp only [i64_w, i32_w]; rw [c64b0]) | skip)
          (try rw [c64b1])
          replace H := Option.bind_eq_some_iff.mp H
          obtain ⟨t393, A650, H⟩ := H
          replace H : (standstilllaw04_LeapLong.j1 kj3 (wrap64 (Int.tmod a2 1125899906842624)) a0_0 a0_1 l0_2 a1_0 a1_1 a1_2 l1_3 l1_4 ((rd_T37 (rd_L2 l0_2 a1_0) a1_2).f0) ((rd_T37 (rd_L2 l0_2 a1_0) a1_2).f1) ((rd_T37 (rd_L2 l0_2 a1_0) a1_2).f2) a1_0 a1_1 a1_2 t393 l1_4) = some r := H
          have A65 := Aside0.mk A650
          clear A650
          have H' := Aside0.mk H
          clear H
          have hnb66 := NB384_383.out
          have hnc66 := NB383_384.out
          have hnb67 := NB384_391.out
          have hnc67 := NB391_384.out
          have hnb68 := NB384_392.out
          have hnc68 := NB392_384.out
          have hz69 := zc5 BK384
          go_wp2_with (first | ((with_reducible refine gate_callee (f := 10) rfl ?_); refine goesL_ (some 60) rfl rfl Try.func10 (by kernel_rfl) rfl #[.slice A1_3 l1_3.length c1_3, .int .i64 (wrap64 (Int.tmod a2 1125899906842624))] rfl (zm) ?_; (with_reducible refine (standstilllaw04_longer.calls _ _ l1_3 (wrap64 (Int.tmod a2 1125899906842624)) t393 _ ?side1 ?side2 A65.out).mono ?_); (case side1 => refine (Kd.V_reads' (e := 62) (base := w.heap.size) (ok := fun k_ => (((((P1_3_ k_ ∨ P1_4_ k_) ∨ w.heap.size ≤ k_) ∧ (k_ ≠ gb383 ∧ k_ ≠ gb384)) ∧ k_ ≠ gb391) ∧ k_ ≠ gb392)) (n := l1_3.length) (c := c1_3) ?_).2.2; exact (by (with_reducible repeat (first | apply Kd.V_alloc | apply Kd.V_drewN | apply Kd.V_drew)); exact (Kd.V_mono (zVf5 (g := gb392) (Kd.V_mono HO_385003.out (fun k_ hk => (⟨hk, hk.2⟩ : _ ∧ k_ ≠ gb392)))) (fun _ h_ => h_.1)))); (case side2 => exact (Kd.V_reads' HO_385003.out).2.1); rintro e w70 ⟨v394, rfl, ho0, hb⟩; refine ⟨_, rfl, ?_⟩; have HO395 := Aside0.mk (Kd.R_lower (Kd.R_newM (M := fun k_ => (w.heap.size ≤ k_)) ho0 (below_size (zB HB)) (fun k_ h_ => h_)) (below_size (zB HB))); replace HO_385003 := Aside0.mk (Kd.V_elder' (by (with_reducible repeat (first | apply Kd.V_alloc | apply Kd.V_drewN | apply Kd.V_drew)); exact (Kd.V_mono (zVf5 (g := gb392) (Kd.V_mono HO_385003.out (fun k_ hk => (⟨hk, hk.2⟩ : _ ∧ k_ ≠ gb392)))) (fun _ h_ => h_.1))) (Kd.R_base ho0) hb); replace HO_385004 := Aside0.mk (Kd.V_elder' (by (with_reducible repeat (first | apply Kd.V_alloc | apply Kd.V_drewN | apply Kd.V_drew)); exact (Kd.V_mono (zVf5 (g := gb392) (Kd.V_mono HO_385004.out (fun k_ hk => (⟨hk, hk.2⟩ : _ ∧ k_ ≠ gb392)))) (fun _ h_ => h_.1))) (Kd.R_base ho0) hb); replace BK383 := Aside0.mk (blk_below (g := gb383) (o := .cells #[.int .i64 a0_0, .int .i64 a0_1, .slice (some ad389) l0_2.length c0_2] 24 (0, 0)) (zK BK383) hb); replace BK384 := Aside0.mk (blk_below (g := gb384) (o := .cells #[.int .i64 a1_0, .int .i64 a1_1, .int .i64 a1_2, .slice A1_3 l1_3.length c1_3, .slice A1_4 l1_4.length c1_4] 27 (0, 0)) (zK BK384) hb); replace BK391 := Aside0.mk (blk_below (g := gb391) (o := .cells #[.int .i64 ((rd_T37 (rd_L2 l0_2 a1_0) a1_2).f0), .int .i64 ((rd_T37 (rd_L2 l0_2 a1_0) a1_2).f1), .int .i64 ((rd_T37 (rd_L2 l0_2 a1_0) a1_2).f2)] 37 (0, 0)) (zK BK391) hb); replace BK392 := Aside0.mk (blk_below (g := gb392) (o := .cells #[.int .i64 a1_0, .int .i64 a1_1, .int .i64 a1_2, .slice A1_3 l1_3.length c1_3, .slice A1_4 l1_4.length c1_4] 27 (0, 0)) (by (with_reducible repeat (first | refine blk_drewN ?_ _ | refine blk_drew ?_ | refine blk_alloc ?_ _)); refine blk_put (cs := #[.int .i64 a1_0, .int .i64 a1_1, .int .i64 a1_2, .slice A1_3 l1_3.length c1_3, .slice none 0 0]) ?_ 4 _ rfl; (with_reducible repeat (first | refine blk_drewN ?_ _ | refine blk_drew ?_ | refine blk_alloc ?_ _)); refine blk_put (cs := #[.int .i64 a1_0, .int .i64 a1_1, .int .i64 a1_2, .slice none 0 0, .slice none 0 0]) ?_ 3 _ rfl; (with_reducible repeat (first | refine blk_drewN ?_ _ | refine blk_drew ?_ | refine blk_alloc ?_ _)); refine blk_put (cs := #[.int .i64 a1_0, .int .i64 a1_1, .int .i64 0, .slice none 0 0, .slice none 0 0]) ?_ 2 _ rfl; (with_reducible repeat (first | refine blk_drewN ?_ _ | refine blk_drew ?_ | refine blk_alloc ?_ _)); refine blk_put (cs := #[.int .i64 a1_0, .int .i64 0, .int .i64 0, .slice none 0 0, .slice none 0 0]) ?_ 1 _ rfl; (with_reducible repeat (first | refine blk_drewN ?_ _ | refine blk_drew ?_ | refine blk_alloc ?_ _)); refine blk_put (cs := #[.int .i64 0, .int .i64 0, .int .i64 0, .slice none 0 0, .slice none 0 0]) ?_ 0 _ rfl; (with_reducible repeat (first | refine blk_drewN ?_ _ | refine blk_drew ?_ | refine blk_alloc ?_ _)); exact BK392.out) hb); replace HB := Aside0.mk (below_step (zB HB) hb); (try clear hb); (try clear hb2); (try clear hk); (try clear hi); (try clear ho0); obtain ⟨Ao71, co71, eo71⟩ := Kd.R_slice HO395.out; subst eo71; have hnb72 := NB392_383.out; have hnc72 := NB383_392.out; have hnb73 := NB392_391.out; have hnc73 := NB391_392.out; have hz74 := zc5 BK392))
          go_meet
          case rel => exact ⟨_, (t393), (l1_4), (.slice Ao71 t393.length co71), (.slice A1_4 l1_4.length c1_4), H', ⟨by have := HJ3.out; first | omega | exact Nat.le_refl _⟩, ⟨by (with_reducible repeat (first | apply Kd.V_alloc | apply Kd.V_drewN | apply Kd.V_drew)); exact Kd.V_mono (Kd.V_far (p := ⟨gb392, 3, none⟩) (Kd.V_mono HO_385003.out (fun k_ hk => (⟨hk, hk.1.2⟩ : _ ∧ k_ ≠ gb392))) (fun _ hk => hk.2) (.slice Ao71 t393.length co71)) (fun _ hk => ⟨hk.1.1.1.1.1, ⟨hk.1.1.1.1.2.1, ⟨hk.1.1.1.1.2.2, ⟨hk.1.1.1.2, hk.1.1.2⟩⟩⟩⟩)⟩, ⟨by (with_reducible repeat (first | apply Kd.V_alloc | apply Kd.V_drewN | apply Kd.V_drew)); exact Kd.V_mono (Kd.V_far (p := ⟨gb392, 3, none⟩) (Kd.V_mono HO_385004.out (fun k_ hk => (⟨hk, hk.1.2⟩ : _ ∧ k_ ≠ gb392))) (fun _ hk => hk.2) (.slice Ao71 t393.length co71)) (fun _ hk => ⟨hk.1.1.1.1.1, ⟨hk.1.1.1.1.2.1, ⟨hk.1.1.1.1.2.2, ⟨hk.1.1.1.2, hk.1.1.2⟩⟩⟩⟩)⟩, ⟨Kd.V_mono (ok := (fun k_ => (w.heap.size ≤ k_) ∧ k_ ≠ gb383 ∧ k_ ≠ gb384 ∧ k_ ≠ gb391 ∧ k_ ≠ gb392)) (Kd.R_V (by (with_reducible repeat (first | apply Kd.R_alloc | apply Kd.R_drewN | apply Kd.R_drew)); exact Kd.R_mono (Kd.R_far (p := ⟨gb392, 3, none⟩) (Kd.R_types (Kd.R_types (Kd.R_types (Kd.R_types (Kd.R_types HO395.out BK383.out (by decide)) BK384.out (by decide)) BK391.out (by decide)) BK392.out (by decide)) BK392.out (by decide)) (fun _ hk => hk.2) (.slice Ao71 t393.length co71)) (fun _ hk => ⟨hk.1.1.1.1.1.1, ⟨hk.1.1.1.1.2, ⟨hk.1.1.1.2, ⟨hk.1.1.2, hk.1.2⟩⟩⟩⟩))) (fun k_ hk => by first | exact ⟨(.inr (hk.1)), hk.2⟩ | exact (.inr (hk)))⟩, ⟨by (with_reducible repeat (first | apply Kd.V_alloc | apply Kd.V_drewN | apply Kd.V_drew)); exact Kd.V_mono (Kd.V_far (p := ⟨gb392, 3, none⟩) (Kd.V_mono HO_385004.out (fun k_ hk => (⟨hk, hk.1.2⟩ : _ ∧ k_ ≠ gb392))) (fun _ hk => hk.2) (.slice Ao71 t393.length co71)) (fun _ hk => ⟨hk.1.1.1.1.1, ⟨hk.1.1.1.1.2.1, ⟨hk.1.1.1.1.2.2, ⟨hk.1.1.1.2, hk.1.1.2⟩⟩⟩⟩)⟩, ⟨zK BK383⟩, ⟨zK BK384⟩, ⟨zK BK391⟩, ⟨by (with_reducible repeat (first | refine blk_drewN ?_ _ | refine blk_drew ?_ | refine blk_alloc ?_ _)); refine blk_put (cs := #[.int .i64 a1_0, .int .i64 a1_1, .int .i64 a1_2, .slice A1_3 l1_3.length c1_3, .slice A1_4 l1_4.length c1_4]) ?_ 3 _ rfl; (with_reducible repeat (first | refine blk_drewN ?_ _ | refine blk_drew ?_ | refine blk_alloc ?_ _)); exact BK392.out⟩, ⟨zB HB⟩⟩
         ·
          rw [if_neg c64] at H
          have c64b0 : decide (((rd_T37 (rd_L2 l0_2 a1_0) a1_2).f1) < 0) = false := decide_eq_false c64
          clear c64
          (first | rw [c64b0] | (simp only [i64_w, i32_w]; rw [c64b0]) | skip)
          (try rw [c64b1])
          replace H := Option.bind_eq_some_iff.mp H
          obtain ⟨t396, A750, H⟩ := H
          replace H : (standstilllaw04_LeapLong.j1 kj3 (wrap64 (Int.tmod a2 1125899906842624)) a0_0 a0_1 l0_2 a1_0 a1_1 a1_2 l1_3 l1_4 ((rd_T37 (rd_L2 l0_2 a1_0) a1_2).f0) ((rd_T37 (rd_L2 l0_2 a1_0) a1_2).f1) ((rd_T37 (rd_L2 l0_2 a1_0) a1_2).f2) a1_0 a1_1 a1_2 l1_3 t396) = some r := H
          have A75 := Aside0.mk A750
          clear A750
          have H' := Aside0.mk H
          clear H
          have hnb76 := NB384_383.out
          have hnc76 := NB383_384.out
          have hnb77 := NB384_391.out
          have hnc77 := NB391_384.out
          have hnb78 := NB384_392.out
          have hnc78 := NB392_384.out
          have hz79 := zc5 BK384
          go_wp2_with (first | ((with_reducible refine gate_callee (f := 10) rfl ?_); refine goesL_ (some 65) rfl rfl Try.func10 (by kernel_rfl) rfl #[.slice A1_4 l1_4.length c1_4, .int .i64 (wrap64 (Int.tmod a2 1125899906842624))] rfl (zm) ?_; (with_reducible refine (standstilllaw04_longer.calls _ _ l1_4 (wrap64 (Int.tmod a2 1125899906842624)) t396 _ ?side1 ?side2 A75.out).mono ?_); (case side1 => refine (Kd.V_reads' (e := 62) (base := w.heap.size) (ok := fun k_ => (((((P1_3_ k_ ∨ P1_4_ k_) ∨ w.heap.size ≤ k_) ∧ (k_ ≠ gb383 ∧ k_ ≠ gb384)) ∧ k_ ≠ gb391) ∧ k_ ≠ gb392)) (n := l1_4.length) (c := c1_4) ?_).2.2; exact (by (with_reducible repeat (first | apply Kd.V_alloc | apply Kd.V_drewN | apply Kd.V_drew)); exact (Kd.V_mono (zVf5 (g := gb392) (Kd.V_mono HO_385004.out (fun k_ hk => (⟨hk, hk.2⟩ : _ ∧ k_ ≠ gb392)))) (fun _ h_ => h_.1)))); (case side2 => exact (Kd.V_reads' HO_385004.out).2.1); rintro e w80 ⟨v397, rfl, ho0, hb⟩; refine ⟨_, rfl, ?_⟩; have HO398 := Aside0.mk (Kd.R_lower (Kd.R_newM (M := fun k_ => (w.heap.size ≤ k_)) ho0 (below_size (zB HB)) (fun k_ h_ => h_)) (below_size (zB HB))); replace HO_385003 := Aside0.mk (Kd.V_elder' (by (with_reducible repeat (first | apply Kd.V_alloc | apply Kd.V_drewN | apply Kd.V_drew)); exact (Kd.V_mono (zVf5 (g := gb392) (Kd.V_mono HO_385003.out (fun k_ hk => (⟨hk, hk.2⟩ : _ ∧ k_ ≠ gb392)))) (fun _ h_ => h_.1))) (Kd.R_base ho0) hb); replace HO_385004 := Aside0.mk (Kd.V_elder' (by (with_reducible repeat (first | apply Kd.V_alloc | apply Kd.V_drewN | apply Kd.V_drew)); exact (Kd.V_mono (zVf5 (g := gb392) (Kd.V_mono HO_385004.out (fun k_ hk => (⟨hk, hk.2⟩ : _ ∧ k_ ≠ gb392)))) (fun _ h_ => h_.1))) (Kd.R_base ho0) hb); replace BK383 := Aside0.mk (blk_below (g := gb383) (o := .cells #[.int .i64 a0_0, .int .i64 a0_1, .slice (some ad389) l0_2.length c0_2] 24 (0, 0)) (zK BK383) hb); replace BK384 := Aside0.mk (blk_below (g := gb384) (o := .cells #[.int .i64 a1_0, .int .i64 a1_1, .int .i64 a1_2, .slice A1_3 l1_3.length c1_3, .slice A1_4 l1_4.length c1_4] 27 (0, 0)) (zK BK384) hb); replace BK391 := Aside0.mk (blk_below (g := gb391) (o := .cells #[.int .i64 ((rd_T37 (rd_L2 l0_2 a1_0) a1_2).f0), .int .i64 ((rd_T37 (rd_L2 l0_2 a1_0) a1_2).f1), .int .i64 ((rd_T37 (rd_L2 l0_2 a1_0) a1_2).f2)] 37 (0, 0)) (zK BK391) hb); replace BK392 := Aside0.mk (blk_below (g := gb392) (o := .cells #[.int .i64 a1_0, .int .i64 a1_1, .int .i64 a1_2, .slice A1_3 l1_3.length c1_3, .slice A1_4 l1_4.length c1_4] 27 (0, 0)) (by (with_reducible repeat (first | refine blk_drewN ?_ _ | refine blk_drew ?_ | refine blk_alloc ?_ _)); refine blk_put (cs := #[.int .i64 a1_0, .int .i64 a1_1, .int .i64 a1_2, .slice A1_3 l1_3.length c1_3, .slice none 0 0]) ?_ 4 _ rfl; (with_reducible repeat (first | refine blk_drewN ?_ _ | refine blk_drew ?_ | refine blk_alloc ?_ _)); refine blk_put (cs := #[.int .i64 a1_0, .int .i64 a1_1, .int .i64 a1_2, .slice none 0 0, .slice none 0 0]) ?_ 3 _ rfl; (with_reducible repeat (first | refine blk_drewN ?_ _ | refine blk_drew ?_ | refine blk_alloc ?_ _)); refine blk_put (cs := #[.int .i64 a1_0, .int .i64 a1_1, .int .i64 0, .slice none 0 0, .slice none 0 0]) ?_ 2 _ rfl; (with_reducible repeat (first | refine blk_drewN ?_ _ | refine blk_drew ?_ | refine blk_alloc ?_ _)); refine blk_put (cs := #[.int .i64 a1_0, .int .i64 0, .int .i64 0, .slice none 0 0, .slice none 0 0]) ?_ 1 _ rfl; (with_reducible repeat (first | refine blk_drewN ?_ _ | refine blk_drew ?_ | refine blk_alloc ?_ _)); refine blk_put (cs := #[.int .i64 0, .int .i64 0, .int .i64 0, .slice none 0 0, .slice none 0 0]) ?_ 0 _ rfl; (with_reducible repeat (first | refine blk_drewN ?_ _ | refine blk_drew ?_ | refine blk_alloc ?_ _)); exact BK392.out) hb); replace HB := Aside0.mk (below_step (zB HB) hb); (try clear hb); (try clear hb2); (try clear hk); (try clear hi); (try clear ho0); obtain ⟨Ao81, co81, eo81⟩ := Kd.R_slice HO398.out; subst eo81; have hnb82 := NB392_383.out; have hnc82 := NB383_392.out; have hnb83 := NB392_391.out; have hnc83 := NB391_392.out; have hz84 := zc5 BK392))
          go_meet
          case rel => exact ⟨_, (l1_3), (t396), (.slice A1_3 l1_3.length c1_3), (.slice Ao81 t396.length co81), H', ⟨by have := HJ3.out; first | omega | exact Nat.le_refl _⟩, ⟨by (with_reducible repeat (first | apply Kd.V_alloc | apply Kd.V_drewN | apply Kd.V_drew)); exact Kd.V_mono (Kd.V_far (p := ⟨gb392, 4, none⟩) (Kd.V_mono HO_385003.out (fun k_ hk => (⟨hk, hk.1.2⟩ : _ ∧ k_ ≠ gb392))) (fun _ hk => hk.2) (.slice Ao81 t396.length co81)) (fun _ hk => ⟨hk.1.1.1.1.1, ⟨hk.1.1.1.1.2.1, ⟨hk.1.1.1.1.2.2, ⟨hk.1.1.1.2, hk.1.1.2⟩⟩⟩⟩)⟩, ⟨by (with_reducible repeat (first | apply Kd.V_alloc | apply Kd.V_drewN | apply Kd.V_drew)); exact Kd.V_mono (Kd.V_far (p := ⟨gb392, 4, none⟩) (Kd.V_mono HO_385004.out (fun k_ hk => (⟨hk, hk.1.2⟩ : _ ∧ k_ ≠ gb392))) (fun _ hk => hk.2) (.slice Ao81 t396.length co81)) (fun _ hk => ⟨hk.1.1.1.1.1, ⟨hk.1.1.1.1.2.1, ⟨hk.1.1.1.1.2.2, ⟨hk.1.1.1.2, hk.1.1.2⟩⟩⟩⟩)⟩, ⟨by (with_reducible repeat (first | apply Kd.V_alloc | apply Kd.V_drewN | apply Kd.V_drew)); exact Kd.V_mono (Kd.V_far (p := ⟨gb392, 4, none⟩) (Kd.V_mono HO_385003.out (fun k_ hk => (⟨hk, hk.1.2⟩ : _ ∧ k_ ≠ gb392))) (fun _ hk => hk.2) (.slice Ao81 t396.length co81)) (fun _ hk => ⟨hk.1.1.1.1.1, ⟨hk.1.1.1.1.2.1, ⟨hk.1.1.1.1.2.2, ⟨hk.1.1.1.2, hk.1.1.2⟩⟩⟩⟩)⟩, ⟨Kd.V_mono (ok := (fun k_ => (w.heap.size ≤ k_) ∧ k_ ≠ gb383 ∧ k_ ≠ gb384 ∧ k_ ≠ gb391 ∧ k_ ≠ gb392)) (Kd.R_V (by (with_reducible repeat (first | apply Kd.R_alloc | apply Kd.R_drewN | apply Kd.R_drew)); exact Kd.R_mono (Kd.R_far (p := ⟨gb392, 4, none⟩) (Kd.R_types (Kd.R_types (Kd.R_types (Kd.R_types (Kd.R_types HO398.out BK383.out (by decide)) BK384.out (by decide)) BK391.out (by decide)) BK392.out (by decide)) BK392.out (by decide)) (fun _ hk => hk.2) (.slice Ao81 t396.length co81)) (fun _ hk => ⟨hk.1.1.1.1.1.1, ⟨hk.1.1.1.1.2, ⟨hk.1.1.1.2, ⟨hk.1.1.2, hk.1.2⟩⟩⟩⟩))) (fun k_ hk => by first | exact ⟨(.inr (hk.1)), hk.2⟩ | exact (.inr (hk)))⟩, ⟨zK BK383⟩, ⟨zK BK384⟩, ⟨zK BK391⟩, ⟨by (with_reducible repeat (first | refine blk_drewN ?_ _ | refine blk_drew ?_ | refine blk_alloc ?_ _)); refine blk_put (cs := #[.int .i64 a1_0, .int .i64 a1_1, .int .i64 a1_2, .slice A1_3 l1_3.length c1_3, .slice A1_4 l1_4.length c1_4]) ?_ 4 _ rfl; (with_reducible repeat (first | refine blk_drewN ?_ _ | refine blk_drew ?_ | refine blk_alloc ?_ _)); exact BK392.out⟩, ⟨zB HB⟩⟩
        case rest =>
         clear HC48
         try clear c1
         try clear c2
         try clear p2
         try clear c3
         try clear p3
         try clear q3
         try clear hx3
         try clear c4
         try clear c5
         try clear c6
         try clear p6
         try clear c7
         try clear c8
         try clear c9
         try clear c10
         try clear c14
         try clear c15
         try clear c15b0
         try clear c15b1
         try clear c16
         try clear c25
         try clear c34
         try clear c38
         try clear p38
         try clear q38
         try clear hx38
         try clear p39
         try clear q39
         try clear hx39
         try clear c41
         try clear c44
         try clear c44b0
         try clear c45
         try clear c45b0
         try clear c46
         try clear c46b0
         try clear c47
         try clear c47b0
         try clear c54
         try clear c55
         try clear c58
         try clear c59
         try clear c60
         try clear c62
         try clear c64
         try clear c64b0
         try clear c64b1
         try clear p64
         try clear c66
         try clear c67
         try clear c68
         try clear c72
         try clear c73
         try clear c76
         try clear c77
         try clear c78
         try clear c82
         try clear c83
         try clear hz10
         try clear hz11
         try clear hz17
         try clear hz18
         try clear hz20
         try clear hz21
         try clear hz23
         try clear hz26
         try clear hz27
         try clear hz29
         try clear hz30
         try clear hz32
         try clear hz35
         try clear hz36
         try clear hz38
         try clear hz39
         try clear hz56
         try clear hz61
         try clear hz63
         try clear hz69
         try clear hz74
         try clear hz79
         try clear hz84
         try clear hx389_0
         try clear hx390_0
         try clear hx390_1
         try clear hx390_2
         try clear p2
         try clear p389
         try clear p390
         try clear q389
         try clear q390
         obtain ⟨kq, x393003_47, x393004_47, u393003, u393004, HA, HJ47, HO_385003, HO_385004, HO_393003, HO_393004, BK383, BK384, BK391, BK392, HB⟩ := hcut
         cases kq with
         | zero => exact absurd HA.out (by simp [standstilllaw04_LeapLong.j1])
         | succ kj47 =>
          have H := HA.out
          clear HA
          simp only [standstilllaw04_LeapLong.j1] at H
          replace H := Option.bind_eq_some_iff.mp H
          obtain ⟨⟨t399, t400, t401, t402, t405, t408, t409, t410⟩, A850, H⟩ := H
          replace H : ((leap_Leap.f kj47 a0_0 a0_1 l0_2 a1_0 a1_1 a1_2 x393003_47 x393004_47).bind fun bt412 => (if t410 = 0 then (if bt412.2.2.2.2.2.2.2 = 0 then (if t409 = true then (standstilllaw04_LeapLong.j2 kj47 (wrap64 (Int.tmod a2 1125899906842624)) t408 t409 t410 bt412.2.2.2.2.2.1 bt412.2.2.2.2.2.2.1 bt412.2.2.2.2.2.2.2 true ((rd_T37 (rd_L2 l0_2 a1_0) a1_2).f0) ((rd_T37 (rd_L2 l0_2 a1_0) a1_2).f1) ((rd_T37 (rd_L2 l0_2 a1_0) a1_2).f2) t399 t400 t401 t402 t405 bt412.1 bt412.2.1 bt412.2.2.1 bt412.2.2.2.1 bt412.2.2.2.2.1) else (standstilllaw04_LeapLong.j2 kj47 (wrap64 (Int.tmod a2 1125899906842624)) t408 t409 t410 bt412.2.2.2.2.2.1 bt412.2.2.2.2.2.2.1 bt412.2.2.2.2.2.2.2 (decide (t408 < 2)) ((rd_T37 (rd_L2 l0_2 a1_0) a1_2).f0) ((rd_T37 (rd_L2 l0_2 a1_0) a1_2).f1) ((rd_T37 (rd_L2 l0_2 a1_0) a1_2).f2) t399 t400 t401 t402 t405 bt412.1 bt412.2.1 bt412.2.2.1 bt412.2.2.2.1 bt412.2.2.2.2.1)) else (standstilllaw04_LeapLong.j2 kj47 (wrap64 (Int.tmod a2 1125899906842624)) t408 t409 t410 bt412.2.2.2.2.2.1 bt412.2.2.2.2.2.2.1 bt412.2.2.2.2.2.2.2 true ((rd_T37 (rd_L2 l0_2 a1_0) a1_2).f0) ((rd_T37 (rd_L2 l0_2 a1_0) a1_2).f1) ((rd_T37 (rd_L2 l0_2 a1_0) a1_2).f2) t399 t400 t401 t402 t405 bt412.1 bt412.2.1 bt412.2.2.1 bt412.2.2.2.1 bt412.2.2.2.2.1)) else (standstilllaw04_LeapLong.j2 kj47 (wrap64 (Int.tmod a2 1125899906842624)) t408 t409 t410 bt412.2.2.2.2.2.1 bt412.2.2.2.2.2.2.1 bt412.2.2.2.2.2.2.2 true ((rd_T37 (rd_L2 l0_2 a1_0) a1_2).f0) ((rd_T37 (rd_L2 l0_2 a1_0) a1_2).f1) ((rd_T37 (rd_L2 l0_2 a1_0) a1_2).f2) t399 t400 t401 t402 t405 bt412.1 bt412.2.1 bt412.2.2.1 bt412.2.2.2.1 bt412.2.2.2.2.1))) = some r := H
          have A85 := Aside0.mk A850
          clear A850
          replace H := Option.bind_eq_some_iff.mp H
          obtain ⟨⟨t412, t413, t414, t415, t418, t421, t422, t423⟩, A860, H⟩ := H
          replace H : (if t410 = 0 then (if t423 = 0 then (if t409 = true then (standstilllaw04_LeapLong.j2 kj47 (wrap64 (Int.tmod a2 1125899906842624)) t408 t409 t410 t421 t422 t423 true ((rd_T37 (rd_L2 l0_2 a1_0) a1_2).f0) ((rd_T37 (rd_L2 l0_2 a1_0) a1_2).f1) ((rd_T37 (rd_L2 l0_2 a1_0) a1_2).f2) t399 t400 t401 t402 t405 t412 t413 t414 t415 t418) else (standstilllaw04_LeapLong.j2 kj47 (wrap64 (Int.tmod a2 1125899906842624)) t408 t409 t410 t421 t422 t423 (decide (t408 < 2)) ((rd_T37 (rd_L2 l0_2 a1_0) a1_2).f0) ((rd_T37 (rd_L2 l0_2 a1_0) a1_2).f1) ((rd_T37 (rd_L2 l0_2 a1_0) a1_2).f2) t399 t400 t401 t402 t405 t412 t413 t414 t415 t418)) else (standstilllaw04_LeapLong.j2 kj47 (wrap64 (Int.tmod a2 1125899906842624)) t408 t409 t410 t421 t422 t423 true ((rd_T37 (rd_L2 l0_2 a1_0) a1_2).f0) ((rd_T37 (rd_L2 l0_2 a1_0) a1_2).f1) ((rd_T37 (rd_L2 l0_2 a1_0) a1_2).f2) t399 t400 t401 t402 t405 t412 t413 t414 t415 t418)) else (standstilllaw04_LeapLong.j2 kj47 (wrap64 (Int.tmod a2 1125899906842624)) t408 t409 t410 t421 t422 t423 true ((rd_T37 (rd_L2 l0_2 a1_0) a1_2).f0) ((rd_T37 (rd_L2 l0_2 a1_0) a1_2).f1) ((rd_T37 (rd_L2 l0_2 a1_0) a1_2).f2) t399 t400 t401 t402 t405 t412 t413 t414 t415 t418)) = some r := H
          have A86 := Aside0.mk A860
          clear A860
          have HC87 := Aside0.mk H
          clear H
          have hnb88 := NB383_384.out
          have hnc88 := NB384_383.out
          have hnb89 := NB383_391.out
          have hnc89 := NB391_383.out
          have hnb90 := NB383_392.out
          have hnc90 := NB392_383.out
          have hz91 := zc3 BK383
          have hnb92 := NB384_391.out
          have hnc92 := NB391_384.out
          have hnb93 := NB384_392.out
          have hnc93 := NB392_384.out
          have hz94 := zc5 BK384
          go_upto_region 11 with (first | ((with_reducible refine gate_callee (f := 11) rfl ?_); refine goesL_ (some 70) rfl rfl Try.func11 (by kernel_rfl) rfl #[.agg #[.int .i64 a0_0, .int .i64 a0_1, .slice (some ad389) l0_2.length c0_2], .agg #[.int .i64 a1_0, .int .i64 a1_1, .int .i64 a1_2, .slice A1_3 l1_3.length c1_3, .slice A1_4 l1_4.length c1_4]] rfl (zm) ?_; (with_reducible refine (leap_Leap.calls kj47 a0_0 a0_1 _ _ l0_2 a1_0 a1_1 a1_2 (fun k_ => (((P1_3_ k_ ∨ P1_4_ k_) ∨ w.heap.size ≤ k_) ∧ (k_ ≠ gb383 ∧ (k_ ≠ gb384 ∧ (k_ ≠ gb391 ∧ k_ ≠ gb392))))) _ _ l1_3 (fun k_ => (((P1_3_ k_ ∨ P1_4_ k_) ∨ w.heap.size ≤ k_) ∧ (k_ ≠ gb383 ∧ (k_ ≠ gb384 ∧ (k_ ≠ gb391 ∧ k_ ≠ gb392))))) _ _ l1_4 t399 t400 t401 t402 t405 t408 t409 t410 _ ?side1 ?side2 ?side3 ?side4 A85.out).mono ?_); (case side1 => exact zC ((Kd.C_below HR0_2.out HB.out))); (case side2 => exact HC0_2.out); (case side3 => exact HO_385003.out); (case side4 => exact HO_385004.out); rintro e w95 ⟨v403, v406, rfl, ho0, ho1, hb⟩; refine ⟨_, rfl, ?_⟩; have HO404 := Aside0.mk (Kd.V_lower (Kd.V_mono (ok' := fun k_ => ((P1_3_ k_ ∨ P1_4_ k_) ∨ w.heap.size ≤ k_) ∧ k_ ≠ gb383 ∧ k_ ≠ gb384 ∧ k_ ≠ gb391 ∧ k_ ≠ gb392) ho0 (fun k_ hk_ => ⟨Or.elim hk_ (fun hs_ => Or.elim hs_ (fun hs_ => hs_.1) (fun hs_ => hs_.1)) (fun hn_ => (.inr (Nat.le_trans (below_size (zB HB)) hn_))), Or.elim hk_ (fun hs_ => Or.elim hs_ (fun hs_ => hs_.2.1) (fun hs_ => hs_.2.1)) (fun hn_ => zf BK383 hn_), Or.elim hk_ (fun hs_ => Or.elim hs_ (fun hs_ => hs_.2.2.1) (fun hs_ => hs_.2.2.1)) (fun hn_ => zf BK384 hn_), Or.elim hk_ (fun hs_ => Or.elim hs_ (fun hs_ => hs_.2.2.2.1) (fun hs_ => hs_.2.2.2.1)) (fun hn_ => zf BK391 hn_), Or.elim hk_ (fun hs_ => Or.elim hs_ (fun hs_ => hs_.2.2.2.2) (fun hs_ => hs_.2.2.2.2)) (fun hn_ => zf BK392 hn_)⟩)) (below_size (zB HB))); have HO407 := Aside0.mk (Kd.V_lower (Kd.V_mono (ok' := fun k_ => ((P1_3_ k_ ∨ P1_4_ k_) ∨ w.heap.size ≤ k_) ∧ k_ ≠ gb383 ∧ k_ ≠ gb384 ∧ k_ ≠ gb391 ∧ k_ ≠ gb392) ho1 (fun k_ hk_ => ⟨Or.elim hk_ (fun hs_ => Or.elim hs_ (fun hs_ => hs_.1) (fun hs_ => hs_.1)) (fun hn_ => (.inr (Nat.le_trans (below_size (zB HB)) hn_))), Or.elim hk_ (fun hs_ => Or.elim hs_ (fun hs_ => hs_.2.1) (fun hs_ => hs_.2.1)) (fun hn_ => zf BK383 hn_), Or.elim hk_ (fun hs_ => Or.elim hs_ (fun hs_ => hs_.2.2.1) (fun hs_ => hs_.2.2.1)) (fun hn_ => zf BK384 hn_), Or.elim hk_ (fun hs_ => Or.elim hs_ (fun hs_ => hs_.2.2.2.1) (fun hs_ => hs_.2.2.2.1)) (fun hn_ => zf BK391 hn_), Or.elim hk_ (fun hs_ => Or.elim hs_ (fun hs_ => hs_.2.2.2.2) (fun hs_ => hs_.2.2.2.2)) (fun hn_ => zf BK392 hn_)⟩)) (below_size (zB HB))); replace HO_385003 := Aside0.mk (zVb HO_385003 hb); replace HO_385004 := Aside0.mk (zVb HO_385004 hb); replace HO_393003 := Aside0.mk (zVb HO_393003 hb); replace HO_393004 := Aside0.mk (zVb HO_393004 hb); replace BK383 := Aside0.mk (zb BK383 hb); replace BK384 := Aside0.mk (zb BK384 hb); replace BK391 := Aside0.mk (zb BK391 hb); replace BK392 := Aside0.mk (zb BK392 hb); replace HB := Aside0.mk (below_step (zB HB) hb); (try clear hb); (try clear hb2); (try clear hk); (try clear hi); (try clear ho0); (try clear ho1)) | ((with_reducible refine gate_dst (N := 10) rfl ?_); refine box_event ?hg (N := 10) ?hd (cs := #[.int .i64 0, .int .i64 0, .int .i64 0, .slice none 0 0, .slice none 0 0]) (t := 27) ?hr ?_; (case hd => rfl); (case hg => rfl); (case hr => first | (go_simp; done) | (go_simp; rfl)); intro gb411 hg w96 hbox hb; have BK411 := Aside0.mk (hbox); have GW411 := Aside0.mk ((by rw [hg]; exact (below_size (zB HB)) : w.heap.size ≤ gb411)); have GE411 := Aside0.mk ((by rw [hg]; exact (below_size (zB HB)) : w.heap.size ≤ gb411)); have NB383_411 := Aside0.mk ((by rw [hg]; exact Nat.ne_of_lt (zL BK383) : gb383 ≠ gb411)); have NB411_383 := Aside0.mk ((by rw [hg]; exact Nat.ne_of_gt (zL BK383) : gb411 ≠ gb383)); have NB384_411 := Aside0.mk ((by rw [hg]; exact Nat.ne_of_lt (zL BK384) : gb384 ≠ gb411)); have NB411_384 := Aside0.mk ((by rw [hg]; exact Nat.ne_of_gt (zL BK384) : gb411 ≠ gb384)); have NB391_411 := Aside0.mk ((by rw [hg]; exact Nat.ne_of_lt (zL BK391) : gb391 ≠ gb411)); have NB411_391 := Aside0.mk ((by rw [hg]; exact Nat.ne_of_gt (zL BK391) : gb411 ≠ gb391)); have NB392_411 := Aside0.mk ((by rw [hg]; exact Nat.ne_of_lt (zL BK392) : gb392 ≠ gb411)); have NB411_392 := Aside0.mk ((by rw [hg]; exact Nat.ne_of_gt (zL BK392) : gb411 ≠ gb392)); replace HO_385003 := Aside0.mk (Kd.V_below (Kd.V_elderB (zV HO_385003) gb411 (Nat.le_of_eq hg.symm)) hb); replace HO_385004 := Aside0.mk (Kd.V_below (Kd.V_elderB (zV HO_385004) gb411 (Nat.le_of_eq hg.symm)) hb); replace HO_393003 := Aside0.mk (Kd.V_below (Kd.V_elderB (zV HO_393003) gb411 (Nat.le_of_eq hg.symm)) hb); replace HO_393004 := Aside0.mk (Kd.V_below (Kd.V_elderB (zV HO_393004) gb411 (Nat.le_of_eq hg.symm)) hb); replace HO404 := Aside0.mk (Kd.V_below (Kd.V_elderB (zV HO404) gb411 (Nat.le_of_eq hg.symm)) hb); replace HO407 := Aside0.mk (Kd.V_below (Kd.V_elderB (zV HO407) gb411 (Nat.le_of_eq hg.symm)) hb); replace BK383 := Aside0.mk (zb BK383 hb); replace BK384 := Aside0.mk (zb BK384 hb); replace BK391 := Aside0.mk (zb BK391 hb); replace BK392 := Aside0.mk (zb BK392 hb); replace HB := Aside0.mk (below_step (zB HB) hb); clear hb hbox hg; have hnb97 := NB411_383.out; have hnc97 := NB383_411.out; have hnb98 := NB411_384.out; have hnc98 := NB384_411.out; have hnb99 := NB411_391.out; have hnc99 := NB391_411.out; have hnb100 := NB411_392.out; have hnc100 := NB392_411.out; have hz101 := zc5 BK411; obtain ⟨Ao102, co102, eo102⟩ := Kd.V_slice HO404.out; subst eo102; obtain ⟨Ao103, co103, eo103⟩ := Kd.V_slice HO407.out; subst eo103) | ((with_reducible refine gate_store (t := 27) (p := 10) rfl ?_); refine store_event (t := 27) (p := 10) (v := ?vo_w104) (w1 := (((((w96.setCell ⟨gb411, 0, none⟩ (.int .i64 t399)).setCell ⟨gb411, 1, none⟩ (.int .i64 t400)).setCell ⟨gb411, 2, none⟩ (.int .i64 t401)).setCell ⟨gb411, 3, none⟩ (.slice Ao102 t402.length co102)).setCell ⟨gb411, 4, none⟩ (.slice Ao103 t405.length co103))) ?hg ?ho ?hn ?hr ?_; (case ho => rfl); (case hg => rfl); (case hn => rfl); (case hr => first | (go_simp; done) | (go_simp; rfl)); intro w104 hw; have n0_ : Aside0 (Kd.V k62 62 w104 w.heap.size (fun k_ => ((P1_3_ k_ ∨ P1_4_ k_) ∨ w.heap.size ≤ k_) ∧ k_ ≠ gb383 ∧ k_ ≠ gb384 ∧ k_ ≠ gb391 ∧ k_ ≠ gb392 ∧ k_ ≠ gb411) (.slice A1_3 l1_3.length c1_3) l1_3) := ⟨(by rw [hw]; exact (by (with_reducible repeat (first | apply Kd.V_alloc | apply Kd.V_drewN | apply Kd.V_drew)); exact Kd.V_mono (zVf5 (g := gb411) (Kd.V_mono HO_385003.out (fun k_ hk => (⟨hk, hk.2⟩ : _ ∧ k_ ≠ gb411)))) (fun _ hk => ⟨hk.1.1.1, ⟨hk.1.1.2.1, ⟨hk.1.1.2.2.1, ⟨hk.1.1.2.2.2.1, ⟨hk.1.1.2.2.2.2, hk.1.2⟩⟩⟩⟩⟩)))⟩; have n1_ : Aside0 (Kd.V k62 62 w104 w.heap.size (fun k_ => ((P1_3_ k_ ∨ P1_4_ k_) ∨ w.heap.size ≤ k_) ∧ k_ ≠ gb383 ∧ k_ ≠ gb384 ∧ k_ ≠ gb391 ∧ k_ ≠ gb392 ∧ k_ ≠ gb411) (.slice A1_4 l1_4.length c1_4) l1_4) := ⟨(by rw [hw]; exact (by (with_reducible repeat (first | apply Kd.V_alloc | apply Kd.V_drewN | apply Kd.V_drew)); exact Kd.V_mono (zVf5 (g := gb411) (Kd.V_mono HO_385004.out (fun k_ hk => (⟨hk, hk.2⟩ : _ ∧ k_ ≠ gb411)))) (fun _ hk => ⟨hk.1.1.1, ⟨hk.1.1.2.1, ⟨hk.1.1.2.2.1, ⟨hk.1.1.2.2.2.1, ⟨hk.1.1.2.2.2.2, hk.1.2⟩⟩⟩⟩⟩)))⟩; have n2_ : Aside0 (Kd.V k62 62 w104 w.heap.size (fun k_ => ((P1_3_ k_ ∨ P1_4_ k_) ∨ w.heap.size ≤ k_) ∧ k_ ≠ gb383 ∧ k_ ≠ gb384 ∧ k_ ≠ gb391 ∧ k_ ≠ gb392 ∧ k_ ≠ gb411) u393003 x393003_47) := ⟨(by rw [hw]; exact (by (with_reducible repeat (first | apply Kd.V_alloc | apply Kd.V_drewN | apply Kd.V_drew)); exact Kd.V_mono (zVf5 (g := gb411) (Kd.V_mono HO_393003.out (fun k_ hk => (⟨hk, hk.2⟩ : _ ∧ k_ ≠ gb411)))) (fun _ hk => ⟨hk.1.1.1, ⟨hk.1.1.2.1, ⟨hk.1.1.2.2.1, ⟨hk.1.1.2.2.2.1, ⟨hk.1.1.2.2.2.2, hk.1.2⟩⟩⟩⟩⟩)))⟩; have n3_ : Aside0 (Kd.V k62 62 w104 w.heap.size (fun k_ => ((P1_3_ k_ ∨ P1_4_ k_) ∨ w.heap.size ≤ k_) ∧ k_ ≠ gb383 ∧ k_ ≠ gb384 ∧ k_ ≠ gb391 ∧ k_ ≠ gb392 ∧ k_ ≠ gb411) u393004 x393004_47) := ⟨(by rw [hw]; exact (by (with_reducible repeat (first | apply Kd.V_alloc | apply Kd.V_drewN | apply Kd.V_drew)); exact Kd.V_mono (zVf5 (g := gb411) (Kd.V_mono HO_393004.out (fun k_ hk => (⟨hk, hk.2⟩ : _ ∧ k_ ≠ gb411)))) (fun _ hk => ⟨hk.1.1.1, ⟨hk.1.1.2.1, ⟨hk.1.1.2.2.1, ⟨hk.1.1.2.2.2.1, ⟨hk.1.1.2.2.2.2, hk.1.2⟩⟩⟩⟩⟩)))⟩; have n4_ : Aside0 (Kd.V k62 62 w104 w.heap.size (fun k_ => ((P1_3_ k_ ∨ P1_4_ k_) ∨ w.heap.size ≤ k_) ∧ k_ ≠ gb383 ∧ k_ ≠ gb384 ∧ k_ ≠ gb391 ∧ k_ ≠ gb392 ∧ k_ ≠ gb411) (.slice Ao102 t402.length co102) t402) := ⟨(by rw [hw]; exact (by (with_reducible repeat (first | apply Kd.V_alloc | apply Kd.V_drewN | apply Kd.V_drew)); exact Kd.V_mono (zVf5 (g := gb411) (Kd.V_mono HO404.out (fun k_ hk => (⟨hk, hk.2⟩ : _ ∧ k_ ≠ gb411)))) (fun _ hk => ⟨hk.1.1.1, ⟨hk.1.1.2.1, ⟨hk.1.1.2.2.1, ⟨hk.1.1.2.2.2.1, ⟨hk.1.1.2.2.2.2, hk.1.2⟩⟩⟩⟩⟩)))⟩; have n5_ : Aside0 (Kd.V k62 62 w104 w.heap.size (fun k_ => ((P1_3_ k_ ∨ P1_4_ k_) ∨ w.heap.size ≤ k_) ∧ k_ ≠ gb383 ∧ k_ ≠ gb384 ∧ k_ ≠ gb391 ∧ k_ ≠ gb392 ∧ k_ ≠ gb411) (.slice Ao103 t405.length co103) t405) := ⟨(by rw [hw]; exact (by (with_reducible repeat (first | apply Kd.V_alloc | apply Kd.V_drewN | apply Kd.V_drew)); exact Kd.V_mono (zVf5 (g := gb411) (Kd.V_mono HO407.out (fun k_ hk => (⟨hk, hk.2⟩ : _ ∧ k_ ≠ gb411)))) (fun _ hk => ⟨hk.1.1.1, ⟨hk.1.1.2.1, ⟨hk.1.1.2.2.1, ⟨hk.1.1.2.2.2.1, ⟨hk.1.1.2.2.2.2, hk.1.2⟩⟩⟩⟩⟩)))⟩; have n6_ : Aside0 (w104.heap[gb383]? = some (.cells #[.int .i64 a0_0, .int .i64 a0_1, .slice (some ad389) l0_2.length c0_2] 24 (0, 0))) := ⟨(by rw [hw]; exact (zK BK383))⟩; have n7_ : Aside0 (w104.heap[gb384]? = some (.cells #[.int .i64 a1_0, .int .i64 a1_1, .int .i64 a1_2, .slice A1_3 l1_3.length c1_3, .slice A1_4 l1_4.length c1_4] 27 (0, 0))) := ⟨(by rw [hw]; exact (zK BK384))⟩; have n8_ : Aside0 (w104.heap[gb391]? = some (.cells #[.int .i64 ((rd_T37 (rd_L2 l0_2 a1_0) a1_2).f0), .int .i64 ((rd_T37 (rd_L2 l0_2 a1_0) a1_2).f1), .int .i64 ((rd_T37 (rd_L2 l0_2 a1_0) a1_2).f2)] 37 (0, 0))) := ⟨(by rw [hw]; exact (zK BK391))⟩; have n9_ : Aside0 (w104.heap[gb392]? = some (.cells #[.int .i64 a1_0, .int .i64 a1_1, .int .i64 a1_2, u393003, u393004] 27 (0, 0))) := ⟨(by rw [hw]; exact (zK BK392))⟩; have n10_ : Aside0 (w104.heap[gb411]? = some (.cells #[.int .i64 t399, .int .i64 t400, .int .i64 t401, .slice Ao102 t402.length co102, .slice Ao103 t405.length co103] 27 (0, 0))) := ⟨(by rw [hw]; exact (by (with_reducible repeat (first | refine blk_drewN ?_ _ | refine blk_drew ?_ | refine blk_alloc ?_ _)); refine blk_put (cs := #[.int .i64 t399, .int .i64 t400, .int .i64 t401, .slice Ao102 t402.length co102, .slice none 0 0]) ?_ 4 _ rfl; (with_reducible repeat (first | refine blk_drewN ?_ _ | refine blk_drew ?_ | refine blk_alloc ?_ _)); refine blk_put (cs := #[.int .i64 t399, .int .i64 t400, .int .i64 t401, .slice none 0 0, .slice none 0 0]) ?_ 3 _ rfl; (with_reducible repeat (first | refine blk_drewN ?_ _ | refine blk_drew ?_ | refine blk_alloc ?_ _)); refine blk_put (cs := #[.int .i64 t399, .int .i64 t400, .int .i64 0, .slice none 0 0, .slice none 0 0]) ?_ 2 _ rfl; (with_reducible repeat (first | refine blk_drewN ?_ _ | refine blk_drew ?_ | refine blk_alloc ?_ _)); refine blk_put (cs := #[.int .i64 t399, .int .i64 0, .int .i64 0, .slice none 0 0, .slice none 0 0]) ?_ 1 _ rfl; (with_reducible repeat (first | refine blk_drewN ?_ _ | refine blk_drew ?_ | refine blk_alloc ?_ _)); refine blk_put (cs := #[.int .i64 0, .int .i64 0, .int .i64 0, .slice none 0 0, .slice none 0 0]) ?_ 0 _ rfl; (with_reducible repeat (first | refine blk_drewN ?_ _ | refine blk_drew ?_ | refine blk_alloc ?_ _)); exact BK411.out))⟩; have n11_ : Aside0 (Below w.heap.size w w104) := ⟨(by rw [hw]; exact (zB HB))⟩; clear hw; clear HO_385003; clear HO_385004; clear HO_393003; clear HO_393004; clear HO404; clear HO407; clear BK383; clear BK384; clear BK391; clear BK392; clear BK411; clear HB; have HO_385003 := n0_; have HO_385004 := n1_; have HO_393003 := n2_; have HO_393004 := n3_; have HO404 := n4_; have HO407 := n5_; have BK383 := n6_; have BK384 := n7_; have BK391 := n8_; have BK392 := n9_; have BK411 := n10_; have HB := n11_; clear n0_ n1_ n2_ n3_ n4_ n5_ n6_ n7_ n8_ n9_ n10_ n11_; have hz105 := zc3 BK383; have hnb106 := NB392_391.out; have hnc106 := NB391_392.out; have hz107 := zc5 BK392; obtain ⟨Ao108, co108, eo108⟩ := Kd.V_slice HO_393003.out; subst eo108; obtain ⟨Ao109, co109, eo109⟩ := Kd.V_slice HO_393004.out; subst eo109) | ((with_reducible refine gate_callee (f := 11) rfl ?_); refine goesL_ (some 78) rfl rfl Try.func11 (by kernel_rfl) rfl #[.agg #[.int .i64 a0_0, .int .i64 a0_1, .slice (some ad389) l0_2.length c0_2], .agg #[.int .i64 a1_0, .int .i64 a1_1, .int .i64 a1_2, .slice Ao108 x393003_47.length co108, .slice Ao109 x393004_47.length co109]] rfl (zm) ?_; (with_reducible refine (leap_Leap.calls kj47 a0_0 a0_1 _ _ l0_2 a1_0 a1_1 a1_2 (fun k_ => (((P1_3_ k_ ∨ P1_4_ k_) ∨ w.heap.size ≤ k_) ∧ (k_ ≠ gb383 ∧ (k_ ≠ gb384 ∧ (k_ ≠ gb391 ∧ (k_ ≠ gb392 ∧ k_ ≠ gb411)))))) _ _ x393003_47 (fun k_ => (((P1_3_ k_ ∨ P1_4_ k_) ∨ w.heap.size ≤ k_) ∧ (k_ ≠ gb383 ∧ (k_ ≠ gb384 ∧ (k_ ≠ gb391 ∧ (k_ ≠ gb392 ∧ k_ ≠ gb411)))))) _ _ x393004_47 t412 t413 t414 t415 t418 t421 t422 t423 _ ?side1 ?side2 ?side3 ?side4 A86.out).mono ?_); (case side1 => exact zC ((Kd.C_below HR0_2.out HB.out))); (case side2 => exact HC0_2.out); (case side3 => exact HO_393003.out); (case side4 => exact HO_393004.out); rintro e w110 ⟨v416, v419, rfl, ho0, ho1, hb⟩; refine ⟨_, rfl, ?_⟩; have HO417 := Aside0.mk (Kd.V_lower (Kd.V_mono (ok' := fun k_ => ((P1_3_ k_ ∨ P1_4_ k_) ∨ w.heap.size ≤ k_) ∧ k_ ≠ gb383 ∧ k_ ≠ gb384 ∧ k_ ≠ gb391 ∧ k_ ≠ gb392 ∧ k_ ≠ gb411) ho0 (fun k_ hk_ => ⟨Or.elim hk_ (fun hs_ => Or.elim hs_ (fun hs_ => hs_.1) (fun hs_ => hs_.1)) (fun hn_ => (.inr (Nat.le_trans (below_size (zB HB)) hn_))), Or.elim hk_ (fun hs_ => Or.elim hs_ (fun hs_ => hs_.2.1) (fun hs_ => hs_.2.1)) (fun hn_ => zf BK383 hn_), Or.elim hk_ (fun hs_ => Or.elim hs_ (fun hs_ => hs_.2.2.1) (fun hs_ => hs_.2.2.1)) (fun hn_ => zf BK384 hn_), Or.elim hk_ (fun hs_ => Or.elim hs_ (fun hs_ => hs_.2.2.2.1) (fun hs_ => hs_.2.2.2.1)) (fun hn_ => zf BK391 hn_), Or.elim hk_ (fun hs_ => Or.elim hs_ (fun hs_ => hs_.2.2.2.2.1) (fun hs_ => hs_.2.2.2.2.1)) (fun hn_ => zf BK392 hn_), Or.elim hk_ (fun hs_ => Or.elim hs_ (fun hs_ => hs_.2.2.2.2.2) (fun hs_ => hs_.2.2.2.2.2)) (fun hn_ => zf BK411 hn_)⟩)) (below_size (zB HB))); have HO420 := Aside0.mk (Kd.V_lower (Kd.V_mono (ok' := fun k_ => ((P1_3_ k_ ∨ P1_4_ k_) ∨ w.heap.size ≤ k_) ∧ k_ ≠ gb383 ∧ k_ ≠ gb384 ∧ k_ ≠ gb391 ∧ k_ ≠ gb392 ∧ k_ ≠ gb411) ho1 (fun k_ hk_ => ⟨Or.elim hk_ (fun hs_ => Or.elim hs_ (fun hs_ => hs_.1) (fun hs_ => hs_.1)) (fun hn_ => (.inr (Nat.le_trans (below_size (zB HB)) hn_))), Or.elim hk_ (fun hs_ => Or.elim hs_ (fun hs_ => hs_.2.1) (fun hs_ => hs_.2.1)) (fun hn_ => zf BK383 hn_), Or.elim hk_ (fun hs_ => Or.elim hs_ (fun hs_ => hs_.2.2.1) (fun hs_ => hs_.2.2.1)) (fun hn_ => zf BK384 hn_), Or.elim hk_ (fun hs_ => Or.elim hs_ (fun hs_ => hs_.2.2.2.1) (fun hs_ => hs_.2.2.2.1)) (fun hn_ => zf BK391 hn_), Or.elim hk_ (fun hs_ => Or.elim hs_ (fun hs_ => hs_.2.2.2.2.1) (fun hs_ => hs_.2.2.2.2.1)) (fun hn_ => zf BK392 hn_), Or.elim hk_ (fun hs_ => Or.elim hs_ (fun hs_ => hs_.2.2.2.2.2) (fun hs_ => hs_.2.2.2.2.2)) (fun hn_ => zf BK411 hn_)⟩)) (below_size (zB HB))); replace HO_385003 := Aside0.mk (zVb HO_385003 hb); replace HO_385004 := Aside0.mk (zVb HO_385004 hb); replace HO_393003 := Aside0.mk (zVb HO_393003 hb); replace HO_393004 := Aside0.mk (zVb HO_393004 hb); replace HO404 := Aside0.mk (zVb HO404 hb); replace HO407 := Aside0.mk (zVb HO407 hb); replace BK383 := Aside0.mk (zb BK383 hb); replace BK384 := Aside0.mk (zb BK384 hb); replace BK391 := Aside0.mk (zb BK391 hb); replace BK392 := Aside0.mk (zb BK392 hb); replace BK411 := Aside0.mk (zb BK411 hb); replace HB := Aside0.mk (below_step (zB HB) hb); (try clear hb); (try clear hb2); (try clear hk); (try clear hi); (try clear ho0); (try clear ho1)) | ((with_reducible refine gate_dst (N := 14) rfl ?_); refine box_event ?hg (N := 14) ?hd (cs := #[.int .i64 0, .int .i64 0, .int .i64 0, .slice none 0 0, .slice none 0 0]) (t := 27) ?hr ?_; (case hd => rfl); (case hg => rfl); (case hr => first | (go_simp; done) | (go_simp; rfl)); intro gb424 hg w111 hbox hb; have BK424 := Aside0.mk (hbox); have GW424 := Aside0.mk ((by rw [hg]; exact (below_size (zB HB)) : w.heap.size ≤ gb424)); have GE424 := Aside0.mk ((by rw [hg]; exact (below_size (zB HB)) : w.heap.size ≤ gb424)); have NB383_424 := Aside0.mk ((by rw [hg]; exact Nat.ne_of_lt (zL BK383) : gb383 ≠ gb424)); have NB424_383 := Aside0.mk ((by rw [hg]; exact Nat.ne_of_gt (zL BK383) : gb424 ≠ gb383)); have NB384_424 := Aside0.mk ((by rw [hg]; exact Nat.ne_of_lt (zL BK384) : gb384 ≠ gb424)); have NB424_384 := Aside0.mk ((by rw [hg]; exact Nat.ne_of_gt (zL BK384) : gb424 ≠ gb384)); have NB391_424 := Aside0.mk ((by rw [hg]; exact Nat.ne_of_lt (zL BK391) : gb391 ≠ gb424)); have NB424_391 := Aside0.mk ((by rw [hg]; exact Nat.ne_of_gt (zL BK391) : gb424 ≠ gb391)); have NB392_424 := Aside0.mk ((by rw [hg]; exact Nat.ne_of_lt (zL BK392) : gb392 ≠ gb424)); have NB424_392 := Aside0.mk ((by rw [hg]; exact Nat.ne_of_gt (zL BK392) : gb424 ≠ gb392)); have NB411_424 := Aside0.mk ((by rw [hg]; exact Nat.ne_of_lt (zL BK411) : gb411 ≠ gb424)); have NB424_411 := Aside0.mk ((by rw [hg]; exact Nat.ne_of_gt (zL BK411) : gb424 ≠ gb411)); replace HO_385003 := Aside0.mk (Kd.V_below (Kd.V_elderB (zV HO_385003) gb424 (Nat.le_of_eq hg.symm)) hb); replace HO_385004 := Aside0.mk (Kd.V_below (Kd.V_elderB (zV HO_385004) gb424 (Nat.le_of_eq hg.symm)) hb); replace HO_393003 := Aside0.mk (Kd.V_below (Kd.V_elderB (zV HO_393003) gb424 (Nat.le_of_eq hg.symm)) hb); replace HO_393004 := Aside0.mk (Kd.V_below (Kd.V_elderB (zV HO_393004) gb424 (Nat.le_of_eq hg.symm)) hb); replace HO404 := Aside0.mk (Kd.V_below (Kd.V_elderB (zV HO404) gb424 (Nat.le_of_eq hg.symm)) hb); replace HO407 := Aside0.mk (Kd.V_below (Kd.V_elderB (zV HO407) gb424 (Nat.le_of_eq hg.symm)) hb); replace HO417 := Aside0.mk (Kd.V_below (Kd.V_elderB (zV HO417) gb424 (Nat.le_of_eq hg.symm)) hb); replace HO420 := Aside0.mk (Kd.V_below (Kd.V_elderB (zV HO420) gb424 (Nat.le_of_eq hg.symm)) hb); replace BK383 := Aside0.mk (zb BK383 hb); replace BK384 := Aside0.mk (zb BK384 hb); replace BK391 := Aside0.mk (zb BK391 hb); replace BK392 := Aside0.mk (zb BK392 hb); replace BK411 := Aside0.mk (zb BK411 hb); replace HB := Aside0.mk (below_step (zB HB) hb); clear hb hbox hg; have hnb112 := NB424_383.out; have hnc112 := NB383_424.out; have hnb113 := NB424_384.out; have hnc113 := NB384_424.out; have hnb114 := NB424_391.out; have hnc114 := NB391_424.out; have hnb115 := NB424_392.out; have hnc115 := NB392_424.out; have hnb116 := NB424_411.out; have hnc116 := NB411_424.out; have hz117 := zc5 BK424; obtain ⟨Ao118, co118, eo118⟩ := Kd.V_slice HO417.out; subst eo118; obtain ⟨Ao119, co119, eo119⟩ := Kd.V_slice HO420.out; subst eo119))
          (try simp only [Act.put, zs, zs0, zs1])
          go_cut [95] (fun v95 wc => ∃ (kq : Nat) (x95_86 : Bool), v95 = .bool x95_86 ∧ Aside0 (standstilllaw04_LeapLong.j2 kq (wrap64 (Int.tmod a2 1125899906842624)) t408 t409 t410 t421 t422 t423 x95_86 ((rd_T37 (rd_L2 l0_2 a1_0) a1_2).f0) ((rd_T37 (rd_L2 l0_2 a1_0) a1_2).f1) ((rd_T37 (rd_L2 l0_2 a1_0) a1_2).f2) t399 t400 t401 t402 t405 t412 t413 t414 t415 t418 = some r) ∧ Aside0 (kq ≤ kj47) ∧ Aside0 (Kd.V k62 62 wc w.heap.size (fun k_ => ((P1_3_ k_ ∨ P1_4_ k_) ∨ w.heap.size ≤ k_) ∧ k_ ≠ gb383 ∧ k_ ≠ gb384 ∧ k_ ≠ gb391 ∧ k_ ≠ gb392 ∧ k_ ≠ gb411 ∧ k_ ≠ gb424) (.slice A1_3 l1_3.length c1_3) l1_3) ∧ Aside0 (Kd.V k62 62 wc w.heap.size (fun k_ => ((P1_3_ k_ ∨ P1_4_ k_) ∨ w.heap.size ≤ k_) ∧ k_ ≠ gb383 ∧ k_ ≠ gb384 ∧ k_ ≠ gb391 ∧ k_ ≠ gb392 ∧ k_ ≠ gb411 ∧ k_ ≠ gb424) (.slice A1_4 l1_4.length c1_4) l1_4) ∧ Aside0 (Kd.V k62 62 wc w.heap.size (fun k_ => ((P1_3_ k_ ∨ P1_4_ k_) ∨ w.heap.size ≤ k_) ∧ k_ ≠ gb383 ∧ k_ ≠ gb384 ∧ k_ ≠ gb391 ∧ k_ ≠ gb392 ∧ k_ ≠ gb411 ∧ k_ ≠ gb424) (.slice Ao108 x393003_47.length co108) x393003_47) ∧ Aside0 (Kd.V k62 62 wc w.heap.size (fun k_ => ((P1_3_ k_ ∨ P1_4_ k_) ∨ w.heap.size ≤ k_) ∧ k_ ≠ gb383 ∧ k_ ≠ gb384 ∧ k_ ≠ gb391 ∧ k_ ≠ gb392 ∧ k_ ≠ gb411 ∧ k_ ≠ gb424) (.slice Ao109 x393004_47.length co109) x393004_47) ∧ Aside0 (Kd.V k62 62 wc w.heap.size (fun k_ => ((P1_3_ k_ ∨ P1_4_ k_) ∨ w.heap.size ≤ k_) ∧ k_ ≠ gb383 ∧ k_ ≠ gb384 ∧ k_ ≠ gb391 ∧ k_ ≠ gb392 ∧ k_ ≠ gb411 ∧ k_ ≠ gb424) (.slice Ao102 t402.length co102) t402) ∧ Aside0 (Kd.V k62 62 wc w.heap.size (fun k_ => ((P1_3_ k_ ∨ P1_4_ k_) ∨ w.heap.size ≤ k_) ∧ k_ ≠ gb383 ∧ k_ ≠ gb384 ∧ k_ ≠ gb391 ∧ k_ ≠ gb392 ∧ k_ ≠ gb411 ∧ k_ ≠ gb424) (.slice Ao103 t405.length co103) t405) ∧ Aside0 (Kd.V k62 62 wc w.heap.size (fun k_ => ((P1_3_ k_ ∨ P1_4_ k_) ∨ w.heap.size ≤ k_) ∧ k_ ≠ gb383 ∧ k_ ≠ gb384 ∧ k_ ≠ gb391 ∧ k_ ≠ gb392 ∧ k_ ≠ gb411 ∧ k_ ≠ gb424) (.slice Ao118 t415.length co118) t415) ∧ Aside0 (Kd.V k62 62 wc w.heap.size (fun k_ => ((P1_3_ k_ ∨ P1_4_ k_) ∨ w.heap.size ≤ k_) ∧ k_ ≠ gb383 ∧ k_ ≠ gb384 ∧ k_ ≠ gb391 ∧ k_ ≠ gb392 ∧ k_ ≠ gb411 ∧ k_ ≠ gb424) (.slice Ao119 t418.length co119) t418) ∧ Aside0 (wc.heap[gb383]? = some (.cells #[.int .i64 a0_0, .int .i64 a0_1, (.slice (some ad389) l0_2.length c0_2)] 24 (0, 0))) ∧ Aside0 (wc.heap[gb384]? = some (.cells #[.int .i64 a1_0, .int .i64 a1_1, .int .i64 a1_2, (.slice A1_3 l1_3.length c1_3), (.slice A1_4 l1_4.length c1_4)] 27 (0, 0))) ∧ Aside0 (wc.heap[gb391]? = some (.cells #[.int .i64 ((rd_T37 (rd_L2 l0_2 a1_0) a1_2).f0), .int .i64 ((rd_T37 (rd_L2 l0_2 a1_0) a1_2).f1), .int .i64 ((rd_T37 (rd_L2 l0_2 a1_0) a1_2).f2)] 37 (0, 0))) ∧ Aside0 (wc.heap[gb392]? = some (.cells #[.int .i64 a1_0, .int .i64 a1_1, .int .i64 a1_2, (.slice Ao108 x393003_47.length co108), (.slice Ao109 x393004_47.length co109)] 27 (0, 0))) ∧ Aside0 (wc.heap[gb411]? = some (.cells #[.int .i64 t399, .int .i64 t400, .int .i64 t401, (.slice Ao102 t402.length co102), (.slice Ao103 t405.length co103)] 27 (0, 0))) ∧ Aside0 (wc.heap[gb424]? = some (.cells #[.int .i64 t412, .int .i64 t413, .int .i64 t414, (.slice Ao118 t415.length co118), (.slice Ao119 t418.length co119)] 27 (0, 0))) ∧ Aside0 (Below w.heap.size w wc))
          case first =>
           have H := HC87.out
           clear HC87
           by_cases c120 : t410 = 0
           ·
            rw [if_pos c120] at H
            have c120b0 : (t410 == 0) = true := beq_iff_eq.mpr c120
            have c120b1 : (t410 != 0) = false := bne_eq_false_iff_eq.mpr c120
            clear c120
            (first | rw [c120b0] | (simp only [i64_w, i32_w]; rw [c120b0]) | skip)
            (try rw [c120b1])
            by_cases c121 : t423 = 0
            ·
             rw [if_pos c121] at H
             have c121b0 : (t423 == 0) = true := beq_iff_eq.mpr c121
             have c121b1 : (t423 != 0) = false := bne_eq_false_iff_eq.mpr c121
             clear c121
             by_cases c122 : t409 = true
             ·
              subst c122
              have H1 : (standstilllaw04_LeapLong.j2 kj47 (wrap64 (Int.tmod a2 1125899906842624)) t408 true t410 t421 t422 t423 true ((rd_T37 (rd_L2 l0_2 a1_0) a1_2).f0) ((rd_T37 (rd_L2 l0_2 a1_0) a1_2).f1) ((rd_T37 (rd_L2 l0_2 a1_0) a1_2).f2) t399 t400 t401 t402 t405 t412 t413 t414 t415 t418) = some r := by rw [if_pos rfl] at H; exact H
              clear H
              have H := H1
              clear H1
              have H' := Aside0.mk H
              clear H
              go_wp2
              go_meet
              case rel => exact ⟨_, (true), (by first | rfl | (simp; done) | (simp [*]; done)), H', ⟨by have := HJ3.out; have := HJ47.out; first | omega | exact Nat.le_refl _⟩, ⟨by (with_reducible repeat (first | apply Kd.V_alloc | apply Kd.V_drewN | apply Kd.V_drew)); exact Kd.V_mono (zVf5 (g := gb424) (Kd.V_mono HO_385003.out (fun k_ hk => (⟨hk, hk.2⟩ : _ ∧ k_ ≠ gb424)))) (fun _ hk => ⟨hk.1.1.1, ⟨hk.1.1.2.1, ⟨hk.1.1.2.2.1, ⟨hk.1.1.2.2.2.1, ⟨hk.1.1.2.2.2.2.1, ⟨hk.1.1.2.2.2.2.2, hk.1.2⟩⟩⟩⟩⟩⟩)⟩, ⟨by (with_reducible repeat (first | apply Kd.V_alloc | apply Kd.V_drewN | apply Kd.V_drew)); exact Kd.V_mono (zVf5 (g := gb424) (Kd.V_mono HO_385004.out (fun k_ hk => (⟨hk, hk.2⟩ : _ ∧ k_ ≠ gb424)))) (fun _ hk => ⟨hk.1.1.1, ⟨hk.1.1.2.1, ⟨hk.1.1.2.2.1, ⟨hk.1.1.2.2.2.1, ⟨hk.1.1.2.2.2.2.1, ⟨hk.1.1.2.2.2.2.2, hk.1.2⟩⟩⟩⟩⟩⟩)⟩, ⟨by (with_reducible repeat (first | apply Kd.V_alloc | apply Kd.V_drewN | apply Kd.V_drew)); exact Kd.V_mono (zVf5 (g := gb424) (Kd.V_mono HO_393003.out (fun k_ hk => (⟨hk, hk.2⟩ : _ ∧ k_ ≠ gb424)))) (fun _ hk => ⟨hk.1.1.1, ⟨hk.1.1.2.1, ⟨hk.1.1.2.2.1, ⟨hk.1.1.2.2.2.1, ⟨hk.1.1.2.2.2.2.1, ⟨hk.1.1.2.2.2.2.2, hk.1.2⟩⟩⟩⟩⟩⟩)⟩, ⟨by (with_reducible repeat (first | apply Kd.V_alloc | apply Kd.V_drewN | apply Kd.V_drew)); exact Kd.V_mono (zVf5 (g := gb424) (Kd.V_mono HO_393004.out (fun k_ hk => (⟨hk, hk.2⟩ : _ ∧ k_ ≠ gb424)))) (fun _ hk => ⟨hk.1.1.1, ⟨hk.1.1.2.1, ⟨hk.1.1.2.2.1, ⟨hk.1.1.2.2.2.1, ⟨hk.1.1.2.2.2.2.1, ⟨hk.1.1.2.2.2.2.2, hk.1.2⟩⟩⟩⟩⟩⟩)⟩, ⟨by (with_reducible repeat (first | apply Kd.V_alloc | apply Kd.V_drewN | apply Kd.V_drew)); exact Kd.V_mono (zVf5 (g := gb424) (Kd.V_mono HO404.out (fun k_ hk => (⟨hk, hk.2⟩ : _ ∧ k_ ≠ gb424)))) (fun _ hk => ⟨hk.1.1.1, ⟨hk.1.1.2.1, ⟨hk.1.1.2.2.1, ⟨hk.1.1.2.2.2.1, ⟨hk.1.1.2.2.2.2.1, ⟨hk.1.1.2.2.2.2.2, hk.1.2⟩⟩⟩⟩⟩⟩)⟩, ⟨by (with_reducible repeat (first | apply Kd.V_alloc | apply Kd.V_drewN | apply Kd.V_drew)); exact Kd.V_mono (zVf5 (g := gb424) (Kd.V_mono HO407.out (fun k_ hk => (⟨hk, hk.2⟩ : _ ∧ k_ ≠ gb424)))) (fun _ hk => ⟨hk.1.1.1, ⟨hk.1.1.2.1, ⟨hk.1.1.2.2.1, ⟨hk.1.1.2.2.2.1, ⟨hk.1.1.2.2.2.2.1, ⟨hk.1.1.2.2.2.2.2, hk.1.2⟩⟩⟩⟩⟩⟩)⟩, ⟨by (with_reducible repeat (first | apply Kd.V_alloc | apply Kd.V_drewN | apply Kd.V_drew)); exact Kd.V_mono (zVf5 (g := gb424) (Kd.V_mono HO417.out (fun k_ hk => (⟨hk, hk.2⟩ : _ ∧ k_ ≠ gb424)))) (fun _ hk => ⟨hk.1.1.1, ⟨hk.1.1.2.1, ⟨hk.1.1.2.2.1, ⟨hk.1.1.2.2.2.1, ⟨hk.1.1.2.2.2.2.1, ⟨hk.1.1.2.2.2.2.2, hk.1.2⟩⟩⟩⟩⟩⟩)⟩, ⟨by (with_reducible repeat (first | apply Kd.V_alloc | apply Kd.V_drewN | apply Kd.V_drew)); exact Kd.V_mono (zVf5 (g := gb424) (Kd.V_mono HO420.out (fun k_ hk => (⟨hk, hk.2⟩ : _ ∧ k_ ≠ gb424)))) (fun _ hk => ⟨hk.1.1.1, ⟨hk.1.1.2.1, ⟨hk.1.1.2.2.1, ⟨hk.1.1.2.2.2.1, ⟨hk.1.1.2.2.2.2.1, ⟨hk.1.1.2.2.2.2.2, hk.1.2⟩⟩⟩⟩⟩⟩)⟩, ⟨zK BK383⟩, ⟨zK BK384⟩, ⟨zK BK391⟩, ⟨zK BK392⟩, ⟨zK BK411⟩, ⟨by (with_reducible repeat (first | refine blk_drewN ?_ _ | refine blk_drew ?_ | refine blk_alloc ?_ _)); refine blk_put (cs := #[.int .i64 t412, .int .i64 t413, .int .i64 t414, .slice Ao118 t415.length co118, .slice none 0 0]) ?_ 4 _ rfl; (with_reducible repeat (first | refine blk_drewN ?_ _ | refine blk_drew ?_ | refine blk_alloc ?_ _)); refine blk_put (cs := #[.int .i64 t412, .int .i64 t413, .int .i64 t414, .slice none 0 0, .slice none 0 0]) ?_ 3 _ rfl; (with_reducible repeat (first | refine blk_drewN ?_ _ | refine blk_drew ?_ | refine blk_alloc ?_ _)); refine blk_put (cs := #[.int .i64 t412, .int .i64 t413, .int .i64 0, .slice none 0 0, .slice none 0 0]) ?_ 2 _ rfl; (with_reducible repeat (first | refine blk_drewN ?_ _ | refine blk_drew ?_ | refine blk_alloc ?_ _)); refine blk_put (cs := #[.int .i64 t412, .int .i64 0, .int .i64 0, .slice none 0 0, .slice none 0 0]) ?_ 1 _ rfl; (with_reducible repeat (first | refine blk_drewN ?_ _ | refine blk_drew ?_ | refine blk_alloc ?_ _)); refine blk_put (cs := #[.int .i64 0, .int .i64 0, .int .i64 0, .slice none 0 0, .slice none 0 0]) ?_ 0 _ rfl; (with_reducible repeat (first | refine blk_drewN ?_ _ | refine blk_drew ?_ | refine blk_alloc ?_ _)); exact BK424.out⟩, ⟨zB HB⟩⟩
             ·
              replace c122 := Bool.eq_false_iff.mpr c122
              subst c122
              have H1 : (standstilllaw04_LeapLong.j2 kj47 (wrap64 (Int.tmod a2 1125899906842624)) t408 false t410 t421 t422 t423 (decide (t408 < 2)) ((rd_T37 (rd_L2 l0_2 a1_0) a1_2).f0) ((rd_T37 (rd_L2 l0_2 a1_0) a1_2).f1) ((rd_T37 (rd_L2 l0_2 a1_0) a1_2).f2) t399 t400 t401 t402 t405 t412 t413 t414 t415 t418) = some r := by rw [if_neg (show ¬ (false = true) by decide)] at H; exact H
              clear H
              have H := H1
              clear H1
              have H' := Aside0.mk H
              clear H
              go_wp2
              go_meet
              case rel => exact ⟨_, (decide (t408 < 2)), (by first | rfl | (simp; done) | (simp [*]; done)), H', ⟨by have := HJ3.out; have := HJ47.out; first | omega | exact Nat.le_refl _⟩, ⟨by (with_reducible repeat (first | apply Kd.V_alloc | apply Kd.V_drewN | apply Kd.V_drew)); exact Kd.V_mono (zVf5 (g := gb424) (Kd.V_mono HO_385003.out (fun k_ hk => (⟨hk, hk.2⟩ : _ ∧ k_ ≠ gb424)))) (fun _ hk => ⟨hk.1.1.1, ⟨hk.1.1.2.1, ⟨hk.1.1.2.2.1, ⟨hk.1.1.2.2.2.1, ⟨hk.1.1.2.2.2.2.1, ⟨hk.1.1.2.2.2.2.2, hk.1.2⟩⟩⟩⟩⟩⟩)⟩, ⟨by (with_reducible repeat (first | apply Kd.V_alloc | apply Kd.V_drewN | apply Kd.V_drew)); exact Kd.V_mono (zVf5 (g := gb424) (Kd.V_mono HO_385004.out (fun k_ hk => (⟨hk, hk.2⟩ : _ ∧ k_ ≠ gb424)))) (fun _ hk => ⟨hk.1.1.1, ⟨hk.1.1.2.1, ⟨hk.1.1.2.2.1, ⟨hk.1.1.2.2.2.1, ⟨hk.1.1.2.2.2.2.1, ⟨hk.1.1.2.2.2.2.2, hk.1.2⟩⟩⟩⟩⟩⟩)⟩, ⟨by (with_reducible repeat (first | apply Kd.V_alloc | apply Kd.V_drewN | apply Kd.V_drew)); exact Kd.V_mono (zVf5 (g := gb424) (Kd.V_mono HO_393003.out (fun k_ hk => (⟨hk, hk.2⟩ : _ ∧ k_ ≠ gb424)))) (fun _ hk => ⟨hk.1.1.1, ⟨hk.1.1.2.1, ⟨hk.1.1.2.2.1, ⟨hk.1.1.2.2.2.1, ⟨hk.1.1.2.2.2.2.1, ⟨hk.1.1.2.2.2.2.2, hk.1.2⟩⟩⟩⟩⟩⟩)⟩, ⟨by (with_reducible repeat (first | apply Kd.V_alloc | apply Kd.V_drewN | apply Kd.V_drew)); exact Kd.V_mono (zVf5 (g := gb424) (Kd.V_mono HO_393004.out (fun k_ hk => (⟨hk, hk.2⟩ : _ ∧ k_ ≠ gb424)))) (fun _ hk => ⟨hk.1.1.1, ⟨hk.1.1.2.1, ⟨hk.1.1.2.2.1, ⟨hk.1.1.2.2.2.1, ⟨hk.1.1.2.2.2.2.1, ⟨hk.1.1.2.2.2.2.2, hk.1.2⟩⟩⟩⟩⟩⟩)⟩, ⟨by (with_reducible repeat (first | apply Kd.V_alloc | apply Kd.V_drewN | apply Kd.V_drew)); exact Kd.V_mono (zVf5 (g := gb424) (Kd.V_mono HO404.out (fun k_ hk => (⟨hk, hk.2⟩ : _ ∧ k_ ≠ gb424)))) (fun _ hk => ⟨hk.1.1.1, ⟨hk.1.1.2.1, ⟨hk.1.1.2.2.1, ⟨hk.1.1.2.2.2.1, ⟨hk.1.1.2.2.2.2.1, ⟨hk.1.1.2.2.2.2.2, hk.1.2⟩⟩⟩⟩⟩⟩)⟩, ⟨by (with_reducible repeat (first | apply Kd.V_alloc | apply Kd.V_drewN | apply Kd.V_drew)); exact Kd.V_mono (zVf5 (g := gb424) (Kd.V_mono HO407.out (fun k_ hk => (⟨hk, hk.2⟩ : _ ∧ k_ ≠ gb424)))) (fun _ hk => ⟨hk.1.1.1, ⟨hk.1.1.2.1, ⟨hk.1.1.2.2.1, ⟨hk.1.1.2.2.2.1, ⟨hk.1.1.2.2.2.2.1, ⟨hk.1.1.2.2.2.2.2, hk.1.2⟩⟩⟩⟩⟩⟩)⟩, ⟨by (with_reducible repeat (first | apply Kd.V_alloc | apply Kd.V_drewN | apply Kd.V_drew)); exact Kd.V_mono (zVf5 (g := gb424) (Kd.V_mono HO417.out (fun k_ hk => (⟨hk, hk.2⟩ : _ ∧ k_ ≠ gb424)))) (fun _ hk => ⟨hk.1.1.1, ⟨hk.1.1.2.1, ⟨hk.1.1.2.2.1, ⟨hk.1.1.2.2.2.1, ⟨hk.1.1.2.2.2.2.1, ⟨hk.1.1.2.2.2.2.2, hk.1.2⟩⟩⟩⟩⟩⟩)⟩, ⟨by (with_reducible repeat (first | apply Kd.V_alloc | apply Kd.V_drewN | apply Kd.V_drew)); exact Kd.V_mono (zVf5 (g := gb424) (Kd.V_mono HO420.out (fun k_ hk => (⟨hk, hk.2⟩ : _ ∧ k_ ≠ gb424)))) (fun _ hk => ⟨hk.1.1.1, ⟨hk.1.1.2.1, ⟨hk.1.1.2.2.1, ⟨hk.1.1.2.2.2.1, ⟨hk.1.1.2.2.2.2.1, ⟨hk.1.1.2.2.2.2.2, hk.1.2⟩⟩⟩⟩⟩⟩)⟩, ⟨zK BK383⟩, ⟨zK BK384⟩, ⟨zK BK391⟩, ⟨zK BK392⟩, ⟨zK BK411⟩, ⟨by (with_reducible repeat (first | refine blk_drewN ?_ _ | refine blk_drew ?_ | refine blk_alloc ?_ _)); refine blk_put (cs := #[.int .i64 t412, .int .i64 t413, .int .i64 t414, .slice Ao118 t415.length co118, .slice none 0 0]) ?_ 4 _ rfl; (with_reducible repeat (first | refine blk_drewN ?_ _ | refine blk_drew ?_ | refine blk_alloc ?_ _)); refine blk_put (cs := #[.int .i64 t412, .int .i64 t413, .int .i64 t414, .slice none 0 0, .slice none 0 0]) ?_ 3 _ rfl; (with_reducible repeat (first | refine blk_drewN ?_ _ | refine blk_drew ?_ | refine blk_alloc ?_ _)); refine blk_put (cs := #[.int .i64 t412, .int .i64 t413, .int .i64 0, .slice none 0 0, .slice none 0 0]) ?_ 2 _ rfl; (with_reducible repeat (first | refine blk_drewN ?_ _ | refine blk_drew ?_ | refine blk_alloc ?_ _)); refine blk_put (cs := #[.int .i64 t412, .int .i64 0, .int .i64 0, .slice none 0 0, .slice none 0 0]) ?_ 1 _ rfl; (with_reducible repeat (first | refine blk_drewN ?_ _ | refine blk_drew ?_ | refine blk_alloc ?_ _)); refine blk_put (cs := #[.int .i64 0, .int .i64 0, .int .i64 0, .slice none 0 0, .slice none 0 0]) ?_ 0 _ rfl; (with_reducible repeat (first | refine blk_drewN ?_ _ | refine blk_drew ?_ | refine blk_alloc ?_ _)); exact BK424.out⟩, ⟨zB HB⟩⟩
            ·
             rw [if_neg c121] at H
             have c121b0 : (t423 == 0) = false := beq_eq_false_iff_ne.mpr c121
             have c121b1 : (t423 != 0) = true := bne_iff_ne.mpr c121
             have H' := Aside0.mk H
             clear H
             go_wp2
             go_meet
             case rel => exact ⟨_, (true), (by first | rfl | (simp; done) | (simp [*]; done)), H', ⟨by have := HJ3.out; have := HJ47.out; first | omega | exact Nat.le_refl _⟩, ⟨by (with_reducible repeat (first | apply Kd.V_alloc | apply Kd.V_drewN | apply Kd.V_drew)); exact Kd.V_mono (zVf5 (g := gb424) (Kd.V_mono HO_385003.out (fun k_ hk => (⟨hk, hk.2⟩ : _ ∧ k_ ≠ gb424)))) (fun _ hk => ⟨hk.1.1.1, ⟨hk.1.1.2.1, ⟨hk.1.1.2.2.1, ⟨hk.1.1.2.2.2.1, ⟨hk.1.1.2.2.2.2.1, ⟨hk.1.1.2.2.2.2.2, hk.1.2⟩⟩⟩⟩⟩⟩)⟩, ⟨by (with_reducible repeat (first | apply Kd.V_alloc | apply Kd.V_drewN | apply Kd.V_drew)); exact Kd.V_mono (zVf5 (g := gb424) (Kd.V_mono HO_385004.out (fun k_ hk => (⟨hk, hk.2⟩ : _ ∧ k_ ≠ gb424)))) (fun _ hk => ⟨hk.1.1.1, ⟨hk.1.1.2.1, ⟨hk.1.1.2.2.1, ⟨hk.1.1.2.2.2.1, ⟨hk.1.1.2.2.2.2.1, ⟨hk.1.1.2.2.2.2.2, hk.1.2⟩⟩⟩⟩⟩⟩)⟩, ⟨by (with_reducible repeat (first | apply Kd.V_alloc | apply Kd.V_drewN | apply Kd.V_drew)); exact Kd.V_mono (zVf5 (g := gb424) (Kd.V_mono HO_393003.out (fun k_ hk => (⟨hk, hk.2⟩ : _ ∧ k_ ≠ gb424)))) (fun _ hk => ⟨hk.1.1.1, ⟨hk.1.1.2.1, ⟨hk.1.1.2.2.1, ⟨hk.1.1.2.2.2.1, ⟨hk.1.1.2.2.2.2.1, ⟨hk.1.1.2.2.2.2.2, hk.1.2⟩⟩⟩⟩⟩⟩)⟩, ⟨by (with_reducible repeat (first | apply Kd.V_alloc | apply Kd.V_drewN | apply Kd.V_drew)); exact Kd.V_mono (zVf5 (g := gb424) (Kd.V_mono HO_393004.out (fun k_ hk => (⟨hk, hk.2⟩ : _ ∧ k_ ≠ gb424)))) (fun _ hk => ⟨hk.1.1.1, ⟨hk.1.1.2.1, ⟨hk.1.1.2.2.1, ⟨hk.1.1.2.2.2.1, ⟨hk.1.1.2.2.2.2.1, ⟨hk.1.1.2.2.2.2.2, hk.1.2⟩⟩⟩⟩⟩⟩)⟩, ⟨by (with_reducible repeat (first | apply Kd.V_alloc | apply Kd.V_drewN | apply Kd.V_drew)); exact Kd.V_mono (zVf5 (g := gb424) (Kd.V_mono HO404.out (fun k_ hk => (⟨hk, hk.2⟩ : _ ∧ k_ ≠ gb424)))) (fun _ hk => ⟨hk.1.1.1, ⟨hk.1.1.2.1, ⟨hk.1.1.2.2.1, ⟨hk.1.1.2.2.2.1, ⟨hk.1.1.2.2.2.2.1, ⟨hk.1.1.2.2.2.2.2, hk.1.2⟩⟩⟩⟩⟩⟩)⟩, ⟨by (with_reducible repeat (first | apply Kd.V_alloc | apply Kd.V_drewN | apply Kd.V_drew)); exact Kd.V_mono (zVf5 (g := gb424) (Kd.V_mono HO407.out (fun k_ hk => (⟨hk, hk.2⟩ : _ ∧ k_ ≠ gb424)))) (fun _ hk => ⟨hk.1.1.1, ⟨hk.1.1.2.1, ⟨hk.1.1.2.2.1, ⟨hk.1.1.2.2.2.1, ⟨hk.1.1.2.2.2.2.1, ⟨hk.1.1.2.2.2.2.2, hk.1.2⟩⟩⟩⟩⟩⟩)⟩, ⟨by (with_reducible repeat (first | apply Kd.V_alloc | apply Kd.V_drewN | apply Kd.V_drew)); exact Kd.V_mono (zVf5 (g := gb424) (Kd.V_mono HO417.out (fun k_ hk => (⟨hk, hk.2⟩ : _ ∧ k_ ≠ gb424)))) (fun _ hk => ⟨hk.1.1.1, ⟨hk.1.1.2.1, ⟨hk.1.1.2.2.1, ⟨hk.1.1.2.2.2.1, ⟨hk.1.1.2.2.2.2.1, ⟨hk.1.1.2.2.2.2.2, hk.1.2⟩⟩⟩⟩⟩⟩)⟩, ⟨by (with_reducible repeat (first | apply Kd.V_alloc | apply Kd.V_drewN | apply Kd.V_drew)); exact Kd.V_mono (zVf5 (g := gb424) (Kd.V_mono HO420.out (fun k_ hk => (⟨hk, hk.2⟩ : _ ∧ k_ ≠ gb424)))) (fun _ hk => ⟨hk.1.1.1, ⟨hk.1.1.2.1, ⟨hk.1.1.2.2.1, ⟨hk.1.1.2.2.2.1, ⟨hk.1.1.2.2.2.2.1, ⟨hk.1.1.2.2.2.2.2, hk.1.2⟩⟩⟩⟩⟩⟩)⟩, ⟨zK BK383⟩, ⟨zK BK384⟩, ⟨zK BK391⟩, ⟨zK BK392⟩, ⟨zK BK411⟩, ⟨by (with_reducible repeat (first | refine blk_drewN ?_ _ | refine blk_drew ?_ | refine blk_alloc ?_ _)); refine blk_put (cs := #[.int .i64 t412, .int .i64 t413, .int .i64 t414, .slice Ao118 t415.length co118, .slice none 0 0]) ?_ 4 _ rfl; (with_reducible repeat (first | refine blk_drewN ?_ _ | refine blk_drew ?_ | refine blk_alloc ?_ _)); refine blk_put (cs := #[.int .i64 t412, .int .i64 t413, .int .i64 t414, .slice none 0 0, .slice none 0 0]) ?_ 3 _ rfl; (with_reducible repeat (first | refine blk_drewN ?_ _ | refine blk_drew ?_ | refine blk_alloc ?_ _)); refine blk_put (cs := #[.int .i64 t412, .int .i64 t413, .int .i64 0, .slice none 0 0, .slice none 0 0]) ?_ 2 _ rfl; (with_reducible repeat (first | refine blk_drewN ?_ _ | refine blk_drew ?_ | refine blk_alloc ?_ _)); refine blk_put (cs := #[.int .i64 t412, .int .i64 0, .int .i64 0, .slice none 0 0, .slice none 0 0]) ?_ 1 _ rfl; (with_reducible repeat (first | refine blk_drewN ?_ _ | refine blk_drew ?_ | refine blk_alloc ?_ _)); refine blk_put (cs := #[.int .i64 0, .int .i64 0, .int .i64 0, .slice none 0 0, .slice none 0 0]) ?_ 0 _ rfl; (with_reducible repeat (first | refine blk_drewN ?_ _ | refine blk_drew ?_ | refine blk_alloc ?_ _)); exact BK424.out⟩, ⟨zB HB⟩⟩
           ·
            rw [if_neg c120] at H
            have c120b0 : (t410 == 0) = false := beq_eq_false_iff_ne.mpr c120
            have c120b1 : (t410 != 0) = true := bne_iff_ne.mpr c120
            (first | rw [c120b0] | (simp only [i64_w, i32_w]; rw [c120b0]) | skip)
            (try rw [c120b1])
            have H' := Aside0.mk H
            clear H
            go_wp2
            go_meet
            case rel => exact ⟨_, (true), (by first | rfl | (simp; done) | (simp [*]; done)), H', ⟨by have := HJ3.out; have := HJ47.out; first | omega | exact Nat.le_refl _⟩, ⟨by (with_reducible repeat (first | apply Kd.V_alloc | apply Kd.V_drewN | apply Kd.V_drew)); exact Kd.V_mono (zVf5 (g := gb424) (Kd.V_mono HO_385003.out (fun k_ hk => (⟨hk, hk.2⟩ : _ ∧ k_ ≠ gb424)))) (fun _ hk => ⟨hk.1.1.1, ⟨hk.1.1.2.1, ⟨hk.1.1.2.2.1, ⟨hk.1.1.2.2.2.1, ⟨hk.1.1.2.2.2.2.1, ⟨hk.1.1.2.2.2.2.2, hk.1.2⟩⟩⟩⟩⟩⟩)⟩, ⟨by (with_reducible repeat (first | apply Kd.V_alloc | apply Kd.V_drewN | apply Kd.V_drew)); exact Kd.V_mono (zVf5 (g := gb424) (Kd.V_mono HO_385004.out (fun k_ hk => (⟨hk, hk.2⟩ : _ ∧ k_ ≠ gb424)))) (fun _ hk => ⟨hk.1.1.1, ⟨hk.1.1.2.1, ⟨hk.1.1.2.2.1, ⟨hk.1.1.2.2.2.1, ⟨hk.1.1.2.2.2.2.1, ⟨hk.1.1.2.2.2.2.2, hk.1.2⟩⟩⟩⟩⟩⟩)⟩, ⟨by (with_reducible repeat (first | apply Kd.V_alloc | apply Kd.V_drewN | apply Kd.V_drew)); exact Kd.V_mono (zVf5 (g := gb424) (Kd.V_mono HO_393003.out (fun k_ hk => (⟨hk, hk.2⟩ : _ ∧ k_ ≠ gb424)))) (fun _ hk => ⟨hk.1.1.1, ⟨hk.1.1.2.1, ⟨hk.1.1.2.2.1, ⟨hk.1.1.2.2.2.1, ⟨hk.1.1.2.2.2.2.1, ⟨hk.1.1.2.2.2.2.2, hk.1.2⟩⟩⟩⟩⟩⟩)⟩, ⟨by (with_reducible repeat (first | apply Kd.V_alloc | apply Kd.V_drewN | apply Kd.V_drew)); exact Kd.V_mono (zVf5 (g := gb424) (Kd.V_mono HO_393004.out (fun k_ hk => (⟨hk, hk.2⟩ : _ ∧ k_ ≠ gb424)))) (fun _ hk => ⟨hk.1.1.1, ⟨hk.1.1.2.1, ⟨hk.1.1.2.2.1, ⟨hk.1.1.2.2.2.1, ⟨hk.1.1.2.2.2.2.1, ⟨hk.1.1.2.2.2.2.2, hk.1.2⟩⟩⟩⟩⟩⟩)⟩, ⟨by (with_reducible repeat (first | apply Kd.V_alloc | apply Kd.V_drewN | apply Kd.V_drew)); exact Kd.V_mono (zVf5 (g := gb424) (Kd.V_mono HO404.out (fun k_ hk => (⟨hk, hk.2⟩ : _ ∧ k_ ≠ gb424)))) (fun _ hk => ⟨hk.1.1.1, ⟨hk.1.1.2.1, ⟨hk.1.1.2.2.1, ⟨hk.1.1.2.2.2.1, ⟨hk.1.1.2.2.2.2.1, ⟨hk.1.1.2.2.2.2.2, hk.1.2⟩⟩⟩⟩⟩⟩)⟩, ⟨by (with_reducible repeat (first | apply Kd.V_alloc | apply Kd.V_drewN | apply Kd.V_drew)); exact Kd.V_mono (zVf5 (g := gb424) (Kd.V_mono HO407.out (fun k_ hk => (⟨hk, hk.2⟩ : _ ∧ k_ ≠ gb424)))) (fun _ hk => ⟨hk.1.1.1, ⟨hk.1.1.2.1, ⟨hk.1.1.2.2.1, ⟨hk.1.1.2.2.2.1, ⟨hk.1.1.2.2.2.2.1, ⟨hk.1.1.2.2.2.2.2, hk.1.2⟩⟩⟩⟩⟩⟩)⟩, ⟨by (with_reducible repeat (first | apply Kd.V_alloc | apply Kd.V_drewN | apply Kd.V_drew)); exact Kd.V_mono (zVf5 (g := gb424) (Kd.V_mono HO417.out (fun k_ hk => (⟨hk, hk.2⟩ : _ ∧ k_ ≠ gb424)))) (fun _ hk => ⟨hk.1.1.1, ⟨hk.1.1.2.1, ⟨hk.1.1.2.2.1, ⟨hk.1.1.2.2.2.1, ⟨hk.1.1.2.2.2.2.1, ⟨hk.1.1.2.2.2.2.2, hk.1.2⟩⟩⟩⟩⟩⟩)⟩, ⟨by (with_reducible repeat (first | apply Kd.V_alloc | apply Kd.V_drewN | apply Kd.V_drew)); exact Kd.V_mono (zVf5 (g := gb424) (Kd.V_mono HO420.out (fun k_ hk => (⟨hk, hk.2⟩ : _ ∧ k_ ≠ gb424)))) (fun _ hk => ⟨hk.1.1.1, ⟨hk.1.1.2.1, ⟨hk.1.1.2.2.1, ⟨hk.1.1.2.2.2.1, ⟨hk.1.1.2.2.2.2.1, ⟨hk.1.1.2.2.2.2.2, hk.1.2⟩⟩⟩⟩⟩⟩)⟩, ⟨zK BK383⟩, ⟨zK BK384⟩, ⟨zK BK391⟩, ⟨zK BK392⟩, ⟨zK BK411⟩, ⟨by (with_reducible repeat (first | refine blk_drewN ?_ _ | refine blk_drew ?_ | refine blk_alloc ?_ _)); refine blk_put (cs := #[.int .i64 t412, .int .i64 t413, .int .i64 t414, .slice Ao118 t415.length co118, .slice none 0 0]) ?_ 4 _ rfl; (with_reducible repeat (first | refine blk_drewN ?_ _ | refine blk_drew ?_ | refine blk_alloc ?_ _)); refine blk_put (cs := #[.int .i64 t412, .int .i64 t413, .int .i64 t414, .slice none 0 0, .slice none 0 0]) ?_ 3 _ rfl; (with_reducible repeat (first | refine blk_drewN ?_ _ | refine blk_drew ?_ | refine blk_alloc ?_ _)); refine blk_put (cs := #[.int .i64 t412, .int .i64 t413, .int .i64 0, .slice none 0 0, .slice none 0 0]) ?_ 2 _ rfl; (with_reducible repeat (first | refine blk_drewN ?_ _ | refine blk_drew ?_ | refine blk_alloc ?_ _)); refine blk_put (cs := #[.int .i64 t412, .int .i64 0, .int .i64 0, .slice none 0 0, .slice none 0 0]) ?_ 1 _ rfl; (with_reducible repeat (first | refine blk_drewN ?_ _ | refine blk_drew ?_ | refine blk_alloc ?_ _)); refine blk_put (cs := #[.int .i64 0, .int .i64 0, .int .i64 0, .slice none 0 0, .slice none 0 0]) ?_ 0 _ rfl; (with_reducible repeat (first | refine blk_drewN ?_ _ | refine blk_drew ?_ | refine blk_alloc ?_ _)); exact BK424.out⟩, ⟨zB HB⟩⟩
          case rest =>
           clear HC87
           try clear c1
           try clear c2
           try clear p2
           try clear c3
           try clear p3
           try clear q3
           try clear hx3
           try clear c4
           try clear c5
           try clear c6
           try clear p6
           try clear c7
           try clear c8
           try clear c9
           try clear c10
           try clear c11
           try clear c12
           try clear c14
           try clear c15
           try clear c15b0
           try clear c15b1
           try clear c16
           try clear c25
           try clear c34
           try clear c38
           try clear p38
           try clear q38
           try clear hx38
           try clear p39
           try clear q39
           try clear hx39
           try clear c41
           try clear c44
           try clear c44b0
           try clear c45
           try clear c45b0
           try clear c46
           try clear c46b0
           try clear c47
           try clear c47b0
           try clear c54
           try clear c55
           try clear c58
           try clear c59
           try clear c60
           try clear c62
           try clear c64
           try clear c64b0
           try clear c64b1
           try clear p64
           try clear c66
           try clear c67
           try clear c68
           try clear c72
           try clear c73
           try clear c76
           try clear c77
           try clear c78
           try clear c82
           try clear c83
           try clear c88
           try clear c89
           try clear c90
           try clear c92
           try clear c93
           try clear c97
           try clear c98
           try clear c99
           try clear c100
           try clear c106
           try clear c112
           try clear c113
           try clear c114
           try clear c115
           try clear c116
           try clear c120
           try clear c120b0
           try clear c120b1
           try clear c121
           try clear c121b0
           try clear c121b1
           try clear c122
           try clear hz101
           try clear hz105
           try clear hz107
           try clear hz10
           try clear hz117
           try clear hz11
           try clear hz17
           try clear hz18
           try clear hz20
           try clear hz21
           try clear hz23
           try clear hz26
           try clear hz27
           try clear hz29
           try clear hz30
           try clear hz32
           try clear hz35
           try clear hz36
           try clear hz38
           try clear hz39
           try clear hz56
           try clear hz61
           try clear hz63
           try clear hz69
           try clear hz74
           try clear hz79
           try clear hz84
           try clear hz91
           try clear hz94
           try clear hx389_0
           try clear hx390_0
           try clear hx390_1
           try clear hx390_2
           try clear p2
           try clear p3
           try clear p38
           try clear p389
           try clear p39
           try clear p390
           try clear p6
           try clear p64
           try clear q3
           try clear q38
           try clear q389
           try clear q39
           try clear q390
           obtain ⟨kq, x95_86, rfl, HA, HJ86, HO_385003, HO_385004, HO_393003, HO_393004, HO_412003, HO_412004, HO_425003, HO_425004, BK383, BK384, BK391, BK392, BK411, BK424, HB⟩ := hcut
           cases kq with
           | zero => exact absurd HA.out (by simp [standstilllaw04_LeapLong.j2])
           | succ kj86 =>
            have H := HA.out
            clear HA
            simp only [standstilllaw04_LeapLong.j2] at H
            by_cases c123 : x95_86 = true
            ·
             subst c123
             have H1 : (if t410 = t423 then (if (t409 == t422) = true then ((standstilllaw04_awake.f kj86).bind fun t425 => (some t425)) else (some false)) else (if t410 = 4 then (if (t409 == t422) = true then ((standstilllaw04_awake.f kj86).bind fun t426 => (some t426)) else (some false)) else (if t423 = 4 then (if (t409 == t422) = true then ((standstilllaw04_awake.f kj86).bind fun t427 => (some t427)) else (some false)) else (some false)))) = some r := by rw [if_pos rfl] at H; exact H
             clear H
             have H := H1
             clear H1
             by_cases c124 : t410 = t423
             ·
              rw [if_pos c124] at H
              have c124b0 : (t410 == t423) = true := beq_iff_eq.mpr c124
              have c124b1 : (t410 != t423) = false := bne_eq_false_iff_eq.mpr c124
              clear c124
              by_cases c125 : (t409 == t422) = true
              ·
               rw [if_pos c125] at H
               have c125b0 : (t409 == t422) = true := c125
               (try (have c125b1 : decide (t409 = t422) = true := by simpa using c125))
               (try (have c125b2 : (t409 == t422) = true := by simpa using c125))
               clear c125
               replace H := Option.bind_eq_some_iff.mp H
               obtain ⟨t425, A1260, H⟩ := H
               replace H : (some t425) = some r := H
               have A126 := Aside0.mk A1260
               clear A1260
               obtain rfl := Option.some.inj H
               go_wp2_with (first | (go_at_call 9; (with_reducible refine (standstilllaw04_awake.calls kj86  t425 _ A126.out).mono ?_); rintro e w127 ⟨rfl, hb⟩; replace HO_385003 := Aside0.mk (zVb HO_385003 hb); replace HO_385004 := Aside0.mk (zVb HO_385004 hb); replace HO_393003 := Aside0.mk (zVb HO_393003 hb); replace HO_393004 := Aside0.mk (zVb HO_393004 hb); replace HO_412003 := Aside0.mk (zVb HO_412003 hb); replace HO_412004 := Aside0.mk (zVb HO_412004 hb); replace HO_425003 := Aside0.mk (zVb HO_425003 hb); replace HO_425004 := Aside0.mk (zVb HO_425004 hb); replace BK383 := Aside0.mk (zb BK383 hb); replace BK384 := Aside0.mk (zb BK384 hb); replace BK391 := Aside0.mk (zb BK391 hb); replace BK392 := Aside0.mk (zb BK392 hb); replace BK411 := Aside0.mk (zb BK411 hb); replace BK424 := Aside0.mk (zb BK424 hb); replace HB := Aside0.mk (below_step (zB HB) hb); (try clear hb); (try clear hb2); (try clear hk); (try clear hi)))
               go_ret
               exact ⟨by first | rfl | (simp [errW_none, errW_some] <;> rfl) | (simp [*, errW_none, errW_some] <;> rfl), zB HB⟩
              ·
               rw [if_neg c125] at H
               have c125b0 : (t409 == t422) = false := by simpa using c125
               (try (have c125b1 : decide (t409 = t422) = false := by simpa using c125))
               (try (have c125b2 : (t409 == t422) = false := by simpa using c125))
               (try (have c125b3 : ¬ (t409 = t422) := by simpa using c125))
               clear c125
               obtain rfl := Option.some.inj H
               go_wp2
               go_ret
               exact ⟨by first | rfl | (simp [errW_none, errW_some] <;> rfl) | (simp [*, errW_none, errW_some] <;> rfl), zB HB⟩
             ·
              rw [if_neg c124] at H
              have c124b0 : (t410 == t423) = false := beq_eq_false_iff_ne.mpr c124
              have c124b1 : (t410 != t423) = true := bne_iff_ne.mpr c124
              by_cases c128 : t410 = 4
              ·
               rw [if_pos c128] at H
               have c128b0 : (t410 == 4) = true := beq_iff_eq.mpr c128
               have c128b1 : (t410 != 4) = false := bne_eq_false_iff_eq.mpr c128
               clear c128
               by_cases c129 : (t409 == t422) = true
               ·
                rw [if_pos c129] at H
                have c129b0 : (t409 == t422) = true := c129
                (try (have c129b1 : decide (t409 = t422) = true := by simpa using c129))
                (try (have c129b2 : (t409 == t422) = true := by simpa using c129))
                clear c129
                replace H := Option.bind_eq_some_iff.mp H
                obtain ⟨t426, A1300, H⟩ := H
                replace H : (some t426) = some r := H
                have A130 := Aside0.mk A1300
                clear A1300
                obtain rfl := Option.some.inj H
                go_wp2_with (first | (go_at_call 9; (with_reducible refine (standstilllaw04_awake.calls kj86  t426 _ A130.out).mono ?_); rintro e w131 ⟨rfl, hb⟩; replace HO_385003 := Aside0.mk (zVb HO_385003 hb); replace HO_385004 := Aside0.mk (zVb HO_385004 hb); replace HO_393003 := Aside0.mk (zVb HO_393003 hb); replace HO_393004 := Aside0.mk (zVb HO_393004 hb); replace HO_412003 := Aside0.mk (zVb HO_412003 hb); replace HO_412004 := Aside0.mk (zVb HO_412004 hb); replace HO_425003 := Aside0.mk (zVb HO_425003 hb); replace HO_425004 := Aside0.mk (zVb HO_425004 hb); replace BK383 := Aside0.mk (zb BK383 hb); replace BK384 := Aside0.mk (zb BK384 hb); replace BK391 := Aside0.mk (zb BK391 hb); replace BK392 := Aside0.mk (zb BK392 hb); replace BK411 := Aside0.mk (zb BK411 hb); replace BK424 := Aside0.mk (zb BK424 hb); replace HB := Aside0.mk (below_step (zB HB) hb); (try clear hb); (try clear hb2); (try clear hk); (try clear hi)))
                go_ret
                exact ⟨by first | rfl | (simp [errW_none, errW_some] <;> rfl) | (simp [*, errW_none, errW_some] <;> rfl), zB HB⟩
               ·
                rw [if_neg c129] at H
                have c129b0 : (t409 == t422) = false := by simpa using c129
                (try (have c129b1 : decide (t409 = t422) = false := by simpa using c129))
                (try (have c129b2 : (t409 == t422) = false := by simpa using c129))
                (try (have c129b3 : ¬ (t409 = t422) := by simpa using c129))
                clear c129
                obtain rfl := Option.some.inj H
                go_wp2
                go_ret
                exact ⟨by first | rfl | (simp [errW_none, errW_some] <;> rfl) | (simp [*, errW_none, errW_some] <;> rfl), zB HB⟩
              ·
               rw [if_neg c128] at H
               have c128b0 : (t410 == 4) = false := beq_eq_false_iff_ne.mpr c128
               have c128b1 : (t410 != 4) = true := bne_iff_ne.mpr c128
               by_cases c132 : t423 = 4
               ·
                rw [if_pos c132] at H
                have c132b0 : (t423 == 4) = true := beq_iff_eq.mpr c132
                have c132b1 : (t423 != 4) = false := bne_eq_false_iff_eq.mpr c132
                clear c132
                by_cases c133 : (t409 == t422) = true
                ·
                 rw [if_pos c133] at H
                 have c133b0 : (t409 == t422) = true := c133
                 (try (have c133b1 : decide (t409 = t422) = true := by simpa using c133))
                 (try (have c133b2 : (t409 == t422) = true := by simpa using c133))
                 clear c133
                 replace H := Option.bind_eq_some_iff.mp H
                 obtain ⟨t427, A1340, H⟩ := H
                 replace H : (some t427) = some r := H
                 have A134 := Aside0.mk A1340
                 clear A1340
                 obtain rfl := Option.some.inj H
                 go_wp2_with (first | (go_at_call 9; (with_reducible refine (standstilllaw04_awake.calls kj86  t427 _ A134.out).mono ?_); rintro e w135 ⟨rfl, hb⟩; replace HO_385003 := Aside0.mk (zVb HO_385003 hb); replace HO_385004 := Aside0.mk (zVb HO_385004 hb); replace HO_393003 := Aside0.mk (zVb HO_393003 hb); replace HO_393004 := Aside0.mk (zVb HO_393004 hb); replace HO_412003 := Aside0.mk (zVb HO_412003 hb); replace HO_412004 := Aside0.mk (zVb HO_412004 hb); replace HO_425003 := Aside0.mk (zVb HO_425003 hb); replace HO_425004 := Aside0.mk (zVb HO_425004 hb); replace BK383 := Aside0.mk (zb BK383 hb); replace BK384 := Aside0.mk (zb BK384 hb); replace BK391 := Aside0.mk (zb BK391 hb); replace BK392 := Aside0.mk (zb BK392 hb); replace BK411 := Aside0.mk (zb BK411 hb); replace BK424 := Aside0.mk (zb BK424 hb); replace HB := Aside0.mk (below_step (zB HB) hb); (try clear hb); (try clear hb2); (try clear hk); (try clear hi)))
                 go_ret
                 exact ⟨by first | rfl | (simp [errW_none, errW_some] <;> rfl) | (simp [*, errW_none, errW_some] <;> rfl), zB HB⟩
                ·
                 rw [if_neg c133] at H
                 have c133b0 : (t409 == t422) = false := by simpa using c133
                 (try (have c133b1 : decide (t409 = t422) = false := by simpa using c133))
                 (try (have c133b2 : (t409 == t422) = false := by simpa using c133))
                 (try (have c133b3 : ¬ (t409 = t422) := by simpa using c133))
                 clear c133
                 obtain rfl := Option.some.inj H
                 go_wp2
                 go_ret
                 exact ⟨by first | rfl | (simp [errW_none, errW_some] <;> rfl) | (simp [*, errW_none, errW_some] <;> rfl), zB HB⟩
               ·
                rw [if_neg c132] at H
                have c132b0 : (t423 == 4) = false := beq_eq_false_iff_ne.mpr c132
                have c132b1 : (t423 != 4) = true := bne_iff_ne.mpr c132
                obtain rfl := Option.some.inj H
                go_wp2
                go_ret
                exact ⟨by first | rfl | (simp [errW_none, errW_some] <;> rfl) | (simp [*, errW_none, errW_some] <;> rfl), zB HB⟩
            ·
             replace c123 := Bool.eq_false_iff.mpr c123
             subst c123
             have H1 : (if ((rd_T37 (rd_L2 l0_2 a1_0) a1_2).f1) < 0 then ((standstillref04_Push.f kj86 t405 ((rd_T37 (rd_L2 l0_2 a1_0) a1_2).f0) (wrap64 (Int.tmod a2 1125899906842624))).bind fun t429 => (if t422 = true then (some false) else (if t421 = (wrap64 (t408 + (wrap64 (Int.tmod a2 1125899906842624)))) then ((standstillref04_Same.f kj86 t412 t413 t414 t415 t418 t399 (wrap64 (t400 + (wrap64 (((rd_T37 (rd_L2 l0_2 a1_0) a1_2).f1) * (wrap64 (Int.tmod a2 1125899906842624)))))) t401 t402 t429).bind fun t432 => (if t432 = true then ((standstilllaw04_awake.f kj86).bind fun t433 => (some t433)) else (some false))) else (some false)))) else ((standstillref04_Push.f kj86 t402 ((rd_T37 (rd_L2 l0_2 a1_0) a1_2).f0) (wrap64 (Int.tmod a2 1125899906842624))).bind fun t434 => (if t422 = true then (some false) else (if t421 = (wrap64 (t408 + (wrap64 (Int.tmod a2 1125899906842624)))) then ((standstillref04_Same.f kj86 t412 t413 t414 t415 t418 t399 (wrap64 (t400 + (wrap64 (((rd_T37 (rd_L2 l0_2 a1_0) a1_2).f1) * (wrap64 (Int.tmod a2 1125899906842624)))))) t401 t434 t405).bind fun t437 => (if t437 = true then ((standstilllaw04_awake.f kj86).bind fun t438 => (some t438)) else (some false))) else (some false))))) = some r := by rw [if_neg (show ¬ (false = true) by decide)] at H; exact H
             clear H
             have H := H1
             clear H1
             have HC136 := Aside0.mk H
             clear H
             have hnb137 := NB411_383.out
             have hnc137 := NB383_411.out
             have hnb138 := NB411_384.out
             have hnc138 := NB384_411.out
             have hnb139 := NB411_391.out
             have hnc139 := NB391_411.out
             have hnb140 := NB411_392.out
             have hnc140 := NB392_411.out
             have hnb141 := NB411_424.out
             have hnc141 := NB424_411.out
             have hz142 := zc5 BK411
             go_upto_if 126 with (first | ((with_reducible refine gate_dst (N := 18) rfl ?_); refine box_event ?hg (N := 18) ?hd (cs := #[.int .i64 0, .int .i64 0, .int .i64 0, .slice none 0 0, .slice none 0 0]) (t := 27) ?hr ?_; (case hd => rfl); (case hg => rfl); (case hr => first | (go_simp; done) | (go_simp; rfl)); intro gb428 hg w143 hbox hb; have BK428 := Aside0.mk (hbox); have GW428 := Aside0.mk ((by rw [hg]; exact (below_size (zB HB)) : w.heap.size ≤ gb428)); have GE428 := Aside0.mk ((by rw [hg]; exact (below_size (zB HB)) : w.heap.size ≤ gb428)); have NB383_428 := Aside0.mk ((by rw [hg]; exact Nat.ne_of_lt (zL BK383) : gb383 ≠ gb428)); have NB428_383 := Aside0.mk ((by rw [hg]; exact Nat.ne_of_gt (zL BK383) : gb428 ≠ gb383)); have NB384_428 := Aside0.mk ((by rw [hg]; exact Nat.ne_of_lt (zL BK384) : gb384 ≠ gb428)); have NB428_384 := Aside0.mk ((by rw [hg]; exact Nat.ne_of_gt (zL BK384) : gb428 ≠ gb384)); have NB391_428 := Aside0.mk ((by rw [hg]; exact Nat.ne_of_lt (zL BK391) : gb391 ≠ gb428)); have NB428_391 := Aside0.mk ((by rw [hg]; exact Nat.ne_of_gt (zL BK391) : gb428 ≠ gb391)); have NB392_428 := Aside0.mk ((by rw [hg]; exact Nat.ne_of_lt (zL BK392) : gb392 ≠ gb428)); have NB428_392 := Aside0.mk ((by rw [hg]; exact Nat.ne_of_gt (zL BK392) : gb428 ≠ gb392)); have NB411_428 := Aside0.mk ((by rw [hg]; exact Nat.ne_of_lt (zL BK411) : gb411 ≠ gb428)); have NB428_411 := Aside0.mk ((by rw [hg]; exact Nat.ne_of_gt (zL BK411) : gb428 ≠ gb411)); have NB424_428 := Aside0.mk ((by rw [hg]; exact Nat.ne_of_lt (zL BK424) : gb424 ≠ gb428)); have NB428_424 := Aside0.mk ((by rw [hg]; exact Nat.ne_of_gt (zL BK424) : gb428 ≠ gb424)); replace HO_385003 := Aside0.mk (Kd.V_below (Kd.V_elderB (zV HO_385003) gb428 (Nat.le_of_eq hg.symm)) hb); replace HO_385004 := Aside0.mk (Kd.V_below (Kd.V_elderB (zV HO_385004) gb428 (Nat.le_of_eq hg.symm)) hb); replace HO_393003 := Aside0.mk (Kd.V_below (Kd.V_elderB (zV HO_393003) gb428 (Nat.le_of_eq hg.symm)) hb); replace HO_393004 := Aside0.mk (Kd.V_below (Kd.V_elderB (zV HO_393004) gb428 (Nat.le_of_eq hg.symm)) hb); replace HO_412003 := Aside0.mk (Kd.V_below (Kd.V_elderB (zV HO_412003) gb428 (Nat.le_of_eq hg.symm)) hb); replace HO_412004 := Aside0.mk (Kd.V_below (Kd.V_elderB (zV HO_412004) gb428 (Nat.le_of_eq hg.symm)) hb); replace HO_425003 := Aside0.mk (Kd.V_below (Kd.V_elderB (zV HO_425003) gb428 (Nat.le_of_eq hg.symm)) hb); replace HO_425004 := Aside0.mk (Kd.V_below (Kd.V_elderB (zV HO_425004) gb428 (Nat.le_of_eq hg.symm)) hb); replace BK383 := Aside0.mk (zb BK383 hb); replace BK384 := Aside0.mk (zb BK384 hb); replace BK391 := Aside0.mk (zb BK391 hb); replace BK392 := Aside0.mk (zb BK392 hb); replace BK411 := Aside0.mk (zb BK411 hb); replace BK424 := Aside0.mk (zb BK424 hb); replace HB := Aside0.mk (below_step (zB HB) hb); clear hb hbox hg; have hnb144 := NB428_383.out; have hnc144 := NB383_428.out; have hnb145 := NB428_384.out; have hnc145 := NB384_428.out; have hnb146 := NB428_391.out; have hnc146 := NB391_428.out; have hnb147 := NB428_392.out; have hnc147 := NB392_428.out; have hnb148 := NB428_411.out; have hnc148 := NB411_428.out; have hnb149 := NB428_424.out; have hnc149 := NB424_428.out; have hz150 := zc5 BK428) | ((with_reducible refine gate_store (t := 27) (p := 18) rfl ?_); refine store_event (t := 27) (p := 18) (v := ?vo_w151) (w1 := (((((w143.setCell ⟨gb428, 0, none⟩ (.int .i64 t399)).setCell ⟨gb428, 1, none⟩ (.int .i64 t400)).setCell ⟨gb428, 2, none⟩ (.int .i64 t401)).setCell ⟨gb428, 3, none⟩ (.slice Ao102 t402.length co102)).setCell ⟨gb428, 4, none⟩ (.slice Ao103 t405.length co103))) ?hg ?ho ?hn ?hr ?_; (case ho => rfl); (case hg => rfl); (case hn => rfl); (case hr => first | (go_simp; done) | (go_simp; rfl)); intro w151 hw; have n0_ : Aside0 (Kd.V k62 62 w151 w.heap.size (fun k_ => ((P1_3_ k_ ∨ P1_4_ k_) ∨ w.heap.size ≤ k_) ∧ k_ ≠ gb383 ∧ k_ ≠ gb384 ∧ k_ ≠ gb391 ∧ k_ ≠ gb392 ∧ k_ ≠ gb411 ∧ k_ ≠ gb424 ∧ k_ ≠ gb428) (.slice A1_3 l1_3.length c1_3) l1_3) := ⟨(by rw [hw]; exact (by (with_reducible repeat (first | apply Kd.V_alloc | apply Kd.V_drewN | apply Kd.V_drew)); exact Kd.V_mono (zVf5 (g := gb428) (Kd.V_mono HO_385003.out (fun k_ hk => (⟨hk, hk.2⟩ : _ ∧ k_ ≠ gb428)))) (fun _ hk => ⟨hk.1.1.1, ⟨hk.1.1.2.1, ⟨hk.1.1.2.2.1, ⟨hk.1.1.2.2.2.1, ⟨hk.1.1.2.2.2.2.1, ⟨hk.1.1.2.2.2.2.2.1, ⟨hk.1.1.2.2.2.2.2.2, hk.1.2⟩⟩⟩⟩⟩⟩⟩)))⟩; have n1_ : Aside0 (Kd.V k62 62 w151 w.heap.size (fun k_ => ((P1_3_ k_ ∨ P1_4_ k_) ∨ w.heap.size ≤ k_) ∧ k_ ≠ gb383 ∧ k_ ≠ gb384 ∧ k_ ≠ gb391 ∧ k_ ≠ gb392 ∧ k_ ≠ gb411 ∧ k_ ≠ gb424 ∧ k_ ≠ gb428) (.slice A1_4 l1_4.length c1_4) l1_4) := ⟨(by rw [hw]; exact (by (with_reducible repeat (first | apply Kd.V_alloc | apply Kd.V_drewN | apply Kd.V_drew)); exact Kd.V_mono (zVf5 (g := gb428) (Kd.V_mono HO_385004.out (fun k_ hk => (⟨hk, hk.2⟩ : _ ∧ k_ ≠ gb428)))) (fun _ hk => ⟨hk.1.1.1, ⟨hk.1.1.2.1, ⟨hk.1.1.2.2.1, ⟨hk.1.1.2.2.2.1, ⟨hk.1.1.2.2.2.2.1, ⟨hk.1.1.2.2.2.2.2.1, ⟨hk.1.1.2.2.2.2.2.2, hk.1.2⟩⟩⟩⟩⟩⟩⟩)))⟩; have n2_ : Aside0 (Kd.V k62 62 w151 w.heap.size (fun k_ => ((P1_3_ k_ ∨ P1_4_ k_) ∨ w.heap.size ≤ k_) ∧ k_ ≠ gb383 ∧ k_ ≠ gb384 ∧ k_ ≠ gb391 ∧ k_ ≠ gb392 ∧ k_ ≠ gb411 ∧ k_ ≠ gb424 ∧ k_ ≠ gb428) (.slice Ao108 x393003_47.length co108) x393003_47) := ⟨(by rw [hw]; exact (by (with_reducible repeat (first | apply Kd.V_alloc | apply Kd.V_drewN | apply Kd.V_drew)); exact Kd.V_mono (zVf5 (g := gb428) (Kd.V_mono HO_393003.out (fun k_ hk => (⟨hk, hk.2⟩ : _ ∧ k_ ≠ gb428)))) (fun _ hk => ⟨hk.1.1.1, ⟨hk.1.1.2.1, ⟨hk.1.1.2.2.1, ⟨hk.1.1.2.2.2.1, ⟨hk.1.1.2.2.2.2.1, ⟨hk.1.1.2.2.2.2.2.1, ⟨hk.1.1.2.2.2.2.2.2, hk.1.2⟩⟩⟩⟩⟩⟩⟩)))⟩; have n3_ : Aside0 (Kd.V k62 62 w151 w.heap.size (fun k_ => ((P1_3_ k_ ∨ P1_4_ k_) ∨ w.heap.size ≤ k_) ∧ k_ ≠ gb383 ∧ k_ ≠ gb384 ∧ k_ ≠ gb391 ∧ k_ ≠ gb392 ∧ k_ ≠ gb411 ∧ k_ ≠ gb424 ∧ k_ ≠ gb428) (.slice Ao109 x393004_47.length co109) x393004_47) := ⟨(by rw [hw]; exact (by (with_reducible repeat (first | apply Kd.V_alloc | apply Kd.V_drewN | apply Kd.V_drew)); exact Kd.V_mono (zVf5 (g := gb428) (Kd.V_mono HO_393004.out (fun k_ hk => (⟨hk, hk.2⟩ : _ ∧ k_ ≠ gb428)))) (fun _ hk => ⟨hk.1.1.1, ⟨hk.1.1.2.1, ⟨hk.1.1.2.2.1, ⟨hk.1.1.2.2.2.1, ⟨hk.1.1.2.2.2.2.1, ⟨hk.1.1.2.2.2.2.2.1, ⟨hk.1.1.2.2.2.2.2.2, hk.1.2⟩⟩⟩⟩⟩⟩⟩)))⟩; have n4_ : Aside0 (Kd.V k62 62 w151 w.heap.size (fun k_ => ((P1_3_ k_ ∨ P1_4_ k_) ∨ w.heap.size ≤ k_) ∧ k_ ≠ gb383 ∧ k_ ≠ gb384 ∧ k_ ≠ gb391 ∧ k_ ≠ gb392 ∧ k_ ≠ gb411 ∧ k_ ≠ gb424 ∧ k_ ≠ gb428) (.slice Ao102 t402.length co102) t402) := ⟨(by rw [hw]; exact (by (with_reducible repeat (first | apply Kd.V_alloc | apply Kd.V_drewN | apply Kd.V_drew)); exact Kd.V_mono (zVf5 (g := gb428) (Kd.V_mono HO_412003.out (fun k_ hk => (⟨hk, hk.2⟩ : _ ∧ k_ ≠ gb428)))) (fun _ hk => ⟨hk.1.1.1, ⟨hk.1.1.2.1, ⟨hk.1.1.2.2.1, ⟨hk.1.1.2.2.2.1, ⟨hk.1.1.2.2.2.2.1, ⟨hk.1.1.2.2.2.2.2.1, ⟨hk.1.1.2.2.2.2.2.2, hk.1.2⟩⟩⟩⟩⟩⟩⟩)))⟩; have n5_ : Aside0 (Kd.V k62 62 w151 w.heap.size (fun k_ => ((P1_3_ k_ ∨ P1_4_ k_) ∨ w.heap.size ≤ k_) ∧ k_ ≠ gb383 ∧ k_ ≠ gb384 ∧ k_ ≠ gb391 ∧ k_ ≠ gb392 ∧ k_ ≠ gb411 ∧ k_ ≠ gb424 ∧ k_ ≠ gb428) (.slice Ao103 t405.length co103) t405) := ⟨(by rw [hw]; exact (by (with_reducible repeat (first | apply Kd.V_alloc | apply Kd.V_drewN | apply Kd.V_drew)); exact Kd.V_mono (zVf5 (g := gb428) (Kd.V_mono HO_412004.out (fun k_ hk => (⟨hk, hk.2⟩ : _ ∧ k_ ≠ gb428)))) (fun _ hk => ⟨hk.1.1.1, ⟨hk.1.1.2.1, ⟨hk.1.1.2.2.1, ⟨hk.1.1.2.2.2.1, ⟨hk.1.1.2.2.2.2.1, ⟨hk.1.1.2.2.2.2.2.1, ⟨hk.1.1.2.2.2.2.2.2, hk.1.2⟩⟩⟩⟩⟩⟩⟩)))⟩; have n6_ : Aside0 (Kd.V k62 62 w151 w.heap.size (fun k_ => ((P1_3_ k_ ∨ P1_4_ k_) ∨ w.heap.size ≤ k_) ∧ k_ ≠ gb383 ∧ k_ ≠ gb384 ∧ k_ ≠ gb391 ∧ k_ ≠ gb392 ∧ k_ ≠ gb411 ∧ k_ ≠ gb424 ∧ k_ ≠ gb428) (.slice Ao118 t415.length co118) t415) := ⟨(by rw [hw]; exact (by (with_reducible repeat (first | apply Kd.V_alloc | apply Kd.V_drewN | apply Kd.V_drew)); exact Kd.V_mono (zVf5 (g := gb428) (Kd.V_mono HO_425003.out (fun k_ hk => (⟨hk, hk.2⟩ : _ ∧ k_ ≠ gb428)))) (fun _ hk => ⟨hk.1.1.1, ⟨hk.1.1.2.1, ⟨hk.1.1.2.2.1, ⟨hk.1.1.2.2.2.1, ⟨hk.1.1.2.2.2.2.1, ⟨hk.1.1.2.2.2.2.2.1, ⟨hk.1.1.2.2.2.2.2.2, hk.1.2⟩⟩⟩⟩⟩⟩⟩)))⟩; have n7_ : Aside0 (Kd.V k62 62 w151 w.heap.size (fun k_ => ((P1_3_ k_ ∨ P1_4_ k_) ∨ w.heap.size ≤ k_) ∧ k_ ≠ gb383 ∧ k_ ≠ gb384 ∧ k_ ≠ gb391 ∧ k_ ≠ gb392 ∧ k_ ≠ gb411 ∧ k_ ≠ gb424 ∧ k_ ≠ gb428) (.slice Ao119 t418.length co119) t418) := ⟨(by rw [hw]; exact (by (with_reducible repeat (first | apply Kd.V_alloc | apply Kd.V_drewN | apply Kd.V_drew)); exact Kd.V_mono (zVf5 (g := gb428) (Kd.V_mono HO_425004.out (fun k_ hk => (⟨hk, hk.2⟩ : _ ∧ k_ ≠ gb428)))) (fun _ hk => ⟨hk.1.1.1, ⟨hk.1.1.2.1, ⟨hk.1.1.2.2.1, ⟨hk.1.1.2.2.2.1, ⟨hk.1.1.2.2.2.2.1, ⟨hk.1.1.2.2.2.2.2.1, ⟨hk.1.1.2.2.2.2.2.2, hk.1.2⟩⟩⟩⟩⟩⟩⟩)))⟩; have n8_ : Aside0 (w151.heap[gb383]? = some (.cells #[.int .i64 a0_0, .int .i64 a0_1, .slice (some ad389) l0_2.length c0_2] 24 (0, 0))) := ⟨(by rw [hw]; exact (zK BK383))⟩; have n9_ : Aside0 (w151.heap[gb384]? = some (.cells #[.int .i64 a1_0, .int .i64 a1_1, .int .i64 a1_2, .slice A1_3 l1_3.length c1_3, .slice A1_4 l1_4.length c1_4] 27 (0, 0))) := ⟨(by rw [hw]; exact (zK BK384))⟩; have n10_ : Aside0 (w151.heap[gb391]? = some (.cells #[.int .i64 ((rd_T37 (rd_L2 l0_2 a1_0) a1_2).f0), .int .i64 ((rd_T37 (rd_L2 l0_2 a1_0) a1_2).f1), .int .i64 ((rd_T37 (rd_L2 l0_2 a1_0) a1_2).f2)] 37 (0, 0))) := ⟨(by rw [hw]; exact (zK BK391))⟩; have n11_ : Aside0 (w151.heap[gb392]? = some (.cells #[.int .i64 a1_0, .int .i64 a1_1, .int .i64 a1_2, .slice Ao108 x393003_47.length co108, .slice Ao109 x393004_47.length co109] 27 (0, 0))) := ⟨(by rw [hw]; exact (zK BK392))⟩; have n12_ : Aside0 (w151.heap[gb411]? = some (.cells #[.int .i64 t399, .int .i64 t400, .int .i64 t401, .slice Ao102 t402.length co102, .slice Ao103 t405.length co103] 27 (0, 0))) := ⟨(by rw [hw]; exact (zK BK411))⟩; have n13_ : Aside0 (w151.heap[gb424]? = some (.cells #[.int .i64 t412, .int .i64 t413, .int .i64 t414, .slice Ao118 t415.length co118, .slice Ao119 t418.length co119] 27 (0, 0))) := ⟨(by rw [hw]; exact (zK BK424))⟩; have n14_ : Aside0 (w151.heap[gb428]? = some (.cells #[.int .i64 t399, .int .i64 t400, .int .i64 t401, .slice Ao102 t402.length co102, .slice Ao103 t405.length co103] 27 (0, 0))) := ⟨(by rw [hw]; exact (by (with_reducible repeat (first | refine blk_drewN ?_ _ | refine blk_drew ?_ | refine blk_alloc ?_ _)); refine blk_put (cs := #[.int .i64 t399, .int .i64 t400, .int .i64 t401, .slice Ao102 t402.length co102, .slice none 0 0]) ?_ 4 _ rfl; (with_reducible repeat (first | refine blk_drewN ?_ _ | refine blk_drew ?_ | refine blk_alloc ?_ _)); refine blk_put (cs := #[.int .i64 t399, .int .i64 t400, .int .i64 t401, .slice none 0 0, .slice none 0 0]) ?_ 3 _ rfl; (with_reducible repeat (first | refine blk_drewN ?_ _ | refine blk_drew ?_ | refine blk_alloc ?_ _)); refine blk_put (cs := #[.int .i64 t399, .int .i64 t400, .int .i64 0, .slice none 0 0, .slice none 0 0]) ?_ 2 _ rfl; (with_reducible repeat (first | refine blk_drewN ?_ _ | refine blk_drew ?_ | refine blk_alloc ?_ _)); refine blk_put (cs := #[.int .i64 t399, .int .i64 0, .int .i64 0, .slice none 0 0, .slice none 0 0]) ?_ 1 _ rfl; (with_reducible repeat (first | refine blk_drewN ?_ _ | refine blk_drew ?_ | refine blk_alloc ?_ _)); refine blk_put (cs := #[.int .i64 0, .int .i64 0, .int .i64 0, .slice none 0 0, .slice none 0 0]) ?_ 0 _ rfl; (with_reducible repeat (first | refine blk_drewN ?_ _ | refine blk_drew ?_ | refine blk_alloc ?_ _)); exact BK428.out))⟩; have n15_ : Aside0 (Below w.heap.size w w151) := ⟨(by rw [hw]; exact (zB HB))⟩; clear hw; clear HO_385003; clear HO_385004; clear HO_393003; clear HO_393004; clear HO_412003; clear HO_412004; clear HO_425003; clear HO_425004; clear BK383; clear BK384; clear BK391; clear BK392; clear BK411; clear BK424; clear BK428; clear HB; have HO_385003 := n0_; have HO_385004 := n1_; have HO_393003 := n2_; have HO_393004 := n3_; have HO_412003 := n4_; have HO_412004 := n5_; have HO_425003 := n6_; have HO_425004 := n7_; have BK383 := n8_; have BK384 := n9_; have BK391 := n10_; have BK392 := n11_; have BK411 := n12_; have BK424 := n13_; have BK428 := n14_; have HB := n15_; clear n0_ n1_ n2_ n3_ n4_ n5_ n6_ n7_ n8_ n9_ n10_ n11_ n12_ n13_ n14_ n15_; have hz152 := zc5 BK411; have hnb153 := NB391_383.out; have hnc153 := NB383_391.out; have hnb154 := NB391_384.out; have hnc154 := NB384_391.out; have hnb155 := NB391_392.out; have hnc155 := NB392_391.out; have hnb156 := NB391_424.out; have hnc156 := NB424_391.out; have hz157 := zc3 BK391; have hz158 := zc5 BK428) | ((with_reducible refine gate_store (t := 3) (p := 123) rfl ?_); refine store_event (t := 3) (p := 123) (v := ?vo_w159) (w1 := (w151.setCell ⟨gb428, 1, none⟩ (.int .i64 (wrap64 (t400 + (wrap64 (((rd_T37 (rd_L2 l0_2 a1_0) a1_2).f1) * (wrap64 (Int.tmod a2 1125899906842624))))))))) ?hg ?ho ?hn ?hr ?_; (case ho => rfl); (case hg => rfl); (case hn => rfl); (case hr => first | (go_simp; done) | (go_simp; rfl)); intro w159 hw; have n0_ : Aside0 (Kd.V k62 62 w159 w.heap.size (fun k_ => ((P1_3_ k_ ∨ P1_4_ k_) ∨ w.heap.size ≤ k_) ∧ k_ ≠ gb383 ∧ k_ ≠ gb384 ∧ k_ ≠ gb391 ∧ k_ ≠ gb392 ∧ k_ ≠ gb411 ∧ k_ ≠ gb424 ∧ k_ ≠ gb428) (.slice A1_3 l1_3.length c1_3) l1_3) := ⟨(by rw [hw]; exact (by (with_reducible repeat (first | apply Kd.V_alloc | apply Kd.V_drewN | apply Kd.V_drew)); exact Kd.V_mono (Kd.V_far (p := ⟨gb428, 1, none⟩) (Kd.V_mono HO_385003.out (fun k_ hk => (⟨hk, hk.2.2.2.2.2.2.2⟩ : _ ∧ k_ ≠ gb428))) (fun _ hk => hk.2) (.int .i64 (wrap64 (t400 + (wrap64 (((rd_T37 (rd_L2 l0_2 a1_0) a1_2).f1) * (wrap64 (Int.tmod a2 1125899906842624)))))))) (fun _ hk => ⟨hk.1.1, ⟨hk.1.2.1, ⟨hk.1.2.2.1, ⟨hk.1.2.2.2.1, ⟨hk.1.2.2.2.2.1, ⟨hk.1.2.2.2.2.2.1, ⟨hk.1.2.2.2.2.2.2.1, hk.1.2.2.2.2.2.2.2⟩⟩⟩⟩⟩⟩⟩)))⟩; have n1_ : Aside0 (Kd.V k62 62 w159 w.heap.size (fun k_ => ((P1_3_ k_ ∨ P1_4_ k_) ∨ w.heap.size ≤ k_) ∧ k_ ≠ gb383 ∧ k_ ≠ gb384 ∧ k_ ≠ gb391 ∧ k_ ≠ gb392 ∧ k_ ≠ gb411 ∧ k_ ≠ gb424 ∧ k_ ≠ gb428) (.slice A1_4 l1_4.length c1_4) l1_4) := ⟨(by rw [hw]; exact (by (with_reducible repeat (first | apply Kd.V_alloc | apply Kd.V_drewN | apply Kd.V_drew)); exact Kd.V_mono (Kd.V_far (p := ⟨gb428, 1, none⟩) (Kd.V_mono HO_385004.out (fun k_ hk => (⟨hk, hk.2.2.2.2.2.2.2⟩ : _ ∧ k_ ≠ gb428))) (fun _ hk => hk.2) (.int .i64 (wrap64 (t400 + (wrap64 (((rd_T37 (rd_L2 l0_2 a1_0) a1_2).f1) * (wrap64 (Int.tmod a2 1125899906842624)))))))) (fun _ hk => ⟨hk.1.1, ⟨hk.1.2.1, ⟨hk.1.2.2.1, ⟨hk.1.2.2.2.1, ⟨hk.1.2.2.2.2.1, ⟨hk.1.2.2.2.2.2.1, ⟨hk.1.2.2.2.2.2.2.1, hk.1.2.2.2.2.2.2.2⟩⟩⟩⟩⟩⟩⟩)))⟩; have n2_ : Aside0 (Kd.V k62 62 w159 w.heap.size (fun k_ => ((P1_3_ k_ ∨ P1_4_ k_) ∨ w.heap.size ≤ k_) ∧ k_ ≠ gb383 ∧ k_ ≠ gb384 ∧ k_ ≠ gb391 ∧ k_ ≠ gb392 ∧ k_ ≠ gb411 ∧ k_ ≠ gb424 ∧ k_ ≠ gb428) (.slice Ao108 x393003_47.length co108) x393003_47) := ⟨(by rw [hw]; exact (by (with_reducible repeat (first | apply Kd.V_alloc | apply Kd.V_drewN | apply Kd.V_drew)); exact Kd.V_mono (Kd.V_far (p := ⟨gb428, 1, none⟩) (Kd.V_mono HO_393003.out (fun k_ hk => (⟨hk, hk.2.2.2.2.2.2.2⟩ : _ ∧ k_ ≠ gb428))) (fun _ hk => hk.2) (.int .i64 (wrap64 (t400 + (wrap64 (((rd_T37 (rd_L2 l0_2 a1_0) a1_2).f1) * (wrap64 (Int.tmod a2 1125899906842624)))))))) (fun _ hk => ⟨hk.1.1, ⟨hk.1.2.1, ⟨hk.1.2.2.1, ⟨hk.1.2.2.2.1, ⟨hk.1.2.2.2.2.1, ⟨hk.1.2.2.2.2.2.1, ⟨hk.1.2.2.2.2.2.2.1, hk.1.2.2.2.2.2.2.2⟩⟩⟩⟩⟩⟩⟩)))⟩; have n3_ : Aside0 (Kd.V k62 62 w159 w.heap.size (fun k_ => ((P1_3_ k_ ∨ P1_4_ k_) ∨ w.heap.size ≤ k_) ∧ k_ ≠ gb383 ∧ k_ ≠ gb384 ∧ k_ ≠ gb391 ∧ k_ ≠ gb392 ∧ k_ ≠ gb411 ∧ k_ ≠ gb424 ∧ k_ ≠ gb428) (.slice Ao109 x393004_47.length co109) x393004_47) := ⟨(by rw [hw]; exact (by (with_reducible repeat (first | apply Kd.V_alloc | apply Kd.V_drewN | apply Kd.V_drew)); exact Kd.V_mono (Kd.V_far (p := ⟨gb428, 1, none⟩) (Kd.V_mono HO_393004.out (fun k_ hk => (⟨hk, hk.2.2.2.2.2.2.2⟩ : _ ∧ k_ ≠ gb428))) (fun _ hk => hk.2) (.int .i64 (wrap64 (t400 + (wrap64 (((rd_T37 (rd_L2 l0_2 a1_0) a1_2).f1) * (wrap64 (Int.tmod a2 1125899906842624)))))))) (fun _ hk => ⟨hk.1.1, ⟨hk.1.2.1, ⟨hk.1.2.2.1, ⟨hk.1.2.2.2.1, ⟨hk.1.2.2.2.2.1, ⟨hk.1.2.2.2.2.2.1, ⟨hk.1.2.2.2.2.2.2.1, hk.1.2.2.2.2.2.2.2⟩⟩⟩⟩⟩⟩⟩)))⟩; have n4_ : Aside0 (Kd.V k62 62 w159 w.heap.size (fun k_ => ((P1_3_ k_ ∨ P1_4_ k_) ∨ w.heap.size ≤ k_) ∧ k_ ≠ gb383 ∧ k_ ≠ gb384 ∧ k_ ≠ gb391 ∧ k_ ≠ gb392 ∧ k_ ≠ gb411 ∧ k_ ≠ gb424 ∧ k_ ≠ gb428) (.slice Ao102 t402.length co102) t402) := ⟨(by rw [hw]; exact (by (with_reducible repeat (first | apply Kd.V_alloc | apply Kd.V_drewN | apply Kd.V_drew)); exact Kd.V_mono (Kd.V_far (p := ⟨gb428, 1, none⟩) (Kd.V_mono HO_412003.out (fun k_ hk => (⟨hk, hk.2.2.2.2.2.2.2⟩ : _ ∧ k_ ≠ gb428))) (fun _ hk => hk.2) (.int .i64 (wrap64 (t400 + (wrap64 (((rd_T37 (rd_L2 l0_2 a1_0) a1_2).f1) * (wrap64 (Int.tmod a2 1125899906842624)))))))) (fun _ hk => ⟨hk.1.1, ⟨hk.1.2.1, ⟨hk.1.2.2.1, ⟨hk.1.2.2.2.1, ⟨hk.1.2.2.2.2.1, ⟨hk.1.2.2.2.2.2.1, ⟨hk.1.2.2.2.2.2.2.1, hk.1.2.2.2.2.2.2.2⟩⟩⟩⟩⟩⟩⟩)))⟩; have n5_ : Aside0 (Kd.V k62 62 w159 w.heap.size (fun k_ => ((P1_3_ k_ ∨ P1_4_ k_) ∨ w.heap.size ≤ k_) ∧ k_ ≠ gb383 ∧ k_ ≠ gb384 ∧ k_ ≠ gb391 ∧ k_ ≠ gb392 ∧ k_ ≠ gb411 ∧ k_ ≠ gb424 ∧ k_ ≠ gb428) (.slice Ao103 t405.length co103) t405) := ⟨(by rw [hw]; exact (by (with_reducible repeat (first | apply Kd.V_alloc | apply Kd.V_drewN | apply Kd.V_drew)); exact Kd.V_mono (Kd.V_far (p := ⟨gb428, 1, none⟩) (Kd.V_mono HO_412004.out (fun k_ hk => (⟨hk, hk.2.2.2.2.2.2.2⟩ : _ ∧ k_ ≠ gb428))) (fun _ hk => hk.2) (.int .i64 (wrap64 (t400 + (wrap64 (((rd_T37 (rd_L2 l0_2 a1_0) a1_2).f1) * (wrap64 (Int.tmod a2 1125899906842624)))))))) (fun _ hk => ⟨hk.1.1, ⟨hk.1.2.1, ⟨hk.1.2.2.1, ⟨hk.1.2.2.2.1, ⟨hk.1.2.2.2.2.1, ⟨hk.1.2.2.2.2.2.1, ⟨hk.1.2.2.2.2.2.2.1, hk.1.2.2.2.2.2.2.2⟩⟩⟩⟩⟩⟩⟩)))⟩; have n6_ : Aside0 (Kd.V k62 62 w159 w.heap.size (fun k_ => ((P1_3_ k_ ∨ P1_4_ k_) ∨ w.heap.size ≤ k_) ∧ k_ ≠ gb383 ∧ k_ ≠ gb384 ∧ k_ ≠ gb391 ∧ k_ ≠ gb392 ∧ k_ ≠ gb411 ∧ k_ ≠ gb424 ∧ k_ ≠ gb428) (.slice Ao118 t415.length co118) t415) := ⟨(by rw [hw]; exact (by (with_reducible repeat (first | apply Kd.V_alloc | apply Kd.V_drewN | apply Kd.V_drew)); exact Kd.V_mono (Kd.V_far (p := ⟨gb428, 1, none⟩) (Kd.V_mono HO_425003.out (fun k_ hk => (⟨hk, hk.2.2.2.2.2.2.2⟩ : _ ∧ k_ ≠ gb428))) (fun _ hk => hk.2) (.int .i64 (wrap64 (t400 + (wrap64 (((rd_T37 (rd_L2 l0_2 a1_0) a1_2).f1) * (wrap64 (Int.tmod a2 1125899906842624)))))))) (fun _ hk => ⟨hk.1.1, ⟨hk.1.2.1, ⟨hk.1.2.2.1, ⟨hk.1.2.2.2.1, ⟨hk.1.2.2.2.2.1, ⟨hk.1.2.2.2.2.2.1, ⟨hk.1.2.2.2.2.2.2.1, hk.1.2.2.2.2.2.2.2⟩⟩⟩⟩⟩⟩⟩)))⟩; have n7_ : Aside0 (Kd.V k62 62 w159 w.heap.size (fun k_ => ((P1_3_ k_ ∨ P1_4_ k_) ∨ w.heap.size ≤ k_) ∧ k_ ≠ gb383 ∧ k_ ≠ gb384 ∧ k_ ≠ gb391 ∧ k_ ≠ gb392 ∧ k_ ≠ gb411 ∧ k_ ≠ gb424 ∧ k_ ≠ gb428) (.slice Ao119 t418.length co119) t418) := ⟨(by rw [hw]; exact (by (with_reducible repeat (first | apply Kd.V_alloc | apply Kd.V_drewN | apply Kd.V_drew)); exact Kd.V_mono (Kd.V_far (p := ⟨gb428, 1, none⟩) (Kd.V_mono HO_425004.out (fun k_ hk => (⟨hk, hk.2.2.2.2.2.2.2⟩ : _ ∧ k_ ≠ gb428))) (fun _ hk => hk.2) (.int .i64 (wrap64 (t400 + (wrap64 (((rd_T37 (rd_L2 l0_2 a1_0) a1_2).f1) * (wrap64 (Int.tmod a2 1125899906842624)))))))) (fun _ hk => ⟨hk.1.1, ⟨hk.1.2.1, ⟨hk.1.2.2.1, ⟨hk.1.2.2.2.1, ⟨hk.1.2.2.2.2.1, ⟨hk.1.2.2.2.2.2.1, ⟨hk.1.2.2.2.2.2.2.1, hk.1.2.2.2.2.2.2.2⟩⟩⟩⟩⟩⟩⟩)))⟩; have n8_ : Aside0 (w159.heap[gb383]? = some (.cells #[.int .i64 a0_0, .int .i64 a0_1, .slice (some ad389) l0_2.length c0_2] 24 (0, 0))) := ⟨(by rw [hw]; exact (zK BK383))⟩; have n9_ : Aside0 (w159.heap[gb384]? = some (.cells #[.int .i64 a1_0, .int .i64 a1_1, .int .i64 a1_2, .slice A1_3 l1_3.length c1_3, .slice A1_4 l1_4.length c1_4] 27 (0, 0))) := ⟨(by rw [hw]; exact (zK BK384))⟩; have n10_ : Aside0 (w159.heap[gb391]? = some (.cells #[.int .i64 ((rd_T37 (rd_L2 l0_2 a1_0) a1_2).f0), .int .i64 ((rd_T37 (rd_L2 l0_2 a1_0) a1_2).f1), .int .i64 ((rd_T37 (rd_L2 l0_2 a1_0) a1_2).f2)] 37 (0, 0))) := ⟨(by rw [hw]; exact (zK BK391))⟩; have n11_ : Aside0 (w159.heap[gb392]? = some (.cells #[.int .i64 a1_0, .int .i64 a1_1, .int .i64 a1_2, .slice Ao108 x393003_47.length co108, .slice Ao109 x393004_47.length co109] 27 (0, 0))) := ⟨(by rw [hw]; exact (zK BK392))⟩; have n12_ : Aside0 (w159.heap[gb411]? = some (.cells #[.int .i64 t399, .int .i64 t400, .int .i64 t401, .slice Ao102 t402.length co102, .slice Ao103 t405.length co103] 27 (0, 0))) := ⟨(by rw [hw]; exact (zK BK411))⟩; have n13_ : Aside0 (w159.heap[gb424]? = some (.cells #[.int .i64 t412, .int .i64 t413, .int .i64 t414, .slice Ao118 t415.length co118, .slice Ao119 t418.length co119] 27 (0, 0))) := ⟨(by rw [hw]; exact (zK BK424))⟩; have n14_ : Aside0 (w159.heap[gb428]? = some (.cells #[.int .i64 t399, .int .i64 (wrap64 (t400 + (wrap64 (((rd_T37 (rd_L2 l0_2 a1_0) a1_2).f1) * (wrap64 (Int.tmod a2 1125899906842624)))))), .int .i64 t401, .slice Ao102 t402.length co102, .slice Ao103 t405.length co103] 27 (0, 0))) := ⟨(by rw [hw]; exact (by (with_reducible repeat (first | refine blk_drewN ?_ _ | refine blk_drew ?_ | refine blk_alloc ?_ _)); refine blk_put (cs := #[.int .i64 t399, .int .i64 t400, .int .i64 t401, .slice Ao102 t402.length co102, .slice Ao103 t405.length co103]) ?_ 1 _ rfl; (with_reducible repeat (first | refine blk_drewN ?_ _ | refine blk_drew ?_ | refine blk_alloc ?_ _)); exact BK428.out))⟩; have n15_ : Aside0 (Below w.heap.size w w159) := ⟨(by rw [hw]; exact (zB HB))⟩; clear hw; clear HO_385003; clear HO_385004; clear HO_393003; clear HO_393004; clear HO_412003; clear HO_412004; clear HO_425003; clear HO_425004; clear BK383; clear BK384; clear BK391; clear BK392; clear BK411; clear BK424; clear BK428; clear HB; have HO_385003 := n0_; have HO_385004 := n1_; have HO_393003 := n2_; have HO_393004 := n3_; have HO_412003 := n4_; have HO_412004 := n5_; have HO_425003 := n6_; have HO_425004 := n7_; have BK383 := n8_; have BK384 := n9_; have BK391 := n10_; have BK392 := n11_; have BK411 := n12_; have BK424 := n13_; have BK428 := n14_; have HB := n15_; clear n0_ n1_ n2_ n3_ n4_ n5_ n6_ n7_ n8_ n9_ n10_ n11_ n12_ n13_ n14_ n15_; have hz160 := zc3 BK391))
             (try simp only [Act.put, zs, zs0, zs1])
             have H := HC136.out
             clear HC136
             by_cases c161 : ((rd_T37 (rd_L2 l0_2 a1_0) a1_2).f1) < 0
             ·
              rw [if_pos c161] at H
              have c161b0 : decide (((rd_T37 (rd_L2 l0_2 a1_0) a1_2).f1) < 0) = true := decide_eq_true c161
              clear c161
              (first | rw [c161b0] | (simp only [i64_w, i32_w]; rw [c161b0]) | skip)
              (try rw [c161b1])
              replace H := Option.bind_eq_some_iff.mp H
              obtain ⟨t429, A1620, H⟩ := H
              replace H : (if t422 = true then (some false) else (if t421 = (wrap64 (t408 + (wrap64 (Int.tmod a2 1125899906842624)))) then ((standstillref04_Same.f kj86 t412 t413 t414 t415 t418 t399 (wrap64 (t400 + (wrap64 (((rd_T37 (rd_L2 l0_2 a1_0) a1_2).f1) * (wrap64 (Int.tmod a2 1125899906842624)))))) t401 t402 t429).bind fun t432 => (if t432 = true then ((standstilllaw04_awake.f kj86).bind fun t433 => (some t433)) else (some false))) else (some false))) = some r := H
              have A162 := Aside0.mk A1620
              clear A1620
              have HC163 := Aside0.mk H
              clear H
              have hnb164 := NB411_383.out
              have hnc164 := NB383_411.out
              have hnb165 := NB411_384.out
              have hnc165 := NB384_411.out
              have hnb166 := NB411_391.out
              have hnc166 := NB391_411.out
              have hnb167 := NB411_392.out
              have hnc167 := NB392_411.out
              have hnb168 := NB411_424.out
              have hnc168 := NB424_411.out
              have hnb169 := NB411_428.out
              have hnc169 := NB428_411.out
              have hz170 := zc5 BK411
              have hnb171 := NB391_383.out
              have hnc171 := NB383_391.out
              have hnb172 := NB391_384.out
              have hnc172 := NB384_391.out
              have hnb173 := NB391_392.out
              have hnc173 := NB392_391.out
              have hnb174 := NB391_424.out
              have hnc174 := NB424_391.out
              have hnb175 := NB391_428.out
              have hnc175 := NB428_391.out
              have hz176 := zc3 BK391
              go_upto_region 18 with (first | ((with_reducible refine gate_callee (f := 12) rfl ?_); refine goesL_ (some 132) rfl rfl Try.func12 (by kernel_rfl) rfl #[.slice Ao103 t405.length co103, .int .i64 ((rd_T37 (rd_L2 l0_2 a1_0) a1_2).f0), .int .i64 (wrap64 (Int.tmod a2 1125899906842624))] rfl (zm) ?_; (with_reducible refine (standstillref04_Push.calls kj86 (fun k_ => (((P1_3_ k_ ∨ P1_4_ k_) ∨ w.heap.size ≤ k_) ∧ (k_ ≠ gb383 ∧ (k_ ≠ gb384 ∧ (k_ ≠ gb391 ∧ (k_ ≠ gb392 ∧ (k_ ≠ gb411 ∧ (k_ ≠ gb424 ∧ k_ ≠ gb428)))))))) _ _ t405 ((rd_T37 (rd_L2 l0_2 a1_0) a1_2).f0) (wrap64 (Int.tmod a2 1125899906842624)) t429 _ ?side1 A162.out).mono ?_); (case side1 => exact HO_412004.out); rintro e w177 ⟨v430, rfl, ho0, hb⟩; refine ⟨_, rfl, ?_⟩; have HO431 := Aside0.mk (Kd.V_lower (Kd.V_mono (ok' := fun k_ => ((P1_3_ k_ ∨ P1_4_ k_) ∨ w.heap.size ≤ k_) ∧ k_ ≠ gb383 ∧ k_ ≠ gb384 ∧ k_ ≠ gb391 ∧ k_ ≠ gb392 ∧ k_ ≠ gb411 ∧ k_ ≠ gb424 ∧ k_ ≠ gb428) ho0 (fun k_ hk_ => ⟨Or.elim hk_ (fun hs_ => hs_.1) (fun hn_ => (.inr (Nat.le_trans (below_size (zB HB)) hn_))), Or.elim hk_ (fun hs_ => hs_.2.1) (fun hn_ => zf BK383 hn_), Or.elim hk_ (fun hs_ => hs_.2.2.1) (fun hn_ => zf BK384 hn_), Or.elim hk_ (fun hs_ => hs_.2.2.2.1) (fun hn_ => zf BK391 hn_), Or.elim hk_ (fun hs_ => hs_.2.2.2.2.1) (fun hn_ => zf BK392 hn_), Or.elim hk_ (fun hs_ => hs_.2.2.2.2.2.1) (fun hn_ => zf BK411 hn_), Or.elim hk_ (fun hs_ => hs_.2.2.2.2.2.2.1) (fun hn_ => zf BK424 hn_), Or.elim hk_ (fun hs_ => hs_.2.2.2.2.2.2.2) (fun hn_ => zf BK428 hn_)⟩)) (below_size (zB HB))); replace HO_385003 := Aside0.mk (zVb HO_385003 hb); replace HO_385004 := Aside0.mk (zVb HO_385004 hb); replace HO_393003 := Aside0.mk (zVb HO_393003 hb); replace HO_393004 := Aside0.mk (zVb HO_393004 hb); replace HO_412003 := Aside0.mk (zVb HO_412003 hb); replace HO_412004 := Aside0.mk (zVb HO_412004 hb); replace HO_425003 := Aside0.mk (zVb HO_425003 hb); replace HO_425004 := Aside0.mk (zVb HO_425004 hb); replace BK383 := Aside0.mk (zb BK383 hb); replace BK384 := Aside0.mk (zb BK384 hb); replace BK391 := Aside0.mk (zb BK391 hb); replace BK392 := Aside0.mk (zb BK392 hb); replace BK411 := Aside0.mk (zb BK411 hb); replace BK424 := Aside0.mk (zb BK424 hb); replace BK428 := Aside0.mk (zb BK428 hb); replace HB := Aside0.mk (below_step (zB HB) hb); (try clear hb); (try clear hb2); (try clear hk); (try clear hi); (try clear ho0); obtain ⟨Ao178, co178, eo178⟩ := Kd.V_slice HO431.out; subst eo178; have hnb179 := NB428_383.out; have hnc179 := NB383_428.out; have hnb180 := NB428_384.out; have hnc180 := NB384_428.out; have hnb181 := NB428_392.out; have hnc181 := NB392_428.out; have hnb182 := NB428_424.out; have hnc182 := NB424_428.out; have hz183 := zc5 BK428) | ((with_reducible refine gate_store (t := 25) (p := 133) rfl ?_); refine store_event (t := 25) (p := 133) (v := ?vo_w184) (w1 := (w177.setCell ⟨gb428, 4, none⟩ (.slice Ao178 t429.length co178))) ?hg ?ho ?hn ?hr ?_; (case ho => rfl); (case hg => rfl); (case hn => rfl); (case hr => first | (go_simp; done) | (go_simp; rfl)); intro w184 hw; have n0_ : Aside0 (Kd.V k62 62 w184 w.heap.size (fun k_ => ((P1_3_ k_ ∨ P1_4_ k_) ∨ w.heap.size ≤ k_) ∧ k_ ≠ gb383 ∧ k_ ≠ gb384 ∧ k_ ≠ gb391 ∧ k_ ≠ gb392 ∧ k_ ≠ gb411 ∧ k_ ≠ gb424 ∧ k_ ≠ gb428) (.slice A1_3 l1_3.length c1_3) l1_3) := ⟨(by rw [hw]; exact (by (with_reducible repeat (first | apply Kd.V_alloc | apply Kd.V_drewN | apply Kd.V_drew)); exact Kd.V_mono (Kd.V_far (p := ⟨gb428, 4, none⟩) (Kd.V_mono HO_385003.out (fun k_ hk => (⟨hk, hk.2.2.2.2.2.2.2⟩ : _ ∧ k_ ≠ gb428))) (fun _ hk => hk.2) (.slice Ao178 t429.length co178)) (fun _ hk => ⟨hk.1.1, ⟨hk.1.2.1, ⟨hk.1.2.2.1, ⟨hk.1.2.2.2.1, ⟨hk.1.2.2.2.2.1, ⟨hk.1.2.2.2.2.2.1, ⟨hk.1.2.2.2.2.2.2.1, hk.1.2.2.2.2.2.2.2⟩⟩⟩⟩⟩⟩⟩)))⟩; have n1_ : Aside0 (Kd.V k62 62 w184 w.heap.size (fun k_ => ((P1_3_ k_ ∨ P1_4_ k_) ∨ w.heap.size ≤ k_) ∧ k_ ≠ gb383 ∧ k_ ≠ gb384 ∧ k_ ≠ gb391 ∧ k_ ≠ gb392 ∧ k_ ≠ gb411 ∧ k_ ≠ gb424 ∧ k_ ≠ gb428) (.slice A1_4 l1_4.length c1_4) l1_4) := ⟨(by rw [hw]; exact (by (with_reducible repeat (first | apply Kd.V_alloc | apply Kd.V_drewN | apply Kd.V_drew)); exact Kd.V_mono (Kd.V_far (p := ⟨gb428, 4, none⟩) (Kd.V_mono HO_385004.out (fun k_ hk => (⟨hk, hk.2.2.2.2.2.2.2⟩ : _ ∧ k_ ≠ gb428))) (fun _ hk => hk.2) (.slice Ao178 t429.length co178)) (fun _ hk => ⟨hk.1.1, ⟨hk.1.2.1, ⟨hk.1.2.2.1, ⟨hk.1.2.2.2.1, ⟨hk.1.2.2.2.2.1, ⟨hk.1.2.2.2.2.2.1, ⟨hk.1.2.2.2.2.2.2.1, hk.1.2.2.2.2.2.2.2⟩⟩⟩⟩⟩⟩⟩)))⟩; have n2_ : Aside0 (Kd.V k62 62 w184 w.heap.size (fun k_ => ((P1_3_ k_ ∨ P1_4_ k_) ∨ w.heap.size ≤ k_) ∧ k_ ≠ gb383 ∧ k_ ≠ gb384 ∧ k_ ≠ gb391 ∧ k_ ≠ gb392 ∧ k_ ≠ gb411 ∧ k_ ≠ gb424 ∧ k_ ≠ gb428) (.slice Ao108 x393003_47.length co108) x393003_47) := ⟨(by rw [hw]; exact (by (with_reducible repeat (first | apply Kd.V_alloc | apply Kd.V_drewN | apply Kd.V_drew)); exact Kd.V_mono (Kd.V_far (p := ⟨gb428, 4, none⟩) (Kd.V_mono HO_393003.out (fun k_ hk => (⟨hk, hk.2.2.2.2.2.2.2⟩ : _ ∧ k_ ≠ gb428))) (fun _ hk => hk.2) (.slice Ao178 t429.length co178)) (fun _ hk => ⟨hk.1.1, ⟨hk.1.2.1, ⟨hk.1.2.2.1, ⟨hk.1.2.2.2.1, ⟨hk.1.2.2.2.2.1, ⟨hk.1.2.2.2.2.2.1, ⟨hk.1.2.2.2.2.2.2.1, hk.1.2.2.2.2.2.2.2⟩⟩⟩⟩⟩⟩⟩)))⟩; have n3_ : Aside0 (Kd.V k62 62 w184 w.heap.size (fun k_ => ((P1_3_ k_ ∨ P1_4_ k_) ∨ w.heap.size ≤ k_) ∧ k_ ≠ gb383 ∧ k_ ≠ gb384 ∧ k_ ≠ gb391 ∧ k_ ≠ gb392 ∧ k_ ≠ gb411 ∧ k_ ≠ gb424 ∧ k_ ≠ gb428) (.slice Ao109 x393004_47.length co109) x393004_47) := ⟨(by rw [hw]; exact (by (with_reducible repeat (first | apply Kd.V_alloc | apply Kd.V_drewN | apply Kd.V_drew)); exact Kd.V_mono (Kd.V_far (p := ⟨gb428, 4, none⟩) (Kd.V_mono HO_393004.out (fun k_ hk => (⟨hk, hk.2.2.2.2.2.2.2⟩ : _ ∧ k_ ≠ gb428))) (fun _ hk => hk.2) (.slice Ao178 t429.length co178)) (fun _ hk => ⟨hk.1.1, ⟨hk.1.2.1, ⟨hk.1.2.2.1, ⟨hk.1.2.2.2.1, ⟨hk.1.2.2.2.2.1, ⟨hk.1.2.2.2.2.2.1, ⟨hk.1.2.2.2.2.2.2.1, hk.1.2.2.2.2.2.2.2⟩⟩⟩⟩⟩⟩⟩)))⟩; have n4_ : Aside0 (Kd.V k62 62 w184 w.heap.size (fun k_ => ((P1_3_ k_ ∨ P1_4_ k_) ∨ w.heap.size ≤ k_) ∧ k_ ≠ gb383 ∧ k_ ≠ gb384 ∧ k_ ≠ gb391 ∧ k_ ≠ gb392 ∧ k_ ≠ gb411 ∧ k_ ≠ gb424 ∧ k_ ≠ gb428) (.slice Ao102 t402.length co102) t402) := ⟨(by rw [hw]; exact (by (with_reducible repeat (first | apply Kd.V_alloc | apply Kd.V_drewN | apply Kd.V_drew)); exact Kd.V_mono (Kd.V_far (p := ⟨gb428, 4, none⟩) (Kd.V_mono HO_412003.out (fun k_ hk => (⟨hk, hk.2.2.2.2.2.2.2⟩ : _ ∧ k_ ≠ gb428))) (fun _ hk => hk.2) (.slice Ao178 t429.length co178)) (fun _ hk => ⟨hk.1.1, ⟨hk.1.2.1, ⟨hk.1.2.2.1, ⟨hk.1.2.2.2.1, ⟨hk.1.2.2.2.2.1, ⟨hk.1.2.2.2.2.2.1, ⟨hk.1.2.2.2.2.2.2.1, hk.1.2.2.2.2.2.2.2⟩⟩⟩⟩⟩⟩⟩)))⟩; have n5_ : Aside0 (Kd.V k62 62 w184 w.heap.size (fun k_ => ((P1_3_ k_ ∨ P1_4_ k_) ∨ w.heap.size ≤ k_) ∧ k_ ≠ gb383 ∧ k_ ≠ gb384 ∧ k_ ≠ gb391 ∧ k_ ≠ gb392 ∧ k_ ≠ gb411 ∧ k_ ≠ gb424 ∧ k_ ≠ gb428) (.slice Ao103 t405.length co103) t405) := ⟨(by rw [hw]; exact (by (with_reducible repeat (first | apply Kd.V_alloc | apply Kd.V_drewN | apply Kd.V_drew)); exact Kd.V_mono (Kd.V_far (p := ⟨gb428, 4, none⟩) (Kd.V_mono HO_412004.out (fun k_ hk => (⟨hk, hk.2.2.2.2.2.2.2⟩ : _ ∧ k_ ≠ gb428))) (fun _ hk => hk.2) (.slice Ao178 t429.length co178)) (fun _ hk => ⟨hk.1.1, ⟨hk.1.2.1, ⟨hk.1.2.2.1, ⟨hk.1.2.2.2.1, ⟨hk.1.2.2.2.2.1, ⟨hk.1.2.2.2.2.2.1, ⟨hk.1.2.2.2.2.2.2.1, hk.1.2.2.2.2.2.2.2⟩⟩⟩⟩⟩⟩⟩)))⟩; have n6_ : Aside0 (Kd.V k62 62 w184 w.heap.size (fun k_ => ((P1_3_ k_ ∨ P1_4_ k_) ∨ w.heap.size ≤ k_) ∧ k_ ≠ gb383 ∧ k_ ≠ gb384 ∧ k_ ≠ gb391 ∧ k_ ≠ gb392 ∧ k_ ≠ gb411 ∧ k_ ≠ gb424 ∧ k_ ≠ gb428) (.slice Ao118 t415.length co118) t415) := ⟨(by rw [hw]; exact (by (with_reducible repeat (first | apply Kd.V_alloc | apply Kd.V_drewN | apply Kd.V_drew)); exact Kd.V_mono (Kd.V_far (p := ⟨gb428, 4, none⟩) (Kd.V_mono HO_425003.out (fun k_ hk => (⟨hk, hk.2.2.2.2.2.2.2⟩ : _ ∧ k_ ≠ gb428))) (fun _ hk => hk.2) (.slice Ao178 t429.length co178)) (fun _ hk => ⟨hk.1.1, ⟨hk.1.2.1, ⟨hk.1.2.2.1, ⟨hk.1.2.2.2.1, ⟨hk.1.2.2.2.2.1, ⟨hk.1.2.2.2.2.2.1, ⟨hk.1.2.2.2.2.2.2.1, hk.1.2.2.2.2.2.2.2⟩⟩⟩⟩⟩⟩⟩)))⟩; have n7_ : Aside0 (Kd.V k62 62 w184 w.heap.size (fun k_ => ((P1_3_ k_ ∨ P1_4_ k_) ∨ w.heap.size ≤ k_) ∧ k_ ≠ gb383 ∧ k_ ≠ gb384 ∧ k_ ≠ gb391 ∧ k_ ≠ gb392 ∧ k_ ≠ gb411 ∧ k_ ≠ gb424 ∧ k_ ≠ gb428) (.slice Ao119 t418.length co119) t418) := ⟨(by rw [hw]; exact (by (with_reducible repeat (first | apply Kd.V_alloc | apply Kd.V_drewN | apply Kd.V_drew)); exact Kd.V_mono (Kd.V_far (p := ⟨gb428, 4, none⟩) (Kd.V_mono HO_425004.out (fun k_ hk => (⟨hk, hk.2.2.2.2.2.2.2⟩ : _ ∧ k_ ≠ gb428))) (fun _ hk => hk.2) (.slice Ao178 t429.length co178)) (fun _ hk => ⟨hk.1.1, ⟨hk.1.2.1, ⟨hk.1.2.2.1, ⟨hk.1.2.2.2.1, ⟨hk.1.2.2.2.2.1, ⟨hk.1.2.2.2.2.2.1, ⟨hk.1.2.2.2.2.2.2.1, hk.1.2.2.2.2.2.2.2⟩⟩⟩⟩⟩⟩⟩)))⟩; have n8_ : Aside0 (Kd.V k62 62 w184 w.heap.size (fun k_ => ((P1_3_ k_ ∨ P1_4_ k_) ∨ w.heap.size ≤ k_) ∧ k_ ≠ gb383 ∧ k_ ≠ gb384 ∧ k_ ≠ gb391 ∧ k_ ≠ gb392 ∧ k_ ≠ gb411 ∧ k_ ≠ gb424 ∧ k_ ≠ gb428) (.slice Ao178 t429.length co178) t429) := ⟨(by rw [hw]; exact (by (with_reducible repeat (first | apply Kd.V_alloc | apply Kd.V_drewN | apply Kd.V_drew)); exact Kd.V_mono (Kd.V_far (p := ⟨gb428, 4, none⟩) (Kd.V_mono HO431.out (fun k_ hk => (⟨hk, hk.2.2.2.2.2.2.2⟩ : _ ∧ k_ ≠ gb428))) (fun _ hk => hk.2) (.slice Ao178 t429.length co178)) (fun _ hk => ⟨hk.1.1, ⟨hk.1.2.1, ⟨hk.1.2.2.1, ⟨hk.1.2.2.2.1, ⟨hk.1.2.2.2.2.1, ⟨hk.1.2.2.2.2.2.1, ⟨hk.1.2.2.2.2.2.2.1, hk.1.2.2.2.2.2.2.2⟩⟩⟩⟩⟩⟩⟩)))⟩; have n9_ : Aside0 (w184.heap[gb383]? = some (.cells #[.int .i64 a0_0, .int .i64 a0_1, .slice (some ad389) l0_2.length c0_2] 24 (0, 0))) := ⟨(by rw [hw]; exact (zK BK383))⟩; have n10_ : Aside0 (w184.heap[gb384]? = some (.cells #[.int .i64 a1_0, .int .i64 a1_1, .int .i64 a1_2, .slice A1_3 l1_3.length c1_3, .slice A1_4 l1_4.length c1_4] 27 (0, 0))) := ⟨(by rw [hw]; exact (zK BK384))⟩; have n11_ : Aside0 (w184.heap[gb391]? = some (.cells #[.int .i64 ((rd_T37 (rd_L2 l0_2 a1_0) a1_2).f0), .int .i64 ((rd_T37 (rd_L2 l0_2 a1_0) a1_2).f1), .int .i64 ((rd_T37 (rd_L2 l0_2 a1_0) a1_2).f2)] 37 (0, 0))) := ⟨(by rw [hw]; exact (zK BK391))⟩; have n12_ : Aside0 (w184.heap[gb392]? = some (.cells #[.int .i64 a1_0, .int .i64 a1_1, .int .i64 a1_2, .slice Ao108 x393003_47.length co108, .slice Ao109 x393004_47.length co109] 27 (0, 0))) := ⟨(by rw [hw]; exact (zK BK392))⟩; have n13_ : Aside0 (w184.heap[gb411]? = some (.cells #[.int .i64 t399, .int .i64 t400, .int .i64 t401, .slice Ao102 t402.length co102, .slice Ao103 t405.length co103] 27 (0, 0))) := ⟨(by rw [hw]; exact (zK BK411))⟩; have n14_ : Aside0 (w184.heap[gb424]? = some (.cells #[.int .i64 t412, .int .i64 t413, .int .i64 t414, .slice Ao118 t415.length co118, .slice Ao119 t418.length co119] 27 (0, 0))) := ⟨(by rw [hw]; exact (zK BK424))⟩; have n15_ : Aside0 (w184.heap[gb428]? = some (.cells #[.int .i64 t399, .int .i64 (wrap64 (t400 + (wrap64 (((rd_T37 (rd_L2 l0_2 a1_0) a1_2).f1) * (wrap64 (Int.tmod a2 1125899906842624)))))), .int .i64 t401, .slice Ao102 t402.length co102, .slice Ao178 t429.length co178] 27 (0, 0))) := ⟨(by rw [hw]; exact (by (with_reducible repeat (first | refine blk_drewN ?_ _ | refine blk_drew ?_ | refine blk_alloc ?_ _)); refine blk_put (cs := #[.int .i64 t399, .int .i64 (wrap64 (t400 + (wrap64 (((rd_T37 (rd_L2 l0_2 a1_0) a1_2).f1) * (wrap64 (Int.tmod a2 1125899906842624)))))), .int .i64 t401, .slice Ao102 t402.length co102, .slice Ao103 t405.length co103]) ?_ 4 _ rfl; (with_reducible repeat (first | refine blk_drewN ?_ _ | refine blk_drew ?_ | refine blk_alloc ?_ _)); exact BK428.out))⟩; have n16_ : Aside0 (Below w.heap.size w w184) := ⟨(by rw [hw]; exact (zB HB))⟩; clear hw; clear HO_385003; clear HO_385004; clear HO_393003; clear HO_393004; clear HO_412003; clear HO_412004; clear HO_425003; clear HO_425004; clear HO431; clear BK383; clear BK384; clear BK391; clear BK392; clear BK411; clear BK424; clear BK428; clear HB; have HO_385003 := n0_; have HO_385004 := n1_; have HO_393003 := n2_; have HO_393004 := n3_; have HO_412003 := n4_; have HO_412004 := n5_; have HO_425003 := n6_; have HO_425004 := n7_; have HO431 := n8_; have BK383 := n9_; have BK384 := n10_; have BK391 := n11_; have BK392 := n12_; have BK411 := n13_; have BK424 := n14_; have BK428 := n15_; have HB := n16_; clear n0_ n1_ n2_ n3_ n4_ n5_ n6_ n7_ n8_ n9_ n10_ n11_ n12_ n13_ n14_ n15_ n16_))
              (try simp only [Act.put, zs, zs0, zs1])
              have H := HC163.out
              clear HC163
              by_cases c185 : t422 = true
              ·
               subst c185
               have H1 : (some false) = some r := by rw [if_pos rfl] at H; exact H
               clear H
               have H := H1
               clear H1
               obtain rfl := Option.some.inj H
               go_wp2
               go_ret
               exact ⟨by first | rfl | (simp [errW_none, errW_some] <;> rfl) | (simp [*, errW_none, errW_some] <;> rfl), zB HB⟩
              ·
               replace c185 := Bool.eq_false_iff.mpr c185
               subst c185
               have H1 : (if t421 = (wrap64 (t408 + (wrap64 (Int.tmod a2 1125899906842624)))) then ((standstillref04_Same.f kj86 t412 t413 t414 t415 t418 t399 (wrap64 (t400 + (wrap64 (((rd_T37 (rd_L2 l0_2 a1_0) a1_2).f1) * (wrap64 (Int.tmod a2 1125899906842624)))))) t401 t402 t429).bind fun t432 => (if t432 = true then ((standstilllaw04_awake.f kj86).bind fun t433 => (some t433)) else (some false))) else (some false)) = some r := by rw [if_neg (show ¬ (false = true) by decide)] at H; exact H
               clear H
               have H := H1
               clear H1
               by_cases c186 : t421 = (wrap64 (t408 + (wrap64 (Int.tmod a2 1125899906842624))))
               ·
                rw [if_pos c186] at H
                have c186b0 : (t421 == (wrap64 (t408 + (wrap64 (Int.tmod a2 1125899906842624))))) = true := beq_iff_eq.mpr c186
                have c186b1 : (t421 != (wrap64 (t408 + (wrap64 (Int.tmod a2 1125899906842624))))) = false := bne_eq_false_iff_eq.mpr c186
                clear c186
                (first | rw [c186b0] | (simp only [i64_w, i32_w]; rw [c186b0]) | skip)
                (try rw [c186b1])
                replace H := Option.bind_eq_some_iff.mp H
                obtain ⟨t432, A1870, H⟩ := H
                replace H : (if t432 = true then ((standstilllaw04_awake.f kj86).bind fun t433 => (some t433)) else (some false)) = some r := H
                have A187 := Aside0.mk A1870
                clear A1870
                by_cases c188 : t432 = true
                ·
                 subst c188
                 have H1 : ((standstilllaw04_awake.f kj86).bind fun t433 => (some t433)) = some r := by rw [if_pos rfl] at H; exact H
                 clear H
                 have H := H1
                 clear H1
                 replace H := Option.bind_eq_some_iff.mp H
                 obtain ⟨t433, A1890, H⟩ := H
                 replace H : (some t433) = some r := H
                 have A189 := Aside0.mk A1890
                 clear A1890
                 obtain rfl := Option.some.inj H
                 have hnb190 := NB424_383.out
                 have hnc190 := NB383_424.out
                 have hnb191 := NB424_384.out
                 have hnc191 := NB384_424.out
                 have hnb192 := NB424_391.out
                 have hnc192 := NB391_424.out
                 have hnb193 := NB424_392.out
                 have hnc193 := NB392_424.out
                 have hnb194 := NB424_411.out
                 have hnc194 := NB411_424.out
                 have hnb195 := NB424_428.out
                 have hnc195 := NB428_424.out
                 have hz196 := zc5 BK424
                 have hnb197 := NB428_383.out
                 have hnc197 := NB383_428.out
                 have hnb198 := NB428_384.out
                 have hnc198 := NB384_428.out
                 have hnb199 := NB428_391.out
                 have hnc199 := NB391_428.out
                 have hnb200 := NB428_392.out
                 have hnc200 := NB392_428.out
                 have hnb201 := NB428_411.out
                 have hnc201 := NB411_428.out
                 have hz202 := zc5 BK428
                 go_wp2_with (first | (go_at_call 13; (with_reducible refine (standstillref04_Same.calls kj86 t412 t413 t414 _ _ t415 _ _ t418 t399 (wrap64 (t400 + (wrap64 (((rd_T37 (rd_L2 l0_2 a1_0) a1_2).f1) * (wrap64 (Int.tmod a2 1125899906842624)))))) t401 _ _ t402 _ _ t429 true _ ?side1 ?side2 ?side3 ?side4 ?side5 ?side6 ?side7 ?side8 A187.out).mono ?_); (case side1 => exact zC ((Kd.V_reads' HO_425003.out).2.2)); (case side2 => exact (Kd.V_reads' HO_425003.out).2.1); (case side3 => exact zC ((Kd.V_reads' HO_425004.out).2.2)); (case side4 => exact (Kd.V_reads' HO_425004.out).2.1); (case side5 => exact zC ((Kd.V_reads' HO_412003.out).2.2)); (case side6 => exact (Kd.V_reads' HO_412003.out).2.1); (case side7 => exact zC ((Kd.V_reads' HO431.out).2.2)); (case side8 => exact (Kd.V_reads' HO431.out).2.1); rintro e w203 ⟨rfl, hb⟩; replace HO_385003 := Aside0.mk (zVb HO_385003 hb); replace HO_385004 := Aside0.mk (zVb HO_385004 hb); replace HO_393003 := Aside0.mk (zVb HO_393003 hb); replace HO_393004 := Aside0.mk (zVb HO_393004 hb); replace HO_412003 := Aside0.mk (zVb HO_412003 hb); replace HO_412004 := Aside0.mk (zVb HO_412004 hb); replace HO_425003 := Aside0.mk (zVb HO_425003 hb); replace HO_425004 := Aside0.mk (zVb HO_425004 hb); replace HO431 := Aside0.mk (zVb HO431 hb); replace BK383 := Aside0.mk (zb BK383 hb); replace BK384 := Aside0.mk (zb BK384 hb); replace BK391 := Aside0.mk (zb BK391 hb); replace BK392 := Aside0.mk (zb BK392 hb); replace BK411 := Aside0.mk (zb BK411 hb); replace BK424 := Aside0.mk (zb BK424 hb); replace BK428 := Aside0.mk (zb BK428 hb); replace HB := Aside0.mk (below_step (zB HB) hb); (try clear hb); (try clear hb2); (try clear hk); (try clear hi)) | (go_at_call 9; (with_reducible refine (standstilllaw04_awake.calls kj86  t433 _ A189.out).mono ?_); rintro e w204 ⟨rfl, hb⟩; replace HO_385003 := Aside0.mk (zVb HO_385003 hb); replace HO_385004 := Aside0.mk (zVb HO_385004 hb); replace HO_393003 := Aside0.mk (zVb HO_393003 hb); replace HO_393004 := Aside0.mk (zVb HO_393004 hb); replace HO_412003 := Aside0.mk (zVb HO_412003 hb); replace HO_412004 := Aside0.mk (zVb HO_412004 hb); replace HO_425003 := Aside0.mk (zVb HO_425003 hb); replace HO_425004 := Aside0.mk (zVb HO_425004 hb); replace HO431 := Aside0.mk (zVb HO431 hb); replace BK383 := Aside0.mk (zb BK383 hb); replace BK384 := Aside0.mk (zb BK384 hb); replace BK391 := Aside0.mk (zb BK391 hb); replace BK392 := Aside0.mk (zb BK392 hb); replace BK411 := Aside0.mk (zb BK411 hb); replace BK424 := Aside0.mk (zb BK424 hb); replace BK428 := Aside0.mk (zb BK428 hb); replace HB := Aside0.mk (below_step (zB HB) hb); (try clear hb); (try clear hb2); (try clear hk); (try clear hi)))
                 go_ret
                 exact ⟨by first | rfl | (simp [errW_none, errW_some] <;> rfl) | (simp [*, errW_none, errW_some] <;> rfl), zB HB⟩
                ·
                 replace c188 := Bool.eq_false_iff.mpr c188
                 subst c188
                 have H1 : (some false) = some r := by rw [if_neg (show ¬ (false = true) by decide)] at H; exact H
                 clear H
                 have H := H1
                 clear H1
                 obtain rfl := Option.some.inj H
                 have hnb205 := NB424_383.out
                 have hnc205 := NB383_424.out
                 have hnb206 := NB424_384.out
                 have hnc206 := NB384_424.out
                 have hnb207 := NB424_391.out
                 have hnc207 := NB391_424.out
                 have hnb208 := NB424_392.out
                 have hnc208 := NB392_424.out
                 have hnb209 := NB424_411.out
                 have hnc209 := NB411_424.out
                 have hnb210 := NB424_428.out
                 have hnc210 := NB428_424.out
                 have hz211 := zc5 BK424
                 have hnb212 := NB428_383.out
                 have hnc212 := NB383_428.out
                 have hnb213 := NB428_384.out
                 have hnc213 := NB384_428.out
                 have hnb214 := NB428_391.out
                 have hnc214 := NB391_428.out
                 have hnb215 := NB428_392.out
                 have hnc215 := NB392_428.out
                 have hnb216 := NB428_411.out
                 have hnc216 := NB411_428.out
                 have hz217 := zc5 BK428
                 go_wp2_with (first | (go_at_call 13; (with_reducible refine (standstillref04_Same.calls kj86 t412 t413 t414 _ _ t415 _ _ t418 t399 (wrap64 (t400 + (wrap64 (((rd_T37 (rd_L2 l0_2 a1_0) a1_2).f1) * (wrap64 (Int.tmod a2 1125899906842624)))))) t401 _ _ t402 _ _ t429 false _ ?side1 ?side2 ?side3 ?side4 ?side5 ?side6 ?side7 ?side8 A187.out).mono ?_); (case side1 => exact zC ((Kd.V_reads' HO_425003.out).2.2)); (case side2 => exact (Kd.V_reads' HO_425003.out).2.1); (case side3 => exact zC ((Kd.V_reads' HO_425004.out).2.2)); (case side4 => exact (Kd.V_reads' HO_425004.out).2.1); (case side5 => exact zC ((Kd.V_reads' HO_412003.out).2.2)); (case side6 => exact (Kd.V_reads' HO_412003.out).2.1); (case side7 => exact zC ((Kd.V_reads' HO431.out).2.2)); (case side8 => exact (Kd.V_reads' HO431.out).2.1); rintro e w218 ⟨rfl, hb⟩; replace HO_385003 := Aside0.mk (zVb HO_385003 hb); replace HO_385004 := Aside0.mk (zVb HO_385004 hb); replace HO_393003 := Aside0.mk (zVb HO_393003 hb); replace HO_393004 := Aside0.mk (zVb HO_393004 hb); replace HO_412003 := Aside0.mk (zVb HO_412003 hb); replace HO_412004 := Aside0.mk (zVb HO_412004 hb); replace HO_425003 := Aside0.mk (zVb HO_425003 hb); replace HO_425004 := Aside0.mk (zVb HO_425004 hb); replace HO431 := Aside0.mk (zVb HO431 hb); replace BK383 := Aside0.mk (zb BK383 hb); replace BK384 := Aside0.mk (zb BK384 hb); replace BK391 := Aside0.mk (zb BK391 hb); replace BK392 := Aside0.mk (zb BK392 hb); replace BK411 := Aside0.mk (zb BK411 hb); replace BK424 := Aside0.mk (zb BK424 hb); replace BK428 := Aside0.mk (zb BK428 hb); replace HB := Aside0.mk (below_step (zB HB) hb); (try clear hb); (try clear hb2); (try clear hk); (try clear hi)))
                 go_ret
                 exact ⟨by first | rfl | (simp [errW_none, errW_some] <;> rfl) | (simp [*, errW_none, errW_some] <;> rfl), zB HB⟩
               ·
                rw [if_neg c186] at H
                have c186b0 : (t421 == (wrap64 (t408 + (wrap64 (Int.tmod a2 1125899906842624))))) = false := beq_eq_false_iff_ne.mpr c186
                have c186b1 : (t421 != (wrap64 (t408 + (wrap64 (Int.tmod a2 1125899906842624))))) = true := bne_iff_ne.mpr c186
                (first | rw [c186b0] | (simp only [i64_w, i32_w]; rw [c186b0]) | skip)
                (try rw [c186b1])
                obtain rfl := Option.some.inj H
                go_wp2
                go_ret
                exact ⟨by first | rfl | (simp [errW_none, errW_some] <;> rfl) | (simp [*, errW_none, errW_some] <;> rfl), zB HB⟩
             ·
              rw [if_neg c161] at H
              have c161b0 : decide (((rd_T37 (rd_L2 l0_2 a1_0) a1_2).f1) < 0) = false := decide_eq_false c161
              clear c161
              (first | rw [c161b0] | (simp only [i64_w, i32_w]; rw [c161b0]) | skip)
              (try rw [c161b1])
              replace H := Option.bind_eq_some_iff.mp H
              obtain ⟨t434, A2190, H⟩ := H
              replace H : (if t422 = true then (some false) else (if t421 = (wrap64 (t408 + (wrap64 (Int.tmod a2 1125899906842624)))) then ((standstillref04_Same.f kj86 t412 t413 t414 t415 t418 t399 (wrap64 (t400 + (wrap64 (((rd_T37 (rd_L2 l0_2 a1_0) a1_2).f1) * (wrap64 (Int.tmod a2 1125899906842624)))))) t401 t434 t405).bind fun t437 => (if t437 = true then ((standstilllaw04_awake.f kj86).bind fun t438 => (some t438)) else (some false))) else (some false))) = some r := H
              have A219 := Aside0.mk A2190
              clear A2190
              have HC220 := Aside0.mk H
              clear H
              have hnb221 := NB411_383.out
              have hnc221 := NB383_411.out
              have hnb222 := NB411_384.out
              have hnc222 := NB384_411.out
              have hnb223 := NB411_391.out
              have hnc223 := NB391_411.out
              have hnb224 := NB411_392.out
              have hnc224 := NB392_411.out
              have hnb225 := NB411_424.out
              have hnc225 := NB424_411.out
              have hnb226 := NB411_428.out
              have hnc226 := NB428_411.out
              have hz227 := zc5 BK411
              have hnb228 := NB391_383.out
              have hnc228 := NB383_391.out
              have hnb229 := NB391_384.out
              have hnc229 := NB384_391.out
              have hnb230 := NB391_392.out
              have hnc230 := NB392_391.out
              have hnb231 := NB391_424.out
              have hnc231 := NB424_391.out
              have hnb232 := NB391_428.out
              have hnc232 := NB428_391.out
              have hz233 := zc3 BK391
              go_upto_region 18 with (first | ((with_reducible refine gate_callee (f := 12) rfl ?_); refine goesL_ (some 139) rfl rfl Try.func12 (by kernel_rfl) rfl #[.slice Ao102 t402.length co102, .int .i64 ((rd_T37 (rd_L2 l0_2 a1_0) a1_2).f0), .int .i64 (wrap64 (Int.tmod a2 1125899906842624))] rfl (zm) ?_; (with_reducible refine (standstillref04_Push.calls kj86 (fun k_ => (((P1_3_ k_ ∨ P1_4_ k_) ∨ w.heap.size ≤ k_) ∧ (k_ ≠ gb383 ∧ (k_ ≠ gb384 ∧ (k_ ≠ gb391 ∧ (k_ ≠ gb392 ∧ (k_ ≠ gb411 ∧ (k_ ≠ gb424 ∧ k_ ≠ gb428)))))))) _ _ t402 ((rd_T37 (rd_L2 l0_2 a1_0) a1_2).f0) (wrap64 (Int.tmod a2 1125899906842624)) t434 _ ?side1 A219.out).mono ?_); (case side1 => exact HO_412003.out); rintro e w234 ⟨v435, rfl, ho0, hb⟩; refine ⟨_, rfl, ?_⟩; have HO436 := Aside0.mk (Kd.V_lower (Kd.V_mono (ok' := fun k_ => ((P1_3_ k_ ∨ P1_4_ k_) ∨ w.heap.size ≤ k_) ∧ k_ ≠ gb383 ∧ k_ ≠ gb384 ∧ k_ ≠ gb391 ∧ k_ ≠ gb392 ∧ k_ ≠ gb411 ∧ k_ ≠ gb424 ∧ k_ ≠ gb428) ho0 (fun k_ hk_ => ⟨Or.elim hk_ (fun hs_ => hs_.1) (fun hn_ => (.inr (Nat.le_trans (below_size (zB HB)) hn_))), Or.elim hk_ (fun hs_ => hs_.2.1) (fun hn_ => zf BK383 hn_), Or.elim hk_ (fun hs_ => hs_.2.2.1) (fun hn_ => zf BK384 hn_), Or.elim hk_ (fun hs_ => hs_.2.2.2.1) (fun hn_ => zf BK391 hn_), Or.elim hk_ (fun hs_ => hs_.2.2.2.2.1) (fun hn_ => zf BK392 hn_), Or.elim hk_ (fun hs_ => hs_.2.2.2.2.2.1) (fun hn_ => zf BK411 hn_), Or.elim hk_ (fun hs_ => hs_.2.2.2.2.2.2.1) (fun hn_ => zf BK424 hn_), Or.elim hk_ (fun hs_ => hs_.2.2.2.2.2.2.2) (fun hn_ => zf BK428 hn_)⟩)) (below_size (zB HB))); replace HO_385003 := Aside0.mk (zVb HO_385003 hb); replace HO_385004 := Aside0.mk (zVb HO_385004 hb); replace HO_393003 := Aside0.mk (zVb HO_393003 hb); replace HO_393004 := Aside0.mk (zVb HO_393004 hb); replace HO_412003 := Aside0.mk (zVb HO_412003 hb); replace HO_412004 := Aside0.mk (zVb HO_412004 hb); replace HO_425003 := Aside0.mk (zVb HO_425003 hb); replace HO_425004 := Aside0.mk (zVb HO_425004 hb); replace BK383 := Aside0.mk (zb BK383 hb); replace BK384 := Aside0.mk (zb BK384 hb); replace BK391 := Aside0.mk (zb BK391 hb); replace BK392 := Aside0.mk (zb BK392 hb); replace BK411 := Aside0.mk (zb BK411 hb); replace BK424 := Aside0.mk (zb BK424 hb); replace BK428 := Aside0.mk (zb BK428 hb); replace HB := Aside0.mk (below_step (zB HB) hb); (try clear hb); (try clear hb2); (try clear hk); (try clear hi); (try clear ho0); obtain ⟨Ao235, co235, eo235⟩ := Kd.V_slice HO436.out; subst eo235; have hnb236 := NB428_383.out; have hnc236 := NB383_428.out; have hnb237 := NB428_384.out; have hnc237 := NB384_428.out; have hnb238 := NB428_392.out; have hnc238 := NB392_428.out; have hnb239 := NB428_424.out; have hnc239 := NB424_428.out; have hz240 := zc5 BK428) | ((with_reducible refine gate_store (t := 25) (p := 140) rfl ?_); refine store_event (t := 25) (p := 140) (v := ?vo_w241) (w1 := (w234.setCell ⟨gb428, 3, none⟩ (.slice Ao235 t434.length co235))) ?hg ?ho ?hn ?hr ?_; (case ho => rfl); (case hg => rfl); (case hn => rfl); (case hr => first | (go_simp; done) | (go_simp; rfl)); intro w241 hw; have n0_ : Aside0 (Kd.V k62 62 w241 w.heap.size (fun k_ => ((P1_3_ k_ ∨ P1_4_ k_) ∨ w.heap.size ≤ k_) ∧ k_ ≠ gb383 ∧ k_ ≠ gb384 ∧ k_ ≠ gb391 ∧ k_ ≠ gb392 ∧ k_ ≠ gb411 ∧ k_ ≠ gb424 ∧ k_ ≠ gb428) (.slice A1_3 l1_3.length c1_3) l1_3) := ⟨(by rw [hw]; exact (by (with_reducible repeat (first | apply Kd.V_alloc | apply Kd.V_drewN | apply Kd.V_drew)); exact Kd.V_mono (Kd.V_far (p := ⟨gb428, 3, none⟩) (Kd.V_mono HO_385003.out (fun k_ hk => (⟨hk, hk.2.2.2.2.2.2.2⟩ : _ ∧ k_ ≠ gb428))) (fun _ hk => hk.2) (.slice Ao235 t434.length co235)) (fun _ hk => ⟨hk.1.1, ⟨hk.1.2.1, ⟨hk.1.2.2.1, ⟨hk.1.2.2.2.1, ⟨hk.1.2.2.2.2.1, ⟨hk.1.2.2.2.2.2.1, ⟨hk.1.2.2.2.2.2.2.1, hk.1.2.2.2.2.2.2.2⟩⟩⟩⟩⟩⟩⟩)))⟩; have n1_ : Aside0 (Kd.V k62 62 w241 w.heap.size (fun k_ => ((P1_3_ k_ ∨ P1_4_ k_) ∨ w.heap.size ≤ k_) ∧ k_ ≠ gb383 ∧ k_ ≠ gb384 ∧ k_ ≠ gb391 ∧ k_ ≠ gb392 ∧ k_ ≠ gb411 ∧ k_ ≠ gb424 ∧ k_ ≠ gb428) (.slice A1_4 l1_4.length c1_4) l1_4) := ⟨(by rw [hw]; exact (by (with_reducible repeat (first | apply Kd.V_alloc | apply Kd.V_drewN | apply Kd.V_drew)); exact Kd.V_mono (Kd.V_far (p := ⟨gb428, 3, none⟩) (Kd.V_mono HO_385004.out (fun k_ hk => (⟨hk, hk.2.2.2.2.2.2.2⟩ : _ ∧ k_ ≠ gb428))) (fun _ hk => hk.2) (.slice Ao235 t434.length co235)) (fun _ hk => ⟨hk.1.1, ⟨hk.1.2.1, ⟨hk.1.2.2.1, ⟨hk.1.2.2.2.1, ⟨hk.1.2.2.2.2.1, ⟨hk.1.2.2.2.2.2.1, ⟨hk.1.2.2.2.2.2.2.1, hk.1.2.2.2.2.2.2.2⟩⟩⟩⟩⟩⟩⟩)))⟩; have n2_ : Aside0 (Kd.V k62 62 w241 w.heap.size (fun k_ => ((P1_3_ k_ ∨ P1_4_ k_) ∨ w.heap.size ≤ k_) ∧ k_ ≠ gb383 ∧ k_ ≠ gb384 ∧ k_ ≠ gb391 ∧ k_ ≠ gb392 ∧ k_ ≠ gb411 ∧ k_ ≠ gb424 ∧ k_ ≠ gb428) (.slice Ao108 x393003_47.length co108) x393003_47) := ⟨(by rw [hw]; exact (by (with_reducible repeat (first | apply Kd.V_alloc | apply Kd.V_drewN | apply Kd.V_drew)); exact Kd.V_mono (Kd.V_far (p := ⟨gb428, 3, none⟩) (Kd.V_mono HO_393003.out (fun k_ hk => (⟨hk, hk.2.2.2.2.2.2.2⟩ : _ ∧ k_ ≠ gb428))) (fun _ hk => hk.2) (.slice Ao235 t434.length co235)) (fun _ hk => ⟨hk.1.1, ⟨hk.1.2.1, ⟨hk.1.2.2.1, ⟨hk.1.2.2.2.1, ⟨hk.1.2.2.2.2.1, ⟨hk.1.2.2.2.2.2.1, ⟨hk.1.2.2.2.2.2.2.1, hk.1.2.2.2.2.2.2.2⟩⟩⟩⟩⟩⟩⟩)))⟩; have n3_ : Aside0 (Kd.V k62 62 w241 w.heap.size (fun k_ => ((P1_3_ k_ ∨ P1_4_ k_) ∨ w.heap.size ≤ k_) ∧ k_ ≠ gb383 ∧ k_ ≠ gb384 ∧ k_ ≠ gb391 ∧ k_ ≠ gb392 ∧ k_ ≠ gb411 ∧ k_ ≠ gb424 ∧ k_ ≠ gb428) (.slice Ao109 x393004_47.length co109) x393004_47) := ⟨(by rw [hw]; exact (by (with_reducible repeat (first | apply Kd.V_alloc | apply Kd.V_drewN | apply Kd.V_drew)); exact Kd.V_mono (Kd.V_far (p := ⟨gb428, 3, none⟩) (Kd.V_mono HO_393004.out (fun k_ hk => (⟨hk, hk.2.2.2.2.2.2.2⟩ : _ ∧ k_ ≠ gb428))) (fun _ hk => hk.2) (.slice Ao235 t434.length co235)) (fun _ hk => ⟨hk.1.1, ⟨hk.1.2.1, ⟨hk.1.2.2.1, ⟨hk.1.2.2.2.1, ⟨hk.1.2.2.2.2.1, ⟨hk.1.2.2.2.2.2.1, ⟨hk.1.2.2.2.2.2.2.1, hk.1.2.2.2.2.2.2.2⟩⟩⟩⟩⟩⟩⟩)))⟩; have n4_ : Aside0 (Kd.V k62 62 w241 w.heap.size (fun k_ => ((P1_3_ k_ ∨ P1_4_ k_) ∨ w.heap.size ≤ k_) ∧ k_ ≠ gb383 ∧ k_ ≠ gb384 ∧ k_ ≠ gb391 ∧ k_ ≠ gb392 ∧ k_ ≠ gb411 ∧ k_ ≠ gb424 ∧ k_ ≠ gb428) (.slice Ao102 t402.length co102) t402) := ⟨(by rw [hw]; exact (by (with_reducible repeat (first | apply Kd.V_alloc | apply Kd.V_drewN | apply Kd.V_drew)); exact Kd.V_mono (Kd.V_far (p := ⟨gb428, 3, none⟩) (Kd.V_mono HO_412003.out (fun k_ hk => (⟨hk, hk.2.2.2.2.2.2.2⟩ : _ ∧ k_ ≠ gb428))) (fun _ hk => hk.2) (.slice Ao235 t434.length co235)) (fun _ hk => ⟨hk.1.1, ⟨hk.1.2.1, ⟨hk.1.2.2.1, ⟨hk.1.2.2.2.1, ⟨hk.1.2.2.2.2.1, ⟨hk.1.2.2.2.2.2.1, ⟨hk.1.2.2.2.2.2.2.1, hk.1.2.2.2.2.2.2.2⟩⟩⟩⟩⟩⟩⟩)))⟩; have n5_ : Aside0 (Kd.V k62 62 w241 w.heap.size (fun k_ => ((P1_3_ k_ ∨ P1_4_ k_) ∨ w.heap.size ≤ k_) ∧ k_ ≠ gb383 ∧ k_ ≠ gb384 ∧ k_ ≠ gb391 ∧ k_ ≠ gb392 ∧ k_ ≠ gb411 ∧ k_ ≠ gb424 ∧ k_ ≠ gb428) (.slice Ao103 t405.length co103) t405) := ⟨(by rw [hw]; exact (by (with_reducible repeat (first | apply Kd.V_alloc | apply Kd.V_drewN | apply Kd.V_drew)); exact Kd.V_mono (Kd.V_far (p := ⟨gb428, 3, none⟩) (Kd.V_mono HO_412004.out (fun k_ hk => (⟨hk, hk.2.2.2.2.2.2.2⟩ : _ ∧ k_ ≠ gb428))) (fun _ hk => hk.2) (.slice Ao235 t434.length co235)) (fun _ hk => ⟨hk.1.1, ⟨hk.1.2.1, ⟨hk.1.2.2.1, ⟨hk.1.2.2.2.1, ⟨hk.1.2.2.2.2.1, ⟨hk.1.2.2.2.2.2.1, ⟨hk.1.2.2.2.2.2.2.1, hk.1.2.2.2.2.2.2.2⟩⟩⟩⟩⟩⟩⟩)))⟩; have n6_ : Aside0 (Kd.V k62 62 w241 w.heap.size (fun k_ => ((P1_3_ k_ ∨ P1_4_ k_) ∨ w.heap.size ≤ k_) ∧ k_ ≠ gb383 ∧ k_ ≠ gb384 ∧ k_ ≠ gb391 ∧ k_ ≠ gb392 ∧ k_ ≠ gb411 ∧ k_ ≠ gb424 ∧ k_ ≠ gb428) (.slice Ao118 t415.length co118) t415) := ⟨(by rw [hw]; exact (by (with_reducible repeat (first | apply Kd.V_alloc | apply Kd.V_drewN | apply Kd.V_drew)); exact Kd.V_mono (Kd.V_far (p := ⟨gb428, 3, none⟩) (Kd.V_mono HO_425003.out (fun k_ hk => (⟨hk, hk.2.2.2.2.2.2.2⟩ : _ ∧ k_ ≠ gb428))) (fun _ hk => hk.2) (.slice Ao235 t434.length co235)) (fun _ hk => ⟨hk.1.1, ⟨hk.1.2.1, ⟨hk.1.2.2.1, ⟨hk.1.2.2.2.1, ⟨hk.1.2.2.2.2.1, ⟨hk.1.2.2.2.2.2.1, ⟨hk.1.2.2.2.2.2.2.1, hk.1.2.2.2.2.2.2.2⟩⟩⟩⟩⟩⟩⟩)))⟩; have n7_ : Aside0 (Kd.V k62 62 w241 w.heap.size (fun k_ => ((P1_3_ k_ ∨ P1_4_ k_) ∨ w.heap.size ≤ k_) ∧ k_ ≠ gb383 ∧ k_ ≠ gb384 ∧ k_ ≠ gb391 ∧ k_ ≠ gb392 ∧ k_ ≠ gb411 ∧ k_ ≠ gb424 ∧ k_ ≠ gb428) (.slice Ao119 t418.length co119) t418) := ⟨(by rw [hw]; exact (by (with_reducible repeat (first | apply Kd.V_alloc | apply Kd.V_drewN | apply Kd.V_drew)); exact Kd.V_mono (Kd.V_far (p := ⟨gb428, 3, none⟩) (Kd.V_mono HO_425004.out (fun k_ hk => (⟨hk, hk.2.2.2.2.2.2.2⟩ : _ ∧ k_ ≠ gb428))) (fun _ hk => hk.2) (.slice Ao235 t434.length co235)) (fun _ hk => ⟨hk.1.1, ⟨hk.1.2.1, ⟨hk.1.2.2.1, ⟨hk.1.2.2.2.1, ⟨hk.1.2.2.2.2.1, ⟨hk.1.2.2.2.2.2.1, ⟨hk.1.2.2.2.2.2.2.1, hk.1.2.2.2.2.2.2.2⟩⟩⟩⟩⟩⟩⟩)))⟩; have n8_ : Aside0 (Kd.V k62 62 w241 w.heap.size (fun k_ => ((P1_3_ k_ ∨ P1_4_ k_) ∨ w.heap.size ≤ k_) ∧ k_ ≠ gb383 ∧ k_ ≠ gb384 ∧ k_ ≠ gb391 ∧ k_ ≠ gb392 ∧ k_ ≠ gb411 ∧ k_ ≠ gb424 ∧ k_ ≠ gb428) (.slice Ao235 t434.length co235) t434) := ⟨(by rw [hw]; exact (by (with_reducible repeat (first | apply Kd.V_alloc | apply Kd.V_drewN | apply Kd.V_drew)); exact Kd.V_mono (Kd.V_far (p := ⟨gb428, 3, none⟩) (Kd.V_mono HO436.out (fun k_ hk => (⟨hk, hk.2.2.2.2.2.2.2⟩ : _ ∧ k_ ≠ gb428))) (fun _ hk => hk.2) (.slice Ao235 t434.length co235)) (fun _ hk => ⟨hk.1.1, ⟨hk.1.2.1, ⟨hk.1.2.2.1, ⟨hk.1.2.2.2.1, ⟨hk.1.2.2.2.2.1, ⟨hk.1.2.2.2.2.2.1, ⟨hk.1.2.2.2.2.2.2.1, hk.1.2.2.2.2.2.2.2⟩⟩⟩⟩⟩⟩⟩)))⟩; have n9_ : Aside0 (w241.heap[gb383]? = some (.cells #[.int .i64 a0_0, .int .i64 a0_1, .slice (some ad389) l0_2.length c0_2] 24 (0, 0))) := ⟨(by rw [hw]; exact (zK BK383))⟩; have n10_ : Aside0 (w241.heap[gb384]? = some (.cells #[.int .i64 a1_0, .int .i64 a1_1, .int .i64 a1_2, .slice A1_3 l1_3.length c1_3, .slice A1_4 l1_4.length c1_4] 27 (0, 0))) := ⟨(by rw [hw]; exact (zK BK384))⟩; have n11_ : Aside0 (w241.heap[gb391]? = some (.cells #[.int .i64 ((rd_T37 (rd_L2 l0_2 a1_0) a1_2).f0), .int .i64 ((rd_T37 (rd_L2 l0_2 a1_0) a1_2).f1), .int .i64 ((rd_T37 (rd_L2 l0_2 a1_0) a1_2).f2)] 37 (0, 0))) := ⟨(by rw [hw]; exact (zK BK391))⟩; have n12_ : Aside0 (w241.heap[gb392]? = some (.cells #[.int .i64 a1_0, .int .i64 a1_1, .int .i64 a1_2, .slice Ao108 x393003_47.length co108, .slice Ao109 x393004_47.length co109] 27 (0, 0))) := ⟨(by rw [hw]; exact (zK BK392))⟩; have n13_ : Aside0 (w241.heap[gb411]? = some (.cells #[.int .i64 t399, .int .i64 t400, .int .i64 t401, .slice Ao102 t402.length co102, .slice Ao103 t405.length co103] 27 (0, 0))) := ⟨(by rw [hw]; exact (zK BK411))⟩; have n14_ : Aside0 (w241.heap[gb424]? = some (.cells #[.int .i64 t412, .int .i64 t413, .int .i64 t414, .slice Ao118 t415.length co118, .slice Ao119 t418.length co119] 27 (0, 0))) := ⟨(by rw [hw]; exact (zK BK424))⟩; have n15_ : Aside0 (w241.heap[gb428]? = some (.cells #[.int .i64 t399, .int .i64 (wrap64 (t400 + (wrap64 (((rd_T37 (rd_L2 l0_2 a1_0) a1_2).f1) * (wrap64 (Int.tmod a2 1125899906842624)))))), .int .i64 t401, .slice Ao235 t434.length co235, .slice Ao103 t405.length co103] 27 (0, 0))) := ⟨(by rw [hw]; exact (by (with_reducible repeat (first | refine blk_drewN ?_ _ | refine blk_drew ?_ | refine blk_alloc ?_ _)); refine blk_put (cs := #[.int .i64 t399, .int .i64 (wrap64 (t400 + (wrap64 (((rd_T37 (rd_L2 l0_2 a1_0) a1_2).f1) * (wrap64 (Int.tmod a2 1125899906842624)))))), .int .i64 t401, .slice Ao102 t402.length co102, .slice Ao103 t405.length co103]) ?_ 3 _ rfl; (with_reducible repeat (first | refine blk_drewN ?_ _ | refine blk_drew ?_ | refine blk_alloc ?_ _)); exact BK428.out))⟩; have n16_ : Aside0 (Below w.heap.size w w241) := ⟨(by rw [hw]; exact (zB HB))⟩; clear hw; clear HO_385003; clear HO_385004; clear HO_393003; clear HO_393004; clear HO_412003; clear HO_412004; clear HO_425003; clear HO_425004; clear HO436; clear BK383; clear BK384; clear BK391; clear BK392; clear BK411; clear BK424; clear BK428; clear HB; have HO_385003 := n0_; have HO_385004 := n1_; have HO_393003 := n2_; have HO_393004 := n3_; have HO_412003 := n4_; have HO_412004 := n5_; have HO_425003 := n6_; have HO_425004 := n7_; have HO436 := n8_; have BK383 := n9_; have BK384 := n10_; have BK391 := n11_; have BK392 := n12_; have BK411 := n13_; have BK424 := n14_; have BK428 := n15_; have HB := n16_; clear n0_ n1_ n2_ n3_ n4_ n5_ n6_ n7_ n8_ n9_ n10_ n11_ n12_ n13_ n14_ n15_ n16_))
              (try simp only [Act.put, zs, zs0, zs1])
              have H := HC220.out
              clear HC220
              by_cases c242 : t422 = true
              ·
               subst c242
               have H1 : (some false) = some r := by rw [if_pos rfl] at H; exact H
               clear H
               have H := H1
               clear H1
               obtain rfl := Option.some.inj H
               go_wp2
               go_ret
               exact ⟨by first | rfl | (simp [errW_none, errW_some] <;> rfl) | (simp [*, errW_none, errW_some] <;> rfl), zB HB⟩
              ·
               replace c242 := Bool.eq_false_iff.mpr c242
               subst c242
               have H1 : (if t421 = (wrap64 (t408 + (wrap64 (Int.tmod a2 1125899906842624)))) then ((standstillref04_Same.f kj86 t412 t413 t414 t415 t418 t399 (wrap64 (t400 + (wrap64 (((rd_T37 (rd_L2 l0_2 a1_0) a1_2).f1) * (wrap64 (Int.tmod a2 1125899906842624)))))) t401 t434 t405).bind fun t437 => (if t437 = true then ((standstilllaw04_awake.f kj86).bind fun t438 => (some t438)) else (some false))) else (some false)) = some r := by rw [if_neg (show ¬ (false = true) by decide)] at H; exact H
               clear H
               have H := H1
               clear H1
               by_cases c243 : t421 = (wrap64 (t408 + (wrap64 (Int.tmod a2 1125899906842624))))
               ·
                rw [if_pos c243] at H
                have c243b0 : (t421 == (wrap64 (t408 + (wrap64 (Int.tmod a2 1125899906842624))))) = true := beq_iff_eq.mpr c243
                have c243b1 : (t421 != (wrap64 (t408 + (wrap64 (Int.tmod a2 1125899906842624))))) = false := bne_eq_false_iff_eq.mpr c243
                clear c243
                (first | rw [c243b0] | (simp only [i64_w, i32_w]; rw [c243b0]) | skip)
                (try rw [c243b1])
                replace H := Option.bind_eq_some_iff.mp H
                obtain ⟨t437, A2440, H⟩ := H
                replace H : (if t437 = true then ((standstilllaw04_awake.f kj86).bind fun t438 => (some t438)) else (some false)) = some r := H
                have A244 := Aside0.mk A2440
                clear A2440
                by_cases c245 : t437 = true
                ·
                 subst c245
                 have H1 : ((standstilllaw04_awake.f kj86).bind fun t438 => (some t438)) = some r := by rw [if_pos rfl] at H; exact H
                 clear H
                 have H := H1
                 clear H1
                 replace H := Option.bind_eq_some_iff.mp H
                 obtain ⟨t438, A2460, H⟩ := H
                 replace H : (some t438) = some r := H
                 have A246 := Aside0.mk A2460
                 clear A2460
                 obtain rfl := Option.some.inj H
                 have hnb247 := NB424_383.out
                 have hnc247 := NB383_424.out
                 have hnb248 := NB424_384.out
                 have hnc248 := NB384_424.out
                 have hnb249 := NB424_391.out
                 have hnc249 := NB391_424.out
                 have hnb250 := NB424_392.out
                 have hnc250 := NB392_424.out
                 have hnb251 := NB424_411.out
                 have hnc251 := NB411_424.out
                 have hnb252 := NB424_428.out
                 have hnc252 := NB428_424.out
                 have hz253 := zc5 BK424
                 have hnb254 := NB428_383.out
                 have hnc254 := NB383_428.out
                 have hnb255 := NB428_384.out
                 have hnc255 := NB384_428.out
                 have hnb256 := NB428_391.out
                 have hnc256 := NB391_428.out
                 have hnb257 := NB428_392.out
                 have hnc257 := NB392_428.out
                 have hnb258 := NB428_411.out
                 have hnc258 := NB411_428.out
                 have hz259 := zc5 BK428
                 go_wp2_with (first | (go_at_call 13; (with_reducible refine (standstillref04_Same.calls kj86 t412 t413 t414 _ _ t415 _ _ t418 t399 (wrap64 (t400 + (wrap64 (((rd_T37 (rd_L2 l0_2 a1_0) a1_2).f1) * (wrap64 (Int.tmod a2 1125899906842624)))))) t401 _ _ t434 _ _ t405 true _ ?side1 ?side2 ?side3 ?side4 ?side5 ?side6 ?side7 ?side8 A244.out).mono ?_); (case side1 => exact zC ((Kd.V_reads' HO_425003.out).2.2)); (case side2 => exact (Kd.V_reads' HO_425003.out).2.1); (case side3 => exact zC ((Kd.V_reads' HO_425004.out).2.2)); (case side4 => exact (Kd.V_reads' HO_425004.out).2.1); (case side5 => exact zC ((Kd.V_reads' HO436.out).2.2)); (case side6 => exact (Kd.V_reads' HO436.out).2.1); (case side7 => exact zC ((Kd.V_reads' HO_412004.out).2.2)); (case side8 => exact (Kd.V_reads' HO_412004.out).2.1); rintro e w260 ⟨rfl, hb⟩; replace HO_385003 := Aside0.mk (zVb HO_385003 hb); replace HO_385004 := Aside0.mk (zVb HO_385004 hb); replace HO_393003 := Aside0.mk (zVb HO_393003 hb); replace HO_393004 := Aside0.mk (zVb HO_393004 hb); replace HO_412003 := Aside0.mk (zVb HO_412003 hb); replace HO_412004 := Aside0.mk (zVb HO_412004 hb); replace HO_425003 := Aside0.mk (zVb HO_425003 hb); replace HO_425004 := Aside0.mk (zVb HO_425004 hb); replace HO436 := Aside0.mk (zVb HO436 hb); replace BK383 := Aside0.mk (zb BK383 hb); replace BK384 := Aside0.mk (zb BK384 hb); replace BK391 := Aside0.mk (zb BK391 hb); replace BK392 := Aside0.mk (zb BK392 hb); replace BK411 := Aside0.mk (zb BK411 hb); replace BK424 := Aside0.mk (zb BK424 hb); replace BK428 := Aside0.mk (zb BK428 hb); replace HB := Aside0.mk (below_step (zB HB) hb); (try clear hb); (try clear hb2); (try clear hk); (try clear hi)) | (go_at_call 9; (with_reducible refine (standstilllaw04_awake.calls kj86  t438 _ A246.out).mono ?_); rintro e w261 ⟨rfl, hb⟩; replace HO_385003 := Aside0.mk (zVb HO_385003 hb); replace HO_385004 := Aside0.mk (zVb HO_385004 hb); replace HO_393003 := Aside0.mk (zVb HO_393003 hb); replace HO_393004 := Aside0.mk (zVb HO_393004 hb); replace HO_412003 := Aside0.mk (zVb HO_412003 hb); replace HO_412004 := Aside0.mk (zVb HO_412004 hb); replace HO_425003 := Aside0.mk (zVb HO_425003 hb); replace HO_425004 := Aside0.mk (zVb HO_425004 hb); replace HO436 := Aside0.mk (zVb HO436 hb); replace BK383 := Aside0.mk (zb BK383 hb); replace BK384 := Aside0.mk (zb BK384 hb); replace BK391 := Aside0.mk (zb BK391 hb); replace BK392 := Aside0.mk (zb BK392 hb); replace BK411 := Aside0.mk (zb BK411 hb); replace BK424 := Aside0.mk (zb BK424 hb); replace BK428 := Aside0.mk (zb BK428 hb); replace HB := Aside0.mk (below_step (zB HB) hb); (try clear hb); (try clear hb2); (try clear hk); (try clear hi)))
                 go_ret
                 exact ⟨by first | rfl | (simp [errW_none, errW_some] <;> rfl) | (simp [*, errW_none, errW_some] <;> rfl), zB HB⟩
                ·
                 replace c245 := Bool.eq_false_iff.mpr c245
                 subst c245
                 have H1 : (some false) = some r := by rw [if_neg (show ¬ (false = true) by decide)] at H; exact H
                 clear H
                 have H := H1
                 clear H1
                 obtain rfl := Option.some.inj H
                 have hnb262 := NB424_383.out
                 have hnc262 := NB383_424.out
                 have hnb263 := NB424_384.out
                 have hnc263 := NB384_424.out
                 have hnb264 := NB424_391.out
                 have hnc264 := NB391_424.out
                 have hnb265 := NB424_392.out
                 have hnc265 := NB392_424.out
                 have hnb266 := NB424_411.out
                 have hnc266 := NB411_424.out
                 have hnb267 := NB424_428.out
                 have hnc267 := NB428_424.out
                 have hz268 := zc5 BK424
                 have hnb269 := NB428_383.out
                 have hnc269 := NB383_428.out
                 have hnb270 := NB428_384.out
                 have hnc270 := NB384_428.out
                 have hnb271 := NB428_391.out
                 have hnc271 := NB391_428.out
                 have hnb272 := NB428_392.out
                 have hnc272 := NB392_428.out
                 have hnb273 := NB428_411.out
                 have hnc273 := NB411_428.out
                 have hz274 := zc5 BK428
                 go_wp2_with (first | (go_at_call 13; (with_reducible refine (standstillref04_Same.calls kj86 t412 t413 t414 _ _ t415 _ _ t418 t399 (wrap64 (t400 + (wrap64 (((rd_T37 (rd_L2 l0_2 a1_0) a1_2).f1) * (wrap64 (Int.tmod a2 1125899906842624)))))) t401 _ _ t434 _ _ t405 false _ ?side1 ?side2 ?side3 ?side4 ?side5 ?side6 ?side7 ?side8 A244.out).mono ?_); (case side1 => exact zC ((Kd.V_reads' HO_425003.out).2.2)); (case side2 => exact (Kd.V_reads' HO_425003.out).2.1); (case side3 => exact zC ((Kd.V_reads' HO_425004.out).2.2)); (case side4 => exact (Kd.V_reads' HO_425004.out).2.1); (case side5 => exact zC ((Kd.V_reads' HO436.out).2.2)); (case side6 => exact (Kd.V_reads' HO436.out).2.1); (case side7 => exact zC ((Kd.V_reads' HO_412004.out).2.2)); (case side8 => exact (Kd.V_reads' HO_412004.out).2.1); rintro e w275 ⟨rfl, hb⟩; replace HO_385003 := Aside0.mk (zVb HO_385003 hb); replace HO_385004 := Aside0.mk (zVb HO_385004 hb); replace HO_393003 := Aside0.mk (zVb HO_393003 hb); replace HO_393004 := Aside0.mk (zVb HO_393004 hb); replace HO_412003 := Aside0.mk (zVb HO_412003 hb); replace HO_412004 := Aside0.mk (zVb HO_412004 hb); replace HO_425003 := Aside0.mk (zVb HO_425003 hb); replace HO_425004 := Aside0.mk (zVb HO_425004 hb); replace HO436 := Aside0.mk (zVb HO436 hb); replace BK383 := Aside0.mk (zb BK383 hb); replace BK384 := Aside0.mk (zb BK384 hb); replace BK391 := Aside0.mk (zb BK391 hb); replace BK392 := Aside0.mk (zb BK392 hb); replace BK411 := Aside0.mk (zb BK411 hb); replace BK424 := Aside0.mk (zb BK424 hb); replace BK428 := Aside0.mk (zb BK428 hb); replace HB := Aside0.mk (below_step (zB HB) hb); (try clear hb); (try clear hb2); (try clear hk); (try clear hi)))
                 go_ret
                 exact ⟨by first | rfl | (simp [errW_none, errW_some] <;> rfl) | (simp [*, errW_none, errW_some] <;> rfl), zB HB⟩
               ·
                rw [if_neg c243] at H
                have c243b0 : (t421 == (wrap64 (t408 + (wrap64 (Int.tmod a2 1125899906842624))))) = false := beq_eq_false_iff_ne.mpr c243
                have c243b1 : (t421 != (wrap64 (t408 + (wrap64 (Int.tmod a2 1125899906842624))))) = true := bne_iff_ne.mpr c243
                (first | rw [c243b0] | (simp only [i64_w, i32_w]; rw [c243b0]) | skip)
                (try rw [c243b1])
                obtain rfl := Option.some.inj H
                go_wp2
                go_ret
                exact ⟨by first | rfl | (simp [errW_none, errW_some] <;> rfl) | (simp [*, errW_none, errW_some] <;> rfl), zB HB⟩
       ·
        rw [if_neg c47] at H
        exact absurd H (by simp)
      ·
       rw [if_neg c46] at H
       exact absurd H (by simp)
     ·
      rw [if_neg c45] at H
      exact absurd H (by simp)
    ·
     rw [if_neg c44] at H
     exact absurd H (by simp)

end Go.Proofs.Ytpemcbjdlpajlaa.G1
